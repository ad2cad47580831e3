/- law08: TableAny, TableLast. -/
import Derived.Test.YtmbbkliekgiolaaTk
set_option linter.unusedVariables false
set_option linter.unusedSimpArgs false
namespace Go.Proofs.Ytmbbkliekgiolaa
open Go.RowKit
section
variable {L : List KV} {i m : Nat} {c : KV}
theorem drop_cons (hc : L[i]? = some c) : L.drop i = c :: L.drop (i + 1) := by
  obtain ⟨hi, rfl⟩ := List.getElem?_eq_some_iff.1 hc
  exact List.drop_eq_getElem_cons hi
theorem cut_drop (hs : Srt L) (hc : L[i]? = some c) : Cut [] (L.drop (i + 1)) c.1 ∧ (∀ d ∈ L.drop (i + 1), bl c.1 d.1 = true) := by
  have h1 : Srt (c :: L.drop (i + 1)) := by rw [← drop_cons hc]; exact List.Pairwise.sublist (List.drop_sublist _ _) hs
  have h2 := (List.pairwise_cons.1 h1).1
  exact ⟨⟨(List.pairwise_cons.1 h1).2, fun a h => (by cases h), fun a ha => bl_asym (h2 a ha)⟩, h2⟩
theorem no_head {k : List Nat} {M : List KV} (h : ∀ d ∈ M, bl k d.1 = true) : ∀ d ∈ M.head?, d.1 ≠ k := fun d hd => by
  have : d ∈ M := List.mem_of_head? hd
  exact (bl_ne (h d this)).symm
theorem put_front (hs : Srt L) (hm : 0 < m) (hc : L[m - 1]? = some c) : putA (L.drop m) c.1 c.2 = L.drop (m - 1) ∧ getA (L.drop m) c.1 = none := by
  obtain ⟨h1, h2⟩ := cut_drop hs hc
  rw [show m - 1 + 1 = m from by omega] at h1 h2
  have h3 := h1.put_new (r := c.2) (no_head h2)
  have h4 := h1.get_no (no_head h2)
  rw [drop_cons hc, show m - 1 + 1 = m from by omega]
  exact ⟨h3, h4⟩
theorem drop_front (hs : Srt L) (hc : L[i]? = some c) : getA (L.drop i) c.1 = some c.2 ∧ dropA (L.drop i) c.1 = L.drop (i + 1) ∧ getA (L.drop (i + 1)) c.1 = none ∧ dropA (L.drop (i + 1)) c.1 = L.drop (i + 1) := by
  obtain ⟨h1, h2⟩ := cut_drop hs hc
  have h3 : Cut [] ((c.1, c.2) :: L.drop (i + 1)) c.1 := ⟨by show Srt (c :: L.drop (i + 1)); rw [← drop_cons hc]; exact List.Pairwise.sublist (List.drop_sublist _ _) hs, fun a h => (by cases h), fun a ha => by
    cases ha with
    | head => exact bl_irr _
    | tail _ ha => exact bl_asym (h2 a ha)⟩
  rw [drop_cons hc]
  exact ⟨h3.get_yes, h3.drop_yes, h1.get_no (no_head h2), h1.drop_no (no_head h2)⟩
theorem kv_of {es : List En} {x : En} (h : es.map En.kv = L) (hx : es[i]? = some x) : L[i]? = some (x.kb, x.rb) := by
  rw [← h, List.getElem?_map, hx]; rfl
theorem get_mem (hs : Srt L) (hc : c ∈ L) : getA L c.1 = some c.2 := by
  obtain ⟨j, hj, rfl⟩ := List.getElem_of_mem hc
  exact get_at hs (List.getElem?_eq_getElem hj)
theorem lastB_pF {to : List Nat} (ht : to ≠ []) : lastB L to = (L.filter (pF [] to)).getLast? := by
  unfold lastB
  rw [if_neg ht]
  congr 1
  refine List.filter_congr fun a _ => ?_
  unfold pF
  cases a.1 <;> simp [bl, ht]
theorem lastB_nil : lastB L [] = L.getLast? := by unfold lastB; rw [if_pos rfl]
/-- What the last one is, beside a range. -/
theorem last_is {es : List En} {o : Option KV} {a : En} {is : Bool} (h : LastR o a is) (he : o = (es.map En.kv).getLast?) : is = decide (0 < es.length) := by
  subst he
  cases es with
  | nil => exact h.1
  | cons e es =>
    unfold LastR at h
    have : ((e :: es).map En.kv).getLast? = some (((e :: es).map En.kv).getLast (by simp)) := List.getLast?_eq_some_getLast _
    rw [this] at h
    rw [h.1]; simp
theorem last_eq {es : List En} {o : Option KV} {a x : En} {is : Bool} (h : LastR o a is) (he : o = (es.map En.kv).getLast?) (hx : es[es.length - 1]? = some x) : a.kb = x.kb ∧ a.rb = x.rb ∧ x.kv ∈ es.map En.kv := by
  have h1 : (es.map En.kv).getLast? = some x.kv := by rw [List.getLast?_eq_getElem?, List.length_map, List.getElem?_map, hx]; rfl
  rw [he, h1] at h
  exact ⟨h.2.1, h.2.2, List.mem_of_getLast? h1⟩
theorem last_len {es : List En} (h : decide (0 < es.length) = true) : 0 < es.length := of_decide_eq_true h
end
attribute [local irreducible] Oper.wp Sem.run Code.wp wpList wpAnyO callFunc execOp Calls
attribute [local irreducible] cmpL putA getA dropA lastB ent inB rangeB pF fits LastR

set_option maxHeartbeats 1000000 in
set_option maxRecDepth 100000 in
theorem tableAny_ok (S : List Ac8) (sa : Option Addr) (sc : Nat) (w : World) (hSG : SlG (hw w) sa (List.flatMap ac8 S)) (hSo : ∀ a ∈ S, Ac8Ok (hw w) a) : Calls Try.prog 4 #[.slice sa S.length sc] w (PostR w fun v => v = .bool true) := by
  have hS := St.start w
  refine c_enter Try.func4 rfl rfl rfl ?_
  refine wp_seq_k (fun K1 hK1 => ?_)
  refine wp_region_lit ?_
  refine l_q rfl rfl (q_assignB rfl) ?_
  refine l_nil ?_
  refine hK1 _ _ ?_
  refine wp_seq_k (fun K2 hK2 => ?_)
  refine wp_region_lit ?_
  refine l_q rfl rfl (q_moveS rfl) ?_
  refine l_e rfl (fun K hK => ?_)
  refine e_call (by kernel_rfl) (built_ok S _ _ _ (hSG.mono hS.base) (fun a ha => (hSo a ha).mono hS.base)) rfl (after_N hS (fun v3 G3 w3 hv3 hS3 => ?_))
  clear hS
  obtain ⟨k3, ad3, cp3, ps3, g3, rfl, rfl, hT3, hfl3⟩ := hv3
  have hS4 : St _ _ [tb k3 ad3 cp3 ps3, .fz g3] _ := hS3; clear hS3
  have hsrt := hT3.pok.srt
  have hal : (ab ps3).length ≤ 150 := by rw [ab_len]; omega
  refine hK _ _ ?_; clear hK K
  refine l_q rfl rfl (q_assignP rfl) ?_
  refine l_nil ?_
  refine hK2 _ _ ?_
  refine wp_seq_k (fun K5 hK5 => ?_)
  refine wp_region_lit ?_
  refine l_q rfl rfl (q_moveP rfl) ?_
  refine l_e rfl (fun K hK => ?_)
  refine e_call (by kernel_rfl) (range_ok k3 _ _ ps3 [] [] Bytes.nil Bytes.nil (by first | omega | (simp only [List.length_append, List.length_map, List.length_cons, List.length_nil, List.length_take, List.length_drop, List.length_set] <;> omega)) (by first | omega | (simp only [List.length_append, List.length_map, List.length_cons, List.length_nil, List.length_take, List.length_drop, List.length_set] <;> omega)) 0 0 (by first | omega | (simp only [List.length_append, List.length_map, List.length_cons, List.length_nil, List.length_take, List.length_drop, List.length_set] <;> omega)) (by first | omega | (simp only [List.length_append, List.length_map, List.length_cons, List.length_nil, List.length_take, List.length_drop, List.length_set] <;> omega)) (150 : Int) (by first | decide | omega) (by first | decide | omega) _ _ _ _ (by first | omega | (simp only [List.length_append, List.length_map, List.length_cons, List.length_nil, List.length_take, List.length_drop, List.length_set] <;> omega)) _ (hS4.tr (i := 0) (j := 1) rfl rfl hT3) SlG.nil SlG.nil) rfl (after_N hS4 (fun v6 G6 w6 hv6 hS6 => ?_))
  clear hS4
  obtain ⟨ra6, rc6, es6, rfl, rfl, heq6⟩ := hv6
  have hS7 : St _ _ [.ow 41 2 ra6 es6.length rc6 (List.flatMap en es6), .pk (epk es6), tb k3 ad3 cp3 ps3, .fz g3] _ := hS6; clear hS6
  have hfit6 := range_fit hT3 heq6
  have hel6 : es6.length ≤ (flat ps3).length := range_len heq6
  obtain ⟨gx6, hxs6, hxe6, hS6x⟩ := hS7.rngFz hfit6; clear hS7
  refine hK _ _ ?_; clear hK K
  have hve := heq6.trans (rangeB_all hal)
  have hvl : es6.length = (ab ps3).length := by rw [← hve]; exact (List.length_map _).symm
  refine l_q rfl rfl (q_assignS rfl) ?_
  refine l_nil ?_
  refine hK5 _ _ ?_
  refine wp_seq_k (fun K8 hK8 => ?_)
  refine wp_region_lit ?_
  refine l_e rfl (fun K hK => ?_)
  refine e_call (by kernel_rfl) (tnew_ok _) rfl (after_N hS6x (fun v9 G9 w9 hv9 hS9 => ?_))
  clear hS6x
  obtain ⟨k9, rfl, rfl⟩ := hv9
  have hS10 : St _ _ [tb k9 none 0 ([] : List Pg), .fz gx6, tb k3 ad3 cp3 ps3, .fz g3] _ := hS9; clear hS9
  have hT9 : TOk g3 [] := TOk.nil
  have hfl9 : (flat ([] : List Pg)).length ≤ 0 := Nat.le_refl _
  refine hK _ _ ?_; clear hK K
  refine l_q rfl rfl (q_assignP rfl) ?_
  refine l_nil ?_
  refine hK8 _ _ ?_
  refine wp_seq_k (fun K11 hK11 => ?_)
  refine wp_seq_k (fun K12 hK12 => ?_)
  refine wp_region_lit ?_
  refine l_q rfl rfl (q_moveP rfl) ?_
  refine l_q rfl rfl (q_peq rfl (by kernel_rfl)) ?_
  refine l_nil ?_
  refine hK12 _ _ ?_
  refine c_condF rfl rfl ?_
  refine wp_skip ?_
  refine hK11 _ _ ?_
  refine wp_seq_k (fun K14 hK14 => ?_)
  refine wp_seq_k (fun K15 hK15 => ?_)
  refine wp_region_lit ?_
  refine l_q rfl rfl (q_moveS rfl) ?_
  refine l_q rfl rfl (q_lenSl (e := 41) rfl (by kernel_rfl)) ?_
  refine l_q rfl rfl (q_subx rfl rfl (by first | decide | omega) (by first | decide | omega)) ?_
  refine l_q rfl rfl (q_assignI rfl) ?_
  refine l_nil ?_
  refine hK15 _ _ ?_
  refine wp_block ?_
  have hS16 := hS10.fr1; clear hS10
  have hS17 := hS16.fr3; clear hS16
  have hS18 := hS17.fr2; clear hS17
  have hS19 : St _ _ [tb k9 none 0 ([] : List Pg), .fz g3, .fz gx6] _ := hS18.only 3; clear hS18
  refine c_loop (τ := Nat × (Option Addr) × Nat × (List Pg) × Gh) [(2, 2), (6, 8), (27, 46)] (fun x => (fun (m : Nat) (ad : Option Addr) (cap : Nat) (pu : List Pg) (g : Gh) => [(6, .int .i64 (((m : Nat) : Int) - 1))]) x.1 x.2.1 x.2.2.1 x.2.2.2.1 x.2.2.2.2) (fun x w' => (fun (m : Nat) (ad : Option Addr) (cap : Nat) (pu : List Pg) (g : Gh) => St w (fun _ => False) [tb k9 ad cap pu, .fz g, .fz gx6] w' ∧ m ≤ (ab ps3).length ∧ TOk g pu ∧ ab pu = List.drop m (ab ps3)) x.1 x.2.1 x.2.2.1 x.2.2.2.1 x.2.2.2.2) (fun x => (fun (m : Nat) (ad : Option Addr) (cap : Nat) (pu : List Pg) (g : Gh) => m) x.1 x.2.1 x.2.2.1 x.2.2.2.1 x.2.2.2.2) (⟨(ab ps3).length, none, 0, [], g3⟩) ?_ (by repeat' (first | exact trivial | refine ⟨by first | rfl | exact congrArg (Value.int .i64) (by omega), ?_⟩)) (fun x20 j20 w20 hJ20 K20 hK20 => ?_)
  ·
    exact ⟨hS19, Nat.le_refl _, TOk.nil, by rw [List.drop_eq_nil_of_le (Nat.le_refl _)]; rfl⟩
  ·
    obtain ⟨m, ad, cap, pu, g⟩ := x20
    obtain ⟨hS20, hm, hTl, habu⟩ := hJ20
    try dsimp only at hS20 hm hTl habu ⊢
    have hful : (flat pu).length ≤ 150 := by rw [← ab_len, habu, List.length_drop]; omega
    refine wp_seq_k (fun K21 hK21 => ?_)
    refine wp_seq_k (fun K22 hK22 => ?_)
    refine wp_region_lit ?_
    refine l_q rfl rfl (q_moveI rfl) ?_
    refine l_q rfl rfl (q_geq rfl rfl) ?_
    refine l_nil ?_
    refine hK22 _ _ ?_
    refine c_cond rfl (fun hc23 => ?_) (fun hc23 => ?_)
    ·
      have hc23b := hc23
      try simp only [decide_eq_true_eq, decide_eq_false_iff_not, Bool.not_eq_true', Bool.not_eq_false', Bool.and_eq_true, Bool.or_eq_true, Int.not_lt, Int.not_le, ne_eq, Decidable.not_not] at hc23
      refine wp_skip ?_
      refine hK21 _ _ ?_
      refine wp_seq_k (fun K24 hK24 => ?_)
      refine wp_block ?_
      refine wp_seq_k (fun K25 hK25 => ?_)
      refine r_any (by kernel_rfl) hS20 (fun w26 hS26 => ?_)
      clear hS20
      refine o_pure (i := 0) (fun _ _ => trivial) rfl rfl (by kernel_rfl) (goes0 rfl) (QOk.then (QOk.inBlock (QOk.then (QOk.then (QOk.inBlock (QOk.then QOk.body)))))) (fun w => q_moveP rfl) ?_
      refine o_pure (i := 1) (fun _ _ => trivial) rfl rfl (by kernel_rfl) (goes0 rfl) (QOk.then (QOk.inBlock (QOk.then (QOk.then (QOk.inBlock (QOk.then QOk.body)))))) (fun w => q_moveS rfl) ?_
      refine o_pure (i := 2) (fun _ _ => trivial) rfl rfl (by kernel_rfl) (goes0 rfl) (QOk.then (QOk.inBlock (QOk.then (QOk.then (QOk.inBlock (QOk.then QOk.body)))))) (fun w => q_moveI rfl) ?_
      refine o_pure (i := 3) (fun _ _ => trivial) rfl rfl (by kernel_rfl) (goes0 rfl) (QOk.then (QOk.inBlock (QOk.then (QOk.then (QOk.inBlock (QOk.then QOk.body)))))) (fun w => q_ixG (e := 41) (m := 2) (j := (m - 1)) rfl rfl (by kernel_rfl) (by kernel_rfl) (by first | rfl | omega) (by omega) hxs6 (by rw [rows_len (c := en) (m := 2) (fun _ => rfl)]; first | omega | (simp only [List.length_append, List.length_map, List.length_cons, List.length_nil, List.length_take, List.length_drop, List.length_set] <;> omega))) ?_
      refine o_pure (i := 4) (fun _ _ => trivial) rfl rfl (by kernel_rfl) (goes0 rfl) (QOk.then (QOk.inBlock (QOk.then (QOk.then (QOk.inBlock (QOk.then QOk.body)))))) (fun w => q_fieldG (ft := 23) (o := 0) rfl (by kernel_rfl)) ?_
      obtain ⟨x27, hx27⟩ : ∃ x, (es6)[(m - 1)]? = some x := ⟨_, List.getElem?_eq_getElem (by first | omega | (simp only [List.length_append, List.length_map, List.length_cons, List.length_nil, List.length_take, List.length_drop, List.length_set] <;> omega) | (simp <;> omega))⟩
      have hxl_x27 := (hxe6 x27 (List.mem_of_getElem? hx27)).2
      refine o_held (i := 5) [11, 12, 13, 14, 15, 16] (fun _ _ => trivial) rfl rfl (by kernel_rfl) (goes0 rfl) (QOk.then (QOk.inBlock (QOk.then (QOk.then (QOk.inBlock (QOk.then QOk.body)))))) (q_load1 rfl (by kernel_rfl) (SlG.cell (hxs6.mono (hS26.fz (i := 2) rfl)) (Gle.refl _) (row_at hx27 (c := en) (m := 2) (fun _ => rfl) (j := 0) rfl))) ?_
      refine o_pure (i := 6) (fun j w => ⟨(fun _ _ => trivial) j w, fun _ h => h⟩) rfl rfl (by kernel_rfl) (goes0 rfl) (QOk.then (QOk.inBlock (QOk.then (QOk.then (QOk.inBlock (QOk.then QOk.body)))))) (fun w => q_moveS rfl) ?_
      refine o_pure (i := 7) (fun j w => ⟨(fun _ _ => trivial) j w, fun _ h => h⟩) rfl rfl (by kernel_rfl) (goes0 rfl) (QOk.then (QOk.inBlock (QOk.then (QOk.then (QOk.inBlock (QOk.then QOk.body)))))) (fun w => q_moveI rfl) ?_
      refine o_pure (i := 8) (fun j w => ⟨(fun _ _ => trivial) j w, fun _ h => h⟩) rfl rfl (by kernel_rfl) (goes0 rfl) (QOk.then (QOk.inBlock (QOk.then (QOk.then (QOk.inBlock (QOk.then QOk.body)))))) (fun w => q_ixG (e := 41) (m := 2) (j := (m - 1)) rfl rfl (by kernel_rfl) (by kernel_rfl) (by first | rfl | omega) (by omega) hxs6 (by rw [rows_len (c := en) (m := 2) (fun _ => rfl)]; first | omega | (simp only [List.length_append, List.length_map, List.length_cons, List.length_nil, List.length_take, List.length_drop, List.length_set] <;> omega))) ?_
      refine o_pure (i := 9) (fun j w => ⟨(fun _ _ => trivial) j w, fun _ h => h⟩) rfl rfl (by kernel_rfl) (goes0 rfl) (QOk.then (QOk.inBlock (QOk.then (QOk.then (QOk.inBlock (QOk.then QOk.body)))))) (fun w => q_fieldG (ft := 23) (o := 1) rfl (by kernel_rfl)) ?_
      refine o_held (i := 10) [11, 12, 13, 14, 15, 16] (fun j w => ⟨(fun _ _ => trivial) j w, fun _ h => h⟩) rfl rfl (by kernel_rfl) (goes0 rfl) (QOk.then (QOk.inBlock (QOk.then (QOk.then (QOk.inBlock (QOk.then QOk.body)))))) (q_load1 rfl (by kernel_rfl) (SlG.cell (hxs6.mono (hS26.fz (i := 2) rfl)) (Gle.refl _) (row_at hx27 (c := en) (m := 2) (fun _ => rfl) (j := 1) rfl))) ?_
      refine o_eff (i := 11) (by kernel_rfl) rfl (goes0 rfl) (fun K hK => ?_)
      have hpf := put_front hsrt (by omega) (kv_of hve hx27)
      have hpn : (getA (ab pu) x27.kb).isSome = false := by rw [habu, hpf.2]; rfl
      refine e_call (by kernel_rfl) (put_ok k9 _ _ pu _ hTl (by first | omega | (simp only [List.length_append, List.length_map, List.length_cons, List.length_nil, List.length_take, List.length_drop, List.length_set] <;> omega)) x27.kb x27.rb (hxe6 x27 (List.mem_of_getElem? hx27)).1.2.1 (hxe6 x27 (List.mem_of_getElem? hx27)).1.2.2.2 (by first | omega | (simp only [List.length_append, List.length_map, List.length_cons, List.length_nil, List.length_take, List.length_drop, List.length_set] <;> omega)) (by first | omega | (simp only [List.length_append, List.length_map, List.length_cons, List.length_nil, List.length_take, List.length_drop, List.length_set] <;> omega)) x27.kb.length x27.rb.length (by first | omega | (simp only [List.length_append, List.length_map, List.length_cons, List.length_nil, List.length_take, List.length_drop, List.length_set] <;> omega)) (by first | omega | (simp only [List.length_append, List.length_map, List.length_cons, List.length_nil, List.length_take, List.length_drop, List.length_set] <;> omega)) _ _ _ _ _ _ (hxe6 x27 (List.mem_of_getElem? hx27)).1.1 (hxe6 x27 (List.mem_of_getElem? hx27)).1.2.2.1 _ (St.rogF (Γ1 := [_, _]) (i := 0) hS26 rfl) (St.rogF (Γ1 := [_, _]) (i := 0) hS26 rfl) (St.begin (Γ := [_, _]) hS26)) rfl (after_M (Γ1 := [_, _]) hS26 (fun v28 G28 w28 hv28 hS28 => ?_))
      clear hS26
      obtain ⟨ad28, cp28, ps28, g28, oa28, on28, oc28, rfl, rfl, hle28, hT28, hab28, hold28⟩ := hv28
      have hS29 : St _ _ [tb k9 ad28 cp28 ps28, .fz g28, .fz gx6] _ := hS28; clear hS28
      have hfl28 := flat_put hab28
      have hon28 := hold28.2.2.2
      have hoe28 := hold28.1
      refine hK _ _ ⟨⟨trivial, fun h => absurd h (by decide)⟩, fun h => absurd h (by decide)⟩ ?_; clear hK K
      refine o_pure (i := 12) (fun j w => ⟨(fun j w => ⟨(fun _ _ => trivial) j w, fun _ h => h⟩) j w, fun _ h => h⟩) rfl rfl (by kernel_rfl) (goes0 rfl) (QOk.then (QOk.inBlock (QOk.then (QOk.then (QOk.inBlock (QOk.then QOk.body)))))) (fun w => q_move rfl) ?_
      refine o_pure (i := 13) (fun j w => ⟨(fun j w => ⟨(fun _ _ => trivial) j w, fun _ h => h⟩) j w, fun _ h => h⟩) rfl rfl (by kernel_rfl) (goes0 rfl) (QOk.then (QOk.inBlock (QOk.then (QOk.then (QOk.inBlock (QOk.then QOk.body)))))) (fun w => q_extract rfl rfl) ?_
      refine o_pure (i := 14) (fun j w => ⟨(fun j w => ⟨(fun _ _ => trivial) j w, fun _ h => h⟩) j w, fun _ h => h⟩) rfl rfl (by kernel_rfl) (goes0 rfl) (QOk.then (QOk.inBlock (QOk.then (QOk.then (QOk.inBlock (QOk.then QOk.body)))))) (fun w => q_extract rfl rfl) ?_
      refine o_pure (i := 15) (fun j w => ⟨(fun j w => ⟨(fun _ _ => trivial) j w, fun _ h => h⟩) j w, fun _ h => h⟩) rfl rfl (by kernel_rfl) (goes0 rfl) (QOk.then (QOk.inBlock (QOk.then (QOk.then (QOk.inBlock (QOk.then QOk.body)))))) (fun w => q_assignS rfl) ?_
      refine o_pure (i := 16) (fun j w => ⟨(fun j w => ⟨(fun _ _ => trivial) j w, fun _ h => h⟩) j w, fun _ h => h⟩) rfl rfl (by kernel_rfl) (goes0 rfl) (QOk.then (QOk.inBlock (QOk.then (QOk.then (QOk.inBlock (QOk.then QOk.body)))))) (fun w => q_assignB rfl) ?_
      refine o_done (by kernel_rfl) ?_
      refine hK25 _ _ ?_
      refine wp_seq_k (fun K30 hK30 => ?_)
      refine wp_region_lit ?_
      refine l_q rfl rfl (q_moveB rfl) ?_
      refine l_nil ?_
      refine hK30 _ _ ?_
      refine c_condF rfl hpn ?_
      refine wp_skip ?_
      refine hK24 _ _ ?_
      refine wp_region_lit ?_
      refine l_q rfl rfl (q_moveI rfl) ?_
      refine l_q rfl rfl (q_subx rfl rfl (by first | decide | omega) (by first | decide | omega)) ?_
      refine l_q rfl rfl (q_assignI rfl) ?_
      refine l_nil ?_
      refine hK20 _ _ (came (⟨(m - 1), ad28, cp28, ps28, g28⟩) (by repeat' (first | exact Agree.refl _ _ | refine Agree.up ?_ rfl | refine Agree.hav2 ?_ rfl | refine Agree.ups2 ?_ rfl)) (by repeat' (first | exact trivial | refine ⟨by first | rfl | exact congrArg (Value.int .i64) (by omega), ?_⟩)) ?_)
      exact ⟨⟨hS29, (by show m - 1 ≤ (ab ps3).length; omega), hT28, by rw [hab28, habu, hpf.1]⟩, by (show m - 1 < m); omega⟩
    ·
      have hc23b := hc23
      try simp only [decide_eq_true_eq, decide_eq_false_iff_not, Bool.not_eq_true', Bool.not_eq_false', Bool.and_eq_true, Bool.or_eq_true, Int.not_lt, Int.not_le, ne_eq, Decidable.not_not] at hc23
      refine wp_exit ?_
      refine hK14 _ _ ?_
      refine wp_seq_k (fun K32 hK32 => ?_)
      have hm0 : m = 0 := by omega
      have hab0 : ab pu = (ab ps3) := by rw [habu, hm0, List.drop_zero]
      refine wp_region_lit ?_
      refine l_q rfl rfl (q_moveP rfl) ?_
      refine l_e rfl (fun K hK => ?_)
      refine e_call (by kernel_rfl) (range_ok k9 _ _ pu [] [] Bytes.nil Bytes.nil (by first | omega | (simp only [List.length_append, List.length_map, List.length_cons, List.length_nil, List.length_take, List.length_drop, List.length_set] <;> omega)) (by first | omega | (simp only [List.length_append, List.length_map, List.length_cons, List.length_nil, List.length_take, List.length_drop, List.length_set] <;> omega)) 0 0 (by first | omega | (simp only [List.length_append, List.length_map, List.length_cons, List.length_nil, List.length_take, List.length_drop, List.length_set] <;> omega)) (by first | omega | (simp only [List.length_append, List.length_map, List.length_cons, List.length_nil, List.length_take, List.length_drop, List.length_set] <;> omega)) (150 : Int) (by first | decide | omega) (by first | decide | omega) _ _ _ _ (by first | omega | (simp only [List.length_append, List.length_map, List.length_cons, List.length_nil, List.length_take, List.length_drop, List.length_set] <;> omega)) _ (hS20.tr (i := 0) (j := 1) rfl rfl hTl) SlG.nil SlG.nil) rfl (after_N hS20 (fun v33 G33 w33 hv33 hS33 => ?_))
      clear hS20
      obtain ⟨ra33, rc33, es33, rfl, rfl, heq33⟩ := hv33
      have hS34 : St _ _ [.ow 41 2 ra33 es33.length rc33 (List.flatMap en es33), .pk (epk es33), tb k9 ad cap pu, .fz g, .fz gx6] _ := hS33; clear hS33
      have hfit33 := range_fit hTl heq33
      have hel33 : es33.length ≤ (flat pu).length := range_len heq33
      obtain ⟨gx33, hxs33, hxe33, hS33x⟩ := hS34.rngFz hfit33; clear hS34
      refine hK _ _ ?_; clear hK K
      refine l_e rfl (fun K hK => ?_)
      have hkb35 : KB (ab ps3) := ((heq33.trans (rangeB_all (by rw [hab0]; exact hal))).trans hab0) ▸ KB.eok hxe33
      have htl35 : (ab ps3).length = es33.length := by rw [← ((heq33.trans (rangeB_all (by rw [hab0]; exact hal))).trans hab0)]; exact List.length_map _
      refine e_call (by kernel_rfl) (told2_ok es33 (ab ps3) ((heq33.trans (rangeB_all (by rw [hab0]; exact hal))).trans hab0) es33.length (by first | omega | (simp only [List.length_append, List.length_map, List.length_cons, List.length_nil, List.length_take, List.length_drop, List.length_set] <;> omega)) (by first | omega | (simp only [List.length_append, List.length_map, List.length_cons, List.length_nil, List.length_take, List.length_drop, List.length_set] <;> omega)) _ _ _ (fun a ha => (hxe33 a ha).1.mono (hS33x.fz (i := 0) rfl)) (hxs33.mono (hS33x.fz (i := 0) rfl))) rfl (after_N hS33x (fun v35 G35 w35 hv35 hS35 => ?_))
      clear hS33x
      obtain ⟨oa35, oc35, rfl, rfl⟩ := hv35
      have hS36 : St _ _ [.ow 36 2 oa35 ((ab ps3).length) oc35 (List.flatMap re (ab ps3)), .fz gx33, tb k9 ad cap pu, .fz g, .fz gx6] _ := hS35; clear hS35
      refine hK _ _ ?_; clear hK K
      refine l_q rfl rfl (q_moveS rfl) ?_
      refine l_e rfl (fun K hK => ?_)
      have hkb37 : KB (ab ps3) := hve ▸ KB.eok hxe6
      have htl37 : (ab ps3).length = es6.length := by rw [← hve]; exact List.length_map _
      refine e_call (by kernel_rfl) (told2_ok es6 (ab ps3) hve es6.length (by first | omega | (simp only [List.length_append, List.length_map, List.length_cons, List.length_nil, List.length_take, List.length_drop, List.length_set] <;> omega)) (by first | omega | (simp only [List.length_append, List.length_map, List.length_cons, List.length_nil, List.length_take, List.length_drop, List.length_set] <;> omega)) _ _ _ (fun a ha => (hxe6 a ha).1.mono (hS36.fz (i := 4) rfl)) (hxs6.mono (hS36.fz (i := 4) rfl))) rfl (after_N hS36 (fun v37 G37 w37 hv37 hS37 => ?_))
      clear hS36
      obtain ⟨oa37, oc37, rfl, rfl⟩ := hv37
      have hS38 : St _ _ [.ow 36 2 oa37 ((ab ps3).length) oc37 (List.flatMap re (ab ps3)), .ow 36 2 oa35 ((ab ps3).length) oc35 (List.flatMap re (ab ps3)), .fz gx33, tb k9 ad cap pu, .fz g, .fz gx6] _ := hS37; clear hS37
      refine hK _ _ ?_; clear hK K
      refine l_e rfl (fun K hK => ?_)
      refine e_call (by kernel_rfl) (rsame_ok (ab ps3) (ab ps3) hkb35 hkb37 ((ab ps3).length) ((ab ps3).length) (by first | omega | (simp only [List.length_append, List.length_map, List.length_cons, List.length_nil, List.length_take, List.length_drop, List.length_set] <;> omega)) (by first | omega | (simp only [List.length_append, List.length_map, List.length_cons, List.length_nil, List.length_take, List.length_drop, List.length_set] <;> omega)) (by first | omega | (simp only [List.length_append, List.length_map, List.length_cons, List.length_nil, List.length_take, List.length_drop, List.length_set] <;> omega)) (by first | omega | (simp only [List.length_append, List.length_map, List.length_cons, List.length_nil, List.length_take, List.length_drop, List.length_set] <;> omega)) _ _ _ _ _ (hS38.owG (i := 1) rfl) (hS38.owG (i := 0) rfl)) rfl (after_R hS38 (fun v39 w39 hv39 hS39 => ?_))
      clear hS38
      obtain rfl := hv39
      refine hK _ _ ?_; clear hK K
      refine l_q rfl rfl (q_assignB rfl) ?_
      refine l_nil ?_
      refine hK32 _ _ ?_
      refine wp_seq_k (fun K40 hK40 => ?_)
      refine wp_seq_k (fun K41 hK41 => ?_)
      refine wp_region_lit ?_
      refine l_q rfl rfl (q_assignI rfl) ?_
      refine l_nil ?_
      refine hK41 _ _ ?_
      refine wp_block ?_
      have hS42 := hS39.fr5; clear hS39
      have hS43 := hS42.fr5; clear hS42
      have hS44 := hS43.fr5; clear hS43
      have hS45 : St _ _ [tb k9 ad cap pu, .fz g, .fz gx6] _ := hS44.only 3; clear hS44
      refine c_loop (τ := Nat × (Option Addr) × Nat × (List Pg)) [(2, 2), (10, 14), (53, 94)] (fun x => (fun (i : Nat) (ad : Option Addr) (cap : Nat) (pu : List Pg) => [(10, .int .i64 ((i : Nat) : Int))]) x.1 x.2.1 x.2.2.1 x.2.2.2) (fun x w' => (fun (i : Nat) (ad : Option Addr) (cap : Nat) (pu : List Pg) => St w (fun _ => False) [tb k9 ad cap pu, .fz g, .fz gx6] w' ∧ i ≤ (ab ps3).length ∧ TOk g pu ∧ ab pu = List.drop i (ab ps3)) x.1 x.2.1 x.2.2.1 x.2.2.2) (fun x => (fun (i : Nat) (ad : Option Addr) (cap : Nat) (pu : List Pg) => (ab ps3).length - i) x.1 x.2.1 x.2.2.1 x.2.2.2) (⟨0, ad, cap, pu⟩) ?_ (by repeat' (first | exact trivial | refine ⟨by first | rfl | exact int_succ _ | assumption, ?_⟩)) (fun x46 j46 w46 hJ46 K46 hK46 => ?_)
      ·
        exact ⟨hS45, Nat.zero_le _, hTl, hab0⟩
      ·
        obtain ⟨i, ad, cap, pu⟩ := x46
        obtain ⟨hS46, hi, hTl, habu⟩ := hJ46
        try dsimp only at hS46 hi hTl habu ⊢
        have hful : (flat pu).length ≤ 150 := by rw [← ab_len, habu, List.length_drop]; omega
        refine wp_seq_k (fun K47 hK47 => ?_)
        refine wp_seq_k (fun K48 hK48 => ?_)
        refine wp_region_lit ?_
        refine l_q rfl rfl (q_moveI rfl) ?_
        refine l_q rfl rfl (q_moveS rfl) ?_
        refine l_q rfl rfl (q_lenSl (e := 41) rfl (by kernel_rfl)) ?_
        refine l_q rfl rfl (q_lss rfl rfl) ?_
        refine l_nil ?_
        refine hK48 _ _ ?_
        refine c_cond rfl (fun hc49 => ?_) (fun hc49 => ?_)
        ·
          have hc49b := hc49
          try simp only [decide_eq_true_eq, decide_eq_false_iff_not, Bool.not_eq_true', Bool.not_eq_false', Bool.and_eq_true, Bool.or_eq_true, Int.not_lt, Int.not_le, ne_eq, Decidable.not_not] at hc49
          refine wp_skip ?_
          refine hK47 _ _ ?_
          refine wp_seq_k (fun K50 hK50 => ?_)
          refine wp_block ?_
          refine wp_seq_k (fun K51 hK51 => ?_)
          refine wp_region_lit ?_
          refine l_q rfl rfl (q_moveP rfl) ?_
          refine l_q rfl rfl (q_moveS rfl) ?_
          refine l_q rfl rfl (q_moveI rfl) ?_
          refine l_q rfl rfl (q_ixG (e := 41) (m := 2) (j := i) rfl rfl (by kernel_rfl) (by kernel_rfl) (by first | rfl | omega) (by omega) hxs6 (by rw [rows_len (c := en) (m := 2) (fun _ => rfl)]; first | omega | (simp only [List.length_append, List.length_map, List.length_cons, List.length_nil, List.length_take, List.length_drop, List.length_set] <;> omega))) ?_
          refine l_q rfl rfl (q_fieldG (ft := 23) (o := 0) rfl (by kernel_rfl)) ?_
          obtain ⟨x52, hx52⟩ : ∃ x, (es6)[i]? = some x := ⟨_, List.getElem?_eq_getElem (by first | omega | (simp only [List.length_append, List.length_map, List.length_cons, List.length_nil, List.length_take, List.length_drop, List.length_set] <;> omega) | (simp <;> omega))⟩
          have hxl_x52 := (hxe6 x52 (List.mem_of_getElem? hx52)).2
          refine l_q rfl rfl (q_load1 rfl (by kernel_rfl) (SlG.cell (hxs6.mono (hS46.fz (i := 2) rfl)) (Gle.refl _) (row_at hx52 (c := en) (m := 2) (fun _ => rfl) (j := 0) rfl))) ?_
          refine l_e rfl (fun K hK => ?_)
          have hdf := drop_front hsrt (kv_of hve hx52)
          have hd1 : getA (ab pu) x52.kb = some x52.rb := by rw [habu]; exact hdf.1
          have hd2 : (getA (ab pu) x52.kb).isSome = true := by rw [hd1]; rfl
          refine e_call (by kernel_rfl) (drop_ok k9 _ _ pu _ hTl (by first | omega | (simp only [List.length_append, List.length_map, List.length_cons, List.length_nil, List.length_take, List.length_drop, List.length_set] <;> omega)) x52.kb (hxe6 x52 (List.mem_of_getElem? hx52)).1.2.1 (by first | omega | (simp only [List.length_append, List.length_map, List.length_cons, List.length_nil, List.length_take, List.length_drop, List.length_set] <;> omega)) x52.kb.length (by first | omega | (simp only [List.length_append, List.length_map, List.length_cons, List.length_nil, List.length_take, List.length_drop, List.length_set] <;> omega)) _ _ _ (hxe6 x52 (List.mem_of_getElem? hx52)).1.1 _ (St.rogF (Γ1 := [_, _]) (i := 0) hS46 rfl) (St.begin (Γ := [_, _]) hS46)) rfl (after_M (Γ1 := [_, _]) hS46 (fun v53 G53 w53 hv53 hS53 => ?_))
          clear hS46
          obtain ⟨ad53, cp53, ps53, oa53, on53, oc53, rfl, rfl, hT53, hab53, hold53⟩ := hv53
          have hS54 : St _ _ [tb k9 ad53 cp53 ps53, .fz g, .fz gx6] _ := hS53; clear hS53
          have hfl53 := flat_drop hab53
          have hon53 := hold53.2.2.2
          have hoe53 := hold53.1
          refine hK _ _ ?_; clear hK K
          refine l_q rfl rfl (q_move rfl) ?_
          refine l_q rfl rfl (q_extract rfl rfl) ?_
          refine l_q rfl rfl (q_extract rfl rfl) ?_
          refine l_q rfl rfl (q_assignS rfl) ?_
          refine l_q rfl rfl (q_assignB rfl) ?_
          refine l_nil ?_
          refine hK51 _ _ ?_
          refine wp_seq_k (fun K55 hK55 => ?_)
          refine wp_region_lit ?_
          refine l_q rfl rfl (q_moveP rfl) ?_
          refine l_q rfl rfl (q_moveS rfl) ?_
          refine l_q rfl rfl (q_moveI rfl) ?_
          refine l_q rfl rfl (q_ixG (e := 41) (m := 2) (j := i) rfl rfl (by kernel_rfl) (by kernel_rfl) (by first | rfl | omega) (by omega) hxs6 (by rw [rows_len (c := en) (m := 2) (fun _ => rfl)]; first | omega | (simp only [List.length_append, List.length_map, List.length_cons, List.length_nil, List.length_take, List.length_drop, List.length_set] <;> omega))) ?_
          refine l_q rfl rfl (q_fieldG (ft := 23) (o := 0) rfl (by kernel_rfl)) ?_
          refine l_q rfl rfl (q_load1 rfl (by kernel_rfl) (SlG.cell (hxs6.mono (hS54.fz (i := 2) rfl)) (Gle.refl _) (row_at hx52 (c := en) (m := 2) (fun _ => rfl) (j := 0) rfl))) ?_
          refine l_e rfl (fun K hK => ?_)
          have ha2 : ab ps53 = List.drop (i + 1) (ab ps3) := by rw [hab53, habu]; exact hdf.2.1
          have hd3 : (getA (ab ps53) x52.kb).isSome = false := by rw [ha2, hdf.2.2.1]; rfl
          refine e_call (by kernel_rfl) (drop_ok k9 _ _ ps53 _ hT53 (by first | omega | (simp only [List.length_append, List.length_map, List.length_cons, List.length_nil, List.length_take, List.length_drop, List.length_set] <;> omega)) x52.kb (hxe6 x52 (List.mem_of_getElem? hx52)).1.2.1 (by first | omega | (simp only [List.length_append, List.length_map, List.length_cons, List.length_nil, List.length_take, List.length_drop, List.length_set] <;> omega)) x52.kb.length (by first | omega | (simp only [List.length_append, List.length_map, List.length_cons, List.length_nil, List.length_take, List.length_drop, List.length_set] <;> omega)) _ _ _ (hxe6 x52 (List.mem_of_getElem? hx52)).1.1 _ (St.rogF (Γ1 := [_, _]) (i := 0) hS54 rfl) (St.begin (Γ := [_, _]) hS54)) rfl (after_M (Γ1 := [_, _]) hS54 (fun v56 G56 w56 hv56 hS56 => ?_))
          clear hS54
          obtain ⟨ad56, cp56, ps56, oa56, on56, oc56, rfl, rfl, hT56, hab56, hold56⟩ := hv56
          have hS57 : St _ _ [tb k9 ad56 cp56 ps56, .fz g, .fz gx6] _ := hS56; clear hS56
          have hfl56 := flat_drop hab56
          have hon56 := hold56.2.2.2
          have hoe56 := hold56.1
          have hd4 : ab ps56 = List.drop (i + 1) (ab ps3) := by rw [hab56, ha2]; exact hdf.2.2.2
          refine hK _ _ ?_; clear hK K
          refine l_q rfl rfl (q_move rfl) ?_
          refine l_q rfl rfl (q_extract rfl rfl) ?_
          refine l_q rfl rfl (q_extract rfl rfl) ?_
          refine l_q rfl rfl (q_assignS rfl) ?_
          refine l_q rfl rfl (q_assignB rfl) ?_
          refine l_nil ?_
          refine hK55 _ _ ?_
          refine wp_seq_k (fun K58 hK58 => ?_)
          refine r_any (by kernel_rfl) hS57 (fun w59 hS59 => ?_)
          clear hS57
          refine o_pure (i := 0) (fun _ _ => trivial) rfl rfl (by kernel_rfl) (goes0 rfl) (QOk.then (QOk.inBlock (QOk.then (QOk.then (QOk.inBlock (QOk.then QOk.body)))))) (fun w => q_moveB rfl) ?_
          refine o_pure (i := 1) (fun _ _ => trivial) rfl rfl (by kernel_rfl) (goes0 rfl) (QOk.then (QOk.inBlock (QOk.then (QOk.then (QOk.inBlock (QOk.then QOk.body)))))) (fun w => q_not rfl) ?_
          refine o_pure (i := 2) (fun _ _ => trivial) rfl rfl (by kernel_rfl) (goes0 rfl) (QOk.then (QOk.inBlock (QOk.then (QOk.then (QOk.inBlock (QOk.then QOk.body)))))) (fun w => q_moveB rfl) ?_
          refine o_pure (i := 3) (fun _ _ => trivial) rfl rfl (by kernel_rfl) (goes1 rfl rfl (by rw [show _ = _ from hd2]; rfl)) (QOk.then (QOk.inBlock (QOk.then (QOk.then (QOk.inBlock (QOk.then QOk.body)))))) (fun w => q_moveB rfl) ?_
          refine o_pure (i := 4) (fun _ _ => trivial) rfl rfl (by kernel_rfl) (goes0 rfl) (QOk.then (QOk.inBlock (QOk.then (QOk.then (QOk.inBlock (QOk.then QOk.body)))))) (fun w => q_pickF rfl (by rw [show _ = _ from hd2]; rfl) rfl) ?_
          refine o_pure (i := 5) (fun _ _ => trivial) rfl rfl (by kernel_rfl) (goes0 rfl) (QOk.then (QOk.inBlock (QOk.then (QOk.then (QOk.inBlock (QOk.then QOk.body)))))) (fun w => q_moveB rfl) ?_
          refine o_pure (i := 6) (fun _ _ => trivial) rfl rfl (by kernel_rfl) (goes1 rfl rfl hd3) (QOk.then (QOk.inBlock (QOk.then (QOk.then (QOk.inBlock (QOk.then QOk.body)))))) (fun w => q_moveS rfl) ?_
          refine o_held (i := 7) [14, 15] (fun _ _ => trivial) rfl rfl (by kernel_rfl) (goes1 rfl rfl hd3) (QOk.then (QOk.inBlock (QOk.then (QOk.then (QOk.inBlock (QOk.then QOk.body)))))) (q_convBS (l := ((getA (ab pu) x52.kb).getD [])) rfl (hold53.2.1.mono (hS59.fz (i := 1) rfl)) (by first | omega | (simp only [List.length_append, List.length_map, List.length_cons, List.length_nil, List.length_take, List.length_drop, List.length_set] <;> omega)) (by kernel_rfl) (by kernel_rfl)) ?_
          refine o_pure (i := 8) (fun j w => ⟨(fun _ _ => trivial) j w, fun _ h => h⟩) rfl rfl (by kernel_rfl) (goes1 rfl rfl hd3) (QOk.then (QOk.inBlock (QOk.then (QOk.then (QOk.inBlock (QOk.then QOk.body)))))) (fun w => q_moveS rfl) ?_
          refine o_pure (i := 9) (fun j w => ⟨(fun _ _ => trivial) j w, fun _ h => h⟩) rfl rfl (by kernel_rfl) (goes1 rfl rfl hd3) (QOk.then (QOk.inBlock (QOk.then (QOk.then (QOk.inBlock (QOk.then QOk.body)))))) (fun w => q_moveI rfl) ?_
          refine o_pure (i := 10) (fun j w => ⟨(fun _ _ => trivial) j w, fun _ h => h⟩) rfl rfl (by kernel_rfl) (goes1 rfl rfl hd3) (QOk.then (QOk.inBlock (QOk.then (QOk.then (QOk.inBlock (QOk.then QOk.body)))))) (fun w => q_ixG (e := 41) (m := 2) (j := i) rfl rfl (by kernel_rfl) (by kernel_rfl) (by first | rfl | omega) (by omega) hxs6 (by rw [rows_len (c := en) (m := 2) (fun _ => rfl)]; first | omega | (simp only [List.length_append, List.length_map, List.length_cons, List.length_nil, List.length_take, List.length_drop, List.length_set] <;> omega))) ?_
          refine o_pure (i := 11) (fun j w => ⟨(fun _ _ => trivial) j w, fun _ h => h⟩) rfl rfl (by kernel_rfl) (goes1 rfl rfl hd3) (QOk.then (QOk.inBlock (QOk.then (QOk.then (QOk.inBlock (QOk.then QOk.body)))))) (fun w => q_fieldG (ft := 23) (o := 1) rfl (by kernel_rfl)) ?_
          refine o_held (i := 12) [13, 14, 15] (fun j w => ⟨(fun _ _ => trivial) j w, fun _ h => h⟩) rfl rfl (by kernel_rfl) (goes1 rfl rfl hd3) (QOk.then (QOk.inBlock (QOk.then (QOk.then (QOk.inBlock (QOk.then QOk.body)))))) (q_load1 rfl (by kernel_rfl) (SlG.cell (hxs6.mono (hS59.fz (i := 2) rfl)) (Gle.refl _) (row_at hx52 (c := en) (m := 2) (fun _ => rfl) (j := 1) rfl))) ?_
          refine o_held (i := 13) [14, 15] (fun j w => ⟨(fun j w => ⟨(fun _ _ => trivial) j w, fun _ h => h⟩) j w, fun _ h => h⟩) rfl rfl (by kernel_rfl) (goes1 rfl rfl hd3) (QOk.then (QOk.inBlock (QOk.then (QOk.then (QOk.inBlock (QOk.then QOk.body)))))) (q_convBS (l := x52.rb) rfl ((hxe6 x52 (List.mem_of_getElem? hx52)).1.2.2.1.mono (hS59.fz (i := 2) rfl)) (by first | omega | (simp only [List.length_append, List.length_map, List.length_cons, List.length_nil, List.length_take, List.length_drop, List.length_set] <;> omega)) (by kernel_rfl) (by kernel_rfl)) ?_
          refine o_pure (i := 14) (fun j w => ⟨(fun j w => ⟨(fun j w => ⟨(fun _ _ => trivial) j w, fun _ h => h⟩) j w, fun _ h => h⟩) j w, fun _ h => h⟩) rfl rfl (by kernel_rfl) (goes1 rfl rfl hd3) (QOk.then (QOk.inBlock (QOk.then (QOk.then (QOk.inBlock (QOk.then QOk.body)))))) (fun w => q_str_neq (l := ((getA (ab pu) x52.kb).getD [])) (m := x52.rb) rfl rfl hold53.2.2.1 (hxe6 x52 (List.mem_of_getElem? hx52)).1.2.2.2) ?_
          refine o_pure (i := 15) (fun j w => ⟨(fun j w => ⟨(fun j w => ⟨(fun _ _ => trivial) j w, fun _ h => h⟩) j w, fun _ h => h⟩) j w, fun _ h => h⟩) rfl rfl (by kernel_rfl) (goes0 rfl) (QOk.then (QOk.inBlock (QOk.then (QOk.then (QOk.inBlock (QOk.then QOk.body)))))) (fun w => q_pickF rfl hd3 rfl) ?_
          refine o_done (by kernel_rfl) ?_
          refine hK58 _ _ ?_
          refine c_condF rfl (by rw [hd1]; simp) ?_
          refine wp_skip ?_
          refine hK50 _ _ ?_
          refine wp_region_lit ?_
          refine l_q rfl rfl (q_moveI rfl) ?_
          refine l_q rfl rfl (q_addx rfl rfl (by first | decide | omega) (by first | decide | omega)) ?_
          refine l_q rfl rfl (q_assignI rfl) ?_
          refine l_nil ?_
          refine hK46 _ _ (came (⟨(i + 1), ad56, cp56, ps56⟩) (by repeat' (first | exact Agree.refl _ _ | refine Agree.up ?_ rfl | refine Agree.hav2 ?_ rfl | refine Agree.ups2 ?_ rfl)) (by repeat' (first | exact trivial | refine ⟨by first | rfl | exact int_succ _ | assumption, ?_⟩)) ?_)
          exact ⟨⟨hS59, (by show i + 1 ≤ (ab ps3).length; omega), hT56, hd4⟩, by (show (ab ps3).length - (i + 1) < (ab ps3).length - i); omega⟩
        ·
          have hc49b := hc49
          try simp only [decide_eq_true_eq, decide_eq_false_iff_not, Bool.not_eq_true', Bool.not_eq_false', Bool.and_eq_true, Bool.or_eq_true, Int.not_lt, Int.not_le, ne_eq, Decidable.not_not] at hc49
          refine wp_exit ?_
          refine hK40 _ _ ?_
          refine wp_seq_k (fun K61 hK61 => ?_)
          refine wp_region_lit ?_
          refine l_q rfl rfl (q_moveP rfl) ?_
          refine l_e rfl (fun K hK => ?_)
          refine e_call (by kernel_rfl) (last_ok k9 _ _ pu [] Bytes.nil (by first | omega | (simp only [List.length_append, List.length_map, List.length_cons, List.length_nil, List.length_take, List.length_drop, List.length_set] <;> omega)) 0 (by first | omega | (simp only [List.length_append, List.length_map, List.length_cons, List.length_nil, List.length_take, List.length_drop, List.length_set] <;> omega)) _ _ (by first | omega | (simp only [List.length_append, List.length_map, List.length_cons, List.length_nil, List.length_take, List.length_drop, List.length_set] <;> omega)) _ (hS46.tr (i := 0) (j := 1) rfl rfl hTl) SlG.nil) rfl (after_N hS46 (fun v62 G62 w62 hv62 hS62 => ?_))
          clear hS46
          obtain ⟨c62, is62, rfl, hl62, rfl⟩ := hv62
          have hS63 : St _ _ [.ow 5 1 c62.ka c62.kb.length c62.kc (bv c62.kb), .ow 5 1 c62.ra c62.rb.length c62.rc (bv c62.rb), tb k9 ad cap pu, .fz g, .fz gx6] _ := hS62; clear hS62
          have hlb62 := hl62.fit hTl
          have hlk62 := hlb62.2.2.1
          have hlr62 := hlb62.2.2.2
          have hab9 : ab pu = [] := by rw [habu, List.drop_eq_nil_of_le (by omega)]
          have hl9 : is62 = false := by
            have h := hl62
            rw [hab9] at h
            have h5 : lastB ([] : List KV) [] = none := by rw [lastB_nil]; rfl
            rw [h5] at h
            unfold LastR at h
            exact h.1
          refine hK _ _ ?_; clear hK K
          refine l_q rfl rfl (q_move rfl) ?_
          refine l_q rfl rfl (q_extract rfl rfl) ?_
          refine l_q rfl rfl (q_extract rfl rfl) ?_
          refine l_e rfl (fun K hK => ?_)
          refine e_alloc (zv := .agg #[.slice none 0 0, .slice none 0 0]) hS63 (by kernel_rfl) (fun b64 w64 (hS64 : St _ _ [.blk b64 (.cells #[.slice none 0 0, .slice none 0 0] 41), .ow 5 1 c62.ka c62.kb.length c62.kc (bv c62.kb), .ow 5 1 c62.ra c62.rb.length c62.rc (bv c62.rb), tb k9 ad cap pu, .fz g, .fz gx6] _) => ?_)
          clear hS63
          refine hK _ _ ?_; clear hK K
          refine l_e rfl (fun K hK => ?_)
          refine e_storeA hS64 rfl rfl (by kernel_rfl) (by repeat' (first | exact trivial | refine ⟨by first | rfl | assumption | exact one_if (by assumption), ?_⟩)) (i := 0) rfl rfl (fun w65 (hS65 : St _ _ [.blk b64 (.cells #[.slice c62.ka c62.kb.length c62.kc, .slice c62.ra c62.rb.length c62.rc] 41), .ow 5 1 c62.ka c62.kb.length c62.kc (bv c62.kb), .ow 5 1 c62.ra c62.rb.length c62.rc (bv c62.rb), tb k9 ad cap pu, .fz g, .fz gx6] _) => ?_)
          clear hS64
          refine hK _ _ ?_; clear hK K
          refine l_q rfl rfl (q_assignB rfl) ?_
          refine l_nil ?_
          refine hK61 _ _ ?_
          refine wp_seq_k (fun K66 hK66 => ?_)
          refine wp_region_lit ?_
          refine l_e rfl (fun K hK => ?_)
          refine e_call (by kernel_rfl) (alive8_ok _) rfl (after_R hS65 (fun v67 w67 hv67 hS67 => ?_))
          clear hS65
          obtain rfl := hv67
          refine hK _ _ ?_; clear hK K
          refine l_q rfl rfl (q_moveB rfl) ?_
          refine l_on rfl rfl rfl ?_
          refine l_q rfl rfl (q_moveB rfl) ?_
          refine l_q rfl rfl (q_pickT rfl rfl rfl) ?_
          refine l_q rfl rfl (q_moveB rfl) ?_
          refine l_on rfl rfl (decide_eq_true rfl) ?_
          refine l_q rfl rfl (q_moveP rfl) ?_
          refine l_on rfl rfl (decide_eq_true rfl) ?_
          refine l_e rfl (fun K hK => ?_)
          refine e_call (by kernel_rfl) (tlen_ok k9 _ _ pu _ (hS67.tr (i := 3) (j := 4) rfl rfl hTl)) rfl (after_R hS67 (fun v68 w68 hv68 hS68 => ?_))
          clear hS67
          obtain rfl := hv68
          refine hK _ _ ?_; clear hK K
          refine l_on rfl rfl (decide_eq_true rfl) ?_
          refine l_q rfl rfl (q_eql rfl rfl) ?_
          refine l_q rfl rfl (q_pickT rfl (decide_eq_true rfl) rfl) ?_
          refine l_q rfl rfl (q_moveB rfl) ?_
          refine l_on rfl rfl (decide_eq_true (by rw [← ab_len, hab9]; rfl)) ?_
          refine l_q rfl rfl (q_moveB rfl) ?_
          refine l_on rfl rfl (decide_eq_true (by rw [← ab_len, hab9]; rfl)) ?_
          refine l_q rfl rfl (q_not rfl) ?_
          refine l_q rfl rfl (q_pickT rfl (decide_eq_true (by rw [← ab_len, hab9]; rfl)) rfl) ?_
          refine l_q rfl rfl (q_moveB rfl) ?_
          refine l_on rfl rfl (by rw [show _ = _ from hl9]; rfl) ?_
          refine l_q rfl rfl (q_moveP rfl) ?_
          refine l_on rfl rfl (by rw [show _ = _ from hl9]; rfl) ?_
          refine l_e rfl (fun K hK => ?_)
          refine e_call (by kernel_rfl) (range_ok k9 _ _ pu [] [] Bytes.nil Bytes.nil (by first | omega | (simp only [List.length_append, List.length_map, List.length_cons, List.length_nil, List.length_take, List.length_drop, List.length_set] <;> omega)) (by first | omega | (simp only [List.length_append, List.length_map, List.length_cons, List.length_nil, List.length_take, List.length_drop, List.length_set] <;> omega)) 0 0 (by first | omega | (simp only [List.length_append, List.length_map, List.length_cons, List.length_nil, List.length_take, List.length_drop, List.length_set] <;> omega)) (by first | omega | (simp only [List.length_append, List.length_map, List.length_cons, List.length_nil, List.length_take, List.length_drop, List.length_set] <;> omega)) (9 : Int) (by first | decide | omega) (by first | decide | omega) _ _ _ _ (by first | omega | (simp only [List.length_append, List.length_map, List.length_cons, List.length_nil, List.length_take, List.length_drop, List.length_set] <;> omega)) _ (hS68.tr (i := 3) (j := 4) rfl rfl hTl) SlG.nil SlG.nil) rfl (after_N hS68 (fun v70 G70 w70 hv70 hS70 => ?_))
          clear hS68
          obtain ⟨ra70, rc70, es70, rfl, rfl, heq70⟩ := hv70
          have hS71 : St _ _ [.ow 41 2 ra70 es70.length rc70 (List.flatMap en es70), .pk (epk es70), .blk b64 (.cells #[.slice c62.ka c62.kb.length c62.kc, .slice c62.ra c62.rb.length c62.rc] 41), .ow 5 1 c62.ka c62.kb.length c62.kc (bv c62.kb), .ow 5 1 c62.ra c62.rb.length c62.rc (bv c62.rb), tb k9 ad cap pu, .fz g, .fz gx6] _ := hS70; clear hS70
          have hfit70 := range_fit hTl heq70
          have hel70 : es70.length ≤ (flat pu).length := range_len heq70
          obtain ⟨gx70, hxs70, hxe70, hS70x⟩ := hS71.rngFz hfit70; clear hS71
          refine hK _ _ ?_; clear hK K
          refine l_on rfl rfl (by rw [show _ = _ from hl9]; rfl) ?_
          refine l_q rfl rfl (q_lenSl (e := 41) rfl (by kernel_rfl)) ?_
          refine l_on rfl rfl (by rw [show _ = _ from hl9]; rfl) ?_
          refine l_q rfl rfl (q_eql rfl rfl) ?_
          refine l_q rfl rfl (q_pickT rfl (by rw [show _ = _ from hl9]; rfl) rfl) ?_
          refine l_q rfl rfl (q_assignB rfl) ?_
          refine l_nil ?_
          refine hK66 _ _ ?_
          refine wp_ret ?_
          refine c_ret1 rfl rfl ?_
          have hz : es70.length ≤ 0 := by have := hel70; rw [← ab_len, hab9] at this; exact this
          exact ⟨_, rfl, congrArg Value.bool (decide_eq_true (by omega)), hS70x.drop⟩

set_option maxHeartbeats 1000000 in
set_option maxRecDepth 100000 in
theorem tableLast_ok (S : List Ac8) (sa : Option Addr) (sc : Nat) (to : List Nat) (htB : Bytes to) (ta : Option Addr) (tc : Nat) (w : World) (hSG : SlG (hw w) sa (List.flatMap ac8 S)) (hSo : ∀ a ∈ S, Ac8Ok (hw w) a) (htG : SlG (hw w) ta (bv to)) : Calls Try.prog 5 #[.slice sa S.length sc, .slice ta to.length tc] w (PostR w fun v => v = .bool true) := by
  have hS := St.start w
  refine c_enter Try.func5 rfl rfl rfl ?_
  refine wp_seq_k (fun K1 hK1 => ?_)
  refine wp_region_lit ?_
  refine l_q rfl rfl (q_assignB rfl) ?_
  refine l_nil ?_
  refine hK1 _ _ ?_
  refine wp_seq_k (fun K2 hK2 => ?_)
  refine wp_seq_k (fun K3 hK3 => ?_)
  refine wp_region_lit ?_
  refine l_q rfl rfl (q_moveS rfl) ?_
  refine l_q rfl rfl (q_lenSl (e := 5) rfl (by kernel_rfl)) ?_
  refine l_q rfl rfl (q_gtr rfl rfl) ?_
  refine l_q rfl rfl (q_moveB rfl) ?_
  refine g_splitL (t := 19) rfl (fun hg4 => ?_) (fun hg4 => ?_)
  ·
    have hg4b := hg4
    try simp only [decide_eq_true_eq, decide_eq_false_iff_not, Bool.not_eq_true', Bool.not_eq_false', Bool.and_eq_true, Bool.or_eq_true, Int.not_lt, Int.not_le, ne_eq, Decidable.not_not] at hg4
    refine l_off rfl rfl rfl hg4b ?_
    refine l_off rfl rfl rfl hg4b ?_
    refine l_off rfl rfl rfl hg4b ?_
    refine l_q rfl rfl (q_pickT rfl hg4b rfl) ?_
    refine l_nil ?_
    refine hK3 _ _ ?_
    refine c_condT rfl rfl ?_
    refine wp_seq_k (fun K6 hK6 => ?_)
    refine wp_region_lit ?_
    refine l_e rfl (fun K hK => ?_)
    refine e_call (by kernel_rfl) (alive8_ok _) rfl (after_R hS (fun v7 w7 hv7 hS7 => ?_))
    clear hS
    obtain rfl := hv7
    refine hK _ _ ?_; clear hK K
    refine l_q rfl rfl (q_assignB rfl) ?_
    refine l_nil ?_
    refine hK6 _ _ ?_
    refine wp_ret ?_
    refine c_ret1 rfl rfl ?_
    exact ⟨_, rfl, rfl, hS7.drop⟩
  ·
    have hg4b := hg4
    try simp only [decide_eq_true_eq, decide_eq_false_iff_not, Bool.not_eq_true', Bool.not_eq_false', Bool.and_eq_true, Bool.or_eq_true, Int.not_lt, Int.not_le, ne_eq, Decidable.not_not] at hg4
    refine l_on rfl rfl hg4b ?_
    refine l_q rfl rfl (q_moveS rfl) ?_
    refine l_on rfl rfl hg4b ?_
    refine l_q rfl rfl (q_lenSl (e := 5) rfl (by kernel_rfl)) ?_
    refine l_on rfl rfl hg4b ?_
    refine l_q rfl rfl (q_eql rfl rfl) ?_
    refine l_q rfl rfl (q_pickF rfl hg4b rfl) ?_
    refine l_nil ?_
    refine hK3 _ _ ?_
    refine c_cond rfl (fun hc8 => ?_) (fun hc8 => ?_)
    ·
      have hc8b := hc8
      try simp only [decide_eq_true_eq, decide_eq_false_iff_not, Bool.not_eq_true', Bool.not_eq_false', Bool.and_eq_true, Bool.or_eq_true, Int.not_lt, Int.not_le, ne_eq, Decidable.not_not] at hc8
      refine wp_seq_k (fun K9 hK9 => ?_)
      refine wp_region_lit ?_
      refine l_e rfl (fun K hK => ?_)
      refine e_call (by kernel_rfl) (alive8_ok _) rfl (after_R hS (fun v10 w10 hv10 hS10 => ?_))
      clear hS
      obtain rfl := hv10
      refine hK _ _ ?_; clear hK K
      refine l_q rfl rfl (q_assignB rfl) ?_
      refine l_nil ?_
      refine hK9 _ _ ?_
      refine wp_ret ?_
      refine c_ret1 rfl rfl ?_
      exact ⟨_, rfl, rfl, hS10.drop⟩
    ·
      have hc8b := hc8
      try simp only [decide_eq_true_eq, decide_eq_false_iff_not, Bool.not_eq_true', Bool.not_eq_false', Bool.and_eq_true, Bool.or_eq_true, Int.not_lt, Int.not_le, ne_eq, Decidable.not_not] at hc8
      have hto : to ≠ [] := by rintro rfl; simp at *
      refine wp_skip ?_
      refine hK2 _ _ ?_
      refine wp_seq_k (fun K11 hK11 => ?_)
      refine wp_region_lit ?_
      refine l_q rfl rfl (q_moveS rfl) ?_
      refine l_e rfl (fun K hK => ?_)
      refine e_call (by kernel_rfl) (built_ok S _ _ _ (hSG.mono hS.base) (fun a ha => (hSo a ha).mono hS.base)) rfl (after_N hS (fun v12 G12 w12 hv12 hS12 => ?_))
      clear hS
      obtain ⟨k12, ad12, cp12, ps12, g12, rfl, rfl, hT12, hfl12⟩ := hv12
      have hS13 : St _ _ [tb k12 ad12 cp12 ps12, .fz g12] _ := hS12; clear hS12
      have hsrt := hT12.pok.srt
      have hal : (ab ps12).length ≤ 150 := by rw [ab_len]; omega
      refine hK _ _ ?_; clear hK K
      refine l_q rfl rfl (q_assignP rfl) ?_
      refine l_nil ?_
      refine hK11 _ _ ?_
      refine wp_seq_k (fun K14 hK14 => ?_)
      refine wp_seq_k (fun K15 hK15 => ?_)
      refine wp_region_lit ?_
      refine l_q rfl rfl (q_assignI rfl) ?_
      refine l_nil ?_
      refine hK15 _ _ ?_
      refine wp_block ?_
      refine c_loop (τ := Nat × (Option Addr) × Nat × (List Pg)) [(4, 4), (6, 12), (27, 77)] (fun x => (fun (i : Nat) (ad : Option Addr) (cap : Nat) (ps : List Pg) => [(6, .int .i64 ((i : Nat) : Int))]) x.1 x.2.1 x.2.2.1 x.2.2.2) (fun x w' => (fun (i : Nat) (ad : Option Addr) (cap : Nat) (ps : List Pg) => St w (fun _ => False) [tb k12 ad cap ps, .fz g12] w' ∧ i ≤ 150 ∧ TOk g12 ps ∧ (flat ps).length ≤ 150) x.1 x.2.1 x.2.2.1 x.2.2.2) (fun x => (fun (i : Nat) (ad : Option Addr) (cap : Nat) (ps : List Pg) => 150 - i) x.1 x.2.1 x.2.2.1 x.2.2.2) (⟨0, ad12, cp12, ps12⟩) ?_ (by repeat' (first | exact trivial | refine ⟨by first | rfl | exact int_succ _ | assumption, ?_⟩)) (fun x16 j16 w16 hJ16 K16 hK16 => ?_)
      ·
        exact ⟨hS13, Nat.zero_le _, hT12, hfl12⟩
      ·
        obtain ⟨i, ad, cap, ps⟩ := x16
        obtain ⟨hS16, hi, hTl, hfu⟩ := hJ16
        try dsimp only at hS16 hi hTl hfu ⊢
        have hsl := hTl.pok.srt
        have hal2 : (ab ps).length ≤ 150 := by rw [ab_len]; exact hfu
        refine wp_seq_k (fun K17 hK17 => ?_)
        refine wp_seq_k (fun K18 hK18 => ?_)
        refine wp_region_lit ?_
        refine l_q rfl rfl (q_moveI rfl) ?_
        refine l_q rfl rfl (q_lss rfl rfl) ?_
        refine l_nil ?_
        refine hK18 _ _ ?_
        refine c_cond rfl (fun hc19 => ?_) (fun hc19 => ?_)
        ·
          have hc19b := hc19
          try simp only [decide_eq_true_eq, decide_eq_false_iff_not, Bool.not_eq_true', Bool.not_eq_false', Bool.and_eq_true, Bool.or_eq_true, Int.not_lt, Int.not_le, ne_eq, Decidable.not_not] at hc19
          refine wp_skip ?_
          refine hK17 _ _ ?_
          refine wp_seq_k (fun K20 hK20 => ?_)
          refine wp_block ?_
          refine wp_seq_k (fun K21 hK21 => ?_)
          refine wp_region_lit ?_
          refine l_q rfl rfl (q_moveP rfl) ?_
          refine l_q rfl rfl (q_moveS rfl) ?_
          refine l_e rfl (fun K hK => ?_)
          refine e_call (by kernel_rfl) (range_ok k12 _ _ ps [] to Bytes.nil htB (by first | omega | (simp only [List.length_append, List.length_map, List.length_cons, List.length_nil, List.length_take, List.length_drop, List.length_set] <;> omega)) (by first | omega | (simp only [List.length_append, List.length_map, List.length_cons, List.length_nil, List.length_take, List.length_drop, List.length_set] <;> omega)) 0 to.length (by first | omega | (simp only [List.length_append, List.length_map, List.length_cons, List.length_nil, List.length_take, List.length_drop, List.length_set] <;> omega)) (by first | omega | (simp only [List.length_append, List.length_map, List.length_cons, List.length_nil, List.length_take, List.length_drop, List.length_set] <;> omega)) (150 : Int) (by first | decide | omega) (by first | decide | omega) _ _ _ _ (by first | omega | (simp only [List.length_append, List.length_map, List.length_cons, List.length_nil, List.length_take, List.length_drop, List.length_set] <;> omega)) _ (hS16.tr (i := 0) (j := 1) rfl rfl hTl) SlG.nil (htG.mono hS16.base)) rfl (after_N hS16 (fun v22 G22 w22 hv22 hS22 => ?_))
          clear hS16
          obtain ⟨ra22, rc22, es22, rfl, rfl, heq22⟩ := hv22
          have hS23 : St _ _ [.ow 41 2 ra22 es22.length rc22 (List.flatMap en es22), .pk (epk es22), tb k12 ad cap ps, .fz g12] _ := hS22; clear hS22
          have hfit22 := range_fit hTl heq22
          have hel22 : es22.length ≤ (flat ps).length := range_len heq22
          obtain ⟨gx22, hxs22, hxe22, hS22x⟩ := hS23.rngFz hfit22; clear hS23
          refine hK _ _ ?_; clear hK K
          have hve := heq22.trans (rangeB_full hal2)
          refine l_q rfl rfl (q_assignS rfl) ?_
          refine l_nil ?_
          refine hK21 _ _ ?_
          refine wp_seq_k (fun K24 hK24 => ?_)
          refine wp_region_lit ?_
          refine l_q rfl rfl (q_moveP rfl) ?_
          refine l_q rfl rfl (q_moveS rfl) ?_
          refine l_e rfl (fun K hK => ?_)
          refine e_call (by kernel_rfl) (last_ok k12 _ _ ps to htB (by first | omega | (simp only [List.length_append, List.length_map, List.length_cons, List.length_nil, List.length_take, List.length_drop, List.length_set] <;> omega)) to.length (by first | omega | (simp only [List.length_append, List.length_map, List.length_cons, List.length_nil, List.length_take, List.length_drop, List.length_set] <;> omega)) _ _ (by first | omega | (simp only [List.length_append, List.length_map, List.length_cons, List.length_nil, List.length_take, List.length_drop, List.length_set] <;> omega)) _ (hS22x.tr (i := 1) (j := 2) rfl rfl hTl) (htG.mono hS22x.base)) rfl (after_N hS22x (fun v25 G25 w25 hv25 hS25 => ?_))
          clear hS22x
          obtain ⟨c25, is25, rfl, hl25, rfl⟩ := hv25
          have hS26 : St _ _ [.ow 5 1 c25.ka c25.kb.length c25.kc (bv c25.kb), .ow 5 1 c25.ra c25.rb.length c25.rc (bv c25.rb), .fz gx22, tb k12 ad cap ps, .fz g12] _ := hS25; clear hS25
          have hlb25 := hl25.fit hTl
          have hlk25 := hlb25.2.2.1
          have hlr25 := hlb25.2.2.2
          have hlo : lastB (ab ps) to = (es22.map En.kv).getLast? := by rw [hve]; exact lastB_pF hto
          have his := last_is hl25 hlo
          refine hK _ _ ?_; clear hK K
          refine l_q rfl rfl (q_move rfl) ?_
          refine l_q rfl rfl (q_extract rfl rfl) ?_
          refine l_q rfl rfl (q_extract rfl rfl) ?_
          refine l_e rfl (fun K hK => ?_)
          refine e_alloc (zv := .agg #[.slice none 0 0, .slice none 0 0]) hS26 (by kernel_rfl) (fun b27 w27 (hS27 : St _ _ [.blk b27 (.cells #[.slice none 0 0, .slice none 0 0] 41), .ow 5 1 c25.ka c25.kb.length c25.kc (bv c25.kb), .ow 5 1 c25.ra c25.rb.length c25.rc (bv c25.rb), .fz gx22, tb k12 ad cap ps, .fz g12] _) => ?_)
          clear hS26
          refine hK _ _ ?_; clear hK K
          refine l_e rfl (fun K hK => ?_)
          refine e_storeA hS27 rfl rfl (by kernel_rfl) (by repeat' (first | exact trivial | refine ⟨by first | rfl | assumption | exact one_if (by assumption), ?_⟩)) (i := 0) rfl rfl (fun w28 (hS28 : St _ _ [.blk b27 (.cells #[.slice c25.ka c25.kb.length c25.kc, .slice c25.ra c25.rb.length c25.rc] 41), .ow 5 1 c25.ka c25.kb.length c25.kc (bv c25.kb), .ow 5 1 c25.ra c25.rb.length c25.rc (bv c25.rb), .fz gx22, tb k12 ad cap ps, .fz g12] _) => ?_)
          clear hS27
          refine hK _ _ ?_; clear hK K
          refine l_q rfl rfl (q_assignB rfl) ?_
          refine l_nil ?_
          refine hK24 _ _ ?_
          refine wp_seq_k (fun K29 hK29 => ?_)
          refine wp_seq_k (fun K30 hK30 => ?_)
          refine wp_region_lit ?_
          refine l_q rfl rfl (q_moveB rfl) ?_
          refine l_q rfl rfl (q_moveS rfl) ?_
          refine l_q rfl rfl (q_lenSl (e := 41) rfl (by kernel_rfl)) ?_
          refine l_q rfl rfl (q_gtr rfl rfl) ?_
          refine l_q rfl rfl (q_bool_neq rfl rfl (by kernel_rfl)) ?_
          refine l_nil ?_
          refine hK30 _ _ ?_
          refine c_condF rfl (by rw [his]; simp only [Bool.not_eq_false', beq_iff_eq, decide_eq_decide]; omega) ?_
          refine wp_skip ?_
          refine hK29 _ _ ?_
          refine wp_seq_k (fun K32 hK32 => ?_)
          refine wp_seq_k (fun K33 hK33 => ?_)
          refine wp_region_lit ?_
          refine l_q rfl rfl (q_moveB rfl) ?_
          refine l_q rfl rfl (q_not rfl) ?_
          refine l_nil ?_
          refine hK33 _ _ ?_
          refine c_cond rfl (fun hc34 => ?_) (fun hc34 => ?_)
          ·
            have hc34b := hc34
            try simp only [decide_eq_true_eq, decide_eq_false_iff_not, Bool.not_eq_true', Bool.not_eq_false', Bool.and_eq_true, Bool.or_eq_true, Int.not_lt, Int.not_le, ne_eq, Decidable.not_not] at hc34
            refine wp_exit ?_
            refine hK14 _ _ ?_
            refine wp_seq_k (fun K35 hK35 => ?_)
            refine wp_region_lit ?_
            refine l_q rfl rfl (q_moveP rfl) ?_
            refine l_e rfl (fun K hK => ?_)
            refine e_call (by kernel_rfl) (range_ok k12 _ _ ps [] [] Bytes.nil Bytes.nil (by first | omega | (simp only [List.length_append, List.length_map, List.length_cons, List.length_nil, List.length_take, List.length_drop, List.length_set] <;> omega)) (by first | omega | (simp only [List.length_append, List.length_map, List.length_cons, List.length_nil, List.length_take, List.length_drop, List.length_set] <;> omega)) 0 0 (by first | omega | (simp only [List.length_append, List.length_map, List.length_cons, List.length_nil, List.length_take, List.length_drop, List.length_set] <;> omega)) (by first | omega | (simp only [List.length_append, List.length_map, List.length_cons, List.length_nil, List.length_take, List.length_drop, List.length_set] <;> omega)) (150 : Int) (by first | decide | omega) (by first | decide | omega) _ _ _ _ (by first | omega | (simp only [List.length_append, List.length_map, List.length_cons, List.length_nil, List.length_take, List.length_drop, List.length_set] <;> omega)) _ (hS28.tr (i := 4) (j := 5) rfl rfl hTl) SlG.nil SlG.nil) rfl (after_N hS28 (fun v36 G36 w36 hv36 hS36 => ?_))
            clear hS28
            obtain ⟨ra36, rc36, es36, rfl, rfl, heq36⟩ := hv36
            have hS37 : St _ _ [.ow 41 2 ra36 es36.length rc36 (List.flatMap en es36), .pk (epk es36), .blk b27 (.cells #[.slice c25.ka c25.kb.length c25.kc, .slice c25.ra c25.rb.length c25.rc] 41), .ow 5 1 c25.ka c25.kb.length c25.kc (bv c25.kb), .ow 5 1 c25.ra c25.rb.length c25.rc (bv c25.rb), .fz gx22, tb k12 ad cap ps, .fz g12] _ := hS36; clear hS36
            have hfit36 := range_fit hTl heq36
            have hel36 : es36.length ≤ (flat ps).length := range_len heq36
            obtain ⟨gx36, hxs36, hxe36, hS36x⟩ := hS37.rngFz hfit36; clear hS37
            refine hK _ _ ?_; clear hK K
            have hve := heq36.trans (rangeB_all (by rw [ab_len]; exact hfu))
            refine l_q rfl rfl (q_assignS rfl) ?_
            refine l_nil ?_
            refine hK35 _ _ ?_
            refine wp_seq_k (fun K38 hK38 => ?_)
            refine wp_region_lit ?_
            refine l_q rfl rfl (q_moveP rfl) ?_
            refine l_e rfl (fun K hK => ?_)
            refine e_call (by kernel_rfl) (last_ok k12 _ _ ps [] Bytes.nil (by first | omega | (simp only [List.length_append, List.length_map, List.length_cons, List.length_nil, List.length_take, List.length_drop, List.length_set] <;> omega)) 0 (by first | omega | (simp only [List.length_append, List.length_map, List.length_cons, List.length_nil, List.length_take, List.length_drop, List.length_set] <;> omega)) _ _ (by first | omega | (simp only [List.length_append, List.length_map, List.length_cons, List.length_nil, List.length_take, List.length_drop, List.length_set] <;> omega)) _ (hS36x.tr (i := 5) (j := 6) rfl rfl hTl) SlG.nil) rfl (after_N hS36x (fun v39 G39 w39 hv39 hS39 => ?_))
            clear hS36x
            obtain ⟨c39, is39, rfl, hl39, rfl⟩ := hv39
            have hS40 : St _ _ [.ow 5 1 c39.ka c39.kb.length c39.kc (bv c39.kb), .ow 5 1 c39.ra c39.rb.length c39.rc (bv c39.rb), .fz gx36, .blk b27 (.cells #[.slice c25.ka c25.kb.length c25.kc, .slice c25.ra c25.rb.length c25.rc] 41), .ow 5 1 c25.ka c25.kb.length c25.kc (bv c25.kb), .ow 5 1 c25.ra c25.rb.length c25.rc (bv c25.rb), .fz gx22, tb k12 ad cap ps, .fz g12] _ := hS39; clear hS39
            have hlb39 := hl39.fit hTl
            have hlk39 := hlb39.2.2.1
            have hlr39 := hlb39.2.2.2
            have hlo2 : lastB (ab ps) [] = (es36.map En.kv).getLast? := by rw [hve]; exact lastB_nil
            have his2 := last_is hl39 hlo2
            refine hK _ _ ?_; clear hK K
            refine l_q rfl rfl (q_move rfl) ?_
            refine l_q rfl rfl (q_extract rfl rfl) ?_
            refine l_q rfl rfl (q_extract rfl rfl) ?_
            refine l_e rfl (fun K hK => ?_)
            refine e_alloc (zv := .agg #[.slice none 0 0, .slice none 0 0]) hS40 (by kernel_rfl) (fun b41 w41 (hS41 : St _ _ [.blk b41 (.cells #[.slice none 0 0, .slice none 0 0] 41), .ow 5 1 c39.ka c39.kb.length c39.kc (bv c39.kb), .ow 5 1 c39.ra c39.rb.length c39.rc (bv c39.rb), .fz gx36, .blk b27 (.cells #[.slice c25.ka c25.kb.length c25.kc, .slice c25.ra c25.rb.length c25.rc] 41), .ow 5 1 c25.ka c25.kb.length c25.kc (bv c25.kb), .ow 5 1 c25.ra c25.rb.length c25.rc (bv c25.rb), .fz gx22, tb k12 ad cap ps, .fz g12] _) => ?_)
            clear hS40
            refine hK _ _ ?_; clear hK K
            refine l_e rfl (fun K hK => ?_)
            refine e_storeA hS41 rfl rfl (by kernel_rfl) (by repeat' (first | exact trivial | refine ⟨by first | rfl | assumption | exact one_if (by assumption), ?_⟩)) (i := 0) rfl rfl (fun w42 (hS42 : St _ _ [.blk b41 (.cells #[.slice c39.ka c39.kb.length c39.kc, .slice c39.ra c39.rb.length c39.rc] 41), .ow 5 1 c39.ka c39.kb.length c39.kc (bv c39.kb), .ow 5 1 c39.ra c39.rb.length c39.rc (bv c39.rb), .fz gx36, .blk b27 (.cells #[.slice c25.ka c25.kb.length c25.kc, .slice c25.ra c25.rb.length c25.rc] 41), .ow 5 1 c25.ka c25.kb.length c25.kc (bv c25.kb), .ow 5 1 c25.ra c25.rb.length c25.rc (bv c25.rb), .fz gx22, tb k12 ad cap ps, .fz g12] _) => ?_)
            clear hS41
            refine hK _ _ ?_; clear hK K
            refine l_q rfl rfl (q_assignB rfl) ?_
            refine l_nil ?_
            refine hK38 _ _ ?_
            refine wp_seq_k (fun K43 hK43 => ?_)
            refine r_any (by kernel_rfl) hS42 (fun w44 hS44 => ?_)
            clear hS42
            refine o_eff (i := 0) (by kernel_rfl) rfl (goes0 rfl) (fun K hK => ?_)
            refine e_call (by kernel_rfl) (alive8_ok _) rfl (after_R hS44 (fun v45 w45 hv45 hS45 => ?_))
            clear hS44
            obtain rfl := hv45
            refine hK _ _ trivial ?_; clear hK K
            refine o_pure (i := 1) (fun _ _ => trivial) rfl rfl (by kernel_rfl) (goes0 rfl) (QOk.then QOk.body) (fun w => q_moveB rfl) ?_
            refine o_pure (i := 2) (fun _ _ => trivial) rfl rfl (by kernel_rfl) (goes1 rfl rfl rfl) (QOk.then QOk.body) (fun w => q_moveB rfl) ?_
            refine o_pure (i := 3) (fun _ _ => trivial) rfl rfl (by kernel_rfl) (goes1 rfl rfl rfl) (QOk.then QOk.body) (fun w => q_moveS rfl) ?_
            refine o_pure (i := 4) (fun _ _ => trivial) rfl rfl (by kernel_rfl) (goes1 rfl rfl rfl) (QOk.then QOk.body) (fun w => q_lenSl (e := 41) rfl (by kernel_rfl)) ?_
            refine o_pure (i := 5) (fun _ _ => trivial) rfl rfl (by kernel_rfl) (goes1 rfl rfl rfl) (QOk.then QOk.body) (fun w => q_gtr rfl rfl) ?_
            refine o_pure (i := 6) (fun _ _ => trivial) rfl rfl (by kernel_rfl) (goes1 rfl rfl rfl) (QOk.then QOk.body) (fun w => q_bool_eql rfl rfl (by kernel_rfl)) ?_
            refine o_pure (i := 7) (fun _ _ => trivial) rfl rfl (by kernel_rfl) (goes0 rfl) (QOk.then QOk.body) (fun w => q_pickT rfl rfl rfl) ?_
            refine o_pure (i := 8) (fun _ _ => trivial) rfl rfl (by kernel_rfl) (goes0 rfl) (QOk.then QOk.body) (fun w => q_moveB rfl) ?_
            refine o_pure (i := 9) (fun _ _ => trivial) rfl rfl (by kernel_rfl) (goes1 rfl rfl (by rw [his2]; simp only [beq_iff_eq, decide_eq_decide]; omega)) (QOk.then QOk.body) (fun w => q_moveB rfl) ?_
            refine o_pure (i := 10) (fun _ _ => trivial) rfl rfl (by kernel_rfl) (goes1 rfl rfl (by rw [his2]; simp only [beq_iff_eq, decide_eq_decide]; omega)) (QOk.then QOk.body) (fun w => q_not rfl) ?_
            refine o_pure (i := 11) (fun _ _ => trivial) rfl rfl (by kernel_rfl) (goes1 rfl rfl (by rw [his2]; simp only [beq_iff_eq, decide_eq_decide]; omega)) (QOk.then QOk.body) (fun w => q_moveB rfl) ?_
            refine g_splitO (t := 96) rfl (fun hg47 => ?_) (fun hg47 => ?_)
            ·
              have hg47b := hg47
              try simp only [decide_eq_true_eq, decide_eq_false_iff_not, Bool.not_eq_true', Bool.not_eq_false', Bool.and_eq_true, Bool.or_eq_true, Int.not_lt, Int.not_le, ne_eq, Decidable.not_not] at hg47
              refine o_off (i := 12) (fun _ _ => trivial) rfl rfl (by kernel_rfl) rfl rfl hg47b (QOk.then QOk.body) ?_
              refine o_off (i := 13) (fun _ _ => trivial) rfl rfl (by kernel_rfl) rfl rfl hg47b (QOk.then QOk.body) ?_
              refine o_off (i := 14) (fun _ _ => trivial) rfl rfl (by kernel_rfl) rfl rfl hg47b (QOk.then QOk.body) ?_
              refine o_off (i := 15) (fun _ _ => trivial) rfl rfl (by kernel_rfl) rfl rfl hg47b (QOk.then QOk.body) ?_
              refine o_off (i := 16) (fun _ _ => trivial) rfl rfl (by kernel_rfl) rfl rfl hg47b (QOk.then QOk.body) ?_
              refine o_off (i := 17) (fun _ _ => trivial) rfl rfl (by kernel_rfl) rfl rfl hg47b (QOk.then QOk.body) ?_
              refine o_off (i := 18) (fun _ _ => trivial) rfl rfl (by kernel_rfl) rfl rfl hg47b (QOk.then QOk.body) ?_
              refine o_off (i := 19) (fun _ _ => trivial) rfl rfl (by kernel_rfl) rfl rfl hg47b (QOk.then QOk.body) ?_
              refine o_off (i := 20) (fun _ _ => trivial) rfl rfl (by kernel_rfl) rfl rfl hg47b (QOk.then QOk.body) ?_
              refine o_off (i := 21) (fun _ _ => trivial) rfl rfl (by kernel_rfl) rfl rfl hg47b (QOk.then QOk.body) ?_
              refine o_off (i := 22) (fun _ _ => trivial) rfl rfl (by kernel_rfl) rfl rfl hg47b (QOk.then QOk.body) ?_
              refine o_off (i := 23) (fun _ _ => trivial) rfl rfl (by kernel_rfl) rfl rfl hg47b (QOk.then QOk.body) ?_
              refine o_pure (i := 24) (fun _ _ => trivial) rfl rfl (by kernel_rfl) (goes1 rfl rfl (by rw [his2]; simp only [beq_iff_eq, decide_eq_decide]; omega)) (QOk.then QOk.body) (fun w => q_pickT rfl hg47b rfl) ?_
              refine o_pure (i := 25) (fun _ _ => trivial) rfl rfl (by kernel_rfl) (goes0 rfl) (QOk.then QOk.body) (fun w => q_pickT rfl (by rw [his2]; simp only [beq_iff_eq, decide_eq_decide]; omega) rfl) ?_
              refine o_pure (i := 26) (fun _ _ => trivial) rfl rfl (by kernel_rfl) (goes0 rfl) (QOk.then QOk.body) (fun w => q_assignB rfl) ?_
              refine o_done (by kernel_rfl) ?_
              refine hK43 _ _ ?_
              refine wp_ret ?_
              refine c_ret1 rfl rfl ?_
              exact ⟨_, rfl, rfl, hS45.drop⟩
            ·
              have hg47b := hg47
              try simp only [decide_eq_true_eq, decide_eq_false_iff_not, Bool.not_eq_true', Bool.not_eq_false', Bool.and_eq_true, Bool.or_eq_true, Int.not_lt, Int.not_le, ne_eq, Decidable.not_not] at hg47
              have hist2 : is39 = true := by first | exact hg47 | simpa using hg47
              have hpos2 : 0 < es36.length := last_len (by rw [← his2]; exact hist2)
              refine o_pure (i := 12) (fun _ _ => trivial) rfl rfl (by kernel_rfl) (goes1 rfl rfl hg47b) (QOk.then QOk.body) (fun w => q_fieldAddr (ft := 23) (o := 0) rfl (by kernel_rfl)) ?_
              refine o_held (i := 13) [14, 23, 24, 25, 26] (fun _ _ => trivial) rfl rfl (by kernel_rfl) (goes1 rfl rfl hg47b) (QOk.then QOk.body) (q_load1 rfl (by kernel_rfl) (hS45.cell (i := 0) rfl rfl)) ?_
              refine o_held (i := 14) [23, 24, 25, 26] (fun j w => ⟨(fun _ _ => trivial) j w, fun _ h => h⟩) rfl rfl (by kernel_rfl) (goes1 rfl rfl hg47b) (QOk.then QOk.body) (q_convBS (l := c39.kb) rfl (hS45.owG (i := 1) rfl) (by first | omega | (simp only [List.length_append, List.length_map, List.length_cons, List.length_nil, List.length_take, List.length_drop, List.length_set] <;> omega)) (by kernel_rfl) (by kernel_rfl)) ?_
              refine o_pure (i := 15) (fun j w => ⟨(fun j w => ⟨(fun _ _ => trivial) j w, fun _ h => h⟩) j w, fun _ h => h⟩) rfl rfl (by kernel_rfl) (goes1 rfl rfl hg47b) (QOk.then QOk.body) (fun w => q_moveS rfl) ?_
              refine o_pure (i := 16) (fun j w => ⟨(fun j w => ⟨(fun _ _ => trivial) j w, fun _ h => h⟩) j w, fun _ h => h⟩) rfl rfl (by kernel_rfl) (goes1 rfl rfl hg47b) (QOk.then QOk.body) (fun w => q_moveS rfl) ?_
              refine o_pure (i := 17) (fun j w => ⟨(fun j w => ⟨(fun _ _ => trivial) j w, fun _ h => h⟩) j w, fun _ h => h⟩) rfl rfl (by kernel_rfl) (goes1 rfl rfl hg47b) (QOk.then QOk.body) (fun w => q_lenSl (e := 41) rfl (by kernel_rfl)) ?_
              refine o_pure (i := 18) (fun j w => ⟨(fun j w => ⟨(fun _ _ => trivial) j w, fun _ h => h⟩) j w, fun _ h => h⟩) rfl rfl (by kernel_rfl) (goes1 rfl rfl hg47b) (QOk.then QOk.body) (fun w => q_subx rfl rfl (by first | decide | omega) (by first | decide | omega)) ?_
              refine o_pure (i := 19) (fun j w => ⟨(fun j w => ⟨(fun _ _ => trivial) j w, fun _ h => h⟩) j w, fun _ h => h⟩) rfl rfl (by kernel_rfl) (goes1 rfl rfl hg47b) (QOk.then QOk.body) (fun w => q_ixG (e := 41) (m := 2) (j := (es36.length - 1)) rfl rfl (by kernel_rfl) (by kernel_rfl) (by first | rfl | omega) (by omega) hxs36 (by rw [rows_len (c := en) (m := 2) (fun _ => rfl)]; first | omega | (simp only [List.length_append, List.length_map, List.length_cons, List.length_nil, List.length_take, List.length_drop, List.length_set] <;> omega))) ?_
              refine o_pure (i := 20) (fun j w => ⟨(fun j w => ⟨(fun _ _ => trivial) j w, fun _ h => h⟩) j w, fun _ h => h⟩) rfl rfl (by kernel_rfl) (goes1 rfl rfl hg47b) (QOk.then QOk.body) (fun w => q_fieldG (ft := 23) (o := 0) rfl (by kernel_rfl)) ?_
              obtain ⟨x48, hx48⟩ : ∃ x, (es36)[(es36.length - 1)]? = some x := ⟨_, List.getElem?_eq_getElem (by first | omega | (simp only [List.length_append, List.length_map, List.length_cons, List.length_nil, List.length_take, List.length_drop, List.length_set] <;> omega) | (simp <;> omega))⟩
              have hxl_x48 := (hxe36 x48 (List.mem_of_getElem? hx48)).2
              refine o_held (i := 21) [22, 23, 24, 25, 26] (fun j w => ⟨(fun j w => ⟨(fun _ _ => trivial) j w, fun _ h => h⟩) j w, fun _ h => h⟩) rfl rfl (by kernel_rfl) (goes1 rfl rfl hg47b) (QOk.then QOk.body) (q_load1 rfl (by kernel_rfl) (SlG.cell (hxs36.mono (hS45.fz (i := 3) rfl)) (Gle.refl _) (row_at hx48 (c := en) (m := 2) (fun _ => rfl) (j := 0) rfl))) ?_
              refine o_held (i := 22) [23, 24, 25, 26] (fun j w => ⟨(fun j w => ⟨(fun j w => ⟨(fun _ _ => trivial) j w, fun _ h => h⟩) j w, fun _ h => h⟩) j w, fun _ h => h⟩) rfl rfl (by kernel_rfl) (goes1 rfl rfl hg47b) (QOk.then QOk.body) (q_convBS (l := x48.kb) rfl ((hxe36 x48 (List.mem_of_getElem? hx48)).1.1.mono (hS45.fz (i := 3) rfl)) (by first | omega | (simp only [List.length_append, List.length_map, List.length_cons, List.length_nil, List.length_take, List.length_drop, List.length_set] <;> omega)) (by kernel_rfl) (by kernel_rfl)) ?_
              refine o_pure (i := 23) (fun j w => ⟨(fun j w => ⟨(fun j w => ⟨(fun j w => ⟨(fun _ _ => trivial) j w, fun _ h => h⟩) j w, fun _ h => h⟩) j w, fun _ h => h⟩) j w, fun _ h => h⟩) rfl rfl (by kernel_rfl) (goes1 rfl rfl hg47b) (QOk.then QOk.body) (fun w => q_str_eql (l := c39.kb) (m := x48.kb) rfl rfl hlb39.1 (hxe36 x48 (List.mem_of_getElem? hx48)).1.2.1) ?_
              refine o_pure (i := 24) (fun j w => ⟨(fun j w => ⟨(fun j w => ⟨(fun j w => ⟨(fun _ _ => trivial) j w, fun _ h => h⟩) j w, fun _ h => h⟩) j w, fun _ h => h⟩) j w, fun _ h => h⟩) rfl rfl (by kernel_rfl) (goes1 rfl rfl (by rw [his2]; simp only [beq_iff_eq, decide_eq_decide]; omega)) (QOk.then QOk.body) (fun w => q_pickF rfl hg47b rfl) ?_
              refine o_pure (i := 25) (fun j w => ⟨(fun j w => ⟨(fun j w => ⟨(fun j w => ⟨(fun _ _ => trivial) j w, fun _ h => h⟩) j w, fun _ h => h⟩) j w, fun _ h => h⟩) j w, fun _ h => h⟩) rfl rfl (by kernel_rfl) (goes0 rfl) (QOk.then QOk.body) (fun w => q_pickT rfl (by rw [his2]; simp only [beq_iff_eq, decide_eq_decide]; omega) rfl) ?_
              refine o_pure (i := 26) (fun j w => ⟨(fun j w => ⟨(fun j w => ⟨(fun j w => ⟨(fun _ _ => trivial) j w, fun _ h => h⟩) j w, fun _ h => h⟩) j w, fun _ h => h⟩) j w, fun _ h => h⟩) rfl rfl (by kernel_rfl) (goes0 rfl) (QOk.then QOk.body) (fun w => q_assignB rfl) ?_
              refine o_done (by kernel_rfl) ?_
              refine hK43 _ _ ?_
              refine wp_ret ?_
              refine c_ret1 rfl rfl ?_
              exact ⟨_, rfl, congrArg Value.bool (decide_eq_true (last_eq hl39 hlo2 hx48).1), hS45.drop⟩
          ·
            have hc34b := hc34
            try simp only [decide_eq_true_eq, decide_eq_false_iff_not, Bool.not_eq_true', Bool.not_eq_false', Bool.and_eq_true, Bool.or_eq_true, Int.not_lt, Int.not_le, ne_eq, Decidable.not_not] at hc34
            have hist : is25 = true := by first | exact hc34 | simpa using hc34
            have hpos : 0 < es22.length := last_len (by rw [← his]; exact hist)
            refine wp_skip ?_
            refine hK32 _ _ ?_
            refine wp_seq_k (fun K49 hK49 => ?_)
            refine wp_region_lit ?_
            refine l_q rfl rfl (q_moveS rfl) ?_
            refine l_q rfl rfl (q_moveS rfl) ?_
            refine l_q rfl rfl (q_lenSl (e := 41) rfl (by kernel_rfl)) ?_
            refine l_q rfl rfl (q_subx rfl rfl (by first | decide | omega) (by first | decide | omega)) ?_
            refine l_q rfl rfl (q_ixG (e := 41) (m := 2) (j := (es22.length - 1)) rfl rfl (by kernel_rfl) (by kernel_rfl) (by first | rfl | omega) (by omega) hxs22 (by rw [rows_len (c := en) (m := 2) (fun _ => rfl)]; first | omega | (simp only [List.length_append, List.length_map, List.length_cons, List.length_nil, List.length_take, List.length_drop, List.length_set] <;> omega))) ?_
            obtain ⟨x50, hx50⟩ : ∃ x, (es22)[(es22.length - 1)]? = some x := ⟨_, List.getElem?_eq_getElem (by first | omega | (simp only [List.length_append, List.length_map, List.length_cons, List.length_nil, List.length_take, List.length_drop, List.length_set] <;> omega) | (simp <;> omega))⟩
            have hxl_x50 := (hxe22 x50 (List.mem_of_getElem? hx50)).2
            refine l_q rfl rfl (q_loadGA (m := 2) rfl (by kernel_rfl) (by kernel_rfl) (hxs22.mono (hS28.fz (i := 3) rfl)) (row_take hx50 (c := en) (m := 2) (fun _ => rfl)) rfl (by decide)) ?_
            have hle := last_eq hl25 hlo hx50
            refine l_e rfl (fun K hK => ?_)
            refine e_alloc (zv := .agg #[.slice none 0 0, .slice none 0 0]) hS28 (by kernel_rfl) (fun b51 w51 (hS51 : St _ _ [.blk b51 (.cells #[.slice none 0 0, .slice none 0 0] 41), .blk b27 (.cells #[.slice c25.ka c25.kb.length c25.kc, .slice c25.ra c25.rb.length c25.rc] 41), .ow 5 1 c25.ka c25.kb.length c25.kc (bv c25.kb), .ow 5 1 c25.ra c25.rb.length c25.rc (bv c25.rb), .fz gx22, tb k12 ad cap ps, .fz g12] _) => ?_)
            clear hS28
            refine hK _ _ ?_; clear hK K
            refine l_e rfl (fun K hK => ?_)
            refine e_storeA hS51 rfl rfl (by kernel_rfl) (by repeat' (first | exact trivial | refine ⟨by first | rfl | assumption | exact one_if (by assumption), ?_⟩)) (i := 0) rfl rfl (fun w52 (hS52 : St _ _ [.blk b51 (.cells #[.slice x50.ka x50.kb.length x50.kc, .slice x50.ra x50.rb.length x50.rc] 41), .blk b27 (.cells #[.slice c25.ka c25.kb.length c25.kc, .slice c25.ra c25.rb.length c25.rc] 41), .ow 5 1 c25.ka c25.kb.length c25.kc (bv c25.kb), .ow 5 1 c25.ra c25.rb.length c25.rc (bv c25.rb), .fz gx22, tb k12 ad cap ps, .fz g12] _) => ?_)
            clear hS51
            refine hK _ _ ?_; clear hK K
            refine l_nil ?_
            refine hK49 _ _ ?_
            refine wp_seq_k (fun K53 hK53 => ?_)
            refine wp_seq_k (fun K54 hK54 => ?_)
            refine wp_region_lit ?_
            refine l_q rfl rfl (q_fieldAddr (ft := 23) (o := 0) rfl (by kernel_rfl)) ?_
            refine l_q rfl rfl (q_load1 rfl (by kernel_rfl) (hS52.cell (i := 1) rfl rfl)) ?_
            refine l_q rfl rfl (q_convBS (l := c25.kb) rfl (hS52.owG (i := 2) rfl) (by first | omega | (simp only [List.length_append, List.length_map, List.length_cons, List.length_nil, List.length_take, List.length_drop, List.length_set] <;> omega)) (by kernel_rfl) (by kernel_rfl)) ?_
            refine l_q rfl rfl (q_fieldAddr (ft := 23) (o := 0) rfl (by kernel_rfl)) ?_
            refine l_q rfl rfl (q_load1 rfl (by kernel_rfl) (hS52.cell (i := 0) rfl rfl)) ?_
            refine l_q rfl rfl (q_convBS (l := x50.kb) rfl ((hxe22 x50 (List.mem_of_getElem? hx50)).1.1.mono (hS52.fz (i := 4) rfl)) (by first | omega | (simp only [List.length_append, List.length_map, List.length_cons, List.length_nil, List.length_take, List.length_drop, List.length_set] <;> omega)) (by kernel_rfl) (by kernel_rfl)) ?_
            refine l_q rfl rfl (q_str_neq (l := c25.kb) (m := x50.kb) rfl rfl hlb25.1 (hxe22 x50 (List.mem_of_getElem? hx50)).1.2.1) ?_
            refine l_q rfl rfl (q_moveB rfl) ?_
            refine l_on rfl rfl (by rw [hle.1]; simp) ?_
            refine l_q rfl rfl (q_fieldAddr (ft := 23) (o := 1) rfl (by kernel_rfl)) ?_
            refine l_on rfl rfl (by rw [hle.1]; simp) ?_
            refine l_q rfl rfl (q_load1 rfl (by kernel_rfl) (hS52.cell (i := 1) rfl rfl)) ?_
            refine l_on rfl rfl (by rw [hle.1]; simp) ?_
            refine l_q rfl rfl (q_convBS (l := c25.rb) rfl (hS52.owG (i := 3) rfl) (by first | omega | (simp only [List.length_append, List.length_map, List.length_cons, List.length_nil, List.length_take, List.length_drop, List.length_set] <;> omega)) (by kernel_rfl) (by kernel_rfl)) ?_
            refine l_on rfl rfl (by rw [hle.1]; simp) ?_
            refine l_q rfl rfl (q_fieldAddr (ft := 23) (o := 1) rfl (by kernel_rfl)) ?_
            refine l_on rfl rfl (by rw [hle.1]; simp) ?_
            refine l_q rfl rfl (q_load1 rfl (by kernel_rfl) (hS52.cell (i := 0) rfl rfl)) ?_
            refine l_on rfl rfl (by rw [hle.1]; simp) ?_
            refine l_q rfl rfl (q_convBS (l := x50.rb) rfl ((hxe22 x50 (List.mem_of_getElem? hx50)).1.2.2.1.mono (hS52.fz (i := 4) rfl)) (by first | omega | (simp only [List.length_append, List.length_map, List.length_cons, List.length_nil, List.length_take, List.length_drop, List.length_set] <;> omega)) (by kernel_rfl) (by kernel_rfl)) ?_
            refine l_on rfl rfl (by rw [hle.1]; simp) ?_
            refine l_q rfl rfl (q_str_neq (l := c25.rb) (m := x50.rb) rfl rfl hlb25.2.1 (hxe22 x50 (List.mem_of_getElem? hx50)).1.2.2.2) ?_
            refine l_q rfl rfl (q_pickF rfl (by rw [hle.1]; simp) rfl) ?_
            refine l_nil ?_
            refine hK54 _ _ ?_
            refine c_condF rfl (by rw [hle.2.1]; simp) ?_
            refine wp_skip ?_
            refine hK53 _ _ ?_
            refine wp_seq_k (fun K57 hK57 => ?_)
            refine wp_region_lit ?_
            refine l_q rfl rfl (q_moveP rfl) ?_
            refine l_q rfl rfl (q_fieldAddr (ft := 23) (o := 0) rfl (by kernel_rfl)) ?_
            refine l_q rfl rfl (q_load1 rfl (by kernel_rfl) (hS52.cell (i := 1) rfl rfl)) ?_
            refine l_e rfl (fun K hK => ?_)
            have hgo : (getA (ab ps) c25.kb).isSome = true := by rw [hle.1, show getA (ab ps) x50.kb = some x50.rb from get_mem hsl (c := x50.kv) (List.mem_filter.1 (hve ▸ hle.2.2)).1]; rfl
            have hS59 := hS52.fr6; clear hS52
            have hS60 := hS59.fr6; clear hS59
            obtain ⟨g61, hg61, hG61⟩ := St.rogO (Γ1 := [_, _]) (i := 2) hS60 rfl
            refine e_call (by kernel_rfl) (drop_ok k12 _ _ ps _ hTl (by first | omega | (simp only [List.length_append, List.length_map, List.length_cons, List.length_nil, List.length_take, List.length_drop, List.length_set] <;> omega)) c25.kb hlb25.1 (by first | omega | (simp only [List.length_append, List.length_map, List.length_cons, List.length_nil, List.length_take, List.length_drop, List.length_set] <;> omega)) c25.kb.length (by first | omega | (simp only [List.length_append, List.length_map, List.length_cons, List.length_nil, List.length_take, List.length_drop, List.length_set] <;> omega)) _ _ _ hG61 _ hg61 (St.begin (Γ := [_, _]) hS60)) rfl (after_M (Γ1 := [_, _]) hS60 (fun v58 G58 w58 hv58 hS58 => ?_))
            clear hS60
            obtain ⟨ad58, cp58, ps58, oa58, on58, oc58, rfl, rfl, hT58, hab58, hold58⟩ := hv58
            have hS62 : St _ _ [tb k12 ad58 cp58 ps58, .fz g12, .blk b51 (.cells #[.slice x50.ka x50.kb.length x50.kc, .slice x50.ra x50.rb.length x50.rc] 41), .blk b27 (.cells #[.slice c25.ka c25.kb.length c25.kc, .slice c25.ra c25.rb.length c25.rc] 41), .ow 5 1 c25.ka c25.kb.length c25.kc (bv c25.kb), .ow 5 1 c25.ra c25.rb.length c25.rc (bv c25.rb), .fz gx22] _ := hS58; clear hS58
            have hfl58 := flat_drop hab58
            have hon58 := hold58.2.2.2
            have hoe58 := hold58.1
            refine hK _ _ ?_; clear hK K
            refine l_q rfl rfl (q_move rfl) ?_
            refine l_q rfl rfl (q_extract rfl rfl) ?_
            refine l_q rfl rfl (q_extract rfl rfl) ?_
            refine l_q rfl rfl (q_assignS rfl) ?_
            refine l_q rfl rfl (q_assignB rfl) ?_
            refine l_nil ?_
            refine hK57 _ _ ?_
            refine wp_seq_k (fun K63 hK63 => ?_)
            refine wp_region_lit ?_
            refine l_q rfl rfl (q_moveB rfl) ?_
            refine l_q rfl rfl (q_not rfl) ?_
            refine l_nil ?_
            refine hK63 _ _ ?_
            refine c_condF rfl (by rw [show _ = _ from hgo]; rfl) ?_
            refine wp_skip ?_
            refine hK20 _ _ ?_
            refine wp_region_lit ?_
            refine l_q rfl rfl (q_moveI rfl) ?_
            refine l_q rfl rfl (q_addx rfl rfl (by first | decide | omega) (by first | decide | omega)) ?_
            refine l_q rfl rfl (q_assignI rfl) ?_
            refine l_nil ?_
            have hS65 : St _ _ [tb k12 ad58 cp58 ps58, .fz g12] _ := hS62.only 2; clear hS62
            refine hK16 _ _ (came (⟨(i + 1), ad58, cp58, ps58⟩) (by repeat' (first | exact Agree.refl _ _ | refine Agree.up ?_ rfl | refine Agree.hav2 ?_ rfl | refine Agree.ups2 ?_ rfl)) (by repeat' (first | exact trivial | refine ⟨by first | rfl | exact int_succ _ | assumption, ?_⟩)) ?_)
            exact ⟨⟨hS65, (by show i + 1 ≤ 150; omega), hT58, (by show (flat ps58).length ≤ 150; omega)⟩, by (show 150 - (i + 1) < 150 - i); omega⟩
        ·
          have hc19b := hc19
          try simp only [decide_eq_true_eq, decide_eq_false_iff_not, Bool.not_eq_true', Bool.not_eq_false', Bool.and_eq_true, Bool.or_eq_true, Int.not_lt, Int.not_le, ne_eq, Decidable.not_not] at hc19
          refine wp_exit ?_
          refine hK14 _ _ ?_
          refine wp_seq_k (fun K66 hK66 => ?_)
          refine wp_region_lit ?_
          refine l_q rfl rfl (q_moveP rfl) ?_
          refine l_e rfl (fun K hK => ?_)
          refine e_call (by kernel_rfl) (range_ok k12 _ _ ps [] [] Bytes.nil Bytes.nil (by first | omega | (simp only [List.length_append, List.length_map, List.length_cons, List.length_nil, List.length_take, List.length_drop, List.length_set] <;> omega)) (by first | omega | (simp only [List.length_append, List.length_map, List.length_cons, List.length_nil, List.length_take, List.length_drop, List.length_set] <;> omega)) 0 0 (by first | omega | (simp only [List.length_append, List.length_map, List.length_cons, List.length_nil, List.length_take, List.length_drop, List.length_set] <;> omega)) (by first | omega | (simp only [List.length_append, List.length_map, List.length_cons, List.length_nil, List.length_take, List.length_drop, List.length_set] <;> omega)) (150 : Int) (by first | decide | omega) (by first | decide | omega) _ _ _ _ (by first | omega | (simp only [List.length_append, List.length_map, List.length_cons, List.length_nil, List.length_take, List.length_drop, List.length_set] <;> omega)) _ (hS16.tr (i := 0) (j := 1) rfl rfl hTl) SlG.nil SlG.nil) rfl (after_N hS16 (fun v67 G67 w67 hv67 hS67 => ?_))
          clear hS16
          obtain ⟨ra67, rc67, es67, rfl, rfl, heq67⟩ := hv67
          have hS68 : St _ _ [.ow 41 2 ra67 es67.length rc67 (List.flatMap en es67), .pk (epk es67), tb k12 ad cap ps, .fz g12] _ := hS67; clear hS67
          have hfit67 := range_fit hTl heq67
          have hel67 : es67.length ≤ (flat ps).length := range_len heq67
          obtain ⟨gx67, hxs67, hxe67, hS67x⟩ := hS68.rngFz hfit67; clear hS68
          refine hK _ _ ?_; clear hK K
          have hve := heq67.trans (rangeB_all (by rw [ab_len]; exact hfu))
          refine l_q rfl rfl (q_assignS rfl) ?_
          refine l_nil ?_
          refine hK66 _ _ ?_
          refine wp_seq_k (fun K69 hK69 => ?_)
          refine wp_region_lit ?_
          refine l_q rfl rfl (q_moveP rfl) ?_
          refine l_e rfl (fun K hK => ?_)
          refine e_call (by kernel_rfl) (last_ok k12 _ _ ps [] Bytes.nil (by first | omega | (simp only [List.length_append, List.length_map, List.length_cons, List.length_nil, List.length_take, List.length_drop, List.length_set] <;> omega)) 0 (by first | omega | (simp only [List.length_append, List.length_map, List.length_cons, List.length_nil, List.length_take, List.length_drop, List.length_set] <;> omega)) _ _ (by first | omega | (simp only [List.length_append, List.length_map, List.length_cons, List.length_nil, List.length_take, List.length_drop, List.length_set] <;> omega)) _ (hS67x.tr (i := 1) (j := 2) rfl rfl hTl) SlG.nil) rfl (after_N hS67x (fun v70 G70 w70 hv70 hS70 => ?_))
          clear hS67x
          obtain ⟨c70, is70, rfl, hl70, rfl⟩ := hv70
          have hS71 : St _ _ [.ow 5 1 c70.ka c70.kb.length c70.kc (bv c70.kb), .ow 5 1 c70.ra c70.rb.length c70.rc (bv c70.rb), .fz gx67, tb k12 ad cap ps, .fz g12] _ := hS70; clear hS70
          have hlb70 := hl70.fit hTl
          have hlk70 := hlb70.2.2.1
          have hlr70 := hlb70.2.2.2
          have hlo2 : lastB (ab ps) [] = (es67.map En.kv).getLast? := by rw [hve]; exact lastB_nil
          have his2 := last_is hl70 hlo2
          refine hK _ _ ?_; clear hK K
          refine l_q rfl rfl (q_move rfl) ?_
          refine l_q rfl rfl (q_extract rfl rfl) ?_
          refine l_q rfl rfl (q_extract rfl rfl) ?_
          refine l_e rfl (fun K hK => ?_)
          refine e_alloc (zv := .agg #[.slice none 0 0, .slice none 0 0]) hS71 (by kernel_rfl) (fun b72 w72 (hS72 : St _ _ [.blk b72 (.cells #[.slice none 0 0, .slice none 0 0] 41), .ow 5 1 c70.ka c70.kb.length c70.kc (bv c70.kb), .ow 5 1 c70.ra c70.rb.length c70.rc (bv c70.rb), .fz gx67, tb k12 ad cap ps, .fz g12] _) => ?_)
          clear hS71
          refine hK _ _ ?_; clear hK K
          refine l_e rfl (fun K hK => ?_)
          refine e_storeA hS72 rfl rfl (by kernel_rfl) (by repeat' (first | exact trivial | refine ⟨by first | rfl | assumption | exact one_if (by assumption), ?_⟩)) (i := 0) rfl rfl (fun w73 (hS73 : St _ _ [.blk b72 (.cells #[.slice c70.ka c70.kb.length c70.kc, .slice c70.ra c70.rb.length c70.rc] 41), .ow 5 1 c70.ka c70.kb.length c70.kc (bv c70.kb), .ow 5 1 c70.ra c70.rb.length c70.rc (bv c70.rb), .fz gx67, tb k12 ad cap ps, .fz g12] _) => ?_)
          clear hS72
          refine hK _ _ ?_; clear hK K
          refine l_q rfl rfl (q_assignB rfl) ?_
          refine l_nil ?_
          refine hK69 _ _ ?_
          refine wp_seq_k (fun K74 hK74 => ?_)
          refine r_any (by kernel_rfl) hS73 (fun w75 hS75 => ?_)
          clear hS73
          refine o_eff (i := 0) (by kernel_rfl) rfl (goes0 rfl) (fun K hK => ?_)
          refine e_call (by kernel_rfl) (alive8_ok _) rfl (after_R hS75 (fun v76 w76 hv76 hS76 => ?_))
          clear hS75
          obtain rfl := hv76
          refine hK _ _ trivial ?_; clear hK K
          refine o_pure (i := 1) (fun _ _ => trivial) rfl rfl (by kernel_rfl) (goes0 rfl) (QOk.then QOk.body) (fun w => q_moveB rfl) ?_
          refine o_pure (i := 2) (fun _ _ => trivial) rfl rfl (by kernel_rfl) (goes1 rfl rfl rfl) (QOk.then QOk.body) (fun w => q_moveB rfl) ?_
          refine o_pure (i := 3) (fun _ _ => trivial) rfl rfl (by kernel_rfl) (goes1 rfl rfl rfl) (QOk.then QOk.body) (fun w => q_moveS rfl) ?_
          refine o_pure (i := 4) (fun _ _ => trivial) rfl rfl (by kernel_rfl) (goes1 rfl rfl rfl) (QOk.then QOk.body) (fun w => q_lenSl (e := 41) rfl (by kernel_rfl)) ?_
          refine o_pure (i := 5) (fun _ _ => trivial) rfl rfl (by kernel_rfl) (goes1 rfl rfl rfl) (QOk.then QOk.body) (fun w => q_gtr rfl rfl) ?_
          refine o_pure (i := 6) (fun _ _ => trivial) rfl rfl (by kernel_rfl) (goes1 rfl rfl rfl) (QOk.then QOk.body) (fun w => q_bool_eql rfl rfl (by kernel_rfl)) ?_
          refine o_pure (i := 7) (fun _ _ => trivial) rfl rfl (by kernel_rfl) (goes0 rfl) (QOk.then QOk.body) (fun w => q_pickT rfl rfl rfl) ?_
          refine o_pure (i := 8) (fun _ _ => trivial) rfl rfl (by kernel_rfl) (goes0 rfl) (QOk.then QOk.body) (fun w => q_moveB rfl) ?_
          refine o_pure (i := 9) (fun _ _ => trivial) rfl rfl (by kernel_rfl) (goes1 rfl rfl (by rw [his2]; simp only [beq_iff_eq, decide_eq_decide]; omega)) (QOk.then QOk.body) (fun w => q_moveB rfl) ?_
          refine o_pure (i := 10) (fun _ _ => trivial) rfl rfl (by kernel_rfl) (goes1 rfl rfl (by rw [his2]; simp only [beq_iff_eq, decide_eq_decide]; omega)) (QOk.then QOk.body) (fun w => q_not rfl) ?_
          refine o_pure (i := 11) (fun _ _ => trivial) rfl rfl (by kernel_rfl) (goes1 rfl rfl (by rw [his2]; simp only [beq_iff_eq, decide_eq_decide]; omega)) (QOk.then QOk.body) (fun w => q_moveB rfl) ?_
          refine g_splitO (t := 96) rfl (fun hg78 => ?_) (fun hg78 => ?_)
          ·
            have hg78b := hg78
            try simp only [decide_eq_true_eq, decide_eq_false_iff_not, Bool.not_eq_true', Bool.not_eq_false', Bool.and_eq_true, Bool.or_eq_true, Int.not_lt, Int.not_le, ne_eq, Decidable.not_not] at hg78
            refine o_off (i := 12) (fun _ _ => trivial) rfl rfl (by kernel_rfl) rfl rfl hg78b (QOk.then QOk.body) ?_
            refine o_off (i := 13) (fun _ _ => trivial) rfl rfl (by kernel_rfl) rfl rfl hg78b (QOk.then QOk.body) ?_
            refine o_off (i := 14) (fun _ _ => trivial) rfl rfl (by kernel_rfl) rfl rfl hg78b (QOk.then QOk.body) ?_
            refine o_off (i := 15) (fun _ _ => trivial) rfl rfl (by kernel_rfl) rfl rfl hg78b (QOk.then QOk.body) ?_
            refine o_off (i := 16) (fun _ _ => trivial) rfl rfl (by kernel_rfl) rfl rfl hg78b (QOk.then QOk.body) ?_
            refine o_off (i := 17) (fun _ _ => trivial) rfl rfl (by kernel_rfl) rfl rfl hg78b (QOk.then QOk.body) ?_
            refine o_off (i := 18) (fun _ _ => trivial) rfl rfl (by kernel_rfl) rfl rfl hg78b (QOk.then QOk.body) ?_
            refine o_off (i := 19) (fun _ _ => trivial) rfl rfl (by kernel_rfl) rfl rfl hg78b (QOk.then QOk.body) ?_
            refine o_off (i := 20) (fun _ _ => trivial) rfl rfl (by kernel_rfl) rfl rfl hg78b (QOk.then QOk.body) ?_
            refine o_off (i := 21) (fun _ _ => trivial) rfl rfl (by kernel_rfl) rfl rfl hg78b (QOk.then QOk.body) ?_
            refine o_off (i := 22) (fun _ _ => trivial) rfl rfl (by kernel_rfl) rfl rfl hg78b (QOk.then QOk.body) ?_
            refine o_off (i := 23) (fun _ _ => trivial) rfl rfl (by kernel_rfl) rfl rfl hg78b (QOk.then QOk.body) ?_
            refine o_pure (i := 24) (fun _ _ => trivial) rfl rfl (by kernel_rfl) (goes1 rfl rfl (by rw [his2]; simp only [beq_iff_eq, decide_eq_decide]; omega)) (QOk.then QOk.body) (fun w => q_pickT rfl hg78b rfl) ?_
            refine o_pure (i := 25) (fun _ _ => trivial) rfl rfl (by kernel_rfl) (goes0 rfl) (QOk.then QOk.body) (fun w => q_pickT rfl (by rw [his2]; simp only [beq_iff_eq, decide_eq_decide]; omega) rfl) ?_
            refine o_pure (i := 26) (fun _ _ => trivial) rfl rfl (by kernel_rfl) (goes0 rfl) (QOk.then QOk.body) (fun w => q_assignB rfl) ?_
            refine o_done (by kernel_rfl) ?_
            refine hK74 _ _ ?_
            refine wp_ret ?_
            refine c_ret1 rfl rfl ?_
            exact ⟨_, rfl, rfl, hS76.drop⟩
          ·
            have hg78b := hg78
            try simp only [decide_eq_true_eq, decide_eq_false_iff_not, Bool.not_eq_true', Bool.not_eq_false', Bool.and_eq_true, Bool.or_eq_true, Int.not_lt, Int.not_le, ne_eq, Decidable.not_not] at hg78
            have hist2 : is70 = true := by first | exact hg78 | simpa using hg78
            have hpos2 : 0 < es67.length := last_len (by rw [← his2]; exact hist2)
            refine o_pure (i := 12) (fun _ _ => trivial) rfl rfl (by kernel_rfl) (goes1 rfl rfl hg78b) (QOk.then QOk.body) (fun w => q_fieldAddr (ft := 23) (o := 0) rfl (by kernel_rfl)) ?_
            refine o_held (i := 13) [14, 23, 24, 25, 26] (fun _ _ => trivial) rfl rfl (by kernel_rfl) (goes1 rfl rfl hg78b) (QOk.then QOk.body) (q_load1 rfl (by kernel_rfl) (hS76.cell (i := 0) rfl rfl)) ?_
            refine o_held (i := 14) [23, 24, 25, 26] (fun j w => ⟨(fun _ _ => trivial) j w, fun _ h => h⟩) rfl rfl (by kernel_rfl) (goes1 rfl rfl hg78b) (QOk.then QOk.body) (q_convBS (l := c70.kb) rfl (hS76.owG (i := 1) rfl) (by first | omega | (simp only [List.length_append, List.length_map, List.length_cons, List.length_nil, List.length_take, List.length_drop, List.length_set] <;> omega)) (by kernel_rfl) (by kernel_rfl)) ?_
            refine o_pure (i := 15) (fun j w => ⟨(fun j w => ⟨(fun _ _ => trivial) j w, fun _ h => h⟩) j w, fun _ h => h⟩) rfl rfl (by kernel_rfl) (goes1 rfl rfl hg78b) (QOk.then QOk.body) (fun w => q_moveS rfl) ?_
            refine o_pure (i := 16) (fun j w => ⟨(fun j w => ⟨(fun _ _ => trivial) j w, fun _ h => h⟩) j w, fun _ h => h⟩) rfl rfl (by kernel_rfl) (goes1 rfl rfl hg78b) (QOk.then QOk.body) (fun w => q_moveS rfl) ?_
            refine o_pure (i := 17) (fun j w => ⟨(fun j w => ⟨(fun _ _ => trivial) j w, fun _ h => h⟩) j w, fun _ h => h⟩) rfl rfl (by kernel_rfl) (goes1 rfl rfl hg78b) (QOk.then QOk.body) (fun w => q_lenSl (e := 41) rfl (by kernel_rfl)) ?_
            refine o_pure (i := 18) (fun j w => ⟨(fun j w => ⟨(fun _ _ => trivial) j w, fun _ h => h⟩) j w, fun _ h => h⟩) rfl rfl (by kernel_rfl) (goes1 rfl rfl hg78b) (QOk.then QOk.body) (fun w => q_subx rfl rfl (by first | decide | omega) (by first | decide | omega)) ?_
            refine o_pure (i := 19) (fun j w => ⟨(fun j w => ⟨(fun _ _ => trivial) j w, fun _ h => h⟩) j w, fun _ h => h⟩) rfl rfl (by kernel_rfl) (goes1 rfl rfl hg78b) (QOk.then QOk.body) (fun w => q_ixG (e := 41) (m := 2) (j := (es67.length - 1)) rfl rfl (by kernel_rfl) (by kernel_rfl) (by first | rfl | omega) (by omega) hxs67 (by rw [rows_len (c := en) (m := 2) (fun _ => rfl)]; first | omega | (simp only [List.length_append, List.length_map, List.length_cons, List.length_nil, List.length_take, List.length_drop, List.length_set] <;> omega))) ?_
            refine o_pure (i := 20) (fun j w => ⟨(fun j w => ⟨(fun _ _ => trivial) j w, fun _ h => h⟩) j w, fun _ h => h⟩) rfl rfl (by kernel_rfl) (goes1 rfl rfl hg78b) (QOk.then QOk.body) (fun w => q_fieldG (ft := 23) (o := 0) rfl (by kernel_rfl)) ?_
            obtain ⟨x79, hx79⟩ : ∃ x, (es67)[(es67.length - 1)]? = some x := ⟨_, List.getElem?_eq_getElem (by first | omega | (simp only [List.length_append, List.length_map, List.length_cons, List.length_nil, List.length_take, List.length_drop, List.length_set] <;> omega) | (simp <;> omega))⟩
            have hxl_x79 := (hxe67 x79 (List.mem_of_getElem? hx79)).2
            refine o_held (i := 21) [22, 23, 24, 25, 26] (fun j w => ⟨(fun j w => ⟨(fun _ _ => trivial) j w, fun _ h => h⟩) j w, fun _ h => h⟩) rfl rfl (by kernel_rfl) (goes1 rfl rfl hg78b) (QOk.then QOk.body) (q_load1 rfl (by kernel_rfl) (SlG.cell (hxs67.mono (hS76.fz (i := 3) rfl)) (Gle.refl _) (row_at hx79 (c := en) (m := 2) (fun _ => rfl) (j := 0) rfl))) ?_
            refine o_held (i := 22) [23, 24, 25, 26] (fun j w => ⟨(fun j w => ⟨(fun j w => ⟨(fun _ _ => trivial) j w, fun _ h => h⟩) j w, fun _ h => h⟩) j w, fun _ h => h⟩) rfl rfl (by kernel_rfl) (goes1 rfl rfl hg78b) (QOk.then QOk.body) (q_convBS (l := x79.kb) rfl ((hxe67 x79 (List.mem_of_getElem? hx79)).1.1.mono (hS76.fz (i := 3) rfl)) (by first | omega | (simp only [List.length_append, List.length_map, List.length_cons, List.length_nil, List.length_take, List.length_drop, List.length_set] <;> omega)) (by kernel_rfl) (by kernel_rfl)) ?_
            refine o_pure (i := 23) (fun j w => ⟨(fun j w => ⟨(fun j w => ⟨(fun j w => ⟨(fun _ _ => trivial) j w, fun _ h => h⟩) j w, fun _ h => h⟩) j w, fun _ h => h⟩) j w, fun _ h => h⟩) rfl rfl (by kernel_rfl) (goes1 rfl rfl hg78b) (QOk.then QOk.body) (fun w => q_str_eql (l := c70.kb) (m := x79.kb) rfl rfl hlb70.1 (hxe67 x79 (List.mem_of_getElem? hx79)).1.2.1) ?_
            refine o_pure (i := 24) (fun j w => ⟨(fun j w => ⟨(fun j w => ⟨(fun j w => ⟨(fun _ _ => trivial) j w, fun _ h => h⟩) j w, fun _ h => h⟩) j w, fun _ h => h⟩) j w, fun _ h => h⟩) rfl rfl (by kernel_rfl) (goes1 rfl rfl (by rw [his2]; simp only [beq_iff_eq, decide_eq_decide]; omega)) (QOk.then QOk.body) (fun w => q_pickF rfl hg78b rfl) ?_
            refine o_pure (i := 25) (fun j w => ⟨(fun j w => ⟨(fun j w => ⟨(fun j w => ⟨(fun _ _ => trivial) j w, fun _ h => h⟩) j w, fun _ h => h⟩) j w, fun _ h => h⟩) j w, fun _ h => h⟩) rfl rfl (by kernel_rfl) (goes0 rfl) (QOk.then QOk.body) (fun w => q_pickT rfl (by rw [his2]; simp only [beq_iff_eq, decide_eq_decide]; omega) rfl) ?_
            refine o_pure (i := 26) (fun j w => ⟨(fun j w => ⟨(fun j w => ⟨(fun j w => ⟨(fun _ _ => trivial) j w, fun _ h => h⟩) j w, fun _ h => h⟩) j w, fun _ h => h⟩) j w, fun _ h => h⟩) rfl rfl (by kernel_rfl) (goes0 rfl) (QOk.then QOk.body) (fun w => q_assignB rfl) ?_
            refine o_done (by kernel_rfl) ?_
            refine hK74 _ _ ?_
            refine wp_ret ?_
            refine c_ret1 rfl rfl ?_
            exact ⟨_, rfl, congrArg Value.bool (decide_eq_true (last_eq hl70 hlo2 hx79).1), hS76.drop⟩

end Go.Proofs.Ytmbbkliekgiolaa
