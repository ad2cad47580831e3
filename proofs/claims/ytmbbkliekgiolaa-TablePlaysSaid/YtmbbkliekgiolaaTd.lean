/- Package table: Drop, Copy; no table. -/
import Derived.Test.YtmbbkliekgiolaaTc
set_option linter.unusedVariables false
set_option linter.unusedSimpArgs false
namespace Go.Proofs.Ytmbbkliekgiolaa
open Go.RowKit
theorem pk_snoc {w0 w : World} {D : Nat → Prop} {Γ : List Ch} {ad : Option Addr} {m cap : Nat} {xs : List Value} {es : List En} {qs : List Pg} (h : St w0 D (.ow 41 2 ad m cap xs :: .pk (qs.map pgc) :: Γ) w) (hm : m = es.length) (hx : xs = List.flatMap en es) : St w0 D (.pk ((qs ++ [Pg.mk ad cap es]).map pgc) :: Γ) w := by
  have h1 : St w0 D (.ow 41 2 ad m cap xs :: .pk (qs.map pgc ++ ([] : List Pg).map pgc) :: Γ) w := by rw [List.map_nil, List.append_nil]; exact h
  have h2 := tb_put h1 hm hx
  rwa [← List.map_append] at h2
theorem flat_es {ps qs : List Pg} (h : qs.map Pg.es = ps.map Pg.es) : flat qs = flat ps ∧ qs.length = ps.length ∧ ((∀ p ∈ ps, 0 < p.es.length ∧ p.es.length ≤ 16) → ∀ p ∈ qs, 0 < p.es.length ∧ p.es.length ≤ 16) := by
  refine ⟨?_, by simpa using congrArg List.length h, fun hf p hp => ?_⟩
  · unfold flat; rw [List.flatMap_def, List.flatMap_def, h]
  · have : p.es ∈ ps.map Pg.es := by rw [← h]; exact List.mem_map.2 ⟨p, hp, rfl⟩
    obtain ⟨q, hq, he⟩ := List.mem_map.1 this
    rw [← he]; exact hf q hq
theorem TOk.copy {g : Gh} {ps qs : List Pg} (h : TOk g ps) (hq : qs.map Pg.es = ps.map Pg.es) : TOk g qs ∧ ab qs = ab ps := by
  obtain ⟨h1, h2, h3⟩ := flat_es hq
  have h4 : ab qs = ab ps := by unfold ab; rw [h1]
  exact ⟨⟨⟨h3 h.pok.few, by rw [h4]; exact h.pok.srt⟩, by rw [h1]; exact h.ent⟩, h4⟩
theorem es_take {ps qs : List Pg} {i : Nat} {p : Pg} {ad : Option Addr} {cap : Nat} (h : qs.map Pg.es = (ps.take i).map Pg.es) (hp : ps[i]? = some p) : (qs ++ [Pg.mk ad cap p.es]).map Pg.es = (ps.take (i + 1)).map Pg.es := by
  rw [List.take_add_one, hp, List.map_append, List.map_append, h]; rfl
attribute [local irreducible] Oper.wp Sem.run Code.wp wpList wpAnyO callFunc execOp Calls
attribute [local irreducible] cmpL putA getA dropA lastB

set_option maxHeartbeats 4000000 in
set_option maxRecDepth 100000 in
theorem drop_ok (k : Nat) (ad : Option Addr) (cap : Nat) (ps : List Pg) (g : Gh) (hT : TOk g ps) (hsz : (flat ps).length ≤ 90000) (key : List Nat) (hkb : Bytes key) (hkl : key.length ≤ 1000000) (nk : Nat) (hnk : key.length = nk) (ak : Option Addr) (ck : Nat) (gk : Gh) (hKk : SlG gk ak (bv key)) (w : World) (hgk : Rog [tb k ad cap ps, .fz g] w gk) (hS : St w (owns [tb k ad cap ps, .fz g]) [tb k ad cap ps, .fz g] w) : Calls Try.prog 23 #[pV k, .slice ak nk ck] w (Post w [tb k ad cap ps, .fz g] fun v G => ∃ ad' cap' ps' oa on oc, v = .tuple #[.slice oa on oc, .bool (getA (ab ps) key).isSome] ∧ G = [tb k ad' cap' ps', .fz g] ∧ TOk g ps' ∧ ab ps' = dropA (ab ps) key ∧ OldR g (ab ps) key oa on) := by
  subst hnk
  have hpgs := hT.pages
  refine c_enter Try.func23 rfl rfl rfl ?_
  refine wp_seq_k (fun K1 hK1 => ?_)
  refine wp_region_lit ?_
  refine l_q rfl rfl (q_assignS rfl) ?_
  refine l_q rfl rfl (q_assignB rfl) ?_
  refine l_nil ?_
  refine hK1 _ _ ?_
  refine wp_seq_k (fun K2 hK2 => ?_)
  refine wp_seq_k (fun K3 hK3 => ?_)
  refine wp_region_lit ?_
  refine l_q rfl rfl (q_moveP rfl) ?_
  refine l_q rfl rfl (q_peq rfl (by kernel_rfl)) ?_
  refine l_nil ?_
  refine hK3 _ _ ?_
  refine c_condF rfl rfl ?_
  refine wp_skip ?_
  refine hK2 _ _ ?_
  refine wp_seq_k (fun K5 hK5 => ?_)
  refine wp_region_lit ?_
  refine l_q rfl rfl (q_moveP rfl) ?_
  refine l_q rfl rfl (q_moveS rfl) ?_
  refine l_e rfl (fun K hK => ?_)
  have hS7 := tb_open hS; clear hS
  refine e_call (by kernel_rfl) (find_ok k ps key hkb (by first | omega | (simp only [List.length_append, List.length_map, List.length_cons, List.length_nil, List.length_take, List.length_drop, List.length_set] <;> omega)) (by first | omega | (simp only [List.length_append, List.length_map, List.length_cons, List.length_nil, List.length_take, List.length_drop, List.length_set] <;> omega)) _ _ _ _ _ _ (hS7.blk (i := 0) rfl) (hS7.pages (i := 2) rfl (hS7.fz (i := 3) rfl) hT) hT.pok (hS7.owG (i := 1) rfl) (hKk.mono (hgk.le hS7))) rfl (after_R hS7 (fun v6 w6 hv6 hS6 => ?_))
  clear hS7
  obtain ⟨i1, k1, fd1, rfl, hw1⟩ := hv6
  refine hK _ _ ?_; clear hK K
  refine l_q rfl rfl (q_move rfl) ?_
  refine l_q rfl rfl (q_extract rfl rfl) ?_
  refine l_q rfl rfl (q_extract rfl rfl) ?_
  refine l_q rfl rfl (q_extract rfl rfl) ?_
  refine l_q rfl rfl (q_assignI rfl) ?_
  refine l_q rfl rfl (q_assignI rfl) ?_
  refine l_q rfl rfl (q_assignB rfl) ?_
  refine l_nil ?_
  refine hK5 _ _ ?_
  refine wp_seq_k (fun K8 hK8 => ?_)
  refine wp_seq_k (fun K9 hK9 => ?_)
  refine wp_region_lit ?_
  refine l_q rfl rfl (q_moveB rfl) ?_
  refine l_q rfl rfl (q_not rfl) ?_
  refine l_nil ?_
  refine hK9 _ _ ?_
  refine c_cond rfl (fun hc10 => ?_) (fun hc10 => ?_)
  ·
    have hc10b := hc10
    try simp only [decide_eq_true_eq, decide_eq_false_iff_not, Bool.not_eq_true', Bool.not_eq_false', Bool.and_eq_true, Bool.or_eq_true, Int.not_lt, Int.not_le, ne_eq, Decidable.not_not] at hc10
    obtain rfl : fd1 = false := by first | exact hc10 | simpa using hc10
    refine wp_seq_k (fun K11 hK11 => ?_)
    refine wp_region_lit ?_
    refine l_q rfl rfl (q_assignS rfl) ?_
    refine l_q rfl rfl (q_assignB rfl) ?_
    refine l_nil ?_
    refine hK11 _ _ ?_
    refine wp_ret ?_
    refine c_ret2 rfl rfl rfl ?_
    have hS12 : St _ _ [tb k ad cap ps, .fz g] _ := tb_shut (ps := ps) hS6 rfl rfl rfl rfl; clear hS6
    exact ⟨_, _, rfl, ⟨_, _, _, none, 0, 0, by rw [hw1.get_no]; rfl, rfl, hT, hw1.drop_no.symm, OldR.no hw1.get_no⟩, hS12⟩
  ·
    have hc10b := hc10
    try simp only [decide_eq_true_eq, decide_eq_false_iff_not, Bool.not_eq_true', Bool.not_eq_false', Bool.and_eq_true, Bool.or_eq_true, Int.not_lt, Int.not_le, ne_eq, Decidable.not_not] at hc10
    obtain rfl : fd1 = true := by first | exact hc10 | simpa using hc10
    obtain ⟨A, pad, pcap, B, E1, a, E2, rfl, hA, hE1, hak, hcut⟩ := hw1.yes
    have hi2 : (A ++ Pg.mk pad pcap (E1 ++ a :: E2) :: B)[i1]? = some _ := at_mid hA
    have hk2 : (E1 ++ a :: E2)[k1]? = some a := at_mid hE1
    have hlen1 : i1 < (A ++ Pg.mk pad pcap (E1 ++ a :: E2) :: B).length := (List.getElem?_eq_some_iff.1 hi2).1
    have hlen2 : k1 < (E1 ++ a :: E2).length := (List.getElem?_eq_some_iff.1 hk2).1
    have hpE : ∀ x ∈ (E1 ++ a :: E2), EnG g x := fun x hx => (hT.ent x (by rw [flat_mid]; exact List.mem_append_left _ (List.mem_append_right _ hx))).1
    have hpl := hT.pok.few _ (List.mem_append_right _ (.head _))
    dsimp only at hpl
    have hll : (E1 ++ a :: E2).length = (E1 ++ E2).length + 1 := by simp; omega
    have hfl : (flat (A ++ Pg.mk pad pcap (E1 ++ a :: E2) :: B)).length = (flat A).length + ((E1 ++ E2).length + 1) + (flat B).length := by rw [flat_mid, List.length_append, List.length_append, hll]
    have hfl2 : (flat (A ++ Pg.mk pad pcap (E1 ++ E2) :: B)).length = (flat A).length + (E1 ++ E2).length + (flat B).length := by rw [flat_mid, List.length_append, List.length_append]
    have hS13 := hS6.fr2; clear hS6
    have hS14 : St _ _ [.ow 41 2 pad ((E1 ++ a :: E2).length) pcap (List.flatMap en (E1 ++ a :: E2)), .pk (List.map pgc A ++ List.map pgc B), .blk k (.cells #[.slice ad ((A ++ Pg.mk pad pcap (E1 ++ a :: E2) :: B).length) cap, .int .i64 (((flat (A ++ Pg.mk pad pcap (E1 ++ a :: E2) :: B)).length : Nat) : Int)] 107), .ow 111 1 ad (A ++ Pg.mk pad pcap (E1 ++ a :: E2) :: B).length cap (List.flatMap pg (A ++ Pg.mk pad pcap (E1 ++ a :: E2) :: B)), .fz g] _ := tb_take hS13; clear hS13
    have haE := hT.ent a (by rw [flat_mid]; exact List.mem_append_left _ (List.mem_append_right _ (List.mem_append_right _ (.head _))))
    refine wp_skip ?_
    refine hK8 _ _ ?_
    refine wp_seq_k (fun K15 hK15 => ?_)
    refine wp_region_lit ?_
    refine l_q rfl rfl (q_moveP rfl) ?_
    refine l_q rfl rfl (q_nilCheck rfl) ?_
    refine l_q rfl rfl (q_fieldAddr (ft := 105) (o := 0) rfl (by kernel_rfl)) ?_
    refine l_q rfl rfl (q_load1 rfl (by kernel_rfl) (hS14.cell (i := 2) rfl rfl)) ?_
    refine l_q rfl rfl (q_moveI rfl) ?_
    refine l_q rfl rfl (q_ixG (e := 111) (m := 1) (j := i1) rfl rfl (by kernel_rfl) (by kernel_rfl) (by first | rfl | omega) (by omega) (hS14.owG (i := 3) rfl) (by rw [rows_len (c := pg) (m := 1) (fun _ => rfl)]; first | omega | (simp only [List.length_append, List.length_map, List.length_cons, List.length_nil, List.length_take, List.length_drop, List.length_set] <;> omega))) ?_
    refine l_q rfl rfl (q_load1 rfl (by kernel_rfl) (SlG.cell (hS14.owG (i := 3) rfl) (Gle.refl _) (row_at hi2 (c := pg) (m := 1) (fun _ => rfl) (j := 0) rfl))) ?_
    refine l_q rfl rfl (q_moveI rfl) ?_
    refine l_q rfl rfl (q_ixG (e := 41) (m := 2) (j := k1) rfl rfl (by kernel_rfl) (by kernel_rfl) (by first | rfl | omega) (by omega) (hS14.owG (i := 0) rfl) (by rw [rows_len (c := en) (m := 2) (fun _ => rfl)]; first | omega | (simp only [List.length_append, List.length_map, List.length_cons, List.length_nil, List.length_take, List.length_drop, List.length_set] <;> omega))) ?_
    refine l_q rfl rfl (q_fieldG (ft := 23) (o := 1) rfl (by kernel_rfl)) ?_
    refine l_q rfl rfl (q_load1 rfl (by kernel_rfl) (SlG.cell (hS14.owG (i := 0) rfl) (Gle.refl _) (row_at hk2 (c := en) (m := 2) (fun _ => rfl) (j := 1) rfl))) ?_
    refine l_q rfl rfl (q_assignS rfl) ?_
    refine l_nil ?_
    refine hK15 _ _ ?_
    refine wp_seq_k (fun K16 hK16 => ?_)
    refine r_any (by kernel_rfl) hS14 (fun w17 hS17 => ?_)
    clear hS14
    refine o_pure (i := 0) (fun _ _ => trivial) rfl rfl (by kernel_rfl) (goes0 rfl) (QOk.then QOk.body) (fun w => q_moveP rfl) ?_
    refine o_pure (i := 1) (fun _ _ => trivial) rfl rfl (by kernel_rfl) (goes0 rfl) (QOk.then QOk.body) (fun w => q_nilCheck rfl) ?_
    refine o_pure (i := 2) (fun _ _ => trivial) rfl rfl (by kernel_rfl) (goes0 rfl) (QOk.then QOk.body) (fun w => q_fieldAddr (ft := 105) (o := 0) rfl (by kernel_rfl)) ?_
    refine o_held (i := 3) [16, 17] (fun _ _ => trivial) rfl rfl (by kernel_rfl) (goes0 rfl) (QOk.then QOk.body) (q_load1 rfl (by kernel_rfl) (hS17.cell (i := 2) rfl rfl)) ?_
    refine o_pure (i := 4) (fun j w => ⟨(fun _ _ => trivial) j w, fun _ h => h⟩) rfl rfl (by kernel_rfl) (goes0 rfl) (QOk.then QOk.body) (fun w => q_moveI rfl) ?_
    refine o_pure (i := 5) (fun j w => ⟨(fun _ _ => trivial) j w, fun _ h => h⟩) rfl rfl (by kernel_rfl) (goes0 rfl) (QOk.then QOk.body) (fun w => q_moveP rfl) ?_
    refine o_pure (i := 6) (fun j w => ⟨(fun _ _ => trivial) j w, fun _ h => h⟩) rfl rfl (by kernel_rfl) (goes0 rfl) (QOk.then QOk.body) (fun w => q_nilCheck rfl) ?_
    refine o_pure (i := 7) (fun j w => ⟨(fun _ _ => trivial) j w, fun _ h => h⟩) rfl rfl (by kernel_rfl) (goes0 rfl) (QOk.then QOk.body) (fun w => q_fieldAddr (ft := 105) (o := 0) rfl (by kernel_rfl)) ?_
    refine o_held (i := 8) [10, 11, 15, 16, 17] (fun j w => ⟨(fun _ _ => trivial) j w, fun _ h => h⟩) rfl rfl (by kernel_rfl) (goes0 rfl) (QOk.then QOk.body) (q_load1 rfl (by kernel_rfl) (hS17.cell (i := 2) rfl rfl)) ?_
    refine o_pure (i := 9) (fun j w => ⟨(fun j w => ⟨(fun _ _ => trivial) j w, fun _ h => h⟩) j w, fun _ h => h⟩) rfl rfl (by kernel_rfl) (goes0 rfl) (QOk.then QOk.body) (fun w => q_moveI rfl) ?_
    refine o_pure (i := 10) (fun j w => ⟨(fun j w => ⟨(fun _ _ => trivial) j w, fun _ h => h⟩) j w, fun _ h => h⟩) rfl rfl (by kernel_rfl) (goes0 rfl) (QOk.then QOk.body) (fun w => q_ixG (e := 111) (m := 1) (j := i1) rfl rfl (by kernel_rfl) (by kernel_rfl) (by first | rfl | omega) (by omega) (hS17.owG (i := 3) rfl) (by rw [rows_len (c := pg) (m := 1) (fun _ => rfl)]; first | omega | (simp only [List.length_append, List.length_map, List.length_cons, List.length_nil, List.length_take, List.length_drop, List.length_set] <;> omega))) ?_
    refine o_held (i := 11) [15, 16, 17] (fun j w => ⟨(fun j w => ⟨(fun _ _ => trivial) j w, fun _ h => h⟩) j w, fun _ h => h⟩) rfl rfl (by kernel_rfl) (goes0 rfl) (QOk.then QOk.body) (q_load1 rfl (by kernel_rfl) (SlG.cell (hS17.owG (i := 3) rfl) (Gle.refl _) (row_at hi2 (c := pg) (m := 1) (fun _ => rfl) (j := 0) rfl))) ?_
    refine o_pure (i := 12) (fun j w => ⟨(fun j w => ⟨(fun j w => ⟨(fun _ _ => trivial) j w, fun _ h => h⟩) j w, fun _ h => h⟩) j w, fun _ h => h⟩) rfl rfl (by kernel_rfl) (goes0 rfl) (QOk.then QOk.body) (fun w => q_moveI rfl) ?_
    refine o_pure (i := 13) (fun j w => ⟨(fun j w => ⟨(fun j w => ⟨(fun _ _ => trivial) j w, fun _ h => h⟩) j w, fun _ h => h⟩) j w, fun _ h => h⟩) rfl rfl (by kernel_rfl) (goes0 rfl) (QOk.then QOk.body) (fun w => q_moveI rfl) ?_
    refine o_pure (i := 14) (fun j w => ⟨(fun j w => ⟨(fun j w => ⟨(fun _ _ => trivial) j w, fun _ h => h⟩) j w, fun _ h => h⟩) j w, fun _ h => h⟩) rfl rfl (by kernel_rfl) (goes0 rfl) (QOk.then QOk.body) (fun w => q_addx rfl rfl (by first | decide | omega) (by first | decide | omega)) ?_
    refine o_eff (i := 15) (by kernel_rfl) rfl (goes0 rfl) (fun K hK => ?_)
    refine e_call (by kernel_rfl) (delE1 (E1 := E1) (E2 := E2) a rfl hE1 (by first | omega | (simp only [List.length_append, List.length_map, List.length_cons, List.length_nil, List.length_take, List.length_drop, List.length_set] <;> omega)) (St.begin (Γ := [_]) hS17)) rfl (after_M (Γ1 := [_]) hS17 (fun v18 G18 w18 hv18 hS18 => ?_))
    clear hS17
    obtain ⟨rfl, rfl⟩ := hv18
    have hS19 : St _ _ [.ow 41 2 pad ((E1 ++ E2).length) pcap (List.flatMap en (E1 ++ E2)), .pk (List.map pgc A ++ List.map pgc B), .blk k (.cells #[.slice ad ((A ++ Pg.mk pad pcap (E1 ++ a :: E2) :: B).length) cap, .int .i64 (((flat (A ++ Pg.mk pad pcap (E1 ++ a :: E2) :: B)).length : Nat) : Int)] 107), .ow 111 1 ad (A ++ Pg.mk pad pcap (E1 ++ a :: E2) :: B).length cap (List.flatMap pg (A ++ Pg.mk pad pcap (E1 ++ a :: E2) :: B)), .fz g] _ := hS18; clear hS18
    refine hK _ _ ⟨⟨⟨trivial, fun _ _ => by first | exact q_load1 rfl (by kernel_rfl) (hS19.cell (i := 2) rfl rfl)⟩, fun h => absurd h (by decide)⟩, fun h => absurd h (by decide)⟩ ?_; clear hK K
    refine o_pure (i := 16) (fun j w => ⟨(fun j w => ⟨(fun j w => ⟨(fun _ _ => trivial) j w, fun _ h => h⟩) j w, fun _ h => h⟩) j w, fun _ h => h⟩) rfl rfl (by kernel_rfl) (goes0 rfl) (QOk.then QOk.body) (fun w => q_ixG (e := 111) (m := 1) (j := i1) rfl rfl (by kernel_rfl) (by kernel_rfl) (by first | rfl | omega) (by omega) (hS19.owG (i := 3) rfl) (by rw [rows_len (c := pg) (m := 1) (fun _ => rfl)]; first | omega | (simp only [List.length_append, List.length_map, List.length_cons, List.length_nil, List.length_take, List.length_drop, List.length_set] <;> omega))) ?_
    refine o_eff (i := 17) (by kernel_rfl) rfl (goes0 rfl) (fun K hK => ?_)
    refine e_stOw hS19 rfl rfl (by kernel_rfl) rfl (i := 3) rfl (by omega) (rows_set1 (c := pg) (r := (Pg.mk pad pcap (E1 ++ E2))) (fun _ => rfl) rfl) (fun w20 (hS20 : St _ _ [.ow 41 2 pad ((E1 ++ E2).length) pcap (List.flatMap en (E1 ++ E2)), .pk (List.map pgc A ++ List.map pgc B), .blk k (.cells #[.slice ad ((A ++ Pg.mk pad pcap (E1 ++ a :: E2) :: B).length) cap, .int .i64 (((flat (A ++ Pg.mk pad pcap (E1 ++ a :: E2) :: B)).length : Nat) : Int)] 107), .ow 111 1 ad ((A ++ Pg.mk pad pcap (E1 ++ a :: E2) :: B).length) cap (List.flatMap pg ((A ++ Pg.mk pad pcap (E1 ++ a :: E2) :: B).set i1 (Pg.mk pad pcap (E1 ++ E2)))), .fz g] _) => ?_)
    clear hS19
    refine hK _ _ ⟨⟨⟨trivial, fun h => absurd h (by decide)⟩, fun h => absurd h (by decide)⟩, fun h => absurd h (by decide)⟩ ?_; clear hK K
    have hS21 : St _ _ [.ow 41 2 pad ((E1 ++ E2).length) pcap (List.flatMap en (E1 ++ E2)), .pk (List.map pgc A ++ List.map pgc B), .blk k (.cells #[.slice ad ((A ++ Pg.mk pad pcap (E1 ++ a :: E2) :: B).length) cap, .int .i64 (((flat (A ++ Pg.mk pad pcap (E1 ++ a :: E2) :: B)).length : Nat) : Int)] 107), .ow 111 1 ad ((A ++ Pg.mk pad pcap (E1 ++ a :: E2) :: B).length) cap (List.flatMap pg (A ++ Pg.mk pad pcap (E1 ++ E2) :: B)), .fz g] _ := hS20.cast (by rw [← set_mid (x := Pg.mk pad pcap (E1 ++ a :: E2)) (y := Pg.mk pad pcap (E1 ++ E2)) (B := B) hA]); clear hS20
    have hS22 : St _ _ [.ow 41 2 pad ((E1 ++ E2).length) pcap (List.flatMap en (E1 ++ E2)), .pk (List.map pgc A ++ List.map pgc B), .blk k (.cells #[.slice ad ((A ++ Pg.mk pad pcap (E1 ++ a :: E2) :: B).length) cap, .int .i64 (((flat (A ++ Pg.mk pad pcap (E1 ++ a :: E2) :: B)).length : Nat) : Int)] 107), .ow 111 1 ad ((A ++ Pg.mk pad pcap (E1 ++ E2) :: B).length) cap (List.flatMap pg (A ++ Pg.mk pad pcap (E1 ++ E2) :: B)), .fz g] _ := hS21.cast (by rw [show (A ++ Pg.mk pad pcap (E1 ++ E2) :: B).length = (A ++ Pg.mk pad pcap (E1 ++ a :: E2) :: B).length from by simp]); clear hS21
    have hS23 : St _ _ [.ow 41 2 pad ((E1 ++ E2).length) pcap (List.flatMap en (E1 ++ E2)), .pk (List.map pgc A ++ List.map pgc B), .blk k (.cells #[.slice ad ((A ++ Pg.mk pad pcap (E1 ++ E2) :: B).length) cap, .int .i64 (((flat (A ++ Pg.mk pad pcap (E1 ++ a :: E2) :: B)).length : Nat) : Int)] 107), .ow 111 1 ad ((A ++ Pg.mk pad pcap (E1 ++ E2) :: B).length) cap (List.flatMap pg (A ++ Pg.mk pad pcap (E1 ++ E2) :: B)), .fz g] _ := hS22.cast (by rw [show (A ++ Pg.mk pad pcap (E1 ++ E2) :: B).length = (A ++ Pg.mk pad pcap (E1 ++ a :: E2) :: B).length from by simp]); clear hS22
    have hi3 : (A ++ Pg.mk pad pcap (E1 ++ E2) :: B)[i1]? = some _ := at_mid hA
    have hlen3 : i1 < (A ++ Pg.mk pad pcap (E1 ++ E2) :: B).length := (List.getElem?_eq_some_iff.1 hi3).1
    have hpgs3 : (A ++ Pg.mk pad pcap (E1 ++ E2) :: B).length ≤ 100000 := by have := hT.pages; simp only [List.length_append, List.length_cons] at *; omega
    refine o_done (by kernel_rfl) ?_
    refine hK16 _ _ ?_
    refine wp_seq_k (fun K24 hK24 => ?_)
    refine wp_seq_k (fun K25 hK25 => ?_)
    refine wp_region_lit ?_
    refine l_q rfl rfl (q_moveP rfl) ?_
    refine l_q rfl rfl (q_nilCheck rfl) ?_
    refine l_q rfl rfl (q_fieldAddr (ft := 105) (o := 0) rfl (by kernel_rfl)) ?_
    refine l_q rfl rfl (q_load1 rfl (by kernel_rfl) (hS23.cell (i := 2) rfl rfl)) ?_
    refine l_q rfl rfl (q_moveI rfl) ?_
    refine l_q rfl rfl (q_ixG (e := 111) (m := 1) (j := i1) rfl rfl (by kernel_rfl) (by kernel_rfl) (by first | rfl | omega) (by omega) (hS23.owG (i := 3) rfl) (by rw [rows_len (c := pg) (m := 1) (fun _ => rfl)]; first | omega | (simp only [List.length_append, List.length_map, List.length_cons, List.length_nil, List.length_take, List.length_drop, List.length_set] <;> omega))) ?_
    refine l_q rfl rfl (q_load1 rfl (by kernel_rfl) (SlG.cell (hS23.owG (i := 3) rfl) (Gle.refl _) (row_at hi3 (c := pg) (m := 1) (fun _ => rfl) (j := 0) rfl))) ?_
    refine l_q rfl rfl (q_lenSl (e := 41) rfl (by kernel_rfl)) ?_
    refine l_q rfl rfl (q_eql rfl rfl) ?_
    refine l_nil ?_
    refine hK25 _ _ ?_
    refine c_cond rfl (fun hc26 => ?_) (fun hc26 => ?_)
    ·
      have hc26b := hc26
      try simp only [decide_eq_true_eq, decide_eq_false_iff_not, Bool.not_eq_true', Bool.not_eq_false', Bool.and_eq_true, Bool.or_eq_true, Int.not_lt, Int.not_le, ne_eq, Decidable.not_not] at hc26
      refine wp_region_lit ?_
      refine l_q rfl rfl (q_moveP rfl) ?_
      refine l_q rfl rfl (q_moveP rfl) ?_
      refine l_q rfl rfl (q_nilCheck rfl) ?_
      refine l_q rfl rfl (q_fieldAddr (ft := 105) (o := 0) rfl (by kernel_rfl)) ?_
      refine l_q rfl rfl (q_load1 rfl (by kernel_rfl) (hS23.cell (i := 2) rfl rfl)) ?_
      refine l_q rfl rfl (q_moveI rfl) ?_
      refine l_q rfl rfl (q_moveI rfl) ?_
      refine l_q rfl rfl (q_addx rfl rfl (by first | decide | omega) (by first | decide | omega)) ?_
      refine l_e rfl (fun K hK => ?_)
      have hS28 := hS23.fr3; clear hS23
      refine e_call (by kernel_rfl) (delP1 (A := A) (B := B) (Pg.mk pad pcap (E1 ++ E2)) rfl hA (by first | omega | (simp only [List.length_append, List.length_map, List.length_cons, List.length_nil, List.length_take, List.length_drop, List.length_set] <;> omega)) (St.begin (Γ := [_]) hS28)) rfl (after_M (Γ1 := [_]) hS28 (fun v27 G27 w27 hv27 hS27 => ?_))
      clear hS28
      obtain ⟨rfl, rfl⟩ := hv27
      have hS29 : St _ _ [.ow 111 1 ad ((A ++ B).length) cap (List.flatMap pg (A ++ B)), .ow 41 2 pad ((E1 ++ E2).length) pcap (List.flatMap en (E1 ++ E2)), .pk (List.map pgc A ++ List.map pgc B), .blk k (.cells #[.slice ad ((A ++ Pg.mk pad pcap (E1 ++ E2) :: B).length) cap, .int .i64 (((flat (A ++ Pg.mk pad pcap (E1 ++ a :: E2) :: B)).length : Nat) : Int)] 107), .fz g] _ := hS27; clear hS27
      refine hK _ _ ?_; clear hK K
      refine l_q rfl rfl (q_nilCheck rfl) ?_
      refine l_q rfl rfl (q_fieldAddr (ft := 105) (o := 0) rfl (by kernel_rfl)) ?_
      refine l_e rfl (fun K hK => ?_)
      refine e_store1 hS29 rfl rfl (by kernel_rfl) (by first | rfl | assumption) (i := 3) rfl rfl (fun w30 (hS30 : St _ _ [.ow 111 1 ad ((A ++ B).length) cap (List.flatMap pg (A ++ B)), .ow 41 2 pad ((E1 ++ E2).length) pcap (List.flatMap en (E1 ++ E2)), .pk (List.map pgc A ++ List.map pgc B), .blk k (.cells #[.slice ad ((A ++ B).length) cap, .int .i64 (((flat (A ++ Pg.mk pad pcap (E1 ++ a :: E2) :: B)).length : Nat) : Int)] 107), .fz g] _) => ?_)
      clear hS29
      refine hK _ _ ?_; clear hK K
      refine l_nil ?_
      refine hK24 _ _ ?_
      refine wp_seq_k (fun K31 hK31 => ?_)
      refine wp_region_lit ?_
      refine l_q rfl rfl (q_moveP rfl) ?_
      refine l_q rfl rfl (q_nilCheck rfl) ?_
      refine l_q rfl rfl (q_fieldAddr (ft := 3) (o := 1) rfl (by kernel_rfl)) ?_
      refine l_q rfl rfl (q_load1 rfl (by kernel_rfl) (hS30.cell (i := 3) rfl rfl)) ?_
      refine l_q rfl rfl (q_subx rfl rfl (by first | decide | omega) (by first | decide | omega)) ?_
      refine l_q rfl rfl (q_nilCheck rfl) ?_
      refine l_q rfl rfl (q_fieldAddr (ft := 3) (o := 1) rfl (by kernel_rfl)) ?_
      refine l_e rfl (fun K hK => ?_)
      refine e_store1 hS30 rfl rfl (by kernel_rfl) (by first | rfl | assumption) (i := 3) rfl rfl (fun w32 (hS32 : St _ _ [.ow 111 1 ad ((A ++ B).length) cap (List.flatMap pg (A ++ B)), .ow 41 2 pad ((E1 ++ E2).length) pcap (List.flatMap en (E1 ++ E2)), .pk (List.map pgc A ++ List.map pgc B), .blk k (.cells #[.slice ad ((A ++ B).length) cap, .int .i64 ((((flat (A ++ Pg.mk pad pcap (E1 ++ a :: E2) :: B)).length : Nat) : Int) - (1 : Int))] 107), .fz g] _) => ?_)
      clear hS30
      refine hK _ _ ?_; clear hK K
      refine l_nil ?_
      refine hK31 _ _ ?_
      refine wp_seq_k (fun K33 hK33 => ?_)
      refine wp_region_lit ?_
      refine l_q rfl rfl (q_moveS rfl) ?_
      refine l_q rfl rfl (q_assignS rfl) ?_
      refine l_q rfl rfl (q_assignB rfl) ?_
      refine l_nil ?_
      refine hK33 _ _ ?_
      refine wp_ret ?_
      refine c_ret2 rfl rfl rfl ?_
      have hfl3 : (flat (A ++ B)).length = (flat A).length + (flat B).length := by rw [flat_app, List.length_append]
      have hS34 : St _ _ [.ow 111 1 ad ((A ++ B).length) cap (List.flatMap pg (A ++ B)), .ow 41 2 pad ((E1 ++ E2).length) pcap (List.flatMap en (E1 ++ E2)), .pk (List.map pgc A ++ List.map pgc B), .blk k (.cells #[.slice ad ((A ++ B).length) cap, .int .i64 ((((flat (A ++ Pg.mk pad pcap (E1 ++ a :: E2) :: B)).length - 1) : Nat) : Int)] 107), .fz g] _ := hS32.cast (by rw [show ((((flat (A ++ Pg.mk pad pcap (E1 ++ a :: E2) :: B)).length - 1) : Nat) : Int) = ((((flat (A ++ Pg.mk pad pcap (E1 ++ a :: E2) :: B)).length : Nat) : Int) - (1 : Int)) from by omega]); clear hS32
      have hS35 := hS34.fr2; clear hS34
      have hS36 := hS35.fr1; clear hS35
      have hS37 := hS36.fr3; clear hS36
      have hS38 : St _ _ [tb k ad cap (A ++ B), .ow 41 2 pad ((E1 ++ E2).length) pcap (List.flatMap en (E1 ++ E2)), .fz g] _ := tb_shut (ps := (A ++ B)) hS37 rfl (by omega) rfl (by rw [List.map_append]); clear hS37
      have hS39 := hS38.fr2; clear hS38
      have hS40 := hS39.fr1; clear hS39
      have hS41 : St _ _ [tb k ad cap (A ++ B), .fz g] _ := hS40.only 2; clear hS40
      have hE0 : E1 ++ E2 = [] := List.eq_nil_of_length_eq_zero (by omega)
      have hdy := drop_yes (ps := (A ++ Pg.mk pad pcap (E1 ++ a :: E2) :: B)) (ps' := A ++ B) flat_mid (by rw [hE0, List.append_nil, flat_app]) hcut hak
      exact ⟨_, _, rfl, ⟨_, _, _, a.ra, a.rb.length, a.rc, by rw [hdy.2]; rfl, rfl, hT.drop hdy.1 (few_no hT.pok.few) (by rw [flat_app]; have h5 := ent_out (a := a) (by rw [← flat_mid (ad := pad) (cap := pcap)]; exact hT.ent); rw [hE0, List.append_nil] at h5; exact h5), hdy.1, by subst hak; exact OldR.yes hdy.2 haE⟩, hS41⟩
    ·
      have hc26b := hc26
      try simp only [decide_eq_true_eq, decide_eq_false_iff_not, Bool.not_eq_true', Bool.not_eq_false', Bool.and_eq_true, Bool.or_eq_true, Int.not_lt, Int.not_le, ne_eq, Decidable.not_not] at hc26
      refine wp_skip ?_
      refine hK24 _ _ ?_
      refine wp_seq_k (fun K42 hK42 => ?_)
      refine wp_region_lit ?_
      refine l_q rfl rfl (q_moveP rfl) ?_
      refine l_q rfl rfl (q_nilCheck rfl) ?_
      refine l_q rfl rfl (q_fieldAddr (ft := 3) (o := 1) rfl (by kernel_rfl)) ?_
      refine l_q rfl rfl (q_load1 rfl (by kernel_rfl) (hS23.cell (i := 2) rfl rfl)) ?_
      refine l_q rfl rfl (q_subx rfl rfl (by first | decide | omega) (by first | decide | omega)) ?_
      refine l_q rfl rfl (q_nilCheck rfl) ?_
      refine l_q rfl rfl (q_fieldAddr (ft := 3) (o := 1) rfl (by kernel_rfl)) ?_
      refine l_e rfl (fun K hK => ?_)
      refine e_store1 hS23 rfl rfl (by kernel_rfl) (by first | rfl | assumption) (i := 2) rfl rfl (fun w43 (hS43 : St _ _ [.ow 41 2 pad ((E1 ++ E2).length) pcap (List.flatMap en (E1 ++ E2)), .pk (List.map pgc A ++ List.map pgc B), .blk k (.cells #[.slice ad ((A ++ Pg.mk pad pcap (E1 ++ E2) :: B).length) cap, .int .i64 ((((flat (A ++ Pg.mk pad pcap (E1 ++ a :: E2) :: B)).length : Nat) : Int) - (1 : Int))] 107), .ow 111 1 ad ((A ++ Pg.mk pad pcap (E1 ++ E2) :: B).length) cap (List.flatMap pg (A ++ Pg.mk pad pcap (E1 ++ E2) :: B)), .fz g] _) => ?_)
      clear hS23
      refine hK _ _ ?_; clear hK K
      refine l_nil ?_
      refine hK42 _ _ ?_
      refine wp_seq_k (fun K44 hK44 => ?_)
      refine wp_region_lit ?_
      refine l_q rfl rfl (q_moveS rfl) ?_
      refine l_q rfl rfl (q_assignS rfl) ?_
      refine l_q rfl rfl (q_assignB rfl) ?_
      refine l_nil ?_
      refine hK44 _ _ ?_
      refine wp_ret ?_
      refine c_ret2 rfl rfl rfl ?_
      have hS45 : St _ _ [.pk (List.map pgc A ++ List.map pgc (Pg.mk pad pcap (E1 ++ E2) :: B)), .blk k (.cells #[.slice ad ((A ++ Pg.mk pad pcap (E1 ++ E2) :: B).length) cap, .int .i64 ((((flat (A ++ Pg.mk pad pcap (E1 ++ a :: E2) :: B)).length : Nat) : Int) - (1 : Int))] 107), .ow 111 1 ad ((A ++ Pg.mk pad pcap (E1 ++ E2) :: B).length) cap (List.flatMap pg (A ++ Pg.mk pad pcap (E1 ++ E2) :: B)), .fz g] _ := tb_put (es := (E1 ++ E2)) hS43 rfl rfl; clear hS43
      have hS46 : St _ _ [.pk (List.map pgc A ++ List.map pgc (Pg.mk pad pcap (E1 ++ E2) :: B)), .blk k (.cells #[.slice ad ((A ++ Pg.mk pad pcap (E1 ++ E2) :: B).length) cap, .int .i64 ((((flat (A ++ Pg.mk pad pcap (E1 ++ a :: E2) :: B)).length - 1) : Nat) : Int)] 107), .ow 111 1 ad ((A ++ Pg.mk pad pcap (E1 ++ E2) :: B).length) cap (List.flatMap pg (A ++ Pg.mk pad pcap (E1 ++ E2) :: B)), .fz g] _ := hS45.cast (by rw [show ((((flat (A ++ Pg.mk pad pcap (E1 ++ a :: E2) :: B)).length - 1) : Nat) : Int) = ((((flat (A ++ Pg.mk pad pcap (E1 ++ a :: E2) :: B)).length : Nat) : Int) - (1 : Int)) from by omega]); clear hS45
      have hS47 := hS46.fr2; clear hS46
      have hS48 := hS47.fr2; clear hS47
      have hS49 : St _ _ [tb k ad cap (A ++ Pg.mk pad pcap (E1 ++ E2) :: B), .fz g] _ := tb_shut (ps := (A ++ Pg.mk pad pcap (E1 ++ E2) :: B)) hS48 rfl (by omega) rfl (by rw [List.map_append]); clear hS48
      have hdy := drop_yes (ps := (A ++ Pg.mk pad pcap (E1 ++ a :: E2) :: B)) (ps' := (A ++ Pg.mk pad pcap (E1 ++ E2) :: B)) flat_mid flat_mid hcut hak
      exact ⟨_, _, rfl, ⟨_, _, _, a.ra, a.rb.length, a.rc, by rw [hdy.2]; rfl, rfl, hT.drop hdy.1 (few_mid hT.pok.few (by omega)) (by rw [flat_mid]; exact ent_out (a := a) (by rw [← flat_mid (ad := pad) (cap := pcap)]; exact hT.ent)), hdy.1, by subst hak; exact OldR.yes hdy.2 haE⟩, hS49⟩

set_option maxHeartbeats 1000000 in
set_option maxRecDepth 100000 in
theorem copy_ok (k : Nat) (ad : Option Addr) (cap : Nat) (ps : List Pg) (hsz : (flat ps).length ≤ 90000) (w : World) (hTR : TR (hw w) k ad cap ps) : Calls Try.prog 42 #[pV k] w (PostN w fun v G => ∃ k' ad' cap' qs, v = pV k' ∧ G = [tb k' ad' cap' qs] ∧ qs.map Pg.es = ps.map Pg.es) := by
  have hS := St.start w
  have hpgs := hTR.ok.pages
  refine c_enter Try.func42 rfl rfl rfl ?_
  refine wp_seq_k (fun K1 hK1 => ?_)
  refine wp_region_lit ?_
  refine l_q rfl rfl (q_assignP rfl) ?_
  refine l_nil ?_
  refine hK1 _ _ ?_
  refine wp_seq_k (fun K2 hK2 => ?_)
  refine wp_seq_k (fun K3 hK3 => ?_)
  refine wp_region_lit ?_
  refine l_q rfl rfl (q_moveP rfl) ?_
  refine l_q rfl rfl (q_peq rfl (by kernel_rfl)) ?_
  refine l_nil ?_
  refine hK3 _ _ ?_
  refine c_condF rfl rfl ?_
  refine wp_skip ?_
  refine hK2 _ _ ?_
  refine wp_seq_k (fun K5 hK5 => ?_)
  refine wp_region_lit ?_
  refine l_q rfl rfl (q_moveP rfl) ?_
  refine l_q rfl rfl (q_nilCheck rfl) ?_
  refine l_q rfl rfl (q_fieldAddr (ft := 3) (o := 1) rfl (by kernel_rfl)) ?_
  refine l_q rfl rfl (q_load1 rfl (by kernel_rfl) (cell_blk (hS.base _ _ hTR.blk) rfl)) ?_
  refine l_q rfl rfl (q_build (ps := [(0, 1), (1, 1)]) (zv := .agg #[.slice none 0 0, .int .i64 0]) (by kernel_rfl) (by kernel_rfl) rfl (by repeat' (first | exact trivial | refine ⟨fun _ => by first | rfl | assumption | exact one_if (by assumption), ?_⟩ | refine ⟨fun ⟨_, h⟩ => by simp at h, ?_⟩)) rfl) ?_
  refine l_e rfl (fun K hK => ?_)
  refine e_boxA hS rfl (fun b6 w6 (hS6 : St _ _ [.blk b6 (.cells #[.slice none 0 0, .int .i64 (((flat ps).length : Nat) : Int)] 107)] _) => ?_)
  clear hS
  refine hK _ _ ?_; clear hK K
  refine l_q rfl rfl (q_assignP rfl) ?_
  refine l_nil ?_
  refine hK5 _ _ ?_
  refine wp_seq_k (fun K7 hK7 => ?_)
  refine wp_seq_k (fun K8 hK8 => ?_)
  refine wp_region_lit ?_
  refine l_q rfl rfl (q_moveP rfl) ?_
  refine l_q rfl rfl (q_nilCheck rfl) ?_
  refine l_q rfl rfl (q_fieldAddr (ft := 105) (o := 0) rfl (by kernel_rfl)) ?_
  refine l_q rfl rfl (q_load1 rfl (by kernel_rfl) (cell_blk (hS6.base _ _ hTR.blk) rfl)) ?_
  refine l_q rfl rfl (q_lenSl (e := 111) rfl (by kernel_rfl)) ?_
  refine l_q rfl rfl (q_moveI rfl) ?_
  refine l_nil ?_
  refine hK8 _ _ ?_
  refine wp_block ?_
  have hS9 := (hS6.pk_nil).ow_nil 111 1; clear hS6
  have hS10 := hS9.fr1; clear hS9
  have hS11 := hS10.fr1; clear hS10
  have hS12 := hS11.fr2; clear hS11
  refine c_loop (τ := Nat × (Option Addr) × Nat × (List Pg)) [(5, 5), (19, 34)] (fun x => (fun (i : Nat) (ra : Option Addr) (rc : Nat) (qs : List Pg) => [(19, .int .i64 ((i : Nat) : Int))]) x.1 x.2.1 x.2.2.1 x.2.2.2) (fun x w' => (fun (i : Nat) (ra : Option Addr) (rc : Nat) (qs : List Pg) => St w (fun _ => False) [.blk b6 (.cells #[.slice ra qs.length rc, .int .i64 (((flat ps).length : Nat) : Int)] 107), .ow 111 1 ra qs.length rc (List.flatMap pg qs), .pk (List.map pgc qs)] w' ∧ i ≤ ps.length ∧ List.map Pg.es qs = List.map Pg.es (List.take i ps)) x.1 x.2.1 x.2.2.1 x.2.2.2) (fun x => (fun (i : Nat) (ra : Option Addr) (rc : Nat) (qs : List Pg) => ps.length - i) x.1 x.2.1 x.2.2.1 x.2.2.2) (⟨0, none, 0, []⟩) ?_ (by repeat' (first | exact trivial | refine ⟨by first | rfl | exact int_succ _ | assumption, ?_⟩)) (fun x13 j13 w13 hJ13 K13 hK13 => ?_)
  ·
    exact ⟨hS12, Nat.zero_le _, rfl⟩
  ·
    obtain ⟨i, ra, rc, qs⟩ := x13
    obtain ⟨hS13, hi, hq⟩ := hJ13
    try dsimp only at hS13 hi hq ⊢
    refine wp_seq_k (fun K14 hK14 => ?_)
    refine wp_region_lit ?_
    refine l_q rfl rfl (q_lss rfl rfl) ?_
    refine l_nil ?_
    refine hK14 _ _ ?_
    refine wp_seq_k (fun K15 hK15 => ?_)
    refine c_cond rfl (fun hc16 => ?_) (fun hc16 => ?_)
    ·
      have hc16b := hc16
      try simp only [decide_eq_true_eq, decide_eq_false_iff_not, Bool.not_eq_true', Bool.not_eq_false', Bool.and_eq_true, Bool.or_eq_true, Int.not_lt, Int.not_le, ne_eq, Decidable.not_not] at hc16
      have hql : qs.length = i := by have := congrArg List.length hq; simp only [List.length_map, List.length_take] at this; omega
      obtain ⟨p, hp⟩ : ∃ p, ps[i]? = some p := ⟨_, List.getElem?_eq_getElem (by omega)⟩
      have hpf_p := hTR.ok.pok.few _ (List.mem_of_getElem? hp)
      have hpl_p := lt_of_at hp
      have hpg_p := hTR.pgs _ (List.mem_of_getElem? hp)
      refine wp_skip ?_
      refine hK15 _ _ ?_
      refine wp_seq_k (fun K17 hK17 => ?_)
      refine wp_block ?_
      refine wp_seq_k (fun K18 hK18 => ?_)
      refine wp_region_lit ?_
      refine l_q rfl rfl (q_ixG (e := 111) (m := 1) (j := i) rfl rfl (by kernel_rfl) (by kernel_rfl) (by first | rfl | omega) (by omega) hTR.rows (by rw [rows_len (c := pg) (m := 1) (fun _ => rfl)]; first | omega | (simp only [List.length_append, List.length_map, List.length_cons, List.length_nil, List.length_take, List.length_drop, List.length_set] <;> omega))) ?_
      refine l_q rfl rfl (q_load1 rfl (by kernel_rfl) (SlG.cell (hTR.rows.mono hS13.base) (Gle.refl _) (row_at hp (c := pg) (m := 1) (fun _ => rfl) (j := 0) rfl))) ?_
      refine l_q rfl rfl (q_assignS rfl) ?_
      refine l_nil ?_
      refine hK18 _ _ ?_
      refine r_any (by kernel_rfl) hS13 (fun w19 hS19 => ?_)
      clear hS13
      refine o_pure (i := 0) (fun _ _ => trivial) rfl rfl (by kernel_rfl) (goes0 rfl) (QOk.inBlock (QOk.then (QOk.then (QOk.inBlock (QOk.then QOk.body))))) (fun w => q_moveP rfl) ?_
      refine o_pure (i := 1) (fun _ _ => trivial) rfl rfl (by kernel_rfl) (goes0 rfl) (QOk.inBlock (QOk.then (QOk.then (QOk.inBlock (QOk.then QOk.body))))) (fun w => q_moveP rfl) ?_
      refine o_pure (i := 2) (fun _ _ => trivial) rfl rfl (by kernel_rfl) (goes0 rfl) (QOk.inBlock (QOk.then (QOk.then (QOk.inBlock (QOk.then QOk.body))))) (fun w => q_nilCheck rfl) ?_
      refine o_pure (i := 3) (fun _ _ => trivial) rfl rfl (by kernel_rfl) (goes0 rfl) (QOk.inBlock (QOk.then (QOk.then (QOk.inBlock (QOk.then QOk.body))))) (fun w => q_fieldAddr (ft := 105) (o := 0) rfl (by kernel_rfl)) ?_
      refine o_held (i := 4) [8, 9, 10, 11] (fun _ _ => trivial) rfl rfl (by kernel_rfl) (goes0 rfl) (QOk.inBlock (QOk.then (QOk.then (QOk.inBlock (QOk.then QOk.body))))) (q_load1 rfl (by kernel_rfl) (hS19.cell (i := 0) rfl rfl)) ?_
      refine o_pure (i := 5) (fun j w => ⟨(fun _ _ => trivial) j w, fun _ h => h⟩) rfl rfl (by kernel_rfl) (goes0 rfl) (QOk.inBlock (QOk.then (QOk.then (QOk.inBlock (QOk.then QOk.body))))) (fun w => q_moveS rfl) ?_
      refine o_eff (i := 6) (by kernel_rfl) rfl (goes0 rfl) (fun K hK => ?_)
      refine e_call (by kernel_rfl) (clonE (List.flatMap en p.es) (rows_one en_ones) _ _ p.es.length ((rows_len (c := en) (m := 2) (fun _ => rfl) _).trans (by first | rfl | (simp only [List.length_append, List.length_map, List.length_cons, List.length_nil, List.length_take, List.length_drop, List.length_set]; done) | (simp only [List.length_append, List.length_map, List.length_cons, List.length_nil, List.length_take, List.length_drop, List.length_set]; omega) | omega)) (by first | omega | (simp only [List.length_append, List.length_map, List.length_cons, List.length_nil, List.length_take, List.length_drop, List.length_set] <;> omega)) _ (hpg_p.1.mono hS19.base)) rfl (after_N hS19 (fun v20 G20 w20 hv20 hS20 => ?_))
      clear hS19
      obtain ⟨cad20, ccp20, rfl, rfl⟩ := hv20
      have hS21 : St _ _ [.ow 41 2 cad20 p.es.length ccp20 (List.flatMap en p.es), .blk b6 (.cells #[.slice ra qs.length rc, .int .i64 (((flat ps).length : Nat) : Int)] 107), .ow 111 1 ra qs.length rc (List.flatMap pg qs), .pk (List.map pgc qs)] _ := hS20; clear hS20
      refine hK _ _ ⟨trivial, fun _ _ => by first | exact q_load1 rfl (by kernel_rfl) (hS21.cell (i := 1) rfl rfl)⟩ ?_; clear hK K
      refine o_eff (i := 7) (by kernel_rfl) rfl (goes0 rfl) (fun K hK => ?_)
      refine e_buildSlice1 (e := 111) (zv := .slice none 0 0) (xs := [.tmp 29]) hS21 (by kernel_rfl) (by kernel_rfl) (by kernel_rfl) rfl rfl rfl rfl (allone (by repeat' (first | exact trivial | refine ⟨by first | rfl | assumption, ?_⟩))) rfl (fun b22 w22 (hS22 : St _ _ [.blk b22 (.cells #[.slice cad20 p.es.length ccp20] 111), .ow 41 2 cad20 p.es.length ccp20 (List.flatMap en p.es), .blk b6 (.cells #[.slice ra qs.length rc, .int .i64 (((flat ps).length : Nat) : Int)] 107), .ow 111 1 ra qs.length rc (List.flatMap pg qs), .pk (List.map pgc qs)] _) => ?_)
      clear hS21
      have hS22o : St _ _ [.ow 111 1 (some ⟨b22, 0, none⟩) 1 1 (List.flatMap pg [Pg.mk cad20 ccp20 p.es]), .ow 41 2 cad20 p.es.length ccp20 (List.flatMap en p.es), .blk b6 (.cells #[.slice ra qs.length rc, .int .i64 (((flat ps).length : Nat) : Int)] 107), .ow 111 1 ra qs.length rc (List.flatMap pg qs), .pk (List.map pgc qs)] _ := hS22.blkOw' (i := 0) (m := 1) (size := 1) (xs := List.flatMap pg [Pg.mk cad20 ccp20 p.es]) rfl rfl rfl (by decide); clear hS22
      refine hK _ _ ⟨trivial, fun _ _ => by first | exact q_load1 rfl (by kernel_rfl) (hS22o.cell (i := 2) rfl rfl)⟩ ?_; clear hK K
      refine o_eff (i := 8) (by kernel_rfl) rfl (goes0 rfl) (fun K hK => ?_)
      refine e_app (e := 111) (size := 1) (bytes := 24) (i := 3) (m' := (qs ++ [Pg.mk cad20 ccp20 p.es]).length) (by kernel_rfl) hS22o rfl rfl rfl (SlG.src (e := 111) (by kernel_rfl) (hS22o.owG (i := 0) rfl) ((rows_len (c := pg) (m := 1) (fun _ => rfl) _).trans (by first | rfl | (simp only [List.length_append, List.length_map, List.length_cons, List.length_nil, List.length_take, List.length_drop, List.length_set]; done) | (simp only [List.length_append, List.length_map, List.length_cons, List.length_nil, List.length_take, List.length_drop, List.length_set]; omega) | omega)) (by decide) (rows_one pg_ones)) (by first | omega | (simp only [List.length_append, List.length_map, List.length_cons, List.length_nil, List.length_take, List.length_drop, List.length_set] <;> omega) | (simp; done)) rows_app (by first | omega | (simp only [maxLen, List.length_append, List.length_map, List.length_cons, List.length_nil, List.length_take, List.length_drop, List.length_set] <;> omega) | (simp only [maxLen]; omega)) (by first | omega | (simp only [List.length_append, List.length_map, List.length_cons, List.length_nil, List.length_take, List.length_drop, List.length_set] <;> omega)) (fun ad23 cp23 w23 (hS23 : St _ _ [.ow 111 1 (some ⟨b22, 0, none⟩) 1 1 (List.flatMap pg [Pg.mk cad20 ccp20 p.es]), .ow 41 2 cad20 p.es.length ccp20 (List.flatMap en p.es), .blk b6 (.cells #[.slice ra qs.length rc, .int .i64 (((flat ps).length : Nat) : Int)] 107), .ow 111 1 ad23 ((qs ++ [Pg.mk cad20 ccp20 p.es]).length) cp23 (List.flatMap pg (qs ++ [Pg.mk cad20 ccp20 p.es])), .pk (List.map pgc qs)] _) => ?_)
      clear hS22o
      refine hK _ _ ⟨trivial, fun h => absurd h (by decide)⟩ ?_; clear hK K
      refine o_pure (i := 9) (fun j w => ⟨(fun _ _ => trivial) j w, fun _ h => h⟩) rfl rfl (by kernel_rfl) (goes0 rfl) (QOk.inBlock (QOk.then (QOk.then (QOk.inBlock (QOk.then QOk.body))))) (fun w => q_nilCheck rfl) ?_
      refine o_pure (i := 10) (fun j w => ⟨(fun _ _ => trivial) j w, fun _ h => h⟩) rfl rfl (by kernel_rfl) (goes0 rfl) (QOk.inBlock (QOk.then (QOk.then (QOk.inBlock (QOk.then QOk.body))))) (fun w => q_fieldAddr (ft := 105) (o := 0) rfl (by kernel_rfl)) ?_
      refine o_eff (i := 11) (by kernel_rfl) rfl (goes0 rfl) (fun K hK => ?_)
      refine e_store1 hS23 rfl rfl (by kernel_rfl) (by first | rfl | assumption) (i := 2) rfl rfl (fun w24 (hS24 : St _ _ [.ow 111 1 (some ⟨b22, 0, none⟩) 1 1 (List.flatMap pg [Pg.mk cad20 ccp20 p.es]), .ow 41 2 cad20 p.es.length ccp20 (List.flatMap en p.es), .blk b6 (.cells #[.slice ad23 ((qs ++ [Pg.mk cad20 ccp20 p.es]).length) cp23, .int .i64 (((flat ps).length : Nat) : Int)] 107), .ow 111 1 ad23 ((qs ++ [Pg.mk cad20 ccp20 p.es]).length) cp23 (List.flatMap pg (qs ++ [Pg.mk cad20 ccp20 p.es])), .pk (List.map pgc qs)] _) => ?_)
      clear hS23
      refine hK _ _ ⟨trivial, fun h => absurd h (by decide)⟩ ?_; clear hK K
      refine o_done (by kernel_rfl) ?_
      refine hK17 _ _ ?_
      refine wp_region_lit ?_
      refine l_q rfl rfl (q_addx rfl rfl (by first | decide | omega) (by first | decide | omega)) ?_
      refine l_q rfl rfl (q_moveI rfl) ?_
      refine l_nil ?_
      have hS25 := hS24.fr4; clear hS24
      have hS26 := hS25.fr2; clear hS25
      have hS27 : St _ _ [.pk (List.map pgc (qs ++ [Pg.mk cad20 ccp20 p.es])), .ow 111 1 (some ⟨b22, 0, none⟩) 1 1 (List.flatMap pg [Pg.mk cad20 ccp20 p.es]), .blk b6 (.cells #[.slice ad23 ((qs ++ [Pg.mk cad20 ccp20 p.es]).length) cp23, .int .i64 (((flat ps).length : Nat) : Int)] 107), .ow 111 1 ad23 ((qs ++ [Pg.mk cad20 ccp20 p.es]).length) cp23 (List.flatMap pg (qs ++ [Pg.mk cad20 ccp20 p.es]))] _ := pk_snoc (es := p.es) hS26 rfl rfl; clear hS26
      have hS28 := hS27.fr3; clear hS27
      have hS29 := hS28.fr3; clear hS28
      have hS30 : St _ _ [.blk b6 (.cells #[.slice ad23 ((qs ++ [Pg.mk cad20 ccp20 p.es]).length) cp23, .int .i64 (((flat ps).length : Nat) : Int)] 107), .ow 111 1 ad23 ((qs ++ [Pg.mk cad20 ccp20 p.es]).length) cp23 (List.flatMap pg (qs ++ [Pg.mk cad20 ccp20 p.es])), .pk (List.map pgc (qs ++ [Pg.mk cad20 ccp20 p.es]))] _ := hS29.only 3; clear hS29
      refine hK13 _ _ (came (⟨(i + 1), ad23, cp23, (qs ++ [Pg.mk cad20 ccp20 p.es])⟩) (by repeat' (first | exact Agree.refl _ _ | refine Agree.up ?_ rfl | refine Agree.hav2 ?_ rfl | refine Agree.ups2 ?_ rfl)) (by repeat' (first | exact trivial | refine ⟨by first | rfl | exact int_succ _ | assumption, ?_⟩)) ?_)
      exact ⟨⟨hS30, (by show i + 1 ≤ ps.length; omega), es_take hq hp⟩, by (show ps.length - (i + 1) < ps.length - i); omega⟩
    ·
      have hc16b := hc16
      try simp only [decide_eq_true_eq, decide_eq_false_iff_not, Bool.not_eq_true', Bool.not_eq_false', Bool.and_eq_true, Bool.or_eq_true, Int.not_lt, Int.not_le, ne_eq, Decidable.not_not] at hc16
      refine wp_exit ?_
      refine hK7 _ _ ?_
      refine wp_seq_k (fun K31 hK31 => ?_)
      refine wp_region_lit ?_
      refine l_q rfl rfl (q_moveP rfl) ?_
      refine l_q rfl rfl (q_assignP rfl) ?_
      refine l_nil ?_
      refine hK31 _ _ ?_
      refine wp_ret ?_
      refine c_ret1 rfl rfl ?_
      have hq2 : qs.map Pg.es = ps.map Pg.es := by rw [hq, List.take_of_length_le (by omega)]
      exact ⟨_, _, rfl, ⟨_, _, _, qs, rfl, rfl, hq2⟩, tb_shut (ps := qs) hS13 rfl (by rw [(flat_es hq2).1]) rfl rfl⟩

set_option maxRecDepth 100000 in
theorem put_nil (ak : Option Addr) (nk ck : Nat) (ar : Option Addr) (nr cr : Nat) (w : World) : Calls Try.prog 22 #[.pointer none, .slice ak nk ck, .slice ar nr cr] w (PostR w fun v => v = .tuple #[.slice none 0 0, .bool false]) := by
  have hS := St.start w
  refine c_enter Try.func22 rfl rfl rfl ?_
  refine wp_seq_k (fun K1 hK1 => ?_)
  refine wp_region_lit ?_
  refine l_q rfl rfl (q_assignS rfl) ?_
  refine l_q rfl rfl (q_assignB rfl) ?_
  refine l_nil ?_
  refine hK1 _ _ ?_
  refine wp_seq_k (fun K2 hK2 => ?_)
  refine wp_seq_k (fun K3 hK3 => ?_)
  refine wp_region_lit ?_
  refine l_q rfl rfl (q_moveP rfl) ?_
  refine l_q rfl rfl (q_peq rfl (by kernel_rfl)) ?_
  refine l_nil ?_
  refine hK3 _ _ ?_
  refine c_condT rfl rfl ?_
  refine wp_seq_k (fun K5 hK5 => ?_)
  refine wp_region_lit ?_
  refine l_q rfl rfl (q_assignS rfl) ?_
  refine l_q rfl rfl (q_assignB rfl) ?_
  refine l_nil ?_
  refine hK5 _ _ ?_
  refine wp_ret ?_
  refine c_ret2 rfl rfl rfl ?_
  exact ⟨_, rfl, rfl, hS.drop⟩

set_option maxRecDepth 100000 in
theorem drop_nil (ak : Option Addr) (nk ck : Nat) (w : World) : Calls Try.prog 23 #[.pointer none, .slice ak nk ck] w (PostR w fun v => v = .tuple #[.slice none 0 0, .bool false]) := by
  have hS := St.start w
  refine c_enter Try.func23 rfl rfl rfl ?_
  refine wp_seq_k (fun K1 hK1 => ?_)
  refine wp_region_lit ?_
  refine l_q rfl rfl (q_assignS rfl) ?_
  refine l_q rfl rfl (q_assignB rfl) ?_
  refine l_nil ?_
  refine hK1 _ _ ?_
  refine wp_seq_k (fun K2 hK2 => ?_)
  refine wp_seq_k (fun K3 hK3 => ?_)
  refine wp_region_lit ?_
  refine l_q rfl rfl (q_moveP rfl) ?_
  refine l_q rfl rfl (q_peq rfl (by kernel_rfl)) ?_
  refine l_nil ?_
  refine hK3 _ _ ?_
  refine c_condT rfl rfl ?_
  refine wp_seq_k (fun K5 hK5 => ?_)
  refine wp_region_lit ?_
  refine l_q rfl rfl (q_assignS rfl) ?_
  refine l_q rfl rfl (q_assignB rfl) ?_
  refine l_nil ?_
  refine hK5 _ _ ?_
  refine wp_ret ?_
  refine c_ret2 rfl rfl rfl ?_
  exact ⟨_, rfl, rfl, hS.drop⟩

set_option maxRecDepth 100000 in
theorem get_nil (ak : Option Addr) (nk ck : Nat) (w : World) : Calls Try.prog 20 #[.pointer none, .slice ak nk ck] w (PostR w fun v => v = .tuple #[.slice none 0 0, .bool false]) := by
  have hS := St.start w
  refine c_enter Try.func20 rfl rfl rfl ?_
  refine wp_seq_k (fun K1 hK1 => ?_)
  refine wp_region_lit ?_
  refine l_q rfl rfl (q_assignS rfl) ?_
  refine l_q rfl rfl (q_assignB rfl) ?_
  refine l_nil ?_
  refine hK1 _ _ ?_
  refine wp_seq_k (fun K2 hK2 => ?_)
  refine wp_seq_k (fun K3 hK3 => ?_)
  refine wp_region_lit ?_
  refine l_q rfl rfl (q_moveP rfl) ?_
  refine l_q rfl rfl (q_peq rfl (by kernel_rfl)) ?_
  refine l_nil ?_
  refine hK3 _ _ ?_
  refine c_condT rfl rfl ?_
  refine wp_seq_k (fun K5 hK5 => ?_)
  refine wp_region_lit ?_
  refine l_q rfl rfl (q_assignS rfl) ?_
  refine l_q rfl rfl (q_assignB rfl) ?_
  refine l_nil ?_
  refine hK5 _ _ ?_
  refine wp_ret ?_
  refine c_ret2 rfl rfl rfl ?_
  exact ⟨_, rfl, rfl, hS.drop⟩

set_option maxRecDepth 100000 in
theorem last_nil (ak : Option Addr) (nk ck : Nat) (w : World) : Calls Try.prog 24 #[.pointer none, .slice ak nk ck] w (PostR w fun v => v = .tuple #[.agg #[.slice none 0 0, .slice none 0 0], .bool false]) := by
  have hS := St.start w
  refine c_enter Try.func24 rfl rfl rfl ?_
  refine wp_seq_k (fun K1 hK1 => ?_)
  refine wp_region_lit ?_
  refine l_e rfl (fun K hK => ?_)
  refine e_alloc (zv := .agg #[.slice none 0 0, .slice none 0 0]) hS (by kernel_rfl) (fun b2 w2 (hS2 : St _ _ [.blk b2 (.cells #[.slice none 0 0, .slice none 0 0] 41)] _) => ?_)
  clear hS
  refine hK _ _ ?_; clear hK K
  refine l_q rfl rfl (q_assignB rfl) ?_
  refine l_nil ?_
  refine hK1 _ _ ?_
  refine wp_seq_k (fun K3 hK3 => ?_)
  refine wp_seq_k (fun K4 hK4 => ?_)
  refine wp_region_lit ?_
  refine l_q rfl rfl (q_moveP rfl) ?_
  refine l_q rfl rfl (q_peq rfl (by kernel_rfl)) ?_
  refine l_q rfl rfl (q_moveB rfl) ?_
  refine l_off rfl rfl rfl rfl ?_
  refine l_off rfl rfl rfl rfl ?_
  refine l_off rfl rfl rfl rfl ?_
  refine l_off rfl rfl rfl rfl ?_
  refine l_off rfl rfl rfl rfl ?_
  refine l_q rfl rfl (q_pickT rfl rfl rfl) ?_
  refine l_nil ?_
  refine hK4 _ _ ?_
  refine c_condT rfl rfl ?_
  refine wp_seq_k (fun K6 hK6 => ?_)
  refine wp_region_lit ?_
  refine l_q rfl rfl (q_build (ps := [(0, 1), (1, 1)]) (zv := .agg #[.slice none 0 0, .slice none 0 0]) (by kernel_rfl) (by kernel_rfl) rfl (by repeat' (first | exact trivial | refine ⟨fun _ => by first | rfl | assumption | exact one_if (by assumption), ?_⟩ | refine ⟨fun ⟨_, h⟩ => by simp at h, ?_⟩)) rfl) ?_
  refine l_e rfl (fun K hK => ?_)
  refine e_storeA hS2 rfl rfl (by kernel_rfl) (by repeat' (first | exact trivial | refine ⟨by first | rfl | assumption | exact one_if (by assumption), ?_⟩)) (i := 0) rfl rfl (fun w7 (hS7 : St _ _ [.blk b2 (.cells #[.slice none 0 0, .slice none 0 0] 41)] _) => ?_)
  clear hS2
  refine hK _ _ ?_; clear hK K
  refine l_q rfl rfl (q_assignB rfl) ?_
  refine l_nil ?_
  refine hK6 _ _ ?_
  refine wp_ret ?_
  refine c_retCT (m := 2) rfl (by kernel_rfl) (by kernel_rfl) rfl (hS7.blk (i := 0) rfl) rfl rfl ?_
  exact ⟨_, rfl, rfl, hS7.drop⟩

set_option maxRecDepth 100000 in
theorem len_nil (w : World) : Calls Try.prog 19 #[.pointer none] w (PostR w fun v => v = .int .i64 0) := by
  have hS := St.start w
  refine c_enter Try.func19 rfl rfl rfl ?_
  refine wp_seq_k (fun K1 hK1 => ?_)
  refine wp_region_lit ?_
  refine l_q rfl rfl (q_assignI rfl) ?_
  refine l_nil ?_
  refine hK1 _ _ ?_
  refine wp_seq_k (fun K2 hK2 => ?_)
  refine wp_seq_k (fun K3 hK3 => ?_)
  refine wp_region_lit ?_
  refine l_q rfl rfl (q_moveP rfl) ?_
  refine l_q rfl rfl (q_peq rfl (by kernel_rfl)) ?_
  refine l_nil ?_
  refine hK3 _ _ ?_
  refine c_condT rfl rfl ?_
  refine wp_seq_k (fun K5 hK5 => ?_)
  refine wp_region_lit ?_
  refine l_q rfl rfl (q_assignI rfl) ?_
  refine l_nil ?_
  refine hK5 _ _ ?_
  refine wp_ret ?_
  refine c_ret1 rfl rfl ?_
  exact ⟨_, rfl, rfl, hS.drop⟩

set_option maxRecDepth 100000 in
theorem copy_nil (w : World) : Calls Try.prog 42 #[.pointer none] w (PostR w fun v => v = .pointer none) := by
  have hS := St.start w
  refine c_enter Try.func42 rfl rfl rfl ?_
  refine wp_seq_k (fun K1 hK1 => ?_)
  refine wp_region_lit ?_
  refine l_q rfl rfl (q_assignP rfl) ?_
  refine l_nil ?_
  refine hK1 _ _ ?_
  refine wp_seq_k (fun K2 hK2 => ?_)
  refine wp_seq_k (fun K3 hK3 => ?_)
  refine wp_region_lit ?_
  refine l_q rfl rfl (q_moveP rfl) ?_
  refine l_q rfl rfl (q_peq rfl (by kernel_rfl)) ?_
  refine l_nil ?_
  refine hK3 _ _ ?_
  refine c_condT rfl rfl ?_
  refine wp_seq_k (fun K5 hK5 => ?_)
  refine wp_region_lit ?_
  refine l_q rfl rfl (q_assignP rfl) ?_
  refine l_nil ?_
  refine hK5 _ _ ?_
  refine wp_ret ?_
  refine c_ret1 rfl rfl ?_
  exact ⟨_, rfl, rfl, hS.drop⟩

set_option maxRecDepth 100000 in
theorem range_nil (ak : Option Addr) (nk ck : Nat) (ar : Option Addr) (nr cr : Nat) (z : Int) (w : World) : Calls Try.prog 17 #[.pointer none, .slice ak nk ck, .slice ar nr cr, .int .i64 z] w (PostR w fun v => v = .slice none 0 0) := by
  have hS := St.start w
  refine c_enter Try.func17 rfl rfl rfl ?_
  refine wp_seq_k (fun K1 hK1 => ?_)
  refine wp_region_lit ?_
  refine l_e rfl (fun K hK => ?_)
  refine e_box hS rfl (fun b2 w2 (hS2 : St _ _ [.blk b2 (.cells #[.slice ar nr cr] 23)] _) => ?_)
  clear hS
  refine hK _ _ ?_; clear hK K
  refine l_e rfl (fun K hK => ?_)
  refine e_box hS2 rfl (fun b3 w3 (hS3 : St _ _ [.blk b3 (.cells #[.int .i64 z] 3), .blk b2 (.cells #[.slice ar nr cr] 23)] _) => ?_)
  clear hS2
  refine hK _ _ ?_; clear hK K
  refine l_q rfl rfl (q_assignS rfl) ?_
  refine l_nil ?_
  refine hK1 _ _ ?_
  refine wp_seq_k (fun K4 hK4 => ?_)
  refine wp_region_lit ?_
  refine l_e rfl (fun K hK => ?_)
  refine e_alloc (zv := .slice none 0 0) hS3 (by kernel_rfl) (fun b5 w5 (hS5 : St _ _ [.blk b5 (.cells #[.slice none 0 0] 29), .blk b3 (.cells #[.int .i64 z] 3), .blk b2 (.cells #[.slice ar nr cr] 23)] _) => ?_)
  clear hS3
  refine hK _ _ ?_; clear hK K
  refine l_nil ?_
  refine hK4 _ _ ?_
  refine wp_seq_k (fun K6 hK6 => ?_)
  refine wp_seq_k (fun K7 hK7 => ?_)
  refine wp_region_lit ?_
  refine l_q rfl rfl (q_moveP rfl) ?_
  refine l_q rfl rfl (q_peq rfl (by kernel_rfl)) ?_
  refine l_q rfl rfl (q_moveB rfl) ?_
  refine l_off rfl rfl rfl rfl ?_
  refine l_off rfl rfl rfl rfl ?_
  refine l_q rfl rfl (q_pickT rfl rfl rfl) ?_
  refine l_nil ?_
  refine hK7 _ _ ?_
  refine c_condT rfl rfl ?_
  refine wp_seq_k (fun K9 hK9 => ?_)
  refine wp_region_lit ?_
  refine l_q rfl rfl (q_assignS rfl) ?_
  refine l_nil ?_
  refine hK9 _ _ ?_
  refine wp_ret ?_
  refine c_ret1 rfl rfl ?_
  exact ⟨_, rfl, rfl, hS5.drop⟩

end Go.Proofs.Ytmbbkliekgiolaa
