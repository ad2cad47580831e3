/- Package table: Put. -/
import Derived.Test.YtmbbkliekgiolaaT9
set_option linter.unusedVariables false
set_option linter.unusedSimpArgs false
namespace Go.Proofs.Ytmbbkliekgiolaa
open Go.RowKit
attribute [local irreducible] Oper.wp Sem.run Code.wp wpList wpAnyO callFunc execOp Calls
attribute [local irreducible] cmpL putA getA dropA

theorem flat_two {A B : List Pg} {ad ad2 : Option Addr} {cap cap2 : Nat} {L : List En} : flat (A ++ Pg.mk ad cap (L.take 8) :: Pg.mk ad2 cap2 (L.drop 8) :: B) = flat A ++ L ++ flat B := by
  rw [flat_app, flat_cons, flat_cons, ← List.append_assoc (L.take 8), List.take_append_drop, List.append_assoc]
theorem TOk.one {g : Gh} {e : En} {ad : Option Addr} {cap : Nat} (h : EOk g e) : TOk g [Pg.mk ad cap [e]] := ⟨⟨fun p hp => by rw [List.mem_singleton] at hp; subst hp; exact ⟨by simp, by simp⟩, List.pairwise_singleton _ _⟩, fun x hx => by
  have : x ∈ [e] := by simpa [flat] using hx
  rw [List.mem_singleton] at this; subst this; exact h⟩

set_option maxHeartbeats 4000000 in
set_option maxRecDepth 100000 in
theorem put_ok (k : Nat) (ad : Option Addr) (cap : Nat) (ps : List Pg) (g : Gh) (hT : TOk g ps) (hsz : (flat ps).length ≤ 90000) (key row : List Nat) (hkb : Bytes key) (hrb : Bytes row) (hkl : key.length ≤ 1000000) (hrl : row.length ≤ 1000000) (nk nr : Nat) (hnk : key.length = nk) (hnr : row.length = nr) (ak ar : Option Addr) (ck cr : Nat) (gk gr : Gh) (hKk : SlG gk ak (bv key)) (hR : SlG gr ar (bv row)) (w : World) (hgk : Rog [tb k ad cap ps, .fz g] w gk) (hgr : Rog [tb k ad cap ps, .fz g] w gr) (hS : St w (owns [tb k ad cap ps, .fz g]) [tb k ad cap ps, .fz g] w) : Calls Try.prog 22 #[pV k, .slice ak nk ck, .slice ar nr cr] w (Post w [tb k ad cap ps, .fz g] fun v G => ∃ ad' cap' ps' g' oa on oc, v = .tuple #[.slice oa on oc, .bool (getA (ab ps) key).isSome] ∧ G = [tb k ad' cap' ps', .fz g'] ∧ Gle g g' ∧ TOk g' ps' ∧ ab ps' = putA (ab ps) key row ∧ OldR g' (ab ps) key oa on) := by
  subst hnk hnr
  have hpgs := hT.pages
  refine c_enter Try.func22 rfl rfl rfl ?_
  refine wp_seq_k (fun K1 hK1 => ?_)
  refine wp_region_lit ?_
  refine l_q rfl rfl (q_assignS rfl) ?_
  refine l_q rfl rfl (q_assignB rfl) ?_
  refine l_nil ?_
  refine hK1 _ _ ?_
  refine wp_seq_k (fun K2 hK2 => ?_)
  refine wp_seq_k (fun K3 hK3 => ?_)
  refine wp_region_lit ?_
  refine l_q rfl rfl (q_moveP rfl) ?_
  refine l_q rfl rfl (q_peq rfl (by kernel_rfl)) ?_
  refine l_nil ?_
  refine hK3 _ _ ?_
  refine c_condF rfl rfl ?_
  refine wp_skip ?_
  refine hK2 _ _ ?_
  refine wp_seq_k (fun K5 hK5 => ?_)
  refine wp_region_lit ?_
  refine l_q rfl rfl (q_moveS rfl) ?_
  refine l_e rfl (fun K hK => ?_)
  refine e_call (by kernel_rfl) (Clone_ok key _ _ key.length (by first | omega | (simp only [List.length_append, List.length_map, List.length_cons, List.length_nil, List.length_take, List.length_drop, List.length_set] <;> omega)) (by first | omega | (simp only [List.length_append, List.length_map, List.length_cons, List.length_nil, List.length_take, List.length_drop, List.length_set] <;> omega)) _ (hKk.mono (hgk.le hS))) rfl (after_N hS (fun v6 G6 w6 hv6 hS6 => ?_))
  clear hS
  obtain ⟨ad6, cp6, rfl, rfl⟩ := hv6
  have hS7 : St _ _ [.ow 5 1 ad6 key.length cp6 (bv key), tb k ad cap ps, .fz g] _ := hS6; clear hS6
  refine hK _ _ ?_; clear hK K
  refine l_q rfl rfl (q_moveS rfl) ?_
  refine l_e rfl (fun K hK => ?_)
  refine e_call (by kernel_rfl) (Clone_ok row _ _ row.length (by first | omega | (simp only [List.length_append, List.length_map, List.length_cons, List.length_nil, List.length_take, List.length_drop, List.length_set] <;> omega)) (by first | omega | (simp only [List.length_append, List.length_map, List.length_cons, List.length_nil, List.length_take, List.length_drop, List.length_set] <;> omega)) _ (hR.mono (hgr.le hS7))) rfl (after_N hS7 (fun v8 G8 w8 hv8 hS8 => ?_))
  clear hS7
  obtain ⟨ad8, cp8, rfl, rfl⟩ := hv8
  have hS9 : St _ _ [.ow 5 1 ad8 row.length cp8 (bv row), .ow 5 1 ad6 key.length cp6 (bv key), tb k ad cap ps, .fz g] _ := hS8; clear hS8
  refine hK _ _ ?_; clear hK K
  have hS10 := hS9.fr3; clear hS9
  have hS11 := hS10.fr2; clear hS10
  obtain ⟨g12, hle12, hfz12, hS12⟩ := hS11.freezeOw; clear hS11
  have hS13 := hS12.fr1; clear hS12
  obtain ⟨g14, hle14, hfz14, hS14⟩ := hS13.freezeOw; clear hS13
  have hgg := Gle.trans hle12 hle14
  have hT1 := hT.mono hgg
  have heE : EOk g14 (En.mk ad6 cp6 key ad8 cp8 row) := ⟨⟨hfz12.mono hle14, hkb, hfz14, hrb⟩, hkl, hrl⟩
  refine l_q rfl rfl (q_build (ps := [(0, 1), (1, 1)]) (zv := .agg #[.slice none 0 0, .slice none 0 0]) (by kernel_rfl) (by kernel_rfl) rfl (by repeat' (first | exact trivial | refine ⟨fun _ => by first | rfl | assumption | exact one_if (by assumption), ?_⟩ | refine ⟨fun ⟨_, h⟩ => by simp at h, ?_⟩)) rfl) ?_
  refine l_e rfl (fun K hK => ?_)
  refine e_alloc (zv := .agg #[.slice none 0 0, .slice none 0 0]) hS14 (by kernel_rfl) (fun b15 w15 (hS15 : St _ _ [.blk b15 (.cells #[.slice none 0 0, .slice none 0 0] 41), .fz g14, tb k ad cap ps] _) => ?_)
  clear hS14
  refine hK _ _ ?_; clear hK K
  refine l_e rfl (fun K hK => ?_)
  refine e_storeA hS15 rfl rfl (by kernel_rfl) (by repeat' (first | exact trivial | refine ⟨by first | rfl | assumption | exact one_if (by assumption), ?_⟩)) (i := 0) rfl rfl (fun w16 (hS16 : St _ _ [.blk b15 (.cells #[.slice ad6 key.length cp6, .slice ad8 row.length cp8] 41), .fz g14, tb k ad cap ps] _) => ?_)
  clear hS15
  refine hK _ _ ?_; clear hK K
  refine l_nil ?_
  refine hK5 _ _ ?_
  refine wp_seq_k (fun K17 hK17 => ?_)
  refine wp_region_lit ?_
  refine l_q rfl rfl (q_moveP rfl) ?_
  refine l_q rfl rfl (q_moveS rfl) ?_
  refine l_e rfl (fun K hK => ?_)
  have hS19 := hS16.fr2; clear hS16
  have hS20 := tb_open hS19; clear hS19
  refine e_call (by kernel_rfl) (find_ok k ps key hkb (by first | omega | (simp only [List.length_append, List.length_map, List.length_cons, List.length_nil, List.length_take, List.length_drop, List.length_set] <;> omega)) (by first | omega | (simp only [List.length_append, List.length_map, List.length_cons, List.length_nil, List.length_take, List.length_drop, List.length_set] <;> omega)) _ _ _ _ _ _ (hS20.blk (i := 0) rfl) (hS20.pages (i := 2) rfl (hS20.fz (i := 4) rfl) hT1) hT1.pok (hS20.owG (i := 1) rfl) (hKk.mono (hgk.le hS20))) rfl (after_R hS20 (fun v18 w18 hv18 hS18 => ?_))
  clear hS20
  obtain ⟨i1, k1, fd1, rfl, hw1⟩ := hv18
  refine hK _ _ ?_; clear hK K
  refine l_q rfl rfl (q_move rfl) ?_
  refine l_q rfl rfl (q_extract rfl rfl) ?_
  refine l_q rfl rfl (q_extract rfl rfl) ?_
  refine l_q rfl rfl (q_extract rfl rfl) ?_
  refine l_q rfl rfl (q_assignI rfl) ?_
  refine l_q rfl rfl (q_assignI rfl) ?_
  refine l_q rfl rfl (q_assignB rfl) ?_
  refine l_nil ?_
  refine hK17 _ _ ?_
  refine wp_seq_k (fun K21 hK21 => ?_)
  refine wp_seq_k (fun K22 hK22 => ?_)
  refine wp_region_lit ?_
  refine l_q rfl rfl (q_moveB rfl) ?_
  refine l_nil ?_
  refine hK22 _ _ ?_
  refine c_cond rfl (fun hc23 => ?_) (fun hc23 => ?_)
  ·
    have hc23b := hc23
    try simp only [decide_eq_true_eq, decide_eq_false_iff_not, Bool.not_eq_true', Bool.not_eq_false', Bool.and_eq_true, Bool.or_eq_true, Int.not_lt, Int.not_le, ne_eq, Decidable.not_not] at hc23
    obtain rfl : fd1 = true := by first | exact hc23 | simpa using hc23
    obtain ⟨A, pad, pcap, B, E1, a, E2, rfl, hA, hE1, hak, hcut⟩ := hw1.yes
    have hi2 : (A ++ Pg.mk pad pcap (E1 ++ a :: E2) :: B)[i1]? = some _ := at_mid hA
    have hk2 : (E1 ++ a :: E2)[k1]? = some a := at_mid hE1
    have hlen1 : i1 < (A ++ Pg.mk pad pcap (E1 ++ a :: E2) :: B).length := (List.getElem?_eq_some_iff.1 hi2).1
    have hlen2 : k1 < (E1 ++ a :: E2).length := (List.getElem?_eq_some_iff.1 hk2).1
    have hpE : ∀ x ∈ (E1 ++ a :: E2), EnG g14 x := fun x hx => (hT1.ent x (by rw [flat_mid]; exact List.mem_append_left _ (List.mem_append_right _ hx))).1
    have hS24 := hS18.fr2; clear hS18
    have hS25 : St _ _ [.ow 41 2 pad ((E1 ++ a :: E2).length) pcap (List.flatMap en (E1 ++ a :: E2)), .pk (List.map pgc A ++ List.map pgc B), .blk k (.cells #[.slice ad ((A ++ Pg.mk pad pcap (E1 ++ a :: E2) :: B).length) cap, .int .i64 (((flat (A ++ Pg.mk pad pcap (E1 ++ a :: E2) :: B)).length : Nat) : Int)] 107), .ow 111 1 ad (A ++ Pg.mk pad pcap (E1 ++ a :: E2) :: B).length cap (List.flatMap pg (A ++ Pg.mk pad pcap (E1 ++ a :: E2) :: B)), .blk b15 (.cells #[.slice ad6 key.length cp6, .slice ad8 row.length cp8] 41), .fz g14] _ := tb_take hS24; clear hS24
    have haE := hT1.ent a (by rw [flat_mid]; exact List.mem_append_left _ (List.mem_append_right _ (List.mem_append_right _ (.head _))))
    refine wp_seq_k (fun K26 hK26 => ?_)
    refine wp_region_lit ?_
    refine l_q rfl rfl (q_moveP rfl) ?_
    refine l_q rfl rfl (q_nilCheck rfl) ?_
    refine l_q rfl rfl (q_fieldAddr (ft := 105) (o := 0) rfl (by kernel_rfl)) ?_
    refine l_q rfl rfl (q_load1 rfl (by kernel_rfl) (hS25.cell (i := 2) rfl rfl)) ?_
    refine l_q rfl rfl (q_moveI rfl) ?_
    refine l_q rfl rfl (q_ixG (e := 111) (m := 1) (j := i1) rfl rfl (by kernel_rfl) (by kernel_rfl) (by first | rfl | omega) (by omega) (hS25.owG (i := 3) rfl) (by rw [rows_len (c := pg) (m := 1) (fun _ => rfl)]; first | omega | (simp only [List.length_append, List.length_map, List.length_cons, List.length_nil, List.length_take, List.length_drop, List.length_set] <;> omega))) ?_
    refine l_q rfl rfl (q_load1 rfl (by kernel_rfl) (SlG.cell (hS25.owG (i := 3) rfl) (Gle.refl _) (row_at hi2 (c := pg) (m := 1) (fun _ => rfl) (j := 0) rfl))) ?_
    refine l_q rfl rfl (q_moveI rfl) ?_
    refine l_q rfl rfl (q_ixG (e := 41) (m := 2) (j := k1) rfl rfl (by kernel_rfl) (by kernel_rfl) (by first | rfl | omega) (by omega) (hS25.owG (i := 0) rfl) (by rw [rows_len (c := en) (m := 2) (fun _ => rfl)]; first | omega | (simp only [List.length_append, List.length_map, List.length_cons, List.length_nil, List.length_take, List.length_drop, List.length_set] <;> omega))) ?_
    refine l_q rfl rfl (q_fieldG (ft := 23) (o := 1) rfl (by kernel_rfl)) ?_
    refine l_q rfl rfl (q_load1 rfl (by kernel_rfl) (SlG.cell (hS25.owG (i := 0) rfl) (Gle.refl _) (row_at hk2 (c := en) (m := 2) (fun _ => rfl) (j := 1) rfl))) ?_
    refine l_q rfl rfl (q_assignS rfl) ?_
    refine l_nil ?_
    refine hK26 _ _ ?_
    refine wp_seq_k (fun K27 hK27 => ?_)
    refine r_any (by kernel_rfl) hS25 (fun w28 hS28 => ?_)
    clear hS25
    refine o_pure (i := 0) (fun _ _ => trivial) rfl rfl (by kernel_rfl) (goes0 rfl) (QOk.then (QOk.then QOk.body)) (fun w => q_moveP rfl) ?_
    refine o_pure (i := 1) (fun _ _ => trivial) rfl rfl (by kernel_rfl) (goes0 rfl) (QOk.then (QOk.then QOk.body)) (fun w => q_nilCheck rfl) ?_
    refine o_pure (i := 2) (fun _ _ => trivial) rfl rfl (by kernel_rfl) (goes0 rfl) (QOk.then (QOk.then QOk.body)) (fun w => q_fieldAddr (ft := 105) (o := 0) rfl (by kernel_rfl)) ?_
    refine o_held (i := 3) [5, 6, 9, 10] (fun _ _ => trivial) rfl rfl (by kernel_rfl) (goes0 rfl) (QOk.then (QOk.then QOk.body)) (q_load1 rfl (by kernel_rfl) (hS28.cell (i := 2) rfl rfl)) ?_
    refine o_pure (i := 4) (fun j w => ⟨(fun _ _ => trivial) j w, fun _ h => h⟩) rfl rfl (by kernel_rfl) (goes0 rfl) (QOk.then (QOk.then QOk.body)) (fun w => q_moveI rfl) ?_
    refine o_pure (i := 5) (fun j w => ⟨(fun _ _ => trivial) j w, fun _ h => h⟩) rfl rfl (by kernel_rfl) (goes0 rfl) (QOk.then (QOk.then QOk.body)) (fun w => q_ixG (e := 111) (m := 1) (j := i1) rfl rfl (by kernel_rfl) (by kernel_rfl) (by first | rfl | omega) (by omega) (hS28.owG (i := 3) rfl) (by rw [rows_len (c := pg) (m := 1) (fun _ => rfl)]; first | omega | (simp only [List.length_append, List.length_map, List.length_cons, List.length_nil, List.length_take, List.length_drop, List.length_set] <;> omega))) ?_
    refine o_held (i := 6) [9, 10] (fun j w => ⟨(fun _ _ => trivial) j w, fun _ h => h⟩) rfl rfl (by kernel_rfl) (goes0 rfl) (QOk.then (QOk.then QOk.body)) (q_load1 rfl (by kernel_rfl) (SlG.cell (hS28.owG (i := 3) rfl) (Gle.refl _) (row_at hi2 (c := pg) (m := 1) (fun _ => rfl) (j := 0) rfl))) ?_
    refine o_pure (i := 7) (fun j w => ⟨(fun j w => ⟨(fun _ _ => trivial) j w, fun _ h => h⟩) j w, fun _ h => h⟩) rfl rfl (by kernel_rfl) (goes0 rfl) (QOk.then (QOk.then QOk.body)) (fun w => q_moveI rfl) ?_
    refine o_held (i := 8) [9, 10] (fun j w => ⟨(fun j w => ⟨(fun _ _ => trivial) j w, fun _ h => h⟩) j w, fun _ h => h⟩) rfl rfl (by kernel_rfl) (goes0 rfl) (QOk.then (QOk.then QOk.body)) (q_loadA (m := 2) rfl (by kernel_rfl) (by kernel_rfl) (hS28.blk (i := 4) rfl) rfl rfl) ?_
    refine o_pure (i := 9) (fun j w => ⟨(fun j w => ⟨(fun j w => ⟨(fun _ _ => trivial) j w, fun _ h => h⟩) j w, fun _ h => h⟩) j w, fun _ h => h⟩) rfl rfl (by kernel_rfl) (goes0 rfl) (QOk.then (QOk.then QOk.body)) (fun w => q_ixG (e := 41) (m := 2) (j := k1) rfl rfl (by kernel_rfl) (by kernel_rfl) (by first | rfl | omega) (by omega) (hS28.owG (i := 0) rfl) (by rw [rows_len (c := en) (m := 2) (fun _ => rfl)]; first | omega | (simp only [List.length_append, List.length_map, List.length_cons, List.length_nil, List.length_take, List.length_drop, List.length_set] <;> omega))) ?_
    refine o_eff (i := 10) (by kernel_rfl) rfl (goes0 rfl) (fun K hK => ?_)
    refine e_stOwA (cs := [.slice ad6 key.length cp6, .slice ad8 row.length cp8]) hS28 rfl rfl (by kernel_rfl) (by repeat' (first | exact trivial | refine ⟨by first | rfl | assumption | exact one_if (by assumption), ?_⟩)) (i := 0) rfl (by simp only [List.length_cons, List.length_nil]; omega) (by first | decide | exact Nat.succ_pos _) (rows_set (r := (En.mk ad6 cp6 key ad8 cp8 row)) (c := en) (m := 2) (fun _ => rfl) rfl (by first | omega | (simp; omega))) (fun w29 (hS29 : St _ _ [.ow 41 2 pad ((E1 ++ a :: E2).length) pcap (List.flatMap en ((E1 ++ a :: E2).set k1 (En.mk ad6 cp6 key ad8 cp8 row))), .pk (List.map pgc A ++ List.map pgc B), .blk k (.cells #[.slice ad ((A ++ Pg.mk pad pcap (E1 ++ a :: E2) :: B).length) cap, .int .i64 (((flat (A ++ Pg.mk pad pcap (E1 ++ a :: E2) :: B)).length : Nat) : Int)] 107), .ow 111 1 ad (A ++ Pg.mk pad pcap (E1 ++ a :: E2) :: B).length cap (List.flatMap pg (A ++ Pg.mk pad pcap (E1 ++ a :: E2) :: B)), .blk b15 (.cells #[.slice ad6 key.length cp6, .slice ad8 row.length cp8] 41), .fz g14] _) => ?_)
    clear hS28
    refine hK _ _ ⟨⟨⟨trivial, fun h => absurd h (by decide)⟩, fun h => absurd h (by decide)⟩, fun h => absurd h (by decide)⟩ ?_; clear hK K
    have hS30 : St _ _ [.ow 41 2 pad ((E1 ++ a :: E2).length) pcap (List.flatMap en (E1 ++ (En.mk ad6 cp6 key ad8 cp8 row) :: E2)), .pk (List.map pgc A ++ List.map pgc B), .blk k (.cells #[.slice ad ((A ++ Pg.mk pad pcap (E1 ++ a :: E2) :: B).length) cap, .int .i64 (((flat (A ++ Pg.mk pad pcap (E1 ++ a :: E2) :: B)).length : Nat) : Int)] 107), .ow 111 1 ad (A ++ Pg.mk pad pcap (E1 ++ a :: E2) :: B).length cap (List.flatMap pg (A ++ Pg.mk pad pcap (E1 ++ a :: E2) :: B)), .blk b15 (.cells #[.slice ad6 key.length cp6, .slice ad8 row.length cp8] 41), .fz g14] _ := hS29.cast (by rw [← set_mid (x := a) (y := (En.mk ad6 cp6 key ad8 cp8 row)) (B := E2) hE1]); clear hS29
    refine o_done (by kernel_rfl) ?_
    refine hK27 _ _ ?_
    refine wp_seq_k (fun K31 hK31 => ?_)
    refine wp_region_lit ?_
    refine l_q rfl rfl (q_moveS rfl) ?_
    refine l_q rfl rfl (q_assignS rfl) ?_
    refine l_q rfl rfl (q_assignB rfl) ?_
    refine l_nil ?_
    refine hK31 _ _ ?_
    refine wp_ret ?_
    refine c_ret2 rfl rfl rfl ?_
    have hS32 : St _ _ [.pk (List.map pgc A ++ List.map pgc (Pg.mk pad pcap (E1 ++ (En.mk ad6 cp6 key ad8 cp8 row) :: E2) :: B)), .blk k (.cells #[.slice ad ((A ++ Pg.mk pad pcap (E1 ++ a :: E2) :: B).length) cap, .int .i64 (((flat (A ++ Pg.mk pad pcap (E1 ++ a :: E2) :: B)).length : Nat) : Int)] 107), .ow 111 1 ad (A ++ Pg.mk pad pcap (E1 ++ a :: E2) :: B).length cap (List.flatMap pg (A ++ Pg.mk pad pcap (E1 ++ a :: E2) :: B)), .blk b15 (.cells #[.slice ad6 key.length cp6, .slice ad8 row.length cp8] 41), .fz g14] _ := tb_put (es := (E1 ++ (En.mk ad6 cp6 key ad8 cp8 row) :: E2)) hS30 (by simp) rfl; clear hS30
    have hS33 := hS32.fr2; clear hS32
    have hS34 := hS33.fr2; clear hS33
    have hS35 : St _ _ [tb k ad cap (A ++ Pg.mk pad pcap (E1 ++ (En.mk ad6 cp6 key ad8 cp8 row) :: E2) :: B), .blk b15 (.cells #[.slice ad6 key.length cp6, .slice ad8 row.length cp8] 41), .fz g14] _ := tb_shut (ps := (A ++ Pg.mk pad pcap (E1 ++ (En.mk ad6 cp6 key ad8 cp8 row) :: E2) :: B)) hS34 (by simp) (by simp [flat_mid]) (by simp [pg]) (by simp); clear hS34
    have hS36 := hS35.fr2; clear hS35
    have hS37 := hS36.fr1; clear hS36
    have hS38 : St _ _ [tb k ad cap (A ++ Pg.mk pad pcap (E1 ++ (En.mk ad6 cp6 key ad8 cp8 row) :: E2) :: B), .fz g14] _ := hS37.only 2; clear hS37
    have hpy := put_yes (ps := (A ++ Pg.mk pad pcap (E1 ++ a :: E2) :: B)) (ps' := (A ++ Pg.mk pad pcap (E1 ++ (En.mk ad6 cp6 key ad8 cp8 row) :: E2) :: B)) (r := row) (e := (En.mk ad6 cp6 key ad8 cp8 row)) flat_mid flat_mid hcut hak rfl
    have hent := ent_in (E2 := E2) (ent_out (a := a) (by rw [← flat_mid (ad := pad) (cap := pcap)]; exact hT1.ent)) heE
    have hfew := few_mid (ad' := pad) (cap' := pcap) (es' := (E1 ++ (En.mk ad6 cp6 key ad8 cp8 row) :: E2)) hT1.pok.few (by have := hT1.pok.few _ (List.mem_append_right _ (.head _)); simpa using this)
    exact ⟨_, _, rfl, ⟨_, _, _, _, a.ra, a.rb.length, a.rc, by rw [hpy.2]; rfl, rfl, hgg, hT1.put hpy.1 hfew (by rw [flat_mid]; exact hent), hpy.1, by subst hak; exact OldR.yes hpy.2 haE⟩, hS38⟩
  ·
    have hc23b := hc23
    try simp only [decide_eq_true_eq, decide_eq_false_iff_not, Bool.not_eq_true', Bool.not_eq_false', Bool.and_eq_true, Bool.or_eq_true, Int.not_lt, Int.not_le, ne_eq, Decidable.not_not] at hc23
    obtain rfl : fd1 = false := by first | exact hc23 | simpa using hc23
    refine wp_skip ?_
    refine hK21 _ _ ?_
    refine wp_seq_k (fun K39 hK39 => ?_)
    refine wp_region_lit ?_
    refine l_q rfl rfl (q_moveP rfl) ?_
    refine l_q rfl rfl (q_nilCheck rfl) ?_
    refine l_q rfl rfl (q_fieldAddr (ft := 3) (o := 1) rfl (by kernel_rfl)) ?_
    refine l_q rfl rfl (q_load1 rfl (by kernel_rfl) (hS18.cell (i := 0) rfl rfl)) ?_
    refine l_q rfl rfl (q_addx rfl rfl (by first | decide | omega) (by first | decide | omega)) ?_
    refine l_q rfl rfl (q_nilCheck rfl) ?_
    refine l_q rfl rfl (q_fieldAddr (ft := 3) (o := 1) rfl (by kernel_rfl)) ?_
    refine l_e rfl (fun K hK => ?_)
    refine e_store1 hS18 rfl rfl (by kernel_rfl) (by first | rfl | assumption) (i := 0) rfl rfl (fun w40 (hS40 : St _ _ [.blk k (.cells #[.slice ad ps.length cap, .int .i64 ((((flat ps).length : Nat) : Int) + (1 : Int))] 107), .ow 111 1 ad ps.length cap (List.flatMap pg ps), .pk (List.map pgc ps), .blk b15 (.cells #[.slice ad6 key.length cp6, .slice ad8 row.length cp8] 41), .fz g14] _) => ?_)
    clear hS18
    refine hK _ _ ?_; clear hK K
    refine l_nil ?_
    refine hK39 _ _ ?_
    refine wp_seq_k (fun K41 hK41 => ?_)
    refine wp_seq_k (fun K42 hK42 => ?_)
    refine wp_region_lit ?_
    refine l_q rfl rfl (q_moveI rfl) ?_
    refine l_q rfl rfl (q_moveP rfl) ?_
    refine l_q rfl rfl (q_nilCheck rfl) ?_
    refine l_q rfl rfl (q_fieldAddr (ft := 105) (o := 0) rfl (by kernel_rfl)) ?_
    refine l_q rfl rfl (q_load1 rfl (by kernel_rfl) (hS40.cell (i := 0) rfl rfl)) ?_
    refine l_q rfl rfl (q_lenSl (e := 111) rfl (by kernel_rfl)) ?_
    refine l_q rfl rfl (q_eql rfl rfl) ?_
    refine l_nil ?_
    refine hK42 _ _ ?_
    refine c_cond rfl (fun hc43 => ?_) (fun hc43 => ?_)
    ·
      have hc43b := hc43
      try simp only [decide_eq_true_eq, decide_eq_false_iff_not, Bool.not_eq_true', Bool.not_eq_false', Bool.and_eq_true, Bool.or_eq_true, Int.not_lt, Int.not_le, ne_eq, Decidable.not_not] at hc43
      obtain ⟨hps, hk0, _⟩ := hw1.lt.1 (by omega)
      subst hps
      refine wp_seq_k (fun K44 hK44 => ?_)
      refine r_any (by kernel_rfl) hS40 (fun w45 hS45 => ?_)
      clear hS40
      refine o_pure (i := 0) (fun _ _ => trivial) rfl rfl (by kernel_rfl) (goes0 rfl) (QOk.then (QOk.then QOk.body)) (fun w => q_moveP rfl) ?_
      refine o_pure (i := 1) (fun _ _ => trivial) rfl rfl (by kernel_rfl) (goes0 rfl) (QOk.then (QOk.then QOk.body)) (fun w => q_moveP rfl) ?_
      refine o_pure (i := 2) (fun _ _ => trivial) rfl rfl (by kernel_rfl) (goes0 rfl) (QOk.then (QOk.then QOk.body)) (fun w => q_nilCheck rfl) ?_
      refine o_pure (i := 3) (fun _ _ => trivial) rfl rfl (by kernel_rfl) (goes0 rfl) (QOk.then (QOk.then QOk.body)) (fun w => q_fieldAddr (ft := 105) (o := 0) rfl (by kernel_rfl)) ?_
      refine o_held (i := 4) [8, 9, 10, 11] (fun _ _ => trivial) rfl rfl (by kernel_rfl) (goes0 rfl) (QOk.then (QOk.then QOk.body)) (q_load1 rfl (by kernel_rfl) (hS45.cell (i := 0) rfl rfl)) ?_
      refine o_held (i := 5) [6, 7, 8, 9, 10, 11] (fun j w => ⟨(fun _ _ => trivial) j w, fun _ h => h⟩) rfl rfl (by kernel_rfl) (goes0 rfl) (QOk.then (QOk.then QOk.body)) (q_loadA (m := 2) rfl (by kernel_rfl) (by kernel_rfl) (hS45.blk (i := 3) rfl) rfl rfl) ?_
      refine o_eff (i := 6) (by kernel_rfl) rfl (goes0 rfl) (fun K hK => ?_)
      refine e_buildSliceA (e := 41) (m := 2) (zv := .agg #[.slice none 0 0, .slice none 0 0]) hS45 (by kernel_rfl) (by kernel_rfl) (by kernel_rfl) rfl rfl rfl rfl (fun b46 w46 (hS46 : St _ _ [.blk b46 (.cells #[.slice ad6 key.length cp6, .slice ad8 row.length cp8] 41), .blk k (.cells #[.slice ad (([] : List Pg).length) cap, .int .i64 ((((flat ([] : List Pg)).length : Nat) : Int) + (1 : Int))] 107), .ow 111 1 ad ([] : List Pg).length cap (List.flatMap pg ([] : List Pg)), .pk (List.map pgc ([] : List Pg)), .blk b15 (.cells #[.slice ad6 key.length cp6, .slice ad8 row.length cp8] 41), .fz g14] _) => ?_)
      clear hS45
      have hS46o : St _ _ [.ow 41 2 (some ⟨b46, 0, none⟩) 1 1 (List.flatMap en [(En.mk ad6 cp6 key ad8 cp8 row)]), .blk k (.cells #[.slice ad (([] : List Pg).length) cap, .int .i64 ((((flat ([] : List Pg)).length : Nat) : Int) + (1 : Int))] 107), .ow 111 1 ad ([] : List Pg).length cap (List.flatMap pg ([] : List Pg)), .pk (List.map pgc ([] : List Pg)), .blk b15 (.cells #[.slice ad6 key.length cp6, .slice ad8 row.length cp8] 41), .fz g14] _ := hS46.blkOw' (i := 0) (m := 1) (size := 2) (xs := List.flatMap en [(En.mk ad6 cp6 key ad8 cp8 row)]) rfl rfl rfl (by decide); clear hS46
      refine hK _ _ ⟨⟨trivial, fun _ _ => by first | exact q_load1 rfl (by kernel_rfl) (hS46o.cell (i := 1) rfl rfl)⟩, fun h => absurd h (by decide)⟩ ?_; clear hK K
      refine o_eff (i := 7) (by kernel_rfl) rfl (goes0 rfl) (fun K hK => ?_)
      refine e_buildSlice1 (e := 111) (zv := .slice none 0 0) (xs := [.tmp 71]) hS46o (by kernel_rfl) (by kernel_rfl) (by kernel_rfl) rfl rfl rfl rfl (allone (by repeat' (first | exact trivial | refine ⟨by first | rfl | assumption, ?_⟩))) rfl (fun b47 w47 (hS47 : St _ _ [.blk b47 (.cells #[.slice (some ⟨b46, 0, none⟩) 1 1] 111), .ow 41 2 (some ⟨b46, 0, none⟩) 1 1 (List.flatMap en [(En.mk ad6 cp6 key ad8 cp8 row)]), .blk k (.cells #[.slice ad (([] : List Pg).length) cap, .int .i64 ((((flat ([] : List Pg)).length : Nat) : Int) + (1 : Int))] 107), .ow 111 1 ad ([] : List Pg).length cap (List.flatMap pg ([] : List Pg)), .pk (List.map pgc ([] : List Pg)), .blk b15 (.cells #[.slice ad6 key.length cp6, .slice ad8 row.length cp8] 41), .fz g14] _) => ?_)
      clear hS46o
      have hS47o : St _ _ [.ow 111 1 (some ⟨b47, 0, none⟩) 1 1 (List.flatMap pg [Pg.mk (some ⟨b46, 0, none⟩) 1 [(En.mk ad6 cp6 key ad8 cp8 row)]]), .ow 41 2 (some ⟨b46, 0, none⟩) 1 1 (List.flatMap en [(En.mk ad6 cp6 key ad8 cp8 row)]), .blk k (.cells #[.slice ad (([] : List Pg).length) cap, .int .i64 ((((flat ([] : List Pg)).length : Nat) : Int) + (1 : Int))] 107), .ow 111 1 ad ([] : List Pg).length cap (List.flatMap pg ([] : List Pg)), .pk (List.map pgc ([] : List Pg)), .blk b15 (.cells #[.slice ad6 key.length cp6, .slice ad8 row.length cp8] 41), .fz g14] _ := hS47.blkOw' (i := 0) (m := 1) (size := 1) (xs := List.flatMap pg [Pg.mk (some ⟨b46, 0, none⟩) 1 [(En.mk ad6 cp6 key ad8 cp8 row)]]) rfl rfl rfl (by decide); clear hS47
      refine hK _ _ ⟨⟨trivial, fun _ _ => by first | exact q_load1 rfl (by kernel_rfl) (hS47o.cell (i := 2) rfl rfl)⟩, fun h => absurd h (by decide)⟩ ?_; clear hK K
      refine o_eff (i := 8) (by kernel_rfl) rfl (goes0 rfl) (fun K hK => ?_)
      refine e_app (e := 111) (size := 1) (bytes := 24) (i := 3) (m' := (([] : List Pg) ++ [Pg.mk (some ⟨b46, 0, none⟩) 1 [(En.mk ad6 cp6 key ad8 cp8 row)]]).length) (by kernel_rfl) hS47o rfl rfl rfl (SlG.src (e := 111) (by kernel_rfl) (hS47o.owG (i := 0) rfl) ((rows_len (c := pg) (m := 1) (fun _ => rfl) _).trans (by first | rfl | (simp only [List.length_append, List.length_map, List.length_cons, List.length_nil, List.length_take, List.length_drop, List.length_set]; done) | (simp only [List.length_append, List.length_map, List.length_cons, List.length_nil, List.length_take, List.length_drop, List.length_set]; omega) | omega)) (by decide) (rows_one pg_ones)) (by first | omega | (simp only [List.length_append, List.length_map, List.length_cons, List.length_nil, List.length_take, List.length_drop, List.length_set] <;> omega) | (simp; done)) rows_app (by first | omega | (simp only [maxLen, List.length_append, List.length_map, List.length_cons, List.length_nil, List.length_take, List.length_drop, List.length_set] <;> omega) | (simp only [maxLen]; omega)) (by first | omega | (simp only [List.length_append, List.length_map, List.length_cons, List.length_nil, List.length_take, List.length_drop, List.length_set] <;> omega)) (fun ad48 cp48 w48 (hS48 : St _ _ [.ow 111 1 (some ⟨b47, 0, none⟩) 1 1 (List.flatMap pg [Pg.mk (some ⟨b46, 0, none⟩) 1 [(En.mk ad6 cp6 key ad8 cp8 row)]]), .ow 41 2 (some ⟨b46, 0, none⟩) 1 1 (List.flatMap en [(En.mk ad6 cp6 key ad8 cp8 row)]), .blk k (.cells #[.slice ad (([] : List Pg).length) cap, .int .i64 ((((flat ([] : List Pg)).length : Nat) : Int) + (1 : Int))] 107), .ow 111 1 ad48 ((([] : List Pg) ++ [Pg.mk (some ⟨b46, 0, none⟩) 1 [(En.mk ad6 cp6 key ad8 cp8 row)]]).length) cp48 (List.flatMap pg (([] : List Pg) ++ [Pg.mk (some ⟨b46, 0, none⟩) 1 [(En.mk ad6 cp6 key ad8 cp8 row)]])), .pk (List.map pgc ([] : List Pg)), .blk b15 (.cells #[.slice ad6 key.length cp6, .slice ad8 row.length cp8] 41), .fz g14] _) => ?_)
      clear hS47o
      refine hK _ _ ⟨⟨trivial, fun h => absurd h (by decide)⟩, fun h => absurd h (by decide)⟩ ?_; clear hK K
      refine o_pure (i := 9) (fun j w => ⟨(fun j w => ⟨(fun _ _ => trivial) j w, fun _ h => h⟩) j w, fun _ h => h⟩) rfl rfl (by kernel_rfl) (goes0 rfl) (QOk.then (QOk.then QOk.body)) (fun w => q_nilCheck rfl) ?_
      refine o_pure (i := 10) (fun j w => ⟨(fun j w => ⟨(fun _ _ => trivial) j w, fun _ h => h⟩) j w, fun _ h => h⟩) rfl rfl (by kernel_rfl) (goes0 rfl) (QOk.then (QOk.then QOk.body)) (fun w => q_fieldAddr (ft := 105) (o := 0) rfl (by kernel_rfl)) ?_
      refine o_eff (i := 11) (by kernel_rfl) rfl (goes0 rfl) (fun K hK => ?_)
      refine e_store1 hS48 rfl rfl (by kernel_rfl) (by first | rfl | assumption) (i := 2) rfl rfl (fun w49 (hS49 : St _ _ [.ow 111 1 (some ⟨b47, 0, none⟩) 1 1 (List.flatMap pg [Pg.mk (some ⟨b46, 0, none⟩) 1 [(En.mk ad6 cp6 key ad8 cp8 row)]]), .ow 41 2 (some ⟨b46, 0, none⟩) 1 1 (List.flatMap en [(En.mk ad6 cp6 key ad8 cp8 row)]), .blk k (.cells #[.slice ad48 ((([] : List Pg) ++ [Pg.mk (some ⟨b46, 0, none⟩) 1 [(En.mk ad6 cp6 key ad8 cp8 row)]]).length) cp48, .int .i64 ((((flat ([] : List Pg)).length : Nat) : Int) + (1 : Int))] 107), .ow 111 1 ad48 ((([] : List Pg) ++ [Pg.mk (some ⟨b46, 0, none⟩) 1 [(En.mk ad6 cp6 key ad8 cp8 row)]]).length) cp48 (List.flatMap pg (([] : List Pg) ++ [Pg.mk (some ⟨b46, 0, none⟩) 1 [(En.mk ad6 cp6 key ad8 cp8 row)]])), .pk (List.map pgc ([] : List Pg)), .blk b15 (.cells #[.slice ad6 key.length cp6, .slice ad8 row.length cp8] 41), .fz g14] _) => ?_)
      clear hS48
      refine hK _ _ ⟨⟨trivial, fun h => absurd h (by decide)⟩, fun h => absurd h (by decide)⟩ ?_; clear hK K
      refine o_done (by kernel_rfl) ?_
      refine hK44 _ _ ?_
      refine wp_seq_k (fun K50 hK50 => ?_)
      refine wp_region_lit ?_
      refine l_q rfl rfl (q_assignS rfl) ?_
      refine l_q rfl rfl (q_assignB rfl) ?_
      refine l_nil ?_
      refine hK50 _ _ ?_
      refine wp_ret ?_
      refine c_ret2 rfl rfl rfl ?_
      have hS51 := hS49.fr4; clear hS49
      have hS52 := hS51.fr2; clear hS51
      have hS53 : St _ _ [.pk (List.map pgc [(Pg.mk (some ⟨b46, 0, none⟩) 1 [(En.mk ad6 cp6 key ad8 cp8 row)])]), .ow 111 1 (some ⟨b47, 0, none⟩) 1 1 (List.flatMap pg [Pg.mk (some ⟨b46, 0, none⟩) 1 [(En.mk ad6 cp6 key ad8 cp8 row)]]), .blk k (.cells #[.slice ad48 ((([] : List Pg) ++ [Pg.mk (some ⟨b46, 0, none⟩) 1 [(En.mk ad6 cp6 key ad8 cp8 row)]]).length) cp48, .int .i64 ((((flat ([] : List Pg)).length : Nat) : Int) + (1 : Int))] 107), .ow 111 1 ad48 ((([] : List Pg) ++ [Pg.mk (some ⟨b46, 0, none⟩) 1 [(En.mk ad6 cp6 key ad8 cp8 row)]]).length) cp48 (List.flatMap pg (([] : List Pg) ++ [Pg.mk (some ⟨b46, 0, none⟩) 1 [(En.mk ad6 cp6 key ad8 cp8 row)]])), .blk b15 (.cells #[.slice ad6 key.length cp6, .slice ad8 row.length cp8] 41), .fz g14] _ := tb_put (A := []) (B := []) (es := [(En.mk ad6 cp6 key ad8 cp8 row)]) hS52 rfl rfl; clear hS52
      have hS54 : St _ _ [.pk (List.map pgc [(Pg.mk (some ⟨b46, 0, none⟩) 1 [(En.mk ad6 cp6 key ad8 cp8 row)])]), .ow 111 1 (some ⟨b47, 0, none⟩) 1 1 (List.flatMap pg [Pg.mk (some ⟨b46, 0, none⟩) 1 [(En.mk ad6 cp6 key ad8 cp8 row)]]), .blk k (.cells #[.slice ad48 ((([] : List Pg) ++ [Pg.mk (some ⟨b46, 0, none⟩) 1 [(En.mk ad6 cp6 key ad8 cp8 row)]]).length) cp48, .int .i64 ((((flat ([] : List Pg)).length + 1) : Nat) : Int)] 107), .ow 111 1 ad48 ((([] : List Pg) ++ [Pg.mk (some ⟨b46, 0, none⟩) 1 [(En.mk ad6 cp6 key ad8 cp8 row)]]).length) cp48 (List.flatMap pg (([] : List Pg) ++ [Pg.mk (some ⟨b46, 0, none⟩) 1 [(En.mk ad6 cp6 key ad8 cp8 row)]])), .blk b15 (.cells #[.slice ad6 key.length cp6, .slice ad8 row.length cp8] 41), .fz g14] _ := hS53.cast (by rw [show ((((flat ([] : List Pg)).length + 1) : Nat) : Int) = ((((flat ([] : List Pg)).length : Nat) : Int) + (1 : Int)) from by omega]); clear hS53
      have hS55 := hS54.fr3; clear hS54
      have hS56 := hS55.fr3; clear hS55
      have hS57 : St _ _ [tb k ad48 cp48 [(Pg.mk (some ⟨b46, 0, none⟩) 1 [(En.mk ad6 cp6 key ad8 cp8 row)])], .ow 111 1 (some ⟨b47, 0, none⟩) 1 1 (List.flatMap pg [Pg.mk (some ⟨b46, 0, none⟩) 1 [(En.mk ad6 cp6 key ad8 cp8 row)]]), .blk b15 (.cells #[.slice ad6 key.length cp6, .slice ad8 row.length cp8] 41), .fz g14] _ := tb_shut (ps := [(Pg.mk (some ⟨b46, 0, none⟩) 1 [(En.mk ad6 cp6 key ad8 cp8 row)])]) hS56 rfl rfl rfl rfl; clear hS56
      have hS58 := hS57.fr3; clear hS57
      have hS59 := hS58.fr1; clear hS58
      have hS60 : St _ _ [tb k ad48 cp48 [(Pg.mk (some ⟨b46, 0, none⟩) 1 [(En.mk ad6 cp6 key ad8 cp8 row)])], .fz g14] _ := hS59.only 2; clear hS59
      exact ⟨_, _, rfl, ⟨_, _, _, _, none, 0, 0, by rw [getA_nil]; rfl, rfl, hgg, TOk.one heE, putA_nil.symm, OldR.no getA_nil⟩, hS60⟩
    ·
      have hc43b := hc43
      try simp only [decide_eq_true_eq, decide_eq_false_iff_not, Bool.not_eq_true', Bool.not_eq_false', Bool.and_eq_true, Bool.or_eq_true, Int.not_lt, Int.not_le, ne_eq, Decidable.not_not] at hc43
      obtain ⟨A, pad, pcap, B, E1, E2, rfl, hA, hE1, hcut, hne⟩ := hw1.no (hw1.lt.2 (by omega))
      have hi2 : (A ++ Pg.mk pad pcap (E1 ++ E2) :: B)[i1]? = some _ := at_mid hA
      have hlen1 : i1 < (A ++ Pg.mk pad pcap (E1 ++ E2) :: B).length := (List.getElem?_eq_some_iff.1 hi2).1
      have hpE : ∀ x ∈ (E1 ++ (En.mk ad6 cp6 key ad8 cp8 row) :: E2), EnG g14 x := fun x hx => (ent_in (A := A) (B := B) (E1 := E1) (E2 := E2) (by rw [← flat_mid (ad := pad) (cap := pcap)]; exact hT1.ent) heE x (List.mem_append_left _ (List.mem_append_right _ hx))).1
      have hpl := hT1.pok.few _ (List.mem_append_right _ (.head _))
      have hll : (E1 ++ (En.mk ad6 cp6 key ad8 cp8 row) :: E2).length = (E1 ++ E2).length + 1 := by simp; omega
      have hfl : (flat (A ++ Pg.mk pad pcap (E1 ++ E2) :: B)).length = (flat A).length + (E1 ++ E2).length + (flat B).length := by rw [flat_mid]; simp only [List.length_append]
      have hpgl := hT1.pages
      dsimp only at hpl hpgl
      have hS61 := hS40.fr2; clear hS40
      have hS62 : St _ _ [.ow 41 2 pad ((E1 ++ E2).length) pcap (List.flatMap en (E1 ++ E2)), .pk (List.map pgc A ++ List.map pgc B), .blk k (.cells #[.slice ad ((A ++ Pg.mk pad pcap (E1 ++ E2) :: B).length) cap, .int .i64 ((((flat (A ++ Pg.mk pad pcap (E1 ++ E2) :: B)).length : Nat) : Int) + (1 : Int))] 107), .ow 111 1 ad (A ++ Pg.mk pad pcap (E1 ++ E2) :: B).length cap (List.flatMap pg (A ++ Pg.mk pad pcap (E1 ++ E2) :: B)), .blk b15 (.cells #[.slice ad6 key.length cp6, .slice ad8 row.length cp8] 41), .fz g14] _ := tb_take hS61; clear hS61
      refine wp_skip ?_
      refine hK41 _ _ ?_
      refine wp_seq_k (fun K63 hK63 => ?_)
      refine r_any (by kernel_rfl) hS62 (fun w64 hS64 => ?_)
      clear hS62
      refine o_pure (i := 0) (fun _ _ => trivial) rfl rfl (by kernel_rfl) (goes0 rfl) (QOk.then QOk.body) (fun w => q_moveP rfl) ?_
      refine o_pure (i := 1) (fun _ _ => trivial) rfl rfl (by kernel_rfl) (goes0 rfl) (QOk.then QOk.body) (fun w => q_nilCheck rfl) ?_
      refine o_pure (i := 2) (fun _ _ => trivial) rfl rfl (by kernel_rfl) (goes0 rfl) (QOk.then QOk.body) (fun w => q_fieldAddr (ft := 105) (o := 0) rfl (by kernel_rfl)) ?_
      refine o_held (i := 3) [16, 17] (fun _ _ => trivial) rfl rfl (by kernel_rfl) (goes0 rfl) (QOk.then QOk.body) (q_load1 rfl (by kernel_rfl) (hS64.cell (i := 2) rfl rfl)) ?_
      refine o_pure (i := 4) (fun j w => ⟨(fun _ _ => trivial) j w, fun _ h => h⟩) rfl rfl (by kernel_rfl) (goes0 rfl) (QOk.then QOk.body) (fun w => q_moveI rfl) ?_
      refine o_pure (i := 5) (fun j w => ⟨(fun _ _ => trivial) j w, fun _ h => h⟩) rfl rfl (by kernel_rfl) (goes0 rfl) (QOk.then QOk.body) (fun w => q_moveP rfl) ?_
      refine o_pure (i := 6) (fun j w => ⟨(fun _ _ => trivial) j w, fun _ h => h⟩) rfl rfl (by kernel_rfl) (goes0 rfl) (QOk.then QOk.body) (fun w => q_nilCheck rfl) ?_
      refine o_pure (i := 7) (fun j w => ⟨(fun _ _ => trivial) j w, fun _ h => h⟩) rfl rfl (by kernel_rfl) (goes0 rfl) (QOk.then QOk.body) (fun w => q_fieldAddr (ft := 105) (o := 0) rfl (by kernel_rfl)) ?_
      refine o_held (i := 8) [10, 11, 15, 16, 17] (fun j w => ⟨(fun _ _ => trivial) j w, fun _ h => h⟩) rfl rfl (by kernel_rfl) (goes0 rfl) (QOk.then QOk.body) (q_load1 rfl (by kernel_rfl) (hS64.cell (i := 2) rfl rfl)) ?_
      refine o_pure (i := 9) (fun j w => ⟨(fun j w => ⟨(fun _ _ => trivial) j w, fun _ h => h⟩) j w, fun _ h => h⟩) rfl rfl (by kernel_rfl) (goes0 rfl) (QOk.then QOk.body) (fun w => q_moveI rfl) ?_
      refine o_pure (i := 10) (fun j w => ⟨(fun j w => ⟨(fun _ _ => trivial) j w, fun _ h => h⟩) j w, fun _ h => h⟩) rfl rfl (by kernel_rfl) (goes0 rfl) (QOk.then QOk.body) (fun w => q_ixG (e := 111) (m := 1) (j := i1) rfl rfl (by kernel_rfl) (by kernel_rfl) (by first | rfl | omega) (by omega) (hS64.owG (i := 3) rfl) (by rw [rows_len (c := pg) (m := 1) (fun _ => rfl)]; first | omega | (simp only [List.length_append, List.length_map, List.length_cons, List.length_nil, List.length_take, List.length_drop, List.length_set] <;> omega))) ?_
      refine o_held (i := 11) [15, 16, 17] (fun j w => ⟨(fun j w => ⟨(fun _ _ => trivial) j w, fun _ h => h⟩) j w, fun _ h => h⟩) rfl rfl (by kernel_rfl) (goes0 rfl) (QOk.then QOk.body) (q_load1 rfl (by kernel_rfl) (SlG.cell (hS64.owG (i := 3) rfl) (Gle.refl _) (row_at hi2 (c := pg) (m := 1) (fun _ => rfl) (j := 0) rfl))) ?_
      refine o_pure (i := 12) (fun j w => ⟨(fun j w => ⟨(fun j w => ⟨(fun _ _ => trivial) j w, fun _ h => h⟩) j w, fun _ h => h⟩) j w, fun _ h => h⟩) rfl rfl (by kernel_rfl) (goes0 rfl) (QOk.then QOk.body) (fun w => q_moveI rfl) ?_
      refine o_held (i := 13) [14, 15, 16, 17] (fun j w => ⟨(fun j w => ⟨(fun j w => ⟨(fun _ _ => trivial) j w, fun _ h => h⟩) j w, fun _ h => h⟩) j w, fun _ h => h⟩) rfl rfl (by kernel_rfl) (goes0 rfl) (QOk.then QOk.body) (q_loadA (m := 2) rfl (by kernel_rfl) (by kernel_rfl) (hS64.blk (i := 4) rfl) rfl rfl) ?_
      refine o_eff (i := 14) (by kernel_rfl) rfl (goes0 rfl) (fun K hK => ?_)
      refine e_buildSliceA (e := 41) (m := 2) (zv := .agg #[.slice none 0 0, .slice none 0 0]) hS64 (by kernel_rfl) (by kernel_rfl) (by kernel_rfl) rfl rfl rfl rfl (fun b65 w65 (hS65 : St _ _ [.blk b65 (.cells #[.slice ad6 key.length cp6, .slice ad8 row.length cp8] 41), .ow 41 2 pad ((E1 ++ E2).length) pcap (List.flatMap en (E1 ++ E2)), .pk (List.map pgc A ++ List.map pgc B), .blk k (.cells #[.slice ad ((A ++ Pg.mk pad pcap (E1 ++ E2) :: B).length) cap, .int .i64 ((((flat (A ++ Pg.mk pad pcap (E1 ++ E2) :: B)).length : Nat) : Int) + (1 : Int))] 107), .ow 111 1 ad (A ++ Pg.mk pad pcap (E1 ++ E2) :: B).length cap (List.flatMap pg (A ++ Pg.mk pad pcap (E1 ++ E2) :: B)), .blk b15 (.cells #[.slice ad6 key.length cp6, .slice ad8 row.length cp8] 41), .fz g14] _) => ?_)
      clear hS64
      have hS65o : St _ _ [.ow 41 2 (some ⟨b65, 0, none⟩) 1 1 (List.flatMap en [(En.mk ad6 cp6 key ad8 cp8 row)]), .ow 41 2 pad ((E1 ++ E2).length) pcap (List.flatMap en (E1 ++ E2)), .pk (List.map pgc A ++ List.map pgc B), .blk k (.cells #[.slice ad ((A ++ Pg.mk pad pcap (E1 ++ E2) :: B).length) cap, .int .i64 ((((flat (A ++ Pg.mk pad pcap (E1 ++ E2) :: B)).length : Nat) : Int) + (1 : Int))] 107), .ow 111 1 ad (A ++ Pg.mk pad pcap (E1 ++ E2) :: B).length cap (List.flatMap pg (A ++ Pg.mk pad pcap (E1 ++ E2) :: B)), .blk b15 (.cells #[.slice ad6 key.length cp6, .slice ad8 row.length cp8] 41), .fz g14] _ := hS65.blkOw' (i := 0) (m := 1) (size := 2) (xs := List.flatMap en [(En.mk ad6 cp6 key ad8 cp8 row)]) rfl rfl rfl (by decide); clear hS65
      refine hK _ _ ⟨⟨⟨⟨trivial, fun _ _ => by first | exact q_load1 rfl (by kernel_rfl) (hS65o.cell (i := 3) rfl rfl)⟩, fun _ _ => by first | exact q_load1 rfl (by kernel_rfl) (hS65o.cell (i := 3) rfl rfl)⟩, fun _ _ => by first | exact q_load1 rfl (by kernel_rfl) (SlG.cell (hS65o.owG (i := 4) rfl) (Gle.refl _) (row_at hi2 (c := pg) (m := 1) (fun _ => rfl) (j := 0) rfl))⟩, fun h => absurd h (by decide)⟩ ?_; clear hK K
      refine o_eff (i := 15) (by kernel_rfl) rfl (goes0 rfl) (fun K hK => ?_)
      have hS67 := hS65o.fr1; clear hS65o
      obtain ⟨gz66, hg66, hZ66⟩ := St.rogP (Γ1 := [_]) (i := 0) hS67 rfl
      refine e_call (by kernel_rfl) (insE1 (E1 := E1) (E2 := E2) (En.mk ad6 cp6 key ad8 cp8 row) rfl hE1 (by first | omega | (simp only [List.length_append, List.length_map, List.length_cons, List.length_nil, List.length_take, List.length_drop, List.length_set] <;> omega)) gz66 hZ66 hg66 (St.begin (Γ := [_]) hS67)) rfl (after_M (Γ1 := [_]) hS67 (fun v66 G66 w66 hv66 hS66 => ?_))
      clear hS67
      obtain ⟨pad1, pcap1, rfl, rfl⟩ := hv66
      have hS68 : St _ _ [.ow 41 2 pad1 ((E1 ++ (En.mk ad6 cp6 key ad8 cp8 row) :: E2).length) pcap1 (List.flatMap en (E1 ++ (En.mk ad6 cp6 key ad8 cp8 row) :: E2)), .ow 41 2 (some ⟨b65, 0, none⟩) 1 1 (List.flatMap en [(En.mk ad6 cp6 key ad8 cp8 row)]), .pk (List.map pgc A ++ List.map pgc B), .blk k (.cells #[.slice ad ((A ++ Pg.mk pad pcap (E1 ++ E2) :: B).length) cap, .int .i64 ((((flat (A ++ Pg.mk pad pcap (E1 ++ E2) :: B)).length : Nat) : Int) + (1 : Int))] 107), .ow 111 1 ad (A ++ Pg.mk pad pcap (E1 ++ E2) :: B).length cap (List.flatMap pg (A ++ Pg.mk pad pcap (E1 ++ E2) :: B)), .blk b15 (.cells #[.slice ad6 key.length cp6, .slice ad8 row.length cp8] 41), .fz g14] _ := hS66; clear hS66
      refine hK _ _ ⟨⟨⟨⟨trivial, fun _ _ => by first | exact q_load1 rfl (by kernel_rfl) (hS68.cell (i := 3) rfl rfl)⟩, fun h => absurd h (by decide)⟩, fun h => absurd h (by decide)⟩, fun h => absurd h (by decide)⟩ ?_; clear hK K
      refine o_pure (i := 16) (fun j w => ⟨(fun j w => ⟨(fun j w => ⟨(fun j w => ⟨(fun _ _ => trivial) j w, fun _ h => h⟩) j w, fun _ h => h⟩) j w, fun _ h => h⟩) j w, fun _ h => h⟩) rfl rfl (by kernel_rfl) (goes0 rfl) (QOk.then QOk.body) (fun w => q_ixG (e := 111) (m := 1) (j := i1) rfl rfl (by kernel_rfl) (by kernel_rfl) (by first | rfl | omega) (by omega) (hS68.owG (i := 4) rfl) (by rw [rows_len (c := pg) (m := 1) (fun _ => rfl)]; first | omega | (simp only [List.length_append, List.length_map, List.length_cons, List.length_nil, List.length_take, List.length_drop, List.length_set] <;> omega))) ?_
      refine o_eff (i := 17) (by kernel_rfl) rfl (goes0 rfl) (fun K hK => ?_)
      refine e_stOw hS68 rfl rfl (by kernel_rfl) rfl (i := 4) rfl (by omega) (rows_set1 (c := pg) (r := (Pg.mk pad1 pcap1 (E1 ++ (En.mk ad6 cp6 key ad8 cp8 row) :: E2))) (fun _ => rfl) rfl) (fun w69 (hS69 : St _ _ [.ow 41 2 pad1 ((E1 ++ (En.mk ad6 cp6 key ad8 cp8 row) :: E2).length) pcap1 (List.flatMap en (E1 ++ (En.mk ad6 cp6 key ad8 cp8 row) :: E2)), .ow 41 2 (some ⟨b65, 0, none⟩) 1 1 (List.flatMap en [(En.mk ad6 cp6 key ad8 cp8 row)]), .pk (List.map pgc A ++ List.map pgc B), .blk k (.cells #[.slice ad ((A ++ Pg.mk pad pcap (E1 ++ E2) :: B).length) cap, .int .i64 ((((flat (A ++ Pg.mk pad pcap (E1 ++ E2) :: B)).length : Nat) : Int) + (1 : Int))] 107), .ow 111 1 ad ((A ++ Pg.mk pad pcap (E1 ++ E2) :: B).length) cap (List.flatMap pg ((A ++ Pg.mk pad pcap (E1 ++ E2) :: B).set i1 (Pg.mk pad1 pcap1 (E1 ++ (En.mk ad6 cp6 key ad8 cp8 row) :: E2)))), .blk b15 (.cells #[.slice ad6 key.length cp6, .slice ad8 row.length cp8] 41), .fz g14] _) => ?_)
      clear hS68
      refine hK _ _ ⟨⟨⟨⟨trivial, fun h => absurd h (by decide)⟩, fun h => absurd h (by decide)⟩, fun h => absurd h (by decide)⟩, fun h => absurd h (by decide)⟩ ?_; clear hK K
      have hS70 : St _ _ [.ow 41 2 pad1 ((E1 ++ (En.mk ad6 cp6 key ad8 cp8 row) :: E2).length) pcap1 (List.flatMap en (E1 ++ (En.mk ad6 cp6 key ad8 cp8 row) :: E2)), .ow 41 2 (some ⟨b65, 0, none⟩) 1 1 (List.flatMap en [(En.mk ad6 cp6 key ad8 cp8 row)]), .pk (List.map pgc A ++ List.map pgc B), .blk k (.cells #[.slice ad ((A ++ Pg.mk pad pcap (E1 ++ E2) :: B).length) cap, .int .i64 ((((flat (A ++ Pg.mk pad pcap (E1 ++ E2) :: B)).length : Nat) : Int) + (1 : Int))] 107), .ow 111 1 ad ((A ++ Pg.mk pad pcap (E1 ++ E2) :: B).length) cap (List.flatMap pg (A ++ Pg.mk pad1 pcap1 (E1 ++ (En.mk ad6 cp6 key ad8 cp8 row) :: E2) :: B)), .blk b15 (.cells #[.slice ad6 key.length cp6, .slice ad8 row.length cp8] 41), .fz g14] _ := hS69.cast (by rw [← set_mid (x := Pg.mk pad pcap (E1 ++ E2)) (y := Pg.mk pad1 pcap1 (E1 ++ (En.mk ad6 cp6 key ad8 cp8 row) :: E2)) (B := B) hA]); clear hS69
      have hi3 : (A ++ Pg.mk pad1 pcap1 (E1 ++ (En.mk ad6 cp6 key ad8 cp8 row) :: E2) :: B)[i1]? = some _ := at_mid hA
      have hlen3 : i1 < (A ++ Pg.mk pad1 pcap1 (E1 ++ (En.mk ad6 cp6 key ad8 cp8 row) :: E2) :: B).length := (List.getElem?_eq_some_iff.1 hi3).1
      refine o_done (by kernel_rfl) ?_
      refine hK63 _ _ ?_
      refine wp_seq_k (fun K71 hK71 => ?_)
      refine wp_seq_k (fun K72 hK72 => ?_)
      refine wp_region_lit ?_
      refine l_q rfl rfl (q_moveP rfl) ?_
      refine l_q rfl rfl (q_nilCheck rfl) ?_
      refine l_q rfl rfl (q_fieldAddr (ft := 105) (o := 0) rfl (by kernel_rfl)) ?_
      refine l_q rfl rfl (q_load1 rfl (by kernel_rfl) (hS70.cell (i := 3) rfl rfl)) ?_
      refine l_q rfl rfl (q_moveI rfl) ?_
      refine l_q rfl rfl (q_ixG (e := 111) (m := 1) (j := i1) rfl rfl (by kernel_rfl) (by kernel_rfl) (by first | rfl | omega) (by omega) (hS70.owG (i := 4) rfl) (by rw [rows_len (c := pg) (m := 1) (fun _ => rfl)]; first | omega | (simp only [List.length_append, List.length_map, List.length_cons, List.length_nil, List.length_take, List.length_drop, List.length_set] <;> omega))) ?_
      refine l_q rfl rfl (q_load1 rfl (by kernel_rfl) (SlG.cell (hS70.owG (i := 4) rfl) (Gle.refl _) (row_at hi3 (c := pg) (m := 1) (fun _ => rfl) (j := 0) rfl))) ?_
      refine l_q rfl rfl (q_assignS rfl) ?_
      refine l_nil ?_
      refine hK72 _ _ ?_
      refine wp_seq_k (fun K73 hK73 => ?_)
      refine wp_region_lit ?_
      refine l_q rfl rfl (q_moveS rfl) ?_
      refine l_q rfl rfl (q_lenSl (e := 41) rfl (by kernel_rfl)) ?_
      refine l_q rfl rfl (q_gtr rfl rfl) ?_
      refine l_nil ?_
      refine hK73 _ _ ?_
      refine c_cond rfl (fun hc74 => ?_) (fun hc74 => ?_)
      ·
        have hc74b := hc74
        try simp only [decide_eq_true_eq, decide_eq_false_iff_not, Bool.not_eq_true', Bool.not_eq_false', Bool.and_eq_true, Bool.or_eq_true, Int.not_lt, Int.not_le, ne_eq, Decidable.not_not] at hc74
        refine wp_seq_k (fun K75 hK75 => ?_)
        refine r_any (by kernel_rfl) hS70 (fun w76 hS76 => ?_)
        clear hS70
        refine o_pure (i := 0) (fun _ _ => trivial) rfl rfl (by kernel_rfl) (goes0 rfl) (QOk.then (QOk.then QOk.body)) (fun w => q_moveP rfl) ?_
        refine o_pure (i := 1) (fun _ _ => trivial) rfl rfl (by kernel_rfl) (goes0 rfl) (QOk.then (QOk.then QOk.body)) (fun w => q_nilCheck rfl) ?_
        refine o_pure (i := 2) (fun _ _ => trivial) rfl rfl (by kernel_rfl) (goes0 rfl) (QOk.then (QOk.then QOk.body)) (fun w => q_fieldAddr (ft := 105) (o := 0) rfl (by kernel_rfl)) ?_
        refine o_held (i := 3) [7, 8] (fun _ _ => trivial) rfl rfl (by kernel_rfl) (goes0 rfl) (QOk.then (QOk.then QOk.body)) (q_load1 rfl (by kernel_rfl) (hS76.cell (i := 3) rfl rfl)) ?_
        refine o_pure (i := 4) (fun j w => ⟨(fun _ _ => trivial) j w, fun _ h => h⟩) rfl rfl (by kernel_rfl) (goes0 rfl) (QOk.then (QOk.then QOk.body)) (fun w => q_moveI rfl) ?_
        refine o_pure (i := 5) (fun j w => ⟨(fun _ _ => trivial) j w, fun _ h => h⟩) rfl rfl (by kernel_rfl) (goes0 rfl) (QOk.then (QOk.then QOk.body)) (fun w => q_moveS rfl) ?_
        have hcp77 := (hS76.owLen (i := 0) rfl).2.1
        refine o_pure (i := 6) (fun j w => ⟨(fun _ _ => trivial) j w, fun _ h => h⟩) rfl rfl (by kernel_rfl) (goes0 rfl) (QOk.then (QOk.then QOk.body)) (fun w => q_sliceX (e := 41) (size := 2) (l := 0) (h := 8) (m := 8) (ad' := pad1) (len' := 8) (cap' := 8) rfl (by kernel_rfl) (by kernel_rfl) ⟨_, int_nat (by first | rfl | omega) rfl⟩ ⟨_, int_nat (by first | rfl | omega) rfl⟩ rfl (by omega) (by first | omega | (simp only [List.length_append, List.length_map, List.length_cons, List.length_nil, List.length_take, List.length_drop, List.length_set] <;> omega)) (by first | omega | (simp only [List.length_append, List.length_map, List.length_cons, List.length_nil, List.length_take, List.length_drop, List.length_set] <;> omega)) rfl subS_zero (Nat.sub_zero _) (Nat.sub_zero _)) ?_
        refine o_pure (i := 7) (fun j w => ⟨(fun _ _ => trivial) j w, fun _ h => h⟩) rfl rfl (by kernel_rfl) (goes0 rfl) (QOk.then (QOk.then QOk.body)) (fun w => q_ixG (e := 111) (m := 1) (j := i1) rfl rfl (by kernel_rfl) (by kernel_rfl) (by first | rfl | omega) (by omega) (hS76.owG (i := 4) rfl) (by rw [rows_len (c := pg) (m := 1) (fun _ => rfl)]; first | omega | (simp only [List.length_append, List.length_map, List.length_cons, List.length_nil, List.length_take, List.length_drop, List.length_set] <;> omega))) ?_
        refine o_eff (i := 8) (by kernel_rfl) rfl (goes0 rfl) (fun K hK => ?_)
        refine e_stOw hS76 rfl rfl (by kernel_rfl) rfl (i := 4) rfl (by omega) (rows_set1 (c := pg) (r := (Pg.mk pad1 8 ((E1 ++ (En.mk ad6 cp6 key ad8 cp8 row) :: E2).take 8))) (fun _ => rfl) (show pg (Pg.mk pad1 8 ((E1 ++ (En.mk ad6 cp6 key ad8 cp8 row) :: E2).take 8)) = [Value.slice pad1 8 8] from by show [Value.slice pad1 _ 8] = _; rw [List.length_take, Nat.min_eq_left (by omega)])) (fun w78 (hS78 : St _ _ [.ow 41 2 pad1 ((E1 ++ (En.mk ad6 cp6 key ad8 cp8 row) :: E2).length) pcap1 (List.flatMap en (E1 ++ (En.mk ad6 cp6 key ad8 cp8 row) :: E2)), .ow 41 2 (some ⟨b65, 0, none⟩) 1 1 (List.flatMap en [(En.mk ad6 cp6 key ad8 cp8 row)]), .pk (List.map pgc A ++ List.map pgc B), .blk k (.cells #[.slice ad ((A ++ Pg.mk pad pcap (E1 ++ E2) :: B).length) cap, .int .i64 ((((flat (A ++ Pg.mk pad pcap (E1 ++ E2) :: B)).length : Nat) : Int) + (1 : Int))] 107), .ow 111 1 ad ((A ++ Pg.mk pad pcap (E1 ++ E2) :: B).length) cap (List.flatMap pg ((A ++ Pg.mk pad1 pcap1 (E1 ++ (En.mk ad6 cp6 key ad8 cp8 row) :: E2) :: B).set i1 (Pg.mk pad1 8 ((E1 ++ (En.mk ad6 cp6 key ad8 cp8 row) :: E2).take 8)))), .blk b15 (.cells #[.slice ad6 key.length cp6, .slice ad8 row.length cp8] 41), .fz g14] _) => ?_)
        clear hS76
        refine hK _ _ ⟨trivial, fun h => absurd h (by decide)⟩ ?_; clear hK K
        have hS79 : St _ _ [.ow 41 2 pad1 ((E1 ++ (En.mk ad6 cp6 key ad8 cp8 row) :: E2).length) pcap1 (List.flatMap en (E1 ++ (En.mk ad6 cp6 key ad8 cp8 row) :: E2)), .ow 41 2 (some ⟨b65, 0, none⟩) 1 1 (List.flatMap en [(En.mk ad6 cp6 key ad8 cp8 row)]), .pk (List.map pgc A ++ List.map pgc B), .blk k (.cells #[.slice ad ((A ++ Pg.mk pad pcap (E1 ++ E2) :: B).length) cap, .int .i64 ((((flat (A ++ Pg.mk pad pcap (E1 ++ E2) :: B)).length : Nat) : Int) + (1 : Int))] 107), .ow 111 1 ad ((A ++ Pg.mk pad pcap (E1 ++ E2) :: B).length) cap (List.flatMap pg (A ++ (Pg.mk pad1 8 ((E1 ++ (En.mk ad6 cp6 key ad8 cp8 row) :: E2).take 8)) :: B)), .blk b15 (.cells #[.slice ad6 key.length cp6, .slice ad8 row.length cp8] 41), .fz g14] _ := hS78.cast (by rw [← set_mid (x := Pg.mk pad1 pcap1 (E1 ++ (En.mk ad6 cp6 key ad8 cp8 row) :: E2)) (y := (Pg.mk pad1 8 ((E1 ++ (En.mk ad6 cp6 key ad8 cp8 row) :: E2).take 8))) (B := B) hA]); clear hS78
        have hS80 : St _ _ [.ow 41 2 pad1 ((E1 ++ (En.mk ad6 cp6 key ad8 cp8 row) :: E2).length) pcap1 (List.flatMap en (E1 ++ (En.mk ad6 cp6 key ad8 cp8 row) :: E2)), .ow 41 2 (some ⟨b65, 0, none⟩) 1 1 (List.flatMap en [(En.mk ad6 cp6 key ad8 cp8 row)]), .pk (List.map pgc A ++ List.map pgc B), .blk k (.cells #[.slice ad ((A ++ Pg.mk pad pcap (E1 ++ E2) :: B).length) cap, .int .i64 ((((flat (A ++ Pg.mk pad pcap (E1 ++ E2) :: B)).length : Nat) : Int) + (1 : Int))] 107), .ow 111 1 ad ((A ++ Pg.mk pad pcap (E1 ++ E2) :: B).length) cap (List.flatMap pg (A ++ [(Pg.mk pad1 8 ((E1 ++ (En.mk ad6 cp6 key ad8 cp8 row) :: E2).take 8))] ++ B)), .blk b15 (.cells #[.slice ad6 key.length cp6, .slice ad8 row.length cp8] 41), .fz g14] _ := hS79.cast (by rw [show (A ++ [(Pg.mk pad1 8 ((E1 ++ (En.mk ad6 cp6 key ad8 cp8 row) :: E2).take 8))] ++ B) = (A ++ (Pg.mk pad1 8 ((E1 ++ (En.mk ad6 cp6 key ad8 cp8 row) :: E2).take 8)) :: B) from by simp]); clear hS79
        refine o_done (by kernel_rfl) ?_
        refine hK75 _ _ ?_
        refine r_any (by kernel_rfl) hS80 (fun w81 hS81 => ?_)
        clear hS80
        refine o_pure (i := 0) (fun _ _ => trivial) rfl rfl (by kernel_rfl) (goes0 rfl) (QOk.then QOk.body) (fun w => q_moveP rfl) ?_
        refine o_pure (i := 1) (fun _ _ => trivial) rfl rfl (by kernel_rfl) (goes0 rfl) (QOk.then QOk.body) (fun w => q_moveP rfl) ?_
        refine o_pure (i := 2) (fun _ _ => trivial) rfl rfl (by kernel_rfl) (goes0 rfl) (QOk.then QOk.body) (fun w => q_nilCheck rfl) ?_
        refine o_pure (i := 3) (fun _ _ => trivial) rfl rfl (by kernel_rfl) (goes0 rfl) (QOk.then QOk.body) (fun w => q_fieldAddr (ft := 105) (o := 0) rfl (by kernel_rfl)) ?_
        refine o_held (i := 4) [11, 12, 13, 14] (fun _ _ => trivial) rfl rfl (by kernel_rfl) (goes0 rfl) (QOk.then QOk.body) (q_load1 rfl (by kernel_rfl) (hS81.cell (i := 3) rfl rfl)) ?_
        refine o_pure (i := 5) (fun j w => ⟨(fun _ _ => trivial) j w, fun _ h => h⟩) rfl rfl (by kernel_rfl) (goes0 rfl) (QOk.then QOk.body) (fun w => q_moveI rfl) ?_
        refine o_pure (i := 6) (fun j w => ⟨(fun _ _ => trivial) j w, fun _ h => h⟩) rfl rfl (by kernel_rfl) (goes0 rfl) (QOk.then QOk.body) (fun w => q_addx rfl rfl (by first | decide | omega) (by first | decide | omega)) ?_
        refine o_pure (i := 7) (fun j w => ⟨(fun _ _ => trivial) j w, fun _ h => h⟩) rfl rfl (by kernel_rfl) (goes0 rfl) (QOk.then QOk.body) (fun w => q_moveS rfl) ?_
        refine o_pure (i := 8) (fun j w => ⟨(fun _ _ => trivial) j w, fun _ h => h⟩) rfl rfl (by kernel_rfl) (goes0 rfl) (QOk.then QOk.body) (fun w => q_sliceX (e := 41) (size := 2) (l := 8) (h := (E1 ++ (En.mk ad6 cp6 key ad8 cp8 row) :: E2).length) (m := pcap1) (ad' := (subS pad1 8 2 pcap1)) (len' := ((E1 ++ (En.mk ad6 cp6 key ad8 cp8 row) :: E2).length - 8)) (cap' := (pcap1 - 8)) rfl (by kernel_rfl) (by kernel_rfl) rfl rfl ⟨_, int_nat (by first | rfl | omega) rfl⟩ (by omega) (by first | omega | (simp only [List.length_append, List.length_map, List.length_cons, List.length_nil, List.length_take, List.length_drop, List.length_set] <;> omega)) (by first | omega | (simp only [List.length_append, List.length_map, List.length_cons, List.length_nil, List.length_take, List.length_drop, List.length_set] <;> omega)) rfl rfl rfl rfl) ?_
        refine o_eff (i := 9) (by kernel_rfl) rfl (goes0 rfl) (fun K hK => ?_)
        refine e_call (by kernel_rfl) (clonE (List.flatMap en ((E1 ++ (En.mk ad6 cp6 key ad8 cp8 row) :: E2).drop 8)) (rows_one en_ones) _ _ ((E1 ++ (En.mk ad6 cp6 key ad8 cp8 row) :: E2).length - 8) ((rows_len (c := en) (m := 2) (fun _ => rfl) _).trans (by first | rfl | (simp only [List.length_append, List.length_map, List.length_cons, List.length_nil, List.length_take, List.length_drop, List.length_set]; done) | (simp only [List.length_append, List.length_map, List.length_cons, List.length_nil, List.length_take, List.length_drop, List.length_set]; omega) | omega)) (by first | omega | (simp only [List.length_append, List.length_map, List.length_cons, List.length_nil, List.length_take, List.length_drop, List.length_set] <;> omega)) _ ((fun q => (rows_subD (c := en) (m := 2) (fun _ => rfl) (by first | omega | (simp only [List.length_append, List.length_map, List.length_cons, List.length_nil, List.length_take, List.length_drop, List.length_set] <;> omega)) (SlG.sub (l := 8) (size := 2) (m := pcap1) (n := (E1 ++ (En.mk ad6 cp6 key ad8 cp8 row) :: E2).length - 8) q (by first | omega | (simp only [List.length_append, List.length_map, List.length_cons, List.length_nil, List.length_take, List.length_drop, List.length_set] <;> omega)) (by decide)))) (hS81.owG (i := 0) rfl))) rfl (after_N hS81 (fun v82 G82 w82 hv82 hS82 => ?_))
        clear hS81
        obtain ⟨cad82, ccp82, rfl, rfl⟩ := hv82
        have hS83 : St _ _ [.ow 41 2 cad82 ((E1 ++ (En.mk ad6 cp6 key ad8 cp8 row) :: E2).length - 8) ccp82 (List.flatMap en ((E1 ++ (En.mk ad6 cp6 key ad8 cp8 row) :: E2).drop 8)), .ow 41 2 pad1 ((E1 ++ (En.mk ad6 cp6 key ad8 cp8 row) :: E2).length) pcap1 (List.flatMap en (E1 ++ (En.mk ad6 cp6 key ad8 cp8 row) :: E2)), .ow 41 2 (some ⟨b65, 0, none⟩) 1 1 (List.flatMap en [(En.mk ad6 cp6 key ad8 cp8 row)]), .pk (List.map pgc A ++ List.map pgc B), .blk k (.cells #[.slice ad ((A ++ Pg.mk pad pcap (E1 ++ E2) :: B).length) cap, .int .i64 ((((flat (A ++ Pg.mk pad pcap (E1 ++ E2) :: B)).length : Nat) : Int) + (1 : Int))] 107), .ow 111 1 ad ((A ++ Pg.mk pad pcap (E1 ++ E2) :: B).length) cap (List.flatMap pg (A ++ [(Pg.mk pad1 8 ((E1 ++ (En.mk ad6 cp6 key ad8 cp8 row) :: E2).take 8))] ++ B)), .blk b15 (.cells #[.slice ad6 key.length cp6, .slice ad8 row.length cp8] 41), .fz g14] _ := hS82; clear hS82
        refine hK _ _ ⟨trivial, fun _ _ => by first | exact q_load1 rfl (by kernel_rfl) (hS83.cell (i := 4) rfl rfl)⟩ ?_; clear hK K
        refine o_eff (i := 10) (by kernel_rfl) rfl (goes0 rfl) (fun K hK => ?_)
        refine e_buildSlice1 (e := 111) (zv := .slice none 0 0) (xs := [.tmp 120]) hS83 (by kernel_rfl) (by kernel_rfl) (by kernel_rfl) rfl rfl rfl rfl (allone (by repeat' (first | exact trivial | refine ⟨by first | rfl | assumption, ?_⟩))) rfl (fun b84 w84 (hS84 : St _ _ [.blk b84 (.cells #[.slice cad82 ((E1 ++ (En.mk ad6 cp6 key ad8 cp8 row) :: E2).length - 8) ccp82] 111), .ow 41 2 cad82 ((E1 ++ (En.mk ad6 cp6 key ad8 cp8 row) :: E2).length - 8) ccp82 (List.flatMap en ((E1 ++ (En.mk ad6 cp6 key ad8 cp8 row) :: E2).drop 8)), .ow 41 2 pad1 ((E1 ++ (En.mk ad6 cp6 key ad8 cp8 row) :: E2).length) pcap1 (List.flatMap en (E1 ++ (En.mk ad6 cp6 key ad8 cp8 row) :: E2)), .ow 41 2 (some ⟨b65, 0, none⟩) 1 1 (List.flatMap en [(En.mk ad6 cp6 key ad8 cp8 row)]), .pk (List.map pgc A ++ List.map pgc B), .blk k (.cells #[.slice ad ((A ++ Pg.mk pad pcap (E1 ++ E2) :: B).length) cap, .int .i64 ((((flat (A ++ Pg.mk pad pcap (E1 ++ E2) :: B)).length : Nat) : Int) + (1 : Int))] 107), .ow 111 1 ad ((A ++ Pg.mk pad pcap (E1 ++ E2) :: B).length) cap (List.flatMap pg (A ++ [(Pg.mk pad1 8 ((E1 ++ (En.mk ad6 cp6 key ad8 cp8 row) :: E2).take 8))] ++ B)), .blk b15 (.cells #[.slice ad6 key.length cp6, .slice ad8 row.length cp8] 41), .fz g14] _) => ?_)
        clear hS83
        have hS84o : St _ _ [.ow 111 1 (some ⟨b84, 0, none⟩) 1 1 (List.flatMap pg [(Pg.mk cad82 ccp82 ((E1 ++ (En.mk ad6 cp6 key ad8 cp8 row) :: E2).drop 8))]), .ow 41 2 cad82 ((E1 ++ (En.mk ad6 cp6 key ad8 cp8 row) :: E2).length - 8) ccp82 (List.flatMap en ((E1 ++ (En.mk ad6 cp6 key ad8 cp8 row) :: E2).drop 8)), .ow 41 2 pad1 ((E1 ++ (En.mk ad6 cp6 key ad8 cp8 row) :: E2).length) pcap1 (List.flatMap en (E1 ++ (En.mk ad6 cp6 key ad8 cp8 row) :: E2)), .ow 41 2 (some ⟨b65, 0, none⟩) 1 1 (List.flatMap en [(En.mk ad6 cp6 key ad8 cp8 row)]), .pk (List.map pgc A ++ List.map pgc B), .blk k (.cells #[.slice ad ((A ++ Pg.mk pad pcap (E1 ++ E2) :: B).length) cap, .int .i64 ((((flat (A ++ Pg.mk pad pcap (E1 ++ E2) :: B)).length : Nat) : Int) + (1 : Int))] 107), .ow 111 1 ad ((A ++ Pg.mk pad pcap (E1 ++ E2) :: B).length) cap (List.flatMap pg (A ++ [(Pg.mk pad1 8 ((E1 ++ (En.mk ad6 cp6 key ad8 cp8 row) :: E2).take 8))] ++ B)), .blk b15 (.cells #[.slice ad6 key.length cp6, .slice ad8 row.length cp8] 41), .fz g14] _ := hS84.blkOw' (i := 0) (m := 1) (size := 1) (xs := List.flatMap pg [(Pg.mk cad82 ccp82 ((E1 ++ (En.mk ad6 cp6 key ad8 cp8 row) :: E2).drop 8))]) rfl (by show _ = [Value.slice _ _ _]; rw [List.length_drop]) rfl (by decide); clear hS84
        refine hK _ _ ⟨trivial, fun _ _ => by first | exact q_load1 rfl (by kernel_rfl) (hS84o.cell (i := 5) rfl rfl)⟩ ?_; clear hK K
        refine o_eff (i := 11) (by kernel_rfl) rfl (goes0 rfl) (fun K hK => ?_)
        have hS86 := hS84o.fr6; clear hS84o
        obtain ⟨gz85, hg85, hZ85⟩ := St.rogP (Γ1 := [_]) (i := 0) hS86 rfl
        refine e_callA (by kernel_rfl) (insP1 (A := (A ++ [(Pg.mk pad1 8 ((E1 ++ (En.mk ad6 cp6 key ad8 cp8 row) :: E2).take 8))])) (B := B) (n := (A ++ Pg.mk pad pcap (E1 ++ E2) :: B).length) (i := i1 + 1) (Pg.mk cad82 ccp82 ((E1 ++ (En.mk ad6 cp6 key ad8 cp8 row) :: E2).drop 8)) (by first | omega | (simp only [List.length_append, List.length_map, List.length_cons, List.length_nil, List.length_take, List.length_drop, List.length_set] <;> omega)) (by first | omega | (simp only [List.length_append, List.length_map, List.length_cons, List.length_nil, List.length_take, List.length_drop, List.length_set] <;> omega)) (by first | omega | (simp only [List.length_append, List.length_map, List.length_cons, List.length_nil, List.length_take, List.length_drop, List.length_set] <;> omega)) gz85 hZ85 hg85 (St.begin (Γ := [_]) hS86)) (show _ = [.slice ad ((A ++ Pg.mk pad pcap (E1 ++ E2) :: B).length) cap, .int .i64 (((i1 : Nat) : Int) + (1 : Int)), .slice (some ⟨b84, 0, none⟩) 1 1] from rfl) (by rw [show (((i1 + 1) : Nat) : Int) = (((i1 : Nat) : Int) + (1 : Int)) from by omega]) (after_M (Γ1 := [_]) hS86 (fun v85 G85 w85 hv85 hS85 => ?_))
        clear hS86
        obtain ⟨rad1, rcap1, rfl, rfl⟩ := hv85
        have hS87 : St _ _ [.ow 111 1 rad1 (((A ++ [(Pg.mk pad1 8 ((E1 ++ (En.mk ad6 cp6 key ad8 cp8 row) :: E2).take 8))]) ++ (Pg.mk cad82 ccp82 ((E1 ++ (En.mk ad6 cp6 key ad8 cp8 row) :: E2).drop 8)) :: B).length) rcap1 (List.flatMap pg ((A ++ [(Pg.mk pad1 8 ((E1 ++ (En.mk ad6 cp6 key ad8 cp8 row) :: E2).take 8))]) ++ (Pg.mk cad82 ccp82 ((E1 ++ (En.mk ad6 cp6 key ad8 cp8 row) :: E2).drop 8)) :: B)), .ow 111 1 (some ⟨b84, 0, none⟩) 1 1 (List.flatMap pg [(Pg.mk cad82 ccp82 ((E1 ++ (En.mk ad6 cp6 key ad8 cp8 row) :: E2).drop 8))]), .ow 41 2 cad82 ((E1 ++ (En.mk ad6 cp6 key ad8 cp8 row) :: E2).length - 8) ccp82 (List.flatMap en ((E1 ++ (En.mk ad6 cp6 key ad8 cp8 row) :: E2).drop 8)), .ow 41 2 pad1 ((E1 ++ (En.mk ad6 cp6 key ad8 cp8 row) :: E2).length) pcap1 (List.flatMap en (E1 ++ (En.mk ad6 cp6 key ad8 cp8 row) :: E2)), .ow 41 2 (some ⟨b65, 0, none⟩) 1 1 (List.flatMap en [(En.mk ad6 cp6 key ad8 cp8 row)]), .pk (List.map pgc A ++ List.map pgc B), .blk k (.cells #[.slice ad ((A ++ Pg.mk pad pcap (E1 ++ E2) :: B).length) cap, .int .i64 ((((flat (A ++ Pg.mk pad pcap (E1 ++ E2) :: B)).length : Nat) : Int) + (1 : Int))] 107), .blk b15 (.cells #[.slice ad6 key.length cp6, .slice ad8 row.length cp8] 41), .fz g14] _ := hS85; clear hS85
        refine hK _ _ ⟨trivial, fun h => absurd h (by decide)⟩ ?_; clear hK K
        refine o_pure (i := 12) (fun j w => ⟨(fun _ _ => trivial) j w, fun _ h => h⟩) rfl rfl (by kernel_rfl) (goes0 rfl) (QOk.then QOk.body) (fun w => q_nilCheck rfl) ?_
        refine o_pure (i := 13) (fun j w => ⟨(fun _ _ => trivial) j w, fun _ h => h⟩) rfl rfl (by kernel_rfl) (goes0 rfl) (QOk.then QOk.body) (fun w => q_fieldAddr (ft := 105) (o := 0) rfl (by kernel_rfl)) ?_
        refine o_eff (i := 14) (by kernel_rfl) rfl (goes0 rfl) (fun K hK => ?_)
        refine e_store1 hS87 rfl rfl (by kernel_rfl) (by first | rfl | assumption) (i := 6) rfl rfl (fun w88 (hS88 : St _ _ [.ow 111 1 rad1 (((A ++ [(Pg.mk pad1 8 ((E1 ++ (En.mk ad6 cp6 key ad8 cp8 row) :: E2).take 8))]) ++ (Pg.mk cad82 ccp82 ((E1 ++ (En.mk ad6 cp6 key ad8 cp8 row) :: E2).drop 8)) :: B).length) rcap1 (List.flatMap pg ((A ++ [(Pg.mk pad1 8 ((E1 ++ (En.mk ad6 cp6 key ad8 cp8 row) :: E2).take 8))]) ++ (Pg.mk cad82 ccp82 ((E1 ++ (En.mk ad6 cp6 key ad8 cp8 row) :: E2).drop 8)) :: B)), .ow 111 1 (some ⟨b84, 0, none⟩) 1 1 (List.flatMap pg [(Pg.mk cad82 ccp82 ((E1 ++ (En.mk ad6 cp6 key ad8 cp8 row) :: E2).drop 8))]), .ow 41 2 cad82 ((E1 ++ (En.mk ad6 cp6 key ad8 cp8 row) :: E2).length - 8) ccp82 (List.flatMap en ((E1 ++ (En.mk ad6 cp6 key ad8 cp8 row) :: E2).drop 8)), .ow 41 2 pad1 ((E1 ++ (En.mk ad6 cp6 key ad8 cp8 row) :: E2).length) pcap1 (List.flatMap en (E1 ++ (En.mk ad6 cp6 key ad8 cp8 row) :: E2)), .ow 41 2 (some ⟨b65, 0, none⟩) 1 1 (List.flatMap en [(En.mk ad6 cp6 key ad8 cp8 row)]), .pk (List.map pgc A ++ List.map pgc B), .blk k (.cells #[.slice rad1 (((A ++ [(Pg.mk pad1 8 ((E1 ++ (En.mk ad6 cp6 key ad8 cp8 row) :: E2).take 8))]) ++ (Pg.mk cad82 ccp82 ((E1 ++ (En.mk ad6 cp6 key ad8 cp8 row) :: E2).drop 8)) :: B).length) rcap1, .int .i64 ((((flat (A ++ Pg.mk pad pcap (E1 ++ E2) :: B)).length : Nat) : Int) + (1 : Int))] 107), .blk b15 (.cells #[.slice ad6 key.length cp6, .slice ad8 row.length cp8] 41), .fz g14] _) => ?_)
        clear hS87
        refine hK _ _ ⟨trivial, fun h => absurd h (by decide)⟩ ?_; clear hK K
        refine o_done (by kernel_rfl) ?_
        refine hK71 _ _ ?_
        refine wp_seq_k (fun K89 hK89 => ?_)
        refine wp_region_lit ?_
        refine l_q rfl rfl (q_assignS rfl) ?_
        refine l_q rfl rfl (q_assignB rfl) ?_
        refine l_nil ?_
        refine hK89 _ _ ?_
        refine wp_ret ?_
        refine c_ret2 rfl rfl rfl ?_
        have hS90 : St _ _ [.ow 111 1 rad1 (((A ++ [(Pg.mk pad1 8 ((E1 ++ (En.mk ad6 cp6 key ad8 cp8 row) :: E2).take 8))]) ++ (Pg.mk cad82 ccp82 ((E1 ++ (En.mk ad6 cp6 key ad8 cp8 row) :: E2).drop 8)) :: B).length) rcap1 (List.flatMap pg ((A ++ [(Pg.mk pad1 8 ((E1 ++ (En.mk ad6 cp6 key ad8 cp8 row) :: E2).take 8))]) ++ (Pg.mk cad82 ccp82 ((E1 ++ (En.mk ad6 cp6 key ad8 cp8 row) :: E2).drop 8)) :: B)), .ow 111 1 (some ⟨b84, 0, none⟩) 1 1 (List.flatMap pg [(Pg.mk cad82 ccp82 ((E1 ++ (En.mk ad6 cp6 key ad8 cp8 row) :: E2).drop 8))]), .ow 41 2 cad82 ((E1 ++ (En.mk ad6 cp6 key ad8 cp8 row) :: E2).length - 8) ccp82 (List.flatMap en ((E1 ++ (En.mk ad6 cp6 key ad8 cp8 row) :: E2).drop 8)), .ow 41 2 pad1 8 8 (List.flatMap en ((E1 ++ (En.mk ad6 cp6 key ad8 cp8 row) :: E2).take 8)), .ow 41 2 (some ⟨b65, 0, none⟩) 1 1 (List.flatMap en [(En.mk ad6 cp6 key ad8 cp8 row)]), .pk (List.map pgc A ++ List.map pgc B), .blk k (.cells #[.slice rad1 (((A ++ [(Pg.mk pad1 8 ((E1 ++ (En.mk ad6 cp6 key ad8 cp8 row) :: E2).take 8))]) ++ (Pg.mk cad82 ccp82 ((E1 ++ (En.mk ad6 cp6 key ad8 cp8 row) :: E2).drop 8)) :: B).length) rcap1, .int .i64 ((((flat (A ++ Pg.mk pad pcap (E1 ++ E2) :: B)).length : Nat) : Int) + (1 : Int))] 107), .blk b15 (.cells #[.slice ad6 key.length cp6, .slice ad8 row.length cp8] 41), .fz g14] _ := hS88.owSubX (i := 3) (l := 0) (hh := 8) (mx := 8) rfl (by omega) (by omega) (by have := (hS88.owLen (i := 3) rfl).2.1; omega) (by omega) subS_zero rfl rfl (rows_subxT (c := en) (m := 2) (fun _ => rfl)); clear hS88
        have hS91 := hS90.fr5; clear hS90
        have hS92 := hS91.fr3; clear hS91
        have hS93 : St _ _ [.pk (List.map pgc A ++ List.map pgc ((Pg.mk cad82 ccp82 ((E1 ++ (En.mk ad6 cp6 key ad8 cp8 row) :: E2).drop 8)) :: B)), .ow 111 1 rad1 (((A ++ [(Pg.mk pad1 8 ((E1 ++ (En.mk ad6 cp6 key ad8 cp8 row) :: E2).take 8))]) ++ (Pg.mk cad82 ccp82 ((E1 ++ (En.mk ad6 cp6 key ad8 cp8 row) :: E2).drop 8)) :: B).length) rcap1 (List.flatMap pg ((A ++ [(Pg.mk pad1 8 ((E1 ++ (En.mk ad6 cp6 key ad8 cp8 row) :: E2).take 8))]) ++ (Pg.mk cad82 ccp82 ((E1 ++ (En.mk ad6 cp6 key ad8 cp8 row) :: E2).drop 8)) :: B)), .ow 111 1 (some ⟨b84, 0, none⟩) 1 1 (List.flatMap pg [(Pg.mk cad82 ccp82 ((E1 ++ (En.mk ad6 cp6 key ad8 cp8 row) :: E2).drop 8))]), .ow 41 2 pad1 8 8 (List.flatMap en ((E1 ++ (En.mk ad6 cp6 key ad8 cp8 row) :: E2).take 8)), .ow 41 2 (some ⟨b65, 0, none⟩) 1 1 (List.flatMap en [(En.mk ad6 cp6 key ad8 cp8 row)]), .blk k (.cells #[.slice rad1 (((A ++ [(Pg.mk pad1 8 ((E1 ++ (En.mk ad6 cp6 key ad8 cp8 row) :: E2).take 8))]) ++ (Pg.mk cad82 ccp82 ((E1 ++ (En.mk ad6 cp6 key ad8 cp8 row) :: E2).drop 8)) :: B).length) rcap1, .int .i64 ((((flat (A ++ Pg.mk pad pcap (E1 ++ E2) :: B)).length : Nat) : Int) + (1 : Int))] 107), .blk b15 (.cells #[.slice ad6 key.length cp6, .slice ad8 row.length cp8] 41), .fz g14] _ := tb_put (es := (E1 ++ (En.mk ad6 cp6 key ad8 cp8 row) :: E2).drop 8) hS92 (by rw [List.length_drop]) rfl; clear hS92
        have hS94 := hS93.fr3; clear hS93
        have hS95 : St _ _ [.pk (List.map pgc A ++ List.map pgc ((Pg.mk pad1 8 ((E1 ++ (En.mk ad6 cp6 key ad8 cp8 row) :: E2).take 8)) :: (Pg.mk cad82 ccp82 ((E1 ++ (En.mk ad6 cp6 key ad8 cp8 row) :: E2).drop 8)) :: B)), .ow 111 1 rad1 (((A ++ [(Pg.mk pad1 8 ((E1 ++ (En.mk ad6 cp6 key ad8 cp8 row) :: E2).take 8))]) ++ (Pg.mk cad82 ccp82 ((E1 ++ (En.mk ad6 cp6 key ad8 cp8 row) :: E2).drop 8)) :: B).length) rcap1 (List.flatMap pg ((A ++ [(Pg.mk pad1 8 ((E1 ++ (En.mk ad6 cp6 key ad8 cp8 row) :: E2).take 8))]) ++ (Pg.mk cad82 ccp82 ((E1 ++ (En.mk ad6 cp6 key ad8 cp8 row) :: E2).drop 8)) :: B)), .ow 111 1 (some ⟨b84, 0, none⟩) 1 1 (List.flatMap pg [(Pg.mk cad82 ccp82 ((E1 ++ (En.mk ad6 cp6 key ad8 cp8 row) :: E2).drop 8))]), .ow 41 2 (some ⟨b65, 0, none⟩) 1 1 (List.flatMap en [(En.mk ad6 cp6 key ad8 cp8 row)]), .blk k (.cells #[.slice rad1 (((A ++ [(Pg.mk pad1 8 ((E1 ++ (En.mk ad6 cp6 key ad8 cp8 row) :: E2).take 8))]) ++ (Pg.mk cad82 ccp82 ((E1 ++ (En.mk ad6 cp6 key ad8 cp8 row) :: E2).drop 8)) :: B).length) rcap1, .int .i64 ((((flat (A ++ Pg.mk pad pcap (E1 ++ E2) :: B)).length : Nat) : Int) + (1 : Int))] 107), .blk b15 (.cells #[.slice ad6 key.length cp6, .slice ad8 row.length cp8] 41), .fz g14] _ := tb_put (B := (Pg.mk cad82 ccp82 ((E1 ++ (En.mk ad6 cp6 key ad8 cp8 row) :: E2).drop 8)) :: B) (es := (E1 ++ (En.mk ad6 cp6 key ad8 cp8 row) :: E2).take 8) hS94 (by rw [List.length_take]; omega) rfl; clear hS94
        have hS96 : St _ _ [.pk (List.map pgc A ++ List.map pgc ((Pg.mk pad1 8 ((E1 ++ (En.mk ad6 cp6 key ad8 cp8 row) :: E2).take 8)) :: (Pg.mk cad82 ccp82 ((E1 ++ (En.mk ad6 cp6 key ad8 cp8 row) :: E2).drop 8)) :: B)), .ow 111 1 rad1 (((A ++ [(Pg.mk pad1 8 ((E1 ++ (En.mk ad6 cp6 key ad8 cp8 row) :: E2).take 8))]) ++ (Pg.mk cad82 ccp82 ((E1 ++ (En.mk ad6 cp6 key ad8 cp8 row) :: E2).drop 8)) :: B).length) rcap1 (List.flatMap pg ((A ++ [(Pg.mk pad1 8 ((E1 ++ (En.mk ad6 cp6 key ad8 cp8 row) :: E2).take 8))]) ++ (Pg.mk cad82 ccp82 ((E1 ++ (En.mk ad6 cp6 key ad8 cp8 row) :: E2).drop 8)) :: B)), .ow 111 1 (some ⟨b84, 0, none⟩) 1 1 (List.flatMap pg [(Pg.mk cad82 ccp82 ((E1 ++ (En.mk ad6 cp6 key ad8 cp8 row) :: E2).drop 8))]), .ow 41 2 (some ⟨b65, 0, none⟩) 1 1 (List.flatMap en [(En.mk ad6 cp6 key ad8 cp8 row)]), .blk k (.cells #[.slice rad1 (((A ++ [(Pg.mk pad1 8 ((E1 ++ (En.mk ad6 cp6 key ad8 cp8 row) :: E2).take 8))]) ++ (Pg.mk cad82 ccp82 ((E1 ++ (En.mk ad6 cp6 key ad8 cp8 row) :: E2).drop 8)) :: B).length) rcap1, .int .i64 ((((flat (A ++ Pg.mk pad pcap (E1 ++ E2) :: B)).length + 1) : Nat) : Int)] 107), .blk b15 (.cells #[.slice ad6 key.length cp6, .slice ad8 row.length cp8] 41), .fz g14] _ := hS95.cast (by rw [show ((((flat (A ++ Pg.mk pad pcap (E1 ++ E2) :: B)).length + 1) : Nat) : Int) = ((((flat (A ++ Pg.mk pad pcap (E1 ++ E2) :: B)).length : Nat) : Int) + (1 : Int)) from by omega]); clear hS95
        have hS97 := hS96.fr1; clear hS96
        have hS98 := hS97.fr4; clear hS97
        have hS99 : St _ _ [tb k rad1 rcap1 (A ++ (Pg.mk pad1 8 ((E1 ++ (En.mk ad6 cp6 key ad8 cp8 row) :: E2).take 8)) :: (Pg.mk cad82 ccp82 ((E1 ++ (En.mk ad6 cp6 key ad8 cp8 row) :: E2).drop 8)) :: B), .ow 111 1 (some ⟨b84, 0, none⟩) 1 1 (List.flatMap pg [(Pg.mk cad82 ccp82 ((E1 ++ (En.mk ad6 cp6 key ad8 cp8 row) :: E2).drop 8))]), .ow 41 2 (some ⟨b65, 0, none⟩) 1 1 (List.flatMap en [(En.mk ad6 cp6 key ad8 cp8 row)]), .blk b15 (.cells #[.slice ad6 key.length cp6, .slice ad8 row.length cp8] 41), .fz g14] _ := tb_shut (ps := (A ++ (Pg.mk pad1 8 ((E1 ++ (En.mk ad6 cp6 key ad8 cp8 row) :: E2).take 8)) :: (Pg.mk cad82 ccp82 ((E1 ++ (En.mk ad6 cp6 key ad8 cp8 row) :: E2).drop 8)) :: B)) hS98 (by simp) (by simp [flat_app, flat_cons]; omega) (by simp) (by simp); clear hS98
        have hS100 := hS99.fr4; clear hS99
        have hS101 := hS100.fr1; clear hS100
        have hS102 : St _ _ [tb k rad1 rcap1 (A ++ (Pg.mk pad1 8 ((E1 ++ (En.mk ad6 cp6 key ad8 cp8 row) :: E2).take 8)) :: (Pg.mk cad82 ccp82 ((E1 ++ (En.mk ad6 cp6 key ad8 cp8 row) :: E2).drop 8)) :: B), .fz g14] _ := hS101.only 2; clear hS101
        have hpn := put_no (ps := (A ++ Pg.mk pad pcap (E1 ++ E2) :: B)) (ps' := (A ++ (Pg.mk pad1 8 ((E1 ++ (En.mk ad6 cp6 key ad8 cp8 row) :: E2).take 8)) :: (Pg.mk cad82 ccp82 ((E1 ++ (En.mk ad6 cp6 key ad8 cp8 row) :: E2).drop 8)) :: B)) (r := row) (e := (En.mk ad6 cp6 key ad8 cp8 row)) flat_mid flat_two hcut hne rfl
        have hent := ent_in (A := A) (B := B) (E1 := E1) (E2 := E2) (by rw [← flat_mid (ad := pad) (cap := pcap)]; exact hT1.ent) heE
        have hfew := few_mid2 (ad' := pad1) (cap' := 8) (es' := (E1 ++ (En.mk ad6 cp6 key ad8 cp8 row) :: E2).take 8) (ad2 := cad82) (cap2 := ccp82) (es2 := (E1 ++ (En.mk ad6 cp6 key ad8 cp8 row) :: E2).drop 8) hT1.pok.few (by rw [List.length_take]; omega) (by rw [List.length_drop]; omega)
        exact ⟨_, _, rfl, ⟨_, _, _, _, none, 0, 0, by rw [hw1.get_no]; rfl, rfl, hgg, hT1.put hpn hfew (by rw [flat_two]; exact hent), hpn, OldR.no hw1.get_no⟩, hS102⟩
      ·
        have hc74b := hc74
        try simp only [decide_eq_true_eq, decide_eq_false_iff_not, Bool.not_eq_true', Bool.not_eq_false', Bool.and_eq_true, Bool.or_eq_true, Int.not_lt, Int.not_le, ne_eq, Decidable.not_not] at hc74
        refine wp_skip ?_
        refine hK71 _ _ ?_
        refine wp_seq_k (fun K103 hK103 => ?_)
        refine wp_region_lit ?_
        refine l_q rfl rfl (q_assignS rfl) ?_
        refine l_q rfl rfl (q_assignB rfl) ?_
        refine l_nil ?_
        refine hK103 _ _ ?_
        refine wp_ret ?_
        refine c_ret2 rfl rfl rfl ?_
        have hS104 := hS70.fr2; clear hS70
        have hS105 := hS104.fr1; clear hS104
        have hS106 : St _ _ [.pk (List.map pgc A ++ List.map pgc (Pg.mk pad1 pcap1 (E1 ++ (En.mk ad6 cp6 key ad8 cp8 row) :: E2) :: B)), .ow 41 2 (some ⟨b65, 0, none⟩) 1 1 (List.flatMap en [(En.mk ad6 cp6 key ad8 cp8 row)]), .blk k (.cells #[.slice ad ((A ++ Pg.mk pad pcap (E1 ++ E2) :: B).length) cap, .int .i64 ((((flat (A ++ Pg.mk pad pcap (E1 ++ E2) :: B)).length : Nat) : Int) + (1 : Int))] 107), .ow 111 1 ad ((A ++ Pg.mk pad pcap (E1 ++ E2) :: B).length) cap (List.flatMap pg (A ++ Pg.mk pad1 pcap1 (E1 ++ (En.mk ad6 cp6 key ad8 cp8 row) :: E2) :: B)), .blk b15 (.cells #[.slice ad6 key.length cp6, .slice ad8 row.length cp8] 41), .fz g14] _ := tb_put (es := (E1 ++ (En.mk ad6 cp6 key ad8 cp8 row) :: E2)) hS105 rfl rfl; clear hS105
        have hS107 : St _ _ [.pk (List.map pgc A ++ List.map pgc (Pg.mk pad1 pcap1 (E1 ++ (En.mk ad6 cp6 key ad8 cp8 row) :: E2) :: B)), .ow 41 2 (some ⟨b65, 0, none⟩) 1 1 (List.flatMap en [(En.mk ad6 cp6 key ad8 cp8 row)]), .blk k (.cells #[.slice ad ((A ++ Pg.mk pad pcap (E1 ++ E2) :: B).length) cap, .int .i64 ((((flat (A ++ Pg.mk pad pcap (E1 ++ E2) :: B)).length + 1) : Nat) : Int)] 107), .ow 111 1 ad ((A ++ Pg.mk pad pcap (E1 ++ E2) :: B).length) cap (List.flatMap pg (A ++ Pg.mk pad1 pcap1 (E1 ++ (En.mk ad6 cp6 key ad8 cp8 row) :: E2) :: B)), .blk b15 (.cells #[.slice ad6 key.length cp6, .slice ad8 row.length cp8] 41), .fz g14] _ := hS106.cast (by rw [show ((((flat (A ++ Pg.mk pad pcap (E1 ++ E2) :: B)).length + 1) : Nat) : Int) = ((((flat (A ++ Pg.mk pad pcap (E1 ++ E2) :: B)).length : Nat) : Int) + (1 : Int)) from by omega]); clear hS106
        have hS108 := hS107.fr3; clear hS107
        have hS109 := hS108.fr3; clear hS108
        have hS110 : St _ _ [tb k ad cap (A ++ Pg.mk pad1 pcap1 (E1 ++ (En.mk ad6 cp6 key ad8 cp8 row) :: E2) :: B), .ow 41 2 (some ⟨b65, 0, none⟩) 1 1 (List.flatMap en [(En.mk ad6 cp6 key ad8 cp8 row)]), .blk b15 (.cells #[.slice ad6 key.length cp6, .slice ad8 row.length cp8] 41), .fz g14] _ := tb_shut (ps := (A ++ Pg.mk pad1 pcap1 (E1 ++ (En.mk ad6 cp6 key ad8 cp8 row) :: E2) :: B)) hS109 (by simp) (by simp [flat_mid]; omega) rfl (by simp); clear hS109
        have hS111 := hS110.fr3; clear hS110
        have hS112 := hS111.fr1; clear hS111
        have hS113 : St _ _ [tb k ad cap (A ++ Pg.mk pad1 pcap1 (E1 ++ (En.mk ad6 cp6 key ad8 cp8 row) :: E2) :: B), .fz g14] _ := hS112.only 2; clear hS112
        have hpn := put_no (ps := (A ++ Pg.mk pad pcap (E1 ++ E2) :: B)) (ps' := (A ++ Pg.mk pad1 pcap1 (E1 ++ (En.mk ad6 cp6 key ad8 cp8 row) :: E2) :: B)) (r := row) (e := (En.mk ad6 cp6 key ad8 cp8 row)) flat_mid flat_mid hcut hne rfl
        have hent := ent_in (A := A) (B := B) (E1 := E1) (E2 := E2) (by rw [← flat_mid (ad := pad) (cap := pcap)]; exact hT1.ent) heE
        have hfew := few_mid (ad' := pad1) (cap' := pcap1) (es' := (E1 ++ (En.mk ad6 cp6 key ad8 cp8 row) :: E2)) hT1.pok.few (by omega)
        exact ⟨_, _, rfl, ⟨_, _, _, _, none, 0, 0, by rw [hw1.get_no]; rfl, rfl, hgg, hT1.put hpn hfew (by rw [flat_mid]; exact hent), hpn, OldR.no hw1.get_no⟩, hS113⟩

end Go.Proofs.Ytmbbkliekgiolaa
