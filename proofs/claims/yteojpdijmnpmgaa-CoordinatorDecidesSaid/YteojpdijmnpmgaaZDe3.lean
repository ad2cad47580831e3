/- Texts that the claim needs, part 3. -/
import Derived.Test.YteojpdijmnpmgaaZDe2
set_option linter.unusedVariables false
set_option linter.unusedSimpArgs false
namespace Go.Proofs.Yteojpdijmnpmgaa
open Go.RowKit
attribute [local irreducible] Oper.wp Sem.run Code.wp wpList wpAnyO callFunc execOp Calls
attribute [local irreducible] toU short rencs renc rowE encRow rightB zig unzig decRw
set_option maxHeartbeats 4000000 in
set_option maxRecDepth 100000 in
theorem rowDec_ok (b : List Nat) (hb : Bytes b) (n : Nat) (hn : b.length = n) (hm : n ≤ 2000000) (ab : Option Addr) (cb : Nat) (hcb : n ≤ cb) (w : World) (hG : SlG (hw w) ab (bv b)) : Calls Try.prog 51 #[.slice ab n cb] w (PostN w fun v G => ∃ oa oc, v = .tuple #[.slice oa (decRw b).1.length oc, .int .i64 (decRw b).2] ∧ G = [.ow 106 3 oa (decRw b).1.length oc (List.flatMap vl (decRw b).1)]) := by
 have hS := St.start w
 subst hn
 refine c_enter Try.func51 rfl rfl rfl ?_
 refine wp_seq_k (fun K1 hK1 => ?_)
 refine wp_region_lit ?_
 refine l_e rfl (fun K hK => ?_)
 refine e_box hS rfl (fun b2 w2 (hS2 : St _ _ [.blk b2 (.cells #[.slice ab b.length cb] 58)] _) => ?_)
 clear hS
 refine hK _ _ ?_; clear hK K
 refine l_q rfl rfl (q_assignS rfl) ?_
 refine l_q rfl rfl (q_assignI rfl) ?_
 refine l_nil ?_
 refine hK1 _ _ ?_
 refine wp_seq_k (fun K3 hK3 => ?_)
 refine wp_region_lit ?_
 refine l_e rfl (fun K hK => ?_)
 refine e_alloc (zv := .bool false) hS2 (by kernel_rfl) (fun b4 w4 (hS4 : St _ _ [.blk b4 (.cells #[.bool false] 4), _] _) => ?_)
 clear hS2
 refine hK _ _ ?_; clear hK K
 refine l_e rfl (fun K hK => ?_)
 refine e_store1 hS4 rfl rfl (by kernel_rfl) (by first | rfl | assumption) (i := 0) rfl rfl (fun w5 (hS5 : St _ _ [.blk b4 (.cells #[.bool true] 4), _] _) => ?_)
 clear hS4
 refine hK _ _ ?_; clear hK K
 refine l_nil ?_
 refine hK3 _ _ ?_
 refine wp_seq_k (fun K6 hK6 => ?_)
 refine wp_region_lit ?_
 refine l_q rfl rfl (q_makeFunc) ?_
 refine l_e rfl (fun K hK => ?_)
 refine e_alloc (zv := .nilFunc) hS5 (by kernel_rfl) (fun b7 w7 (hS7 : St _ _ [.blk b7 (.cells #[_] 116), _, _] _) => ?_)
 clear hS5
 refine hK _ _ ?_; clear hK K
 refine l_e rfl (fun K hK => ?_)
 refine e_store1 hS7 rfl rfl (by kernel_rfl) (by first | rfl | assumption) (i := 0) rfl rfl (fun w8 (hS8 : St _ _ [.blk b7 (.cells #[.func (.func 66) #[] #[.pointer (some ⟨b4, 0, none⟩), .pointer (some ⟨b2, 0, none⟩)]] 116), _, _] _) => ?_)
 clear hS7
 refine hK _ _ ?_; clear hK K
 refine l_nil ?_
 refine hK6 _ _ ?_
 refine wp_seq_k (fun K9 hK9 => ?_)
 refine wp_region_lit ?_
 refine l_q rfl rfl (q_makeFunc) ?_
 refine l_q rfl rfl (q_assign rfl) ?_
 refine l_nil ?_
 refine hK9 _ _ ?_
 refine wp_seq_k (fun K10 hK10 => ?_)
 refine wp_region_lit ?_
 refine l_q rfl rfl (q_assignS rfl) ?_
 refine l_nil ?_
 refine hK10 _ _ ?_
 refine wp_seq_k (fun K11 hK11 => ?_)
 refine wp_seq_k (fun K12 hK12 => ?_)
 refine wp_region_lit ?_
 refine l_q rfl rfl (q_load1 rfl (by kernel_rfl) (hS8.cell (i := 0) rfl rfl)) ?_
 by_cases hp : 0 < b.length
 refine l_e rfl (fun K hK => ?_)
 have hS14 := hS8.fr2; clear hS8
 have hS15 := hS14.fr2; clear hS14
 refine e_callV (by kernel_rfl) rfl (take_yes b4 b2 b hb (by first | omega | (simp only [zll] <;> omega)) 1 (by omega) _ _ (by omega) _ _ (St.rogB (Γ1 := [_, _]) hS15) hG (St.begin (Γ := [_, _]) hS15)) rfl (after_M (Γ1 := [_, _]) hS15 (fun v13 G13 w13 hv13 hS13 => ?_))
 clear hS15
 obtain ⟨ra13, rc13, rfl, rfl, hGr13, hrc13⟩ := hv13
 have hS16 : St _ _ [_, .blk b2 (.cells #[.slice ra13 ((b.drop 1).length) rc13] 58), _] _ := hS13; clear hS13
 have hld13 := List.length_drop (i := 1) (l := b)
 refine hK _ _ ?_; clear hK K
 refine l_q rfl rfl (q_ixG (e := 5) (m := 1) (j := 0) rfl rfl (by kernel_rfl) (by kernel_rfl) (by first | rfl | omega) (by omega) (bv_takeG (n := 1) hG) (by rw [bv_len]; first | omega | (simp only [zll] <;> omega))) ?_
 obtain ⟨x17, hx17⟩ : ∃ x, ((b.take 1))[0]? = some x := ⟨_, List.getElem?_eq_getElem (by first | omega | (simp only [zll] <;> omega) | (simp <;> omega))⟩
 have hb17 : x17 < 256 := (Bytes.take hb) x17 (List.mem_of_getElem? hx17)
 refine l_q rfl rfl (q_load1 rfl (by kernel_rfl) (SlG.cell ((bv_takeG (n := 1) hG).mono hS16.base) (Gle.refl _) (at1 (bv_at hx17)))) ?_
 have hxh17 := take1 hx17
 refine l_q rfl rfl (q_assignI rfl) ?_
 refine l_nil ?_
 refine hK12 _ _ ?_
 refine wp_block ?_
 have hS18 := hS16.ow_nil 106 3; clear hS16
 refine c_loop (τ := (List Vl) × (List Nat) × (Option Addr) × Nat × (Option Addr) × Nat × Nat × Bool) [(7, 9), (16, 67)] (fun x => (fun (l : List Vl) (rest : List Nat) (ra : Option Addr) (rc : Nat) (oa : Option Addr) (oc : Nat) (n : Nat) (ok : Bool) => [(7, .slice oa l.length oc), (8, .int .u8 (n : Int))]) x.1 x.2.1 x.2.2.1 x.2.2.2.1 x.2.2.2.2.1 x.2.2.2.2.2.1 x.2.2.2.2.2.2.1 x.2.2.2.2.2.2.2) (fun x w' => (fun (l : List Vl) (rest : List Nat) (ra : Option Addr) (rc : Nat) (oa : Option Addr) (oc : Nat) (n : Nat) (ok : Bool) => St w (fun _ => False) [.ow 106 3 oa l.length oc (List.flatMap vl l), .blk b4 (.cells #[.bool ok] 4), .blk b2 (.cells #[.slice ra rest.length rc] 58), .blk b7 (.cells #[.func (.func 66) #[] #[.pointer (some ⟨b4, 0, none⟩), .pointer (some ⟨b2, 0, none⟩)]] 116)] w' ∧ RowI b l rest n ok ∧ VsOk l ∧ Bytes rest ∧ SlG (hw w) ra (bv rest) ∧ rest.length ≤ rc ∧ rest.length ≤ b.length ∧ n < 256) x.1 x.2.1 x.2.2.1 x.2.2.2.1 x.2.2.2.2.1 x.2.2.2.2.2.1 x.2.2.2.2.2.2.1 x.2.2.2.2.2.2.2) (fun x => (fun (l : List Vl) (rest : List Nat) (ra : Option Addr) (rc : Nat) (oa : Option Addr) (oc : Nat) (n : Nat) (ok : Bool) => n) x.1 x.2.1 x.2.2.1 x.2.2.2.1 x.2.2.2.2.1 x.2.2.2.2.2.1 x.2.2.2.2.2.2.1 x.2.2.2.2.2.2.2) (⟨[], (b.drop 1), ra13, rc13, none, 0, x17, true⟩) ?_ (by repeat' (first | exact trivial | refine ⟨by first | rfl | assumption, ?_⟩)) (fun x19 j19 w19 hJ19 K19 hK19 => ?_)
 exact ⟨hS18, RowI.start hxh17 (by omega), VsOk.nil, (Bytes.drop hb), hGr13, (by first | assumption | omega), by first | exact Nat.le_refl _ | omega | (rw [List.length_drop]; omega), by omega⟩
 obtain ⟨l, rest, ra, rc, oa, oc, n, ok⟩ := x19
 obtain ⟨hS19, hI, hl, hbr, hGr, hrc, hrl, hn⟩ := hJ19
 try dsimp only at hS19 hI hl hbr hGr hrc hrl hn ⊢
 refine wp_seq_k (fun K20 hK20 => ?_)
 refine wp_seq_k (fun K21 hK21 => ?_)
 refine wp_region_lit ?_
 refine l_q rfl rfl (q_load1 rfl (by kernel_rfl) (hS19.cell (i := 1) rfl rfl)) ?_
 refine l_q rfl rfl (q_moveB rfl) ?_
 refine g_splitL (t := 17) rfl (fun hg22 => ?_) (fun hg22 => ?_)
 have hg22b := hg22
 try simp only [zbb] at hg22
 have hok := hg22
 subst hok
 obtain ⟨xh, hxh, hbe, hRl, hl16, hxn⟩ := hI.1 rfl
 refine l_on rfl rfl hg22b ?_
 refine l_q rfl rfl (q_moveI rfl) ?_
 refine l_on rfl rfl hg22b ?_
 refine l_q rfl rfl (q_gtr rfl rfl) ?_
 refine l_q rfl rfl (q_pickT rfl hg22b rfl) ?_
 refine l_nil ?_
 refine hK21 _ _ ?_
 refine c_cond rfl (fun hc23 => ?_) (fun hc23 => ?_)
 have hc23b := hc23
 try simp only [zbb] at hc23
 refine wp_skip ?_
 refine hK20 _ _ ?_
 refine wp_seq_k (fun K24 hK24 => ?_)
 refine wp_block ?_
 refine wp_seq_k (fun K25 hK25 => ?_)
 refine wp_region_lit ?_
 refine l_q rfl rfl (q_load1 rfl (by kernel_rfl) (hS19.cell (i := 3) rfl rfl)) ?_
 by_cases hp : 0 < rest.length
 refine l_e rfl (fun K hK => ?_)
 have hS27 := hS19.fr2; clear hS19
 have hS28 := hS27.fr2; clear hS27
 refine e_callV (by kernel_rfl) rfl (take_yes b4 b2 rest hbr (by first | omega | (simp only [zll] <;> omega)) 1 (by omega) _ _ (by omega) _ _ (St.rogB (Γ1 := [_, _]) hS28) hGr (St.begin (Γ := [_, _]) hS28)) rfl (after_M (Γ1 := [_, _]) hS28 (fun v26 G26 w26 hv26 hS26 => ?_))
 clear hS28
 obtain ⟨ra26, rc26, rfl, rfl, hGr26, hrc26⟩ := hv26
 have hS29 : St _ _ [_, .blk b2 (.cells #[.slice ra26 ((rest.drop 1).length) rc26] 58), .ow 106 3 oa l.length oc (List.flatMap vl l), _] _ := hS26; clear hS26
 have hld26 := List.length_drop (i := 1) (l := rest)
 refine hK _ _ ?_; clear hK K
 refine l_q rfl rfl (q_ixG (e := 5) (m := 1) (j := 0) rfl rfl (by kernel_rfl) (by kernel_rfl) (by first | rfl | omega) (by omega) (bv_takeG (n := 1) hGr) (by rw [bv_len]; first | omega | (simp only [zll] <;> omega))) ?_
 obtain ⟨x30, hx30⟩ : ∃ x, ((rest.take 1))[0]? = some x := ⟨_, List.getElem?_eq_getElem (by first | omega | (simp only [zll] <;> omega) | (simp <;> omega))⟩
 have hb30 : x30 < 256 := (Bytes.take hbr) x30 (List.mem_of_getElem? hx30)
 refine l_q rfl rfl (q_load1 rfl (by kernel_rfl) (SlG.cell ((bv_takeG (n := 1) hGr).mono hS29.base) (Gle.refl _) (at1 (bv_at hx30)))) ?_
 have hxh30 := take1 hx30
 refine l_q rfl rfl (q_convN (a := x30) rfl (by kernel_rfl) (by kernel_rfl) (wrap_fit_i64 (by omega))) ?_
 refine l_q rfl rfl (q_build (ps := [(0, 1), (1, 1), (2, 1)]) (zv := .agg #[.int .i64 0, .int .i64 0, .string ⟨#[]⟩]) (by kernel_rfl) (by kernel_rfl) rfl (by repeat' (first | exact trivial | refine ⟨fun _ => by first | rfl | assumption | exact one_if (by assumption), ?_⟩ | refine ⟨fun ⟨_, h⟩ => by simp at h, ?_⟩)) rfl) ?_
 refine l_e rfl (fun K hK => ?_)
 refine e_alloc (zv := .agg #[.int .i64 0, .int .i64 0, .string ⟨#[]⟩]) hS29 (by kernel_rfl) (fun b31 w31 (hS31 : St _ _ [.blk b31 (.cells #[.int .i64 (0 : Int), .int .i64 (0 : Int), .string (bs [])] 106), _, _, _, _] _) => ?_)
 clear hS29
 refine hK _ _ ?_; clear hK K
 refine l_e rfl (fun K hK => ?_)
 refine e_storeA hS31 rfl rfl (by kernel_rfl) (by repeat' (first | exact trivial | refine ⟨by first | rfl | assumption | exact one_if (by assumption), ?_⟩)) (i := 0) rfl rfl (fun w32 (hS32 : St _ _ [.blk b31 (.cells #[.int .i64 (x30 : Int), .int .i64 (0 : Int), .string (bs [])] 106), _, _, _, _] _) => ?_)
 clear hS31
 refine hK _ _ ?_; clear hK K
 refine l_nil ?_
 refine hK25 _ _ ?_
 refine wp_seq_k (fun K33 hK33 => ?_)
 refine wp_seq_k (fun K34 hK34 => ?_)
 refine wp_region_lit ?_
 refine l_q rfl rfl (q_fieldAddr (ft := 104) (o := 0) rfl (by kernel_rfl)) ?_
 refine l_q rfl rfl (q_load1 rfl (by kernel_rfl) (hS32.cell (i := 0) rfl rfl)) ?_
 refine l_nil ?_
 refine hK34 _ _ ?_
 refine wp_block ?_
 refine wp_seq_k (fun K35 hK35 => ?_)
 refine wp_region_lit ?_
 refine l_q rfl rfl (q_eql rfl rfl) ?_
 refine l_q rfl rfl (q_assignB rfl) ?_
 refine l_nil ?_
 refine hK35 _ _ ?_
 refine c_cond rfl (fun hc36 => ?_) (fun hc36 => ?_)
 have hc36b := hc36
 try simp only [zbb] at hc36
 refine wp_region_lit ?_
 refine l_q rfl rfl (q_load1 rfl (by kernel_rfl) (hS32.cell (i := 4) rfl rfl)) ?_
 by_cases hp1 : 0 < (rest.drop 1).length
 refine l_e rfl (fun K hK => ?_)
 have hS38 := hS32.fr2; clear hS32
 have hS39 := hS38.fr2; clear hS38
 refine e_callV (by kernel_rfl) rfl (take_yes b4 b2 (rest.drop 1) (Bytes.drop hbr) (by first | omega | (simp only [zll] <;> omega)) 1 (by omega) _ _ (by omega) _ _ (St.rogB (Γ1 := [_, _]) hS39) hGr26 (St.begin (Γ := [_, _]) hS39)) rfl (after_M (Γ1 := [_, _]) hS39 (fun v37 G37 w37 hv37 hS37 => ?_))
 clear hS39
 obtain ⟨ra37, rc37, rfl, rfl, hGr37, hrc37⟩ := hv37
 have hS40 : St _ _ [_, .blk b2 (.cells #[.slice ra37 (((rest.drop 1).drop 1).length) rc37] 58), _, _, _] _ := hS37; clear hS37
 have hld37 := List.length_drop (i := 1) (l := (rest.drop 1))
 refine hK _ _ ?_; clear hK K
 refine l_q rfl rfl (q_ixG (e := 5) (m := 1) (j := 0) rfl rfl (by kernel_rfl) (by kernel_rfl) (by first | rfl | omega) (by omega) (bv_takeG (n := 1) hGr26) (by rw [bv_len]; first | omega | (simp only [zll] <;> omega))) ?_
 obtain ⟨x41, hx41⟩ : ∃ x, (((rest.drop 1).take 1))[0]? = some x := ⟨_, List.getElem?_eq_getElem (by first | omega | (simp only [zll] <;> omega) | (simp <;> omega))⟩
 have hb41 : x41 < 256 := (Bytes.take (Bytes.drop hbr)) x41 (List.mem_of_getElem? hx41)
 refine l_q rfl rfl (q_load1 rfl (by kernel_rfl) (SlG.cell ((bv_takeG (n := 1) hGr26).mono hS40.base) (Gle.refl _) (at1 (bv_at hx41)))) ?_
 have hxh41 := take1 hx41
 refine l_q rfl rfl (q_convN (a := x41) rfl (by kernel_rfl) (by kernel_rfl) (wrap_fit_i64 (by omega))) ?_
 refine l_q rfl rfl (q_fieldAddr (ft := 2) (o := 1) rfl (by kernel_rfl)) ?_
 refine l_e rfl (fun K hK => ?_)
 refine e_store1 hS40 rfl rfl (by kernel_rfl) (by first | rfl | assumption) (i := 2) rfl rfl (fun w42 (hS42 : St _ _ [_, _, .blk b31 (.cells #[.int .i64 (x30 : Int), .int .i64 (x41 : Int), .string (bs [])] 106), _, _] _) => ?_)
 clear hS40
 refine hK _ _ ?_; clear hK K
 refine l_nil ?_
 refine hK33 _ _ ?_
 refine wp_seq_k (fun K43 hK43 => ?_)
 refine wp_region_lit ?_
 refine l_q rfl rfl (q_load1 rfl (by kernel_rfl) (hS42.cell (i := 0) rfl rfl)) ?_
 refine l_q rfl rfl (q_moveB rfl) ?_
 refine l_on rfl rfl rfl ?_
 refine l_q rfl rfl (q_loadA (m := 3) rfl (by kernel_rfl) (by kernel_rfl) (hS42.blk (i := 2) rfl) rfl rfl) ?_
 refine l_on rfl rfl rfl ?_
 refine l_e rfl (fun K hK => ?_)
 refine e_call (by kernel_rfl) (right_ok ((x30 : Int), (x41 : Int), []) Bytes.nil _) rfl (after_R hS42 (fun v44 w44 hv44 hS44 => ?_))
 clear hS42
 obtain rfl := hv44
 refine hK _ _ ?_; clear hK K
 refine l_q rfl rfl (q_pickT rfl rfl rfl) ?_
 refine l_q rfl rfl (q_moveB rfl) ?_
 refine g_splitL (t := 59) rfl (fun hg45 => ?_) (fun hg45 => ?_)
 have hg45b := hg45
 try simp only [zbb] at hg45
 have hrt := hg45
 refine l_on rfl rfl hg45b ?_
 refine l_q rfl rfl (q_moveS rfl) ?_
 refine l_on rfl rfl hg45b ?_
 refine l_q rfl rfl (q_lenSl (e := 106) rfl (by kernel_rfl)) ?_
 refine l_on rfl rfl hg45b ?_
 refine l_q rfl rfl (q_lss rfl rfl) ?_
 refine l_q rfl rfl (q_pickT rfl hg45b rfl) ?_
 refine l_e rfl (fun K hK => ?_)
 refine e_store1 hS44 rfl rfl (by kernel_rfl) (by first | rfl | assumption) (i := 0) rfl rfl (fun w46 (hS46 : St _ _ [.blk b4 (.cells #[.bool (decide ((l.length : Int) < 16))] 4), _, _, _, _] _) => ?_)
 clear hS44
 refine hK _ _ ?_; clear hK K
 refine l_nil ?_
 refine hK43 _ _ ?_
 refine wp_region_lit ?_
 refine l_q rfl rfl (q_moveS rfl) ?_
 refine l_q rfl rfl (q_loadA (m := 3) rfl (by kernel_rfl) (by kernel_rfl) (hS46.blk (i := 2) rfl) rfl rfl) ?_
 refine l_e rfl (fun K hK => ?_)
 refine e_buildSliceA (e := 106) (m := 3) (zv := .agg #[.int .i64 0, .int .i64 0, .string ⟨#[]⟩]) hS46 (by kernel_rfl) (by kernel_rfl) (by kernel_rfl) rfl rfl rfl rfl (fun b47 w47 (hS47 : St _ _ [.blk b47 (.cells #[.int .i64 (x30 : Int), .int .i64 (x41 : Int), .string (bs [])] 106), _, _, _, _, _] _) => ?_)
 clear hS46
 have hva : VOk ((x30 : Int), (x41 : Int), []) := vok_of Bytes.nil ⟨by omega, by omega⟩ ⟨by omega, by omega⟩
 have hS47o : St _ _ [.ow 106 3 (some ⟨b47, 0, none⟩) 1 1 (List.flatMap vl [((x30 : Int), (x41 : Int), [])]), _, _, _, _, _] _ := hS47.blkOw' (i := 0) (m := 1) (size := 3) (xs := List.flatMap vl [((x30 : Int), (x41 : Int), [])]) rfl rfl rfl (by decide); clear hS47
 refine hK _ _ ?_; clear hK K
 refine l_e rfl (fun K hK => ?_)
 refine e_app (e := 106) (size := 3) (bytes := 32) (i := 4) (m' := (l ++ [((x30 : Int), (x41 : Int), [])]).length) (by kernel_rfl) hS47o rfl rfl rfl (SlG.src (e := 106) (by kernel_rfl) (hS47o.owG (i := 0) rfl) ((rows_len (c := vl) (m := 3) (fun _ => rfl) _).trans (by first | rfl | (simp only [zll]; done) | (simp only [zll]; omega) | omega)) (by decide) (rows_one vl_ones)) (by first | omega | (simp only [zll] <;> omega)) rows_app (by first | omega | (simp only [maxLen, zll] <;> omega)) (by first | omega | (simp only [zll] <;> omega)) (fun ad48 cp48 w48 (hS48 : St _ _ [_, _, _, _, .ow 106 3 ad48 ((l ++ [((x30 : Int), (x41 : Int), [])]).length) cp48 (List.flatMap vl (l ++ [((x30 : Int), (x41 : Int), [])])), _] _) => ?_)
 clear hS47o
 refine hK _ _ ?_; clear hK K
 refine l_q rfl rfl (q_assignS rfl) ?_
 refine l_nil ?_
 refine hK24 _ _ ?_
 refine wp_region_lit ?_
 refine l_q rfl rfl (q_moveI rfl) ?_
 refine l_q rfl rfl (u_sub (a := n) (b := 1) rfl rfl rfl (by omega) (by show n < 256; omega)) ?_
 refine l_q rfl rfl (q_assignI rfl) ?_
 refine l_nil ?_
 have hS49 := hS48.fr5; clear hS48
 have hS50 := hS49.fr3; clear hS49
 have hS51 := hS50.fr3; clear hS50
 have hS52 := hS51.fr5; clear hS51
 have hS53 : St _ _ [_, _, _, _] _ := hS52.only 4; clear hS52
 refine hK19 _ _ (came (⟨(l ++ [((x30 : Int), (x41 : Int), [])]), ((rest.drop 1).drop 1), ra37, rc37, ad48, cp48, (n - 1), (decide ((l.length : Int) < 16))⟩) (by repeat' (first | exact Agree.refl _ _ | refine Agree.up ?_ rfl | refine Agree.hav2 ?_ rfl | refine Agree.ups2 ?_ rfl)) (by repeat' (first | exact trivial | refine ⟨by first | rfl | assumption, ?_⟩)) ?_)
 have htk : TkR rest ((x30 : Int), (x41 : Int), []) ((rest.drop 1).drop 1) (rightB ((x30 : Int), (x41 : Int), [])) := tkr1 hxh30 (by omega) hxh41 (by omega)
 exact ⟨⟨hS53, RowI.next hI (by omega) hva htk (by rw [hrt, Bool.true_and]), hl.app (VsOk.one hva), (Bytes.drop (Bytes.drop hbr)), hGr37, (by first | assumption | omega), (by first | omega | (simp only [List.length_drop]; omega)), (by show n - 1 < 256; omega)⟩, by (show n - 1 < n); omega⟩
 have hg45b := hg45
 try simp only [zbb] at hg45
 have hrt := hg45
 refine l_off rfl rfl rfl hg45b ?_
 refine l_off rfl rfl rfl hg45b ?_
 refine l_off rfl rfl rfl hg45b ?_
 refine l_q rfl rfl (q_pickF rfl hg45b rfl) ?_
 refine l_e rfl (fun K hK => ?_)
 refine e_store1 hS44 rfl rfl (by kernel_rfl) (by first | rfl | assumption) (i := 0) rfl rfl (fun w54 (hS54 : St _ _ [_, _, _, _, _] _) => ?_)
 clear hS44
 refine hK _ _ ?_; clear hK K
 refine l_nil ?_
 refine hK43 _ _ ?_
 refine wp_region_lit ?_
 refine l_q rfl rfl (q_moveS rfl) ?_
 refine l_q rfl rfl (q_loadA (m := 3) rfl (by kernel_rfl) (by kernel_rfl) (hS54.blk (i := 2) rfl) rfl rfl) ?_
 refine l_e rfl (fun K hK => ?_)
 refine e_buildSliceA (e := 106) (m := 3) (zv := .agg #[.int .i64 0, .int .i64 0, .string ⟨#[]⟩]) hS54 (by kernel_rfl) (by kernel_rfl) (by kernel_rfl) rfl rfl rfl rfl (fun b55 w55 (hS55 : St _ _ [.blk b55 (.cells #[.int .i64 (x30 : Int), .int .i64 (x41 : Int), .string (bs [])] 106), _, _, _, _, _] _) => ?_)
 clear hS54
 have hva : VOk ((x30 : Int), (x41 : Int), []) := vok_of Bytes.nil ⟨by omega, by omega⟩ ⟨by omega, by omega⟩
 have hS55o : St _ _ [.ow 106 3 (some ⟨b55, 0, none⟩) 1 1 (List.flatMap vl [((x30 : Int), (x41 : Int), [])]), _, _, _, _, _] _ := hS55.blkOw' (i := 0) (m := 1) (size := 3) (xs := List.flatMap vl [((x30 : Int), (x41 : Int), [])]) rfl rfl rfl (by decide); clear hS55
 refine hK _ _ ?_; clear hK K
 refine l_e rfl (fun K hK => ?_)
 refine e_app (e := 106) (size := 3) (bytes := 32) (i := 4) (m' := (l ++ [((x30 : Int), (x41 : Int), [])]).length) (by kernel_rfl) hS55o rfl rfl rfl (SlG.src (e := 106) (by kernel_rfl) (hS55o.owG (i := 0) rfl) ((rows_len (c := vl) (m := 3) (fun _ => rfl) _).trans (by first | rfl | (simp only [zll]; done) | (simp only [zll]; omega) | omega)) (by decide) (rows_one vl_ones)) (by first | omega | (simp only [zll] <;> omega)) rows_app (by first | omega | (simp only [maxLen, zll] <;> omega)) (by first | omega | (simp only [zll] <;> omega)) (fun ad56 cp56 w56 (hS56 : St _ _ [_, _, _, _, .ow 106 3 ad56 ((l ++ [((x30 : Int), (x41 : Int), [])]).length) cp56 (List.flatMap vl (l ++ [((x30 : Int), (x41 : Int), [])])), _] _) => ?_)
 clear hS55o
 refine hK _ _ ?_; clear hK K
 refine l_q rfl rfl (q_assignS rfl) ?_
 refine l_nil ?_
 refine hK24 _ _ ?_
 refine wp_region_lit ?_
 refine l_q rfl rfl (q_moveI rfl) ?_
 refine l_q rfl rfl (u_sub (a := n) (b := 1) rfl rfl rfl (by omega) (by show n < 256; omega)) ?_
 refine l_q rfl rfl (q_assignI rfl) ?_
 refine l_nil ?_
 have hS57 := hS56.fr5; clear hS56
 have hS58 := hS57.fr3; clear hS57
 have hS59 := hS58.fr3; clear hS58
 have hS60 := hS59.fr5; clear hS59
 have hS61 : St _ _ [_, _, _, _] _ := hS60.only 4; clear hS60
 refine hK19 _ _ (came (⟨(l ++ [((x30 : Int), (x41 : Int), [])]), ((rest.drop 1).drop 1), ra37, rc37, ad56, cp56, (n - 1), false⟩) (by repeat' (first | exact Agree.refl _ _ | refine Agree.up ?_ rfl | refine Agree.hav2 ?_ rfl | refine Agree.ups2 ?_ rfl)) (by repeat' (first | exact trivial | refine ⟨by first | rfl | assumption, ?_⟩)) ?_)
 have htk : TkR rest ((x30 : Int), (x41 : Int), []) ((rest.drop 1).drop 1) (rightB ((x30 : Int), (x41 : Int), [])) := tkr1 hxh30 (by omega) hxh41 (by omega)
 exact ⟨⟨hS61, RowI.next hI (by omega) hva htk (by rw [hrt, Bool.false_and]), hl.app (VsOk.one hva), (Bytes.drop (Bytes.drop hbr)), hGr37, (by first | assumption | omega), (by first | omega | (simp only [List.length_drop]; omega)), (by show n - 1 < 256; omega)⟩, by (show n - 1 < n); omega⟩
 refine l_e rfl (fun K hK => ?_)
 have hS63 := hS32.fr2; clear hS32
 have hS64 := hS63.fr2; clear hS63
 refine e_callV (by kernel_rfl) rfl (take_no b4 b2 (rest.drop 1) (Bytes.drop hbr) (by first | omega | (simp only [zll] <;> omega)) true (1 : Int) (by first | exact .inl rfl | exact .inr (by omega)) _ _ (by omega) _ _ (St.rogB (Γ1 := [_, _]) hS64) hGr26 (St.begin (Γ := [_, _]) hS64)) rfl (after_M (Γ1 := [_, _]) hS64 (fun v62 G62 w62 hv62 hS62 => ?_))
 clear hS64
 obtain ⟨nb62, rfl, rfl⟩ := hv62
 have hS65 : St _ _ [_, _, .ow 5 1 (some ⟨nb62, 0, none⟩) 1 1 (bv [0]), _, _, _] _ := hS62; clear hS62
 refine hK _ _ ?_; clear hK K
 refine l_q rfl rfl (q_ixG (e := 5) (m := 1) (j := 0) rfl rfl (by kernel_rfl) (by kernel_rfl) (by first | rfl | omega) (by omega) (hS65.owG (i := 2) rfl) (by rw [bv_len]; first | omega | (simp only [zll] <;> omega))) ?_
 obtain ⟨x66, hx66⟩ : ∃ x, ([0])[0]? = some x := ⟨_, List.getElem?_eq_getElem (by first | omega | (simp only [zll] <;> omega) | (simp <;> omega))⟩
 have hb66 : x66 < 256 := (by decide : Bytes [0]) x66 (List.mem_of_getElem? hx66)
 refine l_q rfl rfl (q_load1 rfl (by kernel_rfl) (SlG.cell (hS65.owG (i := 2) rfl) (Gle.refl _) (at1 (bv_at hx66)))) ?_
 have hx0_66 : x66 = 0 := by simpa using hx66.symm
 refine l_q rfl rfl (q_convN (a := x66) rfl (by kernel_rfl) (by kernel_rfl) (wrap_fit_i64 (by omega))) ?_
 refine l_q rfl rfl (q_fieldAddr (ft := 2) (o := 1) rfl (by kernel_rfl)) ?_
 refine l_e rfl (fun K hK => ?_)
 refine e_store1 hS65 rfl rfl (by kernel_rfl) (by first | rfl | assumption) (i := 3) rfl rfl (fun w67 (hS67 : St _ _ [_, _, _, .blk b31 (.cells #[.int .i64 (x30 : Int), .int .i64 (x66 : Int), .string (bs [])] 106), _, _] _) => ?_)
 clear hS65
 refine hK _ _ ?_; clear hK K
 refine l_nil ?_
 refine hK33 _ _ ?_
 refine wp_seq_k (fun K68 hK68 => ?_)
 refine wp_region_lit ?_
 refine l_q rfl rfl (q_load1 rfl (by kernel_rfl) (hS67.cell (i := 0) rfl rfl)) ?_
 refine l_q rfl rfl (q_moveB rfl) ?_
 refine l_off rfl rfl rfl rfl ?_
 refine l_off rfl rfl rfl rfl ?_
 refine l_q rfl rfl (q_pickF rfl rfl rfl) ?_
 refine l_q rfl rfl (q_moveB rfl) ?_
 refine l_off rfl rfl rfl rfl ?_
 refine l_off rfl rfl rfl rfl ?_
 refine l_off rfl rfl rfl rfl ?_
 refine l_q rfl rfl (q_pickF rfl rfl rfl) ?_
 refine l_e rfl (fun K hK => ?_)
 refine e_store1 hS67 rfl rfl (by kernel_rfl) (by first | rfl | assumption) (i := 0) rfl rfl (fun w69 (hS69 : St _ _ [_, _, _, _, _, _] _) => ?_)
 clear hS67
 refine hK _ _ ?_; clear hK K
 refine l_nil ?_
 refine hK68 _ _ ?_
 refine wp_region_lit ?_
 refine l_q rfl rfl (q_moveS rfl) ?_
 refine l_q rfl rfl (q_loadA (m := 3) rfl (by kernel_rfl) (by kernel_rfl) (hS69.blk (i := 3) rfl) rfl rfl) ?_
 refine l_e rfl (fun K hK => ?_)
 refine e_buildSliceA (e := 106) (m := 3) (zv := .agg #[.int .i64 0, .int .i64 0, .string ⟨#[]⟩]) hS69 (by kernel_rfl) (by kernel_rfl) (by kernel_rfl) rfl rfl rfl rfl (fun b70 w70 (hS70 : St _ _ [.blk b70 (.cells #[.int .i64 (x30 : Int), .int .i64 (x66 : Int), .string (bs [])] 106), _, _, _, _, _, _] _) => ?_)
 clear hS69
 have hva : VOk ((x30 : Int), (x66 : Int), []) := vok_of Bytes.nil ⟨by omega, by omega⟩ ⟨by omega, by omega⟩
 have hS70o : St _ _ [.ow 106 3 (some ⟨b70, 0, none⟩) 1 1 (List.flatMap vl [((x30 : Int), (x66 : Int), [])]), _, _, _, _, _, _] _ := hS70.blkOw' (i := 0) (m := 1) (size := 3) (xs := List.flatMap vl [((x30 : Int), (x66 : Int), [])]) rfl rfl rfl (by decide); clear hS70
 refine hK _ _ ?_; clear hK K
 refine l_e rfl (fun K hK => ?_)
 refine e_app (e := 106) (size := 3) (bytes := 32) (i := 5) (m' := (l ++ [((x30 : Int), (x66 : Int), [])]).length) (by kernel_rfl) hS70o rfl rfl rfl (SlG.src (e := 106) (by kernel_rfl) (hS70o.owG (i := 0) rfl) ((rows_len (c := vl) (m := 3) (fun _ => rfl) _).trans (by first | rfl | (simp only [zll]; done) | (simp only [zll]; omega) | omega)) (by decide) (rows_one vl_ones)) (by first | omega | (simp only [zll] <;> omega)) rows_app (by first | omega | (simp only [maxLen, zll] <;> omega)) (by first | omega | (simp only [zll] <;> omega)) (fun ad71 cp71 w71 (hS71 : St _ _ [_, _, _, _, _, .ow 106 3 ad71 ((l ++ [((x30 : Int), (x66 : Int), [])]).length) cp71 (List.flatMap vl (l ++ [((x30 : Int), (x66 : Int), [])])), _] _) => ?_)
 clear hS70o
 refine hK _ _ ?_; clear hK K
 refine l_q rfl rfl (q_assignS rfl) ?_
 refine l_nil ?_
 refine hK24 _ _ ?_
 refine wp_region_lit ?_
 refine l_q rfl rfl (q_moveI rfl) ?_
 refine l_q rfl rfl (u_sub (a := n) (b := 1) rfl rfl rfl (by omega) (by show n < 256; omega)) ?_
 refine l_q rfl rfl (q_assignI rfl) ?_
 refine l_nil ?_
 have hS72 := hS71.fr6; clear hS71
 have hS73 := hS72.fr3; clear hS72
 have hS74 := hS73.fr3; clear hS73
 have hS75 := hS74.fr6; clear hS74
 have hS76 : St _ _ [_, _, _, _] _ := hS75.only 4; clear hS75
 refine hK19 _ _ (came (⟨(l ++ [((x30 : Int), (x66 : Int), [])]), (rest.drop 1), ra26, rc26, ad71, cp71, (n - 1), false⟩) (by repeat' (first | exact Agree.refl _ _ | refine Agree.up ?_ rfl | refine Agree.hav2 ?_ rfl | refine Agree.ups2 ?_ rfl)) (by repeat' (first | exact trivial | refine ⟨by first | rfl | assumption, ?_⟩)) ?_)
 have htk : TkR rest ((x30 : Int), (x66 : Int), []) (rest.drop 1) false := tkr1n hxh30 (by omega) hp1
 exact ⟨⟨hS76, RowI.next hI (by omega) hva htk rfl, hl.app (VsOk.one hva), (Bytes.drop hbr), hGr26, (by first | assumption | omega), (by first | omega | (simp only [List.length_drop]; omega)), (by show n - 1 < 256; omega)⟩, by (show n - 1 < n); omega⟩
 have hc36b := hc36
 try simp only [zbb] at hc36
 refine wp_seq_k (fun K77 hK77 => ?_)
 refine wp_seq_k (fun K78 hK78 => ?_)
 refine wp_region_lit ?_
 refine l_q rfl rfl (q_eql rfl rfl) ?_
 refine l_q rfl rfl (q_assignB rfl) ?_
 refine l_nil ?_
 refine hK78 _ _ ?_
 refine c_cond rfl (fun hc79 => ?_) (fun hc79 => ?_)
 have hc79b := hc79
 try simp only [zbb] at hc79
 refine wp_skip ?_
 refine hK77 _ _ ?_
 refine c_condT rfl hc79b ?_
 refine wp_region_lit ?_
 refine l_q rfl rfl (q_move rfl) ?_
 rcases long_or (rest.drop 1) with ⟨zz, q, hzr1, hzr2, hzq⟩ | hno
 have hBq : Bytes q := fun y hy => hbr y (List.mem_of_mem_drop (show y ∈ rest.drop 1 from by rw [hzq]; exact List.mem_append_right _ hy))
 have hqz := congrArg List.length hzq
 rw [List.length_append, List.length_drop] at hqz
 refine l_e rfl (fun K hK => ?_)
 have hS82 := hS32.fr4; clear hS32
 have hS83 := hS82.fr3; clear hS82
 have hS84 := hS83.fr3; clear hS83
 refine e_callV (by kernel_rfl) rfl (number_yes b4 b2 b7 (rest.drop 1) (Bytes.drop hbr) (by first | omega | (simp only [zll] <;> omega)) zz q hzr1 hzr2 hzq _ _ (by omega) _ _ (St.rogB (Γ1 := [_, _, _]) hS84) hGr26 (St.begin (Γ := [_, _, _]) hS84)) rfl (after_M (Γ1 := [_, _, _]) hS84 (fun v81 G81 w81 hv81 hS81 => ?_))
 clear hS84
 obtain ⟨ra81, rc81, rfl, rfl, hGr81, hrc81⟩ := hv81
 have hS85 : St _ _ [_, .blk b2 (.cells #[.slice ra81 q.length rc81] 58), _, _, _] _ := hS81; clear hS81
 refine hK _ _ ?_; clear hK K
 refine l_q rfl rfl (q_fieldAddr (ft := 2) (o := 1) rfl (by kernel_rfl)) ?_
 refine l_e rfl (fun K hK => ?_)
 refine e_store1 hS85 rfl rfl (by kernel_rfl) (by first | rfl | assumption) (i := 3) rfl rfl (fun w86 (hS86 : St _ _ [_, _, _, .blk b31 (.cells #[.int .i64 (x30 : Int), .int .i64 zz, .string (bs [])] 106), _] _) => ?_)
 clear hS85
 refine hK _ _ ?_; clear hK K
 refine l_nil ?_
 refine hK33 _ _ ?_
 refine wp_seq_k (fun K87 hK87 => ?_)
 refine wp_region_lit ?_
 refine l_q rfl rfl (q_load1 rfl (by kernel_rfl) (hS86.cell (i := 0) rfl rfl)) ?_
 refine l_q rfl rfl (q_moveB rfl) ?_
 refine l_on rfl rfl rfl ?_
 refine l_q rfl rfl (q_loadA (m := 3) rfl (by kernel_rfl) (by kernel_rfl) (hS86.blk (i := 3) rfl) rfl rfl) ?_
 refine l_on rfl rfl rfl ?_
 refine l_e rfl (fun K hK => ?_)
 refine e_call (by kernel_rfl) (right_ok ((x30 : Int), zz, []) Bytes.nil _) rfl (after_R hS86 (fun v88 w88 hv88 hS88 => ?_))
 clear hS86
 obtain rfl := hv88
 refine hK _ _ ?_; clear hK K
 refine l_q rfl rfl (q_pickT rfl rfl rfl) ?_
 refine l_q rfl rfl (q_moveB rfl) ?_
 refine g_splitL (t := 59) rfl (fun hg89 => ?_) (fun hg89 => ?_)
 have hg89b := hg89
 try simp only [zbb] at hg89
 have hrt := hg89
 refine l_on rfl rfl hg89b ?_
 refine l_q rfl rfl (q_moveS rfl) ?_
 refine l_on rfl rfl hg89b ?_
 refine l_q rfl rfl (q_lenSl (e := 106) rfl (by kernel_rfl)) ?_
 refine l_on rfl rfl hg89b ?_
 refine l_q rfl rfl (q_lss rfl rfl) ?_
 refine l_q rfl rfl (q_pickT rfl hg89b rfl) ?_
 refine l_e rfl (fun K hK => ?_)
 refine e_store1 hS88 rfl rfl (by kernel_rfl) (by first | rfl | assumption) (i := 0) rfl rfl (fun w90 (hS90 : St _ _ [_, _, _, _, _] _) => ?_)
 clear hS88
 refine hK _ _ ?_; clear hK K
 refine l_nil ?_
 refine hK87 _ _ ?_
 refine wp_region_lit ?_
 refine l_q rfl rfl (q_moveS rfl) ?_
 refine l_q rfl rfl (q_loadA (m := 3) rfl (by kernel_rfl) (by kernel_rfl) (hS90.blk (i := 3) rfl) rfl rfl) ?_
 refine l_e rfl (fun K hK => ?_)
 refine e_buildSliceA (e := 106) (m := 3) (zv := .agg #[.int .i64 0, .int .i64 0, .string ⟨#[]⟩]) hS90 (by kernel_rfl) (by kernel_rfl) (by kernel_rfl) rfl rfl rfl rfl (fun b91 w91 (hS91 : St _ _ [.blk b91 (.cells #[.int .i64 (x30 : Int), .int .i64 zz, .string (bs [])] 106), _, _, _, _, _] _) => ?_)
 clear hS90
 have hva : VOk ((x30 : Int), zz, []) := vok_of Bytes.nil ⟨by omega, by omega⟩ ⟨by omega, by omega⟩
 have hS91o : St _ _ [.ow 106 3 (some ⟨b91, 0, none⟩) 1 1 (List.flatMap vl [((x30 : Int), zz, [])]), _, _, _, _, _] _ := hS91.blkOw' (i := 0) (m := 1) (size := 3) (xs := List.flatMap vl [((x30 : Int), zz, [])]) rfl rfl rfl (by decide); clear hS91
 refine hK _ _ ?_; clear hK K
 refine l_e rfl (fun K hK => ?_)
 refine e_app (e := 106) (size := 3) (bytes := 32) (i := 5) (m' := (l ++ [((x30 : Int), zz, [])]).length) (by kernel_rfl) hS91o rfl rfl rfl (SlG.src (e := 106) (by kernel_rfl) (hS91o.owG (i := 0) rfl) ((rows_len (c := vl) (m := 3) (fun _ => rfl) _).trans (by first | rfl | (simp only [zll]; done) | (simp only [zll]; omega) | omega)) (by decide) (rows_one vl_ones)) (by first | omega | (simp only [zll] <;> omega)) rows_app (by first | omega | (simp only [maxLen, zll] <;> omega)) (by first | omega | (simp only [zll] <;> omega)) (fun ad92 cp92 w92 (hS92 : St _ _ [_, _, _, _, _, .ow 106 3 ad92 ((l ++ [((x30 : Int), zz, [])]).length) cp92 (List.flatMap vl (l ++ [((x30 : Int), zz, [])]))] _) => ?_)
 clear hS91o
 refine hK _ _ ?_; clear hK K
 refine l_q rfl rfl (q_assignS rfl) ?_
 refine l_nil ?_
 refine hK24 _ _ ?_
 refine wp_region_lit ?_
 refine l_q rfl rfl (q_moveI rfl) ?_
 refine l_q rfl rfl (u_sub (a := n) (b := 1) rfl rfl rfl (by omega) (by show n < 256; omega)) ?_
 refine l_q rfl rfl (q_assignI rfl) ?_
 refine l_nil ?_
 have hS93 := hS92.fr3; clear hS92
 have hS94 := hS93.fr3; clear hS93
 have hS95 := hS94.fr3; clear hS94
 have hS96 := hS95.fr5; clear hS95
 have hS97 : St _ _ [_, _, _, _] _ := hS96.only 4; clear hS96
 refine hK19 _ _ (came (⟨(l ++ [((x30 : Int), zz, [])]), q, ra81, rc81, ad92, cp92, (n - 1), (decide ((l.length : Int) < 16))⟩) (by repeat' (first | exact Agree.refl _ _ | refine Agree.up ?_ rfl | refine Agree.hav2 ?_ rfl | refine Agree.ups2 ?_ rfl)) (by repeat' (first | exact trivial | refine ⟨by first | rfl | assumption, ?_⟩)) ?_)
 have htk : TkR rest ((x30 : Int), zz, []) q (rightB ((x30 : Int), zz, [])) := tkr2 hxh30 (by omega) hzq
 exact ⟨⟨hS97, RowI.next hI (by omega) hva htk (by rw [hrt, Bool.true_and]), hl.app (VsOk.one hva), (hBq), hGr81, (by first | assumption | omega), (by first | omega | (simp only [List.length_drop]; omega)), (by show n - 1 < 256; omega)⟩, by (show n - 1 < n); omega⟩
 have hg89b := hg89
 try simp only [zbb] at hg89
 have hrt := hg89
 refine l_off rfl rfl rfl hg89b ?_
 refine l_off rfl rfl rfl hg89b ?_
 refine l_off rfl rfl rfl hg89b ?_
 refine l_q rfl rfl (q_pickF rfl hg89b rfl) ?_
 refine l_e rfl (fun K hK => ?_)
 refine e_store1 hS88 rfl rfl (by kernel_rfl) (by first | rfl | assumption) (i := 0) rfl rfl (fun w98 (hS98 : St _ _ [_, _, _, _, _] _) => ?_)
 clear hS88
 refine hK _ _ ?_; clear hK K
 refine l_nil ?_
 refine hK87 _ _ ?_
 refine wp_region_lit ?_
 refine l_q rfl rfl (q_moveS rfl) ?_
 refine l_q rfl rfl (q_loadA (m := 3) rfl (by kernel_rfl) (by kernel_rfl) (hS98.blk (i := 3) rfl) rfl rfl) ?_
 refine l_e rfl (fun K hK => ?_)
 refine e_buildSliceA (e := 106) (m := 3) (zv := .agg #[.int .i64 0, .int .i64 0, .string ⟨#[]⟩]) hS98 (by kernel_rfl) (by kernel_rfl) (by kernel_rfl) rfl rfl rfl rfl (fun b99 w99 (hS99 : St _ _ [.blk b99 (.cells #[.int .i64 (x30 : Int), .int .i64 zz, .string (bs [])] 106), _, _, _, _, _] _) => ?_)
 clear hS98
 have hva : VOk ((x30 : Int), zz, []) := vok_of Bytes.nil ⟨by omega, by omega⟩ ⟨by omega, by omega⟩
 have hS99o : St _ _ [.ow 106 3 (some ⟨b99, 0, none⟩) 1 1 (List.flatMap vl [((x30 : Int), zz, [])]), _, _, _, _, _] _ := hS99.blkOw' (i := 0) (m := 1) (size := 3) (xs := List.flatMap vl [((x30 : Int), zz, [])]) rfl rfl rfl (by decide); clear hS99
 refine hK _ _ ?_; clear hK K
 refine l_e rfl (fun K hK => ?_)
 refine e_app (e := 106) (size := 3) (bytes := 32) (i := 5) (m' := (l ++ [((x30 : Int), zz, [])]).length) (by kernel_rfl) hS99o rfl rfl rfl (SlG.src (e := 106) (by kernel_rfl) (hS99o.owG (i := 0) rfl) ((rows_len (c := vl) (m := 3) (fun _ => rfl) _).trans (by first | rfl | (simp only [zll]; done) | (simp only [zll]; omega) | omega)) (by decide) (rows_one vl_ones)) (by first | omega | (simp only [zll] <;> omega)) rows_app (by first | omega | (simp only [maxLen, zll] <;> omega)) (by first | omega | (simp only [zll] <;> omega)) (fun ad100 cp100 w100 (hS100 : St _ _ [_, _, _, _, _, .ow 106 3 ad100 ((l ++ [((x30 : Int), zz, [])]).length) cp100 (List.flatMap vl (l ++ [((x30 : Int), zz, [])]))] _) => ?_)
 clear hS99o
 refine hK _ _ ?_; clear hK K
 refine l_q rfl rfl (q_assignS rfl) ?_
 refine l_nil ?_
 refine hK24 _ _ ?_
 refine wp_region_lit ?_
 refine l_q rfl rfl (q_moveI rfl) ?_
 refine l_q rfl rfl (u_sub (a := n) (b := 1) rfl rfl rfl (by omega) (by show n < 256; omega)) ?_
 refine l_q rfl rfl (q_assignI rfl) ?_
 refine l_nil ?_
 have hS101 := hS100.fr3; clear hS100
 have hS102 := hS101.fr3; clear hS101
 have hS103 := hS102.fr3; clear hS102
 have hS104 := hS103.fr5; clear hS103
 have hS105 : St _ _ [_, _, _, _] _ := hS104.only 4; clear hS104
 refine hK19 _ _ (came (⟨(l ++ [((x30 : Int), zz, [])]), q, ra81, rc81, ad100, cp100, (n - 1), false⟩) (by repeat' (first | exact Agree.refl _ _ | refine Agree.up ?_ rfl | refine Agree.hav2 ?_ rfl | refine Agree.ups2 ?_ rfl)) (by repeat' (first | exact trivial | refine ⟨by first | rfl | assumption, ?_⟩)) ?_)
 have htk : TkR rest ((x30 : Int), zz, []) q (rightB ((x30 : Int), zz, [])) := tkr2 hxh30 (by omega) hzq
 exact ⟨⟨hS105, RowI.next hI (by omega) hva htk (by rw [hrt, Bool.false_and]), hl.app (VsOk.one hva), (hBq), hGr81, (by first | assumption | omega), (by first | omega | (simp only [List.length_drop]; omega)), (by show n - 1 < 256; omega)⟩, by (show n - 1 < n); omega⟩
 refine l_e rfl (fun K hK => ?_)
 have hS107 := hS32.fr4; clear hS32
 have hS108 := hS107.fr3; clear hS107
 have hS109 := hS108.fr3; clear hS108
 refine e_callV (by kernel_rfl) rfl (number_no b4 b2 b7 (rest.drop 1) (Bytes.drop hbr) (by first | omega | (simp only [zll] <;> omega)) hno _ _ (by omega) _ _ (St.rogB (Γ1 := [_, _, _]) hS109) hGr26 (St.begin (Γ := [_, _, _]) hS109)) rfl (after_M (Γ1 := [_, _, _]) hS109 (fun v106 G106 w106 hv106 hS106 => ?_))
 clear hS109
 obtain ⟨rfl, rfl⟩ := hv106
 have hS110 : St _ _ [_, _, _, _, _] _ := hS106; clear hS106
 refine hK _ _ ?_; clear hK K
 refine l_q rfl rfl (q_fieldAddr (ft := 2) (o := 1) rfl (by kernel_rfl)) ?_
 refine l_e rfl (fun K hK => ?_)
 refine e_store1 hS110 rfl rfl (by kernel_rfl) (by first | rfl | assumption) (i := 3) rfl rfl (fun w111 (hS111 : St _ _ [_, _, _, _, _] _) => ?_)
 clear hS110
 refine hK _ _ ?_; clear hK K
 refine l_nil ?_
 refine hK33 _ _ ?_
 refine wp_seq_k (fun K112 hK112 => ?_)
 refine wp_region_lit ?_
 refine l_q rfl rfl (q_load1 rfl (by kernel_rfl) (hS111.cell (i := 0) rfl rfl)) ?_
 refine l_q rfl rfl (q_moveB rfl) ?_
 refine l_off rfl rfl rfl rfl ?_
 refine l_off rfl rfl rfl rfl ?_
 refine l_q rfl rfl (q_pickF rfl rfl rfl) ?_
 refine l_q rfl rfl (q_moveB rfl) ?_
 refine l_off rfl rfl rfl rfl ?_
 refine l_off rfl rfl rfl rfl ?_
 refine l_off rfl rfl rfl rfl ?_
 refine l_q rfl rfl (q_pickF rfl rfl rfl) ?_
 refine l_e rfl (fun K hK => ?_)
 refine e_store1 hS111 rfl rfl (by kernel_rfl) (by first | rfl | assumption) (i := 0) rfl rfl (fun w113 (hS113 : St _ _ [_, _, _, _, _] _) => ?_)
 clear hS111
 refine hK _ _ ?_; clear hK K
 refine l_nil ?_
 refine hK112 _ _ ?_
 refine wp_region_lit ?_
 refine l_q rfl rfl (q_moveS rfl) ?_
 refine l_q rfl rfl (q_loadA (m := 3) rfl (by kernel_rfl) (by kernel_rfl) (hS113.blk (i := 3) rfl) rfl rfl) ?_
 refine l_e rfl (fun K hK => ?_)
 refine e_buildSliceA (e := 106) (m := 3) (zv := .agg #[.int .i64 0, .int .i64 0, .string ⟨#[]⟩]) hS113 (by kernel_rfl) (by kernel_rfl) (by kernel_rfl) rfl rfl rfl rfl (fun b114 w114 (hS114 : St _ _ [.blk b114 (.cells #[.int .i64 (x30 : Int), .int .i64 (0 : Int), .string (bs [])] 106), _, _, _, _, _] _) => ?_)
 clear hS113
 have hva : VOk ((x30 : Int), (0 : Int), []) := vok_of Bytes.nil ⟨by omega, by omega⟩ ⟨by omega, by omega⟩
 have hS114o : St _ _ [.ow 106 3 (some ⟨b114, 0, none⟩) 1 1 (List.flatMap vl [((x30 : Int), (0 : Int), [])]), _, _, _, _, _] _ := hS114.blkOw' (i := 0) (m := 1) (size := 3) (xs := List.flatMap vl [((x30 : Int), (0 : Int), [])]) rfl rfl rfl (by decide); clear hS114
 refine hK _ _ ?_; clear hK K
 refine l_e rfl (fun K hK => ?_)
 refine e_app (e := 106) (size := 3) (bytes := 32) (i := 5) (m' := (l ++ [((x30 : Int), (0 : Int), [])]).length) (by kernel_rfl) hS114o rfl rfl rfl (SlG.src (e := 106) (by kernel_rfl) (hS114o.owG (i := 0) rfl) ((rows_len (c := vl) (m := 3) (fun _ => rfl) _).trans (by first | rfl | (simp only [zll]; done) | (simp only [zll]; omega) | omega)) (by decide) (rows_one vl_ones)) (by first | omega | (simp only [zll] <;> omega)) rows_app (by first | omega | (simp only [maxLen, zll] <;> omega)) (by first | omega | (simp only [zll] <;> omega)) (fun ad115 cp115 w115 (hS115 : St _ _ [_, _, _, _, _, .ow 106 3 ad115 ((l ++ [((x30 : Int), (0 : Int), [])]).length) cp115 (List.flatMap vl (l ++ [((x30 : Int), (0 : Int), [])]))] _) => ?_)
 clear hS114o
 refine hK _ _ ?_; clear hK K
 refine l_q rfl rfl (q_assignS rfl) ?_
 refine l_nil ?_
 refine hK24 _ _ ?_
 refine wp_region_lit ?_
 refine l_q rfl rfl (q_moveI rfl) ?_
 refine l_q rfl rfl (u_sub (a := n) (b := 1) rfl rfl rfl (by omega) (by show n < 256; omega)) ?_
 refine l_q rfl rfl (q_assignI rfl) ?_
 refine l_nil ?_
 have hS116 := hS115.fr3; clear hS115
 have hS117 := hS116.fr3; clear hS116
 have hS118 := hS117.fr3; clear hS117
 have hS119 := hS118.fr5; clear hS118
 have hS120 : St _ _ [_, _, _, _] _ := hS119.only 4; clear hS119
 refine hK19 _ _ (came (⟨(l ++ [((x30 : Int), (0 : Int), [])]), (rest.drop 1), ra26, rc26, ad115, cp115, (n - 1), false⟩) (by repeat' (first | exact Agree.refl _ _ | refine Agree.up ?_ rfl | refine Agree.hav2 ?_ rfl | refine Agree.ups2 ?_ rfl)) (by repeat' (first | exact trivial | refine ⟨by first | rfl | assumption, ?_⟩)) ?_)
 have htk : TkR rest ((x30 : Int), (0 : Int), []) (rest.drop 1) false := tkr_no (noval_num hxh30 (by omega) hno)
 exact ⟨⟨hS120, RowI.next hI (by omega) hva htk rfl, hl.app (VsOk.one hva), (Bytes.drop hbr), hGr26, (by first | assumption | omega), (by first | omega | (simp only [List.length_drop]; omega)), (by show n - 1 < 256; omega)⟩, by (show n - 1 < n); omega⟩
 have hc79b := hc79
 try simp only [zbb] at hc79
 refine wp_region_lit ?_
 refine l_q rfl rfl (q_eql rfl rfl) ?_
 refine l_q rfl rfl (q_assignB rfl) ?_
 refine l_nil ?_
 refine hK77 _ _ ?_
 refine c_cond rfl (fun hc121 => ?_) (fun hc121 => ?_)
 have hc121b := hc121
 try simp only [zbb] at hc121
 refine wp_region_lit ?_
 refine l_q rfl rfl (q_move rfl) ?_
 rcases long_or (rest.drop 1) with ⟨zz, q, hzr1, hzr2, hzq⟩ | hno
 have hBq : Bytes q := fun y hy => hbr y (List.mem_of_mem_drop (show y ∈ rest.drop 1 from by rw [hzq]; exact List.mem_append_right _ hy))
 have hqz := congrArg List.length hzq
 rw [List.length_append, List.length_drop] at hqz
 refine l_e rfl (fun K hK => ?_)
 have hS123 := hS32.fr4; clear hS32
 have hS124 := hS123.fr3; clear hS123
 have hS125 := hS124.fr3; clear hS124
 refine e_callV (by kernel_rfl) rfl (number_yes b4 b2 b7 (rest.drop 1) (Bytes.drop hbr) (by first | omega | (simp only [zll] <;> omega)) zz q hzr1 hzr2 hzq _ _ (by omega) _ _ (St.rogB (Γ1 := [_, _, _]) hS125) hGr26 (St.begin (Γ := [_, _, _]) hS125)) rfl (after_M (Γ1 := [_, _, _]) hS125 (fun v122 G122 w122 hv122 hS122 => ?_))
 clear hS125
 obtain ⟨ra122, rc122, rfl, rfl, hGr122, hrc122⟩ := hv122
 have hS126 : St _ _ [_, .blk b2 (.cells #[.slice ra122 q.length rc122] 58), _, _, _] _ := hS122; clear hS122
 refine hK _ _ ?_; clear hK K
 refine l_q rfl rfl (q_fieldAddr (ft := 2) (o := 1) rfl (by kernel_rfl)) ?_
 refine l_e rfl (fun K hK => ?_)
 refine e_store1 hS126 rfl rfl (by kernel_rfl) (by first | rfl | assumption) (i := 3) rfl rfl (fun w127 (hS127 : St _ _ [_, _, _, _, _] _) => ?_)
 clear hS126
 refine hK _ _ ?_; clear hK K
 refine l_nil ?_
 refine hK33 _ _ ?_
 refine wp_seq_k (fun K128 hK128 => ?_)
 refine wp_region_lit ?_
 refine l_q rfl rfl (q_load1 rfl (by kernel_rfl) (hS127.cell (i := 0) rfl rfl)) ?_
 refine l_q rfl rfl (q_moveB rfl) ?_
 refine l_on rfl rfl rfl ?_
 refine l_q rfl rfl (q_loadA (m := 3) rfl (by kernel_rfl) (by kernel_rfl) (hS127.blk (i := 3) rfl) rfl rfl) ?_
 refine l_on rfl rfl rfl ?_
 refine l_e rfl (fun K hK => ?_)
 refine e_call (by kernel_rfl) (right_ok ((x30 : Int), zz, []) Bytes.nil _) rfl (after_R hS127 (fun v129 w129 hv129 hS129 => ?_))
 clear hS127
 obtain rfl := hv129
 refine hK _ _ ?_; clear hK K
 refine l_q rfl rfl (q_pickT rfl rfl rfl) ?_
 refine l_q rfl rfl (q_moveB rfl) ?_
 refine g_splitL (t := 59) rfl (fun hg130 => ?_) (fun hg130 => ?_)
 have hg130b := hg130
 try simp only [zbb] at hg130
 have hrt := hg130
 refine l_on rfl rfl hg130b ?_
 refine l_q rfl rfl (q_moveS rfl) ?_
 refine l_on rfl rfl hg130b ?_
 refine l_q rfl rfl (q_lenSl (e := 106) rfl (by kernel_rfl)) ?_
 refine l_on rfl rfl hg130b ?_
 refine l_q rfl rfl (q_lss rfl rfl) ?_
 refine l_q rfl rfl (q_pickT rfl hg130b rfl) ?_
 refine l_e rfl (fun K hK => ?_)
 refine e_store1 hS129 rfl rfl (by kernel_rfl) (by first | rfl | assumption) (i := 0) rfl rfl (fun w131 (hS131 : St _ _ [_, _, _, _, _] _) => ?_)
 clear hS129
 refine hK _ _ ?_; clear hK K
 refine l_nil ?_
 refine hK128 _ _ ?_
 refine wp_region_lit ?_
 refine l_q rfl rfl (q_moveS rfl) ?_
 refine l_q rfl rfl (q_loadA (m := 3) rfl (by kernel_rfl) (by kernel_rfl) (hS131.blk (i := 3) rfl) rfl rfl) ?_
 refine l_e rfl (fun K hK => ?_)
 refine e_buildSliceA (e := 106) (m := 3) (zv := .agg #[.int .i64 0, .int .i64 0, .string ⟨#[]⟩]) hS131 (by kernel_rfl) (by kernel_rfl) (by kernel_rfl) rfl rfl rfl rfl (fun b132 w132 (hS132 : St _ _ [.blk b132 (.cells #[.int .i64 (x30 : Int), .int .i64 zz, .string (bs [])] 106), _, _, _, _, _] _) => ?_)
 clear hS131
 have hva : VOk ((x30 : Int), zz, []) := vok_of Bytes.nil ⟨by omega, by omega⟩ ⟨by omega, by omega⟩
 have hS132o : St _ _ [.ow 106 3 (some ⟨b132, 0, none⟩) 1 1 (List.flatMap vl [((x30 : Int), zz, [])]), _, _, _, _, _] _ := hS132.blkOw' (i := 0) (m := 1) (size := 3) (xs := List.flatMap vl [((x30 : Int), zz, [])]) rfl rfl rfl (by decide); clear hS132
 refine hK _ _ ?_; clear hK K
 refine l_e rfl (fun K hK => ?_)
 refine e_app (e := 106) (size := 3) (bytes := 32) (i := 5) (m' := (l ++ [((x30 : Int), zz, [])]).length) (by kernel_rfl) hS132o rfl rfl rfl (SlG.src (e := 106) (by kernel_rfl) (hS132o.owG (i := 0) rfl) ((rows_len (c := vl) (m := 3) (fun _ => rfl) _).trans (by first | rfl | (simp only [zll]; done) | (simp only [zll]; omega) | omega)) (by decide) (rows_one vl_ones)) (by first | omega | (simp only [zll] <;> omega)) rows_app (by first | omega | (simp only [maxLen, zll] <;> omega)) (by first | omega | (simp only [zll] <;> omega)) (fun ad133 cp133 w133 (hS133 : St _ _ [_, _, _, _, _, .ow 106 3 ad133 ((l ++ [((x30 : Int), zz, [])]).length) cp133 (List.flatMap vl (l ++ [((x30 : Int), zz, [])]))] _) => ?_)
 clear hS132o
 refine hK _ _ ?_; clear hK K
 refine l_q rfl rfl (q_assignS rfl) ?_
 refine l_nil ?_
 refine hK24 _ _ ?_
 refine wp_region_lit ?_
 refine l_q rfl rfl (q_moveI rfl) ?_
 refine l_q rfl rfl (u_sub (a := n) (b := 1) rfl rfl rfl (by omega) (by show n < 256; omega)) ?_
 refine l_q rfl rfl (q_assignI rfl) ?_
 refine l_nil ?_
 have hS134 := hS133.fr3; clear hS133
 have hS135 := hS134.fr3; clear hS134
 have hS136 := hS135.fr3; clear hS135
 have hS137 := hS136.fr5; clear hS136
 have hS138 : St _ _ [_, _, _, _] _ := hS137.only 4; clear hS137
 refine hK19 _ _ (came (⟨(l ++ [((x30 : Int), zz, [])]), q, ra122, rc122, ad133, cp133, (n - 1), (decide ((l.length : Int) < 16))⟩) (by repeat' (first | exact Agree.refl _ _ | refine Agree.up ?_ rfl | refine Agree.hav2 ?_ rfl | refine Agree.ups2 ?_ rfl)) (by repeat' (first | exact trivial | refine ⟨by first | rfl | assumption, ?_⟩)) ?_)
 have htk : TkR rest ((x30 : Int), zz, []) q (rightB ((x30 : Int), zz, [])) := tkr2 hxh30 (by omega) hzq
 exact ⟨⟨hS138, RowI.next hI (by omega) hva htk (by rw [hrt, Bool.true_and]), hl.app (VsOk.one hva), (hBq), hGr122, (by first | assumption | omega), (by first | omega | (simp only [List.length_drop]; omega)), (by show n - 1 < 256; omega)⟩, by (show n - 1 < n); omega⟩
 have hg130b := hg130
 try simp only [zbb] at hg130
 have hrt := hg130
 refine l_off rfl rfl rfl hg130b ?_
 refine l_off rfl rfl rfl hg130b ?_
 refine l_off rfl rfl rfl hg130b ?_
 refine l_q rfl rfl (q_pickF rfl hg130b rfl) ?_
 refine l_e rfl (fun K hK => ?_)
 refine e_store1 hS129 rfl rfl (by kernel_rfl) (by first | rfl | assumption) (i := 0) rfl rfl (fun w139 (hS139 : St _ _ [_, _, _, _, _] _) => ?_)
 clear hS129
 refine hK _ _ ?_; clear hK K
 refine l_nil ?_
 refine hK128 _ _ ?_
 refine wp_region_lit ?_
 refine l_q rfl rfl (q_moveS rfl) ?_
 refine l_q rfl rfl (q_loadA (m := 3) rfl (by kernel_rfl) (by kernel_rfl) (hS139.blk (i := 3) rfl) rfl rfl) ?_
 refine l_e rfl (fun K hK => ?_)
 refine e_buildSliceA (e := 106) (m := 3) (zv := .agg #[.int .i64 0, .int .i64 0, .string ⟨#[]⟩]) hS139 (by kernel_rfl) (by kernel_rfl) (by kernel_rfl) rfl rfl rfl rfl (fun b140 w140 (hS140 : St _ _ [.blk b140 (.cells #[.int .i64 (x30 : Int), .int .i64 zz, .string (bs [])] 106), _, _, _, _, _] _) => ?_)
 clear hS139
 have hva : VOk ((x30 : Int), zz, []) := vok_of Bytes.nil ⟨by omega, by omega⟩ ⟨by omega, by omega⟩
 have hS140o : St _ _ [.ow 106 3 (some ⟨b140, 0, none⟩) 1 1 (List.flatMap vl [((x30 : Int), zz, [])]), _, _, _, _, _] _ := hS140.blkOw' (i := 0) (m := 1) (size := 3) (xs := List.flatMap vl [((x30 : Int), zz, [])]) rfl rfl rfl (by decide); clear hS140
 refine hK _ _ ?_; clear hK K
 refine l_e rfl (fun K hK => ?_)
 refine e_app (e := 106) (size := 3) (bytes := 32) (i := 5) (m' := (l ++ [((x30 : Int), zz, [])]).length) (by kernel_rfl) hS140o rfl rfl rfl (SlG.src (e := 106) (by kernel_rfl) (hS140o.owG (i := 0) rfl) ((rows_len (c := vl) (m := 3) (fun _ => rfl) _).trans (by first | rfl | (simp only [zll]; done) | (simp only [zll]; omega) | omega)) (by decide) (rows_one vl_ones)) (by first | omega | (simp only [zll] <;> omega)) rows_app (by first | omega | (simp only [maxLen, zll] <;> omega)) (by first | omega | (simp only [zll] <;> omega)) (fun ad141 cp141 w141 (hS141 : St _ _ [_, _, _, _, _, .ow 106 3 ad141 ((l ++ [((x30 : Int), zz, [])]).length) cp141 (List.flatMap vl (l ++ [((x30 : Int), zz, [])]))] _) => ?_)
 clear hS140o
 refine hK _ _ ?_; clear hK K
 refine l_q rfl rfl (q_assignS rfl) ?_
 refine l_nil ?_
 refine hK24 _ _ ?_
 refine wp_region_lit ?_
 refine l_q rfl rfl (q_moveI rfl) ?_
 refine l_q rfl rfl (u_sub (a := n) (b := 1) rfl rfl rfl (by omega) (by show n < 256; omega)) ?_
 refine l_q rfl rfl (q_assignI rfl) ?_
 refine l_nil ?_
 have hS142 := hS141.fr3; clear hS141
 have hS143 := hS142.fr3; clear hS142
 have hS144 := hS143.fr3; clear hS143
 have hS145 := hS144.fr5; clear hS144
 have hS146 : St _ _ [_, _, _, _] _ := hS145.only 4; clear hS145
 refine hK19 _ _ (came (⟨(l ++ [((x30 : Int), zz, [])]), q, ra122, rc122, ad141, cp141, (n - 1), false⟩) (by repeat' (first | exact Agree.refl _ _ | refine Agree.up ?_ rfl | refine Agree.hav2 ?_ rfl | refine Agree.ups2 ?_ rfl)) (by repeat' (first | exact trivial | refine ⟨by first | rfl | assumption, ?_⟩)) ?_)
 have htk : TkR rest ((x30 : Int), zz, []) q (rightB ((x30 : Int), zz, [])) := tkr2 hxh30 (by omega) hzq
 exact ⟨⟨hS146, RowI.next hI (by omega) hva htk (by rw [hrt, Bool.false_and]), hl.app (VsOk.one hva), (hBq), hGr122, (by first | assumption | omega), (by first | omega | (simp only [List.length_drop]; omega)), (by show n - 1 < 256; omega)⟩, by (show n - 1 < n); omega⟩
 refine l_e rfl (fun K hK => ?_)
 have hS148 := hS32.fr4; clear hS32
 have hS149 := hS148.fr3; clear hS148
 have hS150 := hS149.fr3; clear hS149
 refine e_callV (by kernel_rfl) rfl (number_no b4 b2 b7 (rest.drop 1) (Bytes.drop hbr) (by first | omega | (simp only [zll] <;> omega)) hno _ _ (by omega) _ _ (St.rogB (Γ1 := [_, _, _]) hS150) hGr26 (St.begin (Γ := [_, _, _]) hS150)) rfl (after_M (Γ1 := [_, _, _]) hS150 (fun v147 G147 w147 hv147 hS147 => ?_))
 clear hS150
 obtain ⟨rfl, rfl⟩ := hv147
 have hS151 : St _ _ [_, _, _, _, _] _ := hS147; clear hS147
 refine hK _ _ ?_; clear hK K
 refine l_q rfl rfl (q_fieldAddr (ft := 2) (o := 1) rfl (by kernel_rfl)) ?_
 refine l_e rfl (fun K hK => ?_)
 refine e_store1 hS151 rfl rfl (by kernel_rfl) (by first | rfl | assumption) (i := 3) rfl rfl (fun w152 (hS152 : St _ _ [_, _, _, _, _] _) => ?_)
 clear hS151
 refine hK _ _ ?_; clear hK K
 refine l_nil ?_
 refine hK33 _ _ ?_
 refine wp_seq_k (fun K153 hK153 => ?_)
 refine wp_region_lit ?_
 refine l_q rfl rfl (q_load1 rfl (by kernel_rfl) (hS152.cell (i := 0) rfl rfl)) ?_
 refine l_q rfl rfl (q_moveB rfl) ?_
 refine l_off rfl rfl rfl rfl ?_
 refine l_off rfl rfl rfl rfl ?_
 refine l_q rfl rfl (q_pickF rfl rfl rfl) ?_
 refine l_q rfl rfl (q_moveB rfl) ?_
 refine l_off rfl rfl rfl rfl ?_
 refine l_off rfl rfl rfl rfl ?_
 refine l_off rfl rfl rfl rfl ?_
 refine l_q rfl rfl (q_pickF rfl rfl rfl) ?_
 refine l_e rfl (fun K hK => ?_)
 refine e_store1 hS152 rfl rfl (by kernel_rfl) (by first | rfl | assumption) (i := 0) rfl rfl (fun w154 (hS154 : St _ _ [_, _, _, _, _] _) => ?_)
 clear hS152
 refine hK _ _ ?_; clear hK K
 refine l_nil ?_
 refine hK153 _ _ ?_
 refine wp_region_lit ?_
 refine l_q rfl rfl (q_moveS rfl) ?_
 refine l_q rfl rfl (q_loadA (m := 3) rfl (by kernel_rfl) (by kernel_rfl) (hS154.blk (i := 3) rfl) rfl rfl) ?_
 refine l_e rfl (fun K hK => ?_)
 refine e_buildSliceA (e := 106) (m := 3) (zv := .agg #[.int .i64 0, .int .i64 0, .string ⟨#[]⟩]) hS154 (by kernel_rfl) (by kernel_rfl) (by kernel_rfl) rfl rfl rfl rfl (fun b155 w155 (hS155 : St _ _ [.blk b155 (.cells #[.int .i64 (x30 : Int), .int .i64 (0 : Int), .string (bs [])] 106), _, _, _, _, _] _) => ?_)
 clear hS154
 have hva : VOk ((x30 : Int), (0 : Int), []) := vok_of Bytes.nil ⟨by omega, by omega⟩ ⟨by omega, by omega⟩
 have hS155o : St _ _ [.ow 106 3 (some ⟨b155, 0, none⟩) 1 1 (List.flatMap vl [((x30 : Int), (0 : Int), [])]), _, _, _, _, _] _ := hS155.blkOw' (i := 0) (m := 1) (size := 3) (xs := List.flatMap vl [((x30 : Int), (0 : Int), [])]) rfl rfl rfl (by decide); clear hS155
 refine hK _ _ ?_; clear hK K
 refine l_e rfl (fun K hK => ?_)
 refine e_app (e := 106) (size := 3) (bytes := 32) (i := 5) (m' := (l ++ [((x30 : Int), (0 : Int), [])]).length) (by kernel_rfl) hS155o rfl rfl rfl (SlG.src (e := 106) (by kernel_rfl) (hS155o.owG (i := 0) rfl) ((rows_len (c := vl) (m := 3) (fun _ => rfl) _).trans (by first | rfl | (simp only [zll]; done) | (simp only [zll]; omega) | omega)) (by decide) (rows_one vl_ones)) (by first | omega | (simp only [zll] <;> omega)) rows_app (by first | omega | (simp only [maxLen, zll] <;> omega)) (by first | omega | (simp only [zll] <;> omega)) (fun ad156 cp156 w156 (hS156 : St _ _ [_, _, _, _, _, .ow 106 3 ad156 ((l ++ [((x30 : Int), (0 : Int), [])]).length) cp156 (List.flatMap vl (l ++ [((x30 : Int), (0 : Int), [])]))] _) => ?_)
 clear hS155o
 refine hK _ _ ?_; clear hK K
 refine l_q rfl rfl (q_assignS rfl) ?_
 refine l_nil ?_
 refine hK24 _ _ ?_
 refine wp_region_lit ?_
 refine l_q rfl rfl (q_moveI rfl) ?_
 refine l_q rfl rfl (u_sub (a := n) (b := 1) rfl rfl rfl (by omega) (by show n < 256; omega)) ?_
 refine l_q rfl rfl (q_assignI rfl) ?_
 refine l_nil ?_
 have hS157 := hS156.fr3; clear hS156
 have hS158 := hS157.fr3; clear hS157
 have hS159 := hS158.fr3; clear hS158
 have hS160 := hS159.fr5; clear hS159
 have hS161 : St _ _ [_, _, _, _] _ := hS160.only 4; clear hS160
 refine hK19 _ _ (came (⟨(l ++ [((x30 : Int), (0 : Int), [])]), (rest.drop 1), ra26, rc26, ad156, cp156, (n - 1), false⟩) (by repeat' (first | exact Agree.refl _ _ | refine Agree.up ?_ rfl | refine Agree.hav2 ?_ rfl | refine Agree.ups2 ?_ rfl)) (by repeat' (first | exact trivial | refine ⟨by first | rfl | assumption, ?_⟩)) ?_)
 have htk : TkR rest ((x30 : Int), (0 : Int), []) (rest.drop 1) false := tkr_no (noval_num hxh30 (by omega) hno)
 exact ⟨⟨hS161, RowI.next hI (by omega) hva htk rfl, hl.app (VsOk.one hva), (Bytes.drop hbr), hGr26, (by first | assumption | omega), (by first | omega | (simp only [List.length_drop]; omega)), (by show n - 1 < 256; omega)⟩, by (show n - 1 < n); omega⟩
 have hc121b := hc121
 try simp only [zbb] at hc121
 refine wp_seq_k (fun K162 hK162 => ?_)
 refine wp_seq_k (fun K163 hK163 => ?_)
 refine wp_region_lit ?_
 refine l_q rfl rfl (q_eql rfl rfl) ?_
 refine l_q rfl rfl (q_assignB rfl) ?_
 refine l_nil ?_
 refine hK163 _ _ ?_
 refine c_cond rfl (fun hc164 => ?_) (fun hc164 => ?_)
 have hc164b := hc164
 try simp only [zbb] at hc164
 refine wp_skip ?_
 refine hK162 _ _ ?_
 refine c_condT rfl hc164b ?_
 refine r_any (by kernel_rfl) hS32 (fun w166 hS166 => ?_)
 clear hS32
 refine o_held (i := 0) [3, 4, 5, 6] (fun _ _ => trivial) rfl rfl (by kernel_rfl) (goes0 rfl) (QOk.inBlock (QOk.then (QOk.inBlock (QOk.then (QOk.then (QOk.inBlock (QOk.then QOk.body))))))) (q_load1 rfl (by kernel_rfl) (hS166.cell (i := 4) rfl rfl)) ?_
 refine o_pure (i := 1) (fun j w => ⟨(fun _ _ => trivial) j w, fun _ h => h⟩) rfl rfl (by kernel_rfl) (goes0 rfl) (QOk.inBlock (QOk.then (QOk.inBlock (QOk.then (QOk.then (QOk.inBlock (QOk.then QOk.body))))))) (fun w => q_move rfl) ?_
 rcases long_or (rest.drop 1) with ⟨zz, q, hzr1, hzr2, hzq⟩ | hno
 have hBq : Bytes q := fun y hy => hbr y (List.mem_of_mem_drop (show y ∈ rest.drop 1 from by rw [hzq]; exact List.mem_append_right _ hy))
 have hqz := congrArg List.length hzq
 rw [List.length_append, List.length_drop] at hqz
 refine o_eff (i := 2) (by kernel_rfl) rfl (goes0 rfl) (fun K hK => ?_)
 have hS168 := hS166.fr4; clear hS166
 have hS169 := hS168.fr3; clear hS168
 have hS170 := hS169.fr3; clear hS169
 refine e_callV (by kernel_rfl) rfl (number_yes b4 b2 b7 (rest.drop 1) (Bytes.drop hbr) (by first | omega | (simp only [zll] <;> omega)) zz q hzr1 hzr2 hzq _ _ (by omega) _ _ (St.rogB (Γ1 := [_, _, _]) hS170) hGr26 (St.begin (Γ := [_, _, _]) hS170)) rfl (after_M (Γ1 := [_, _, _]) hS170 (fun v167 G167 w167 hv167 hS167 => ?_))
 clear hS170
 obtain ⟨ra167, rc167, rfl, rfl, hGr167, hrc167⟩ := hv167
 have hS171 : St _ _ [_, .blk b2 (.cells #[.slice ra167 q.length rc167] 58), _, _, _] _ := hS167; clear hS167
 refine hK _ _ ⟨trivial, fun _ _ => by first | exact q_load1 rfl (by kernel_rfl) (hS171.cell (i := 2) rfl rfl)⟩ ?_; clear hK K
 by_cases hpz : 0 ≤ zz ∧ zz ≤ (q.length : Int)
 obtain ⟨kz, rfl⟩ : ∃ kz : Nat, zz = (kz : Int) := ⟨zz.toNat, by omega⟩
 refine o_eff (i := 3) (by kernel_rfl) rfl (goes0 rfl) (fun K hK => ?_)
 refine e_callV (by kernel_rfl) rfl (take_yes b4 b2 q (hBq) (by first | omega | (simp only [zll] <;> omega)) kz (by omega) _ _ (by omega) _ _ (St.rogB (Γ1 := [_, _]) hS171) hGr167 (St.begin (Γ := [_, _]) hS171)) rfl (after_M (Γ1 := [_, _]) hS171 (fun v172 G172 w172 hv172 hS172 => ?_))
 clear hS171
 obtain ⟨ra172, rc172, rfl, rfl, hGr172, hrc172⟩ := hv172
 have hS173 : St _ _ [_, .blk b2 (.cells #[.slice ra172 ((q.drop kz).length) rc172] 58), _, _, _] _ := hS172; clear hS172
 have hld172 := List.length_drop (i := kz) (l := q)
 refine hK _ _ ⟨trivial, fun h => absurd h (by decide)⟩ ?_; clear hK K
 refine o_held (i := 4) [5, 6] (fun j w => ⟨(fun _ _ => trivial) j w, fun _ h => h⟩) rfl rfl (by kernel_rfl) (goes0 rfl) (QOk.inBlock (QOk.then (QOk.inBlock (QOk.then (QOk.then (QOk.inBlock (QOk.then QOk.body))))))) (q_convBS (l := (q.take kz)) rfl ((bv_takeG (n := kz) hGr167).mono hS173.base) (by first | omega | (simp only [zll] <;> omega)) (by kernel_rfl) (by kernel_rfl)) ?_
 refine o_pure (i := 5) (fun j w => ⟨(fun j w => ⟨(fun _ _ => trivial) j w, fun _ h => h⟩) j w, fun _ h => h⟩) rfl rfl (by kernel_rfl) (goes0 rfl) (QOk.inBlock (QOk.then (QOk.inBlock (QOk.then (QOk.then (QOk.inBlock (QOk.then QOk.body))))))) (fun w => q_fieldAddr (ft := 9) (o := 2) rfl (by kernel_rfl)) ?_
 refine o_eff (i := 6) (by kernel_rfl) rfl (goes0 rfl) (fun K hK => ?_)
 refine e_store1 hS173 rfl rfl (by kernel_rfl) (by first | rfl | assumption) (i := 3) rfl rfl (fun w174 (hS174 : St _ _ [_, _, _, .blk b31 (.cells #[.int .i64 (x30 : Int), .int .i64 (0 : Int), .string (bs (q.take kz))] 106), _] _) => ?_)
 clear hS173
 refine hK _ _ ⟨⟨trivial, fun h => absurd h (by decide)⟩, fun h => absurd h (by decide)⟩ ?_; clear hK K
 refine o_done (by kernel_rfl) ?_
 refine hK33 _ _ ?_
 refine wp_seq_k (fun K175 hK175 => ?_)
 refine wp_region_lit ?_
 refine l_q rfl rfl (q_load1 rfl (by kernel_rfl) (hS174.cell (i := 0) rfl rfl)) ?_
 refine l_q rfl rfl (q_moveB rfl) ?_
 refine l_on rfl rfl rfl ?_
 refine l_q rfl rfl (q_loadA (m := 3) rfl (by kernel_rfl) (by kernel_rfl) (hS174.blk (i := 3) rfl) rfl rfl) ?_
 refine l_on rfl rfl rfl ?_
 refine l_e rfl (fun K hK => ?_)
 refine e_call (by kernel_rfl) (right_ok ((x30 : Int), (0 : Int), (q.take kz)) (Bytes.take (hBq)) _) rfl (after_R hS174 (fun v176 w176 hv176 hS176 => ?_))
 clear hS174
 obtain rfl := hv176
 refine hK _ _ ?_; clear hK K
 refine l_q rfl rfl (q_pickT rfl rfl rfl) ?_
 refine l_q rfl rfl (q_moveB rfl) ?_
 refine g_splitL (t := 59) rfl (fun hg177 => ?_) (fun hg177 => ?_)
 have hg177b := hg177
 try simp only [zbb] at hg177
 have hrt := hg177
 refine l_on rfl rfl hg177b ?_
 refine l_q rfl rfl (q_moveS rfl) ?_
 refine l_on rfl rfl hg177b ?_
 refine l_q rfl rfl (q_lenSl (e := 106) rfl (by kernel_rfl)) ?_
 refine l_on rfl rfl hg177b ?_
 refine l_q rfl rfl (q_lss rfl rfl) ?_
 refine l_q rfl rfl (q_pickT rfl hg177b rfl) ?_
 refine l_e rfl (fun K hK => ?_)
 refine e_store1 hS176 rfl rfl (by kernel_rfl) (by first | rfl | assumption) (i := 0) rfl rfl (fun w178 (hS178 : St _ _ [_, _, _, _, _] _) => ?_)
 clear hS176
 refine hK _ _ ?_; clear hK K
 refine l_nil ?_
 refine hK175 _ _ ?_
 refine wp_region_lit ?_
 refine l_q rfl rfl (q_moveS rfl) ?_
 refine l_q rfl rfl (q_loadA (m := 3) rfl (by kernel_rfl) (by kernel_rfl) (hS178.blk (i := 3) rfl) rfl rfl) ?_
 refine l_e rfl (fun K hK => ?_)
 refine e_buildSliceA (e := 106) (m := 3) (zv := .agg #[.int .i64 0, .int .i64 0, .string ⟨#[]⟩]) hS178 (by kernel_rfl) (by kernel_rfl) (by kernel_rfl) rfl rfl rfl rfl (fun b179 w179 (hS179 : St _ _ [.blk b179 (.cells #[.int .i64 (x30 : Int), .int .i64 (0 : Int), .string (bs (q.take kz))] 106), _, _, _, _, _] _) => ?_)
 clear hS178
 have hva : VOk ((x30 : Int), (0 : Int), (q.take kz)) := vok_of (Bytes.take (hBq)) ⟨by omega, by omega⟩ ⟨by omega, by omega⟩
 have hS179o : St _ _ [.ow 106 3 (some ⟨b179, 0, none⟩) 1 1 (List.flatMap vl [((x30 : Int), (0 : Int), (q.take kz))]), _, _, _, _, _] _ := hS179.blkOw' (i := 0) (m := 1) (size := 3) (xs := List.flatMap vl [((x30 : Int), (0 : Int), (q.take kz))]) rfl rfl rfl (by decide); clear hS179
 refine hK _ _ ?_; clear hK K
 refine l_e rfl (fun K hK => ?_)
 refine e_app (e := 106) (size := 3) (bytes := 32) (i := 5) (m' := (l ++ [((x30 : Int), (0 : Int), (q.take kz))]).length) (by kernel_rfl) hS179o rfl rfl rfl (SlG.src (e := 106) (by kernel_rfl) (hS179o.owG (i := 0) rfl) ((rows_len (c := vl) (m := 3) (fun _ => rfl) _).trans (by first | rfl | (simp only [zll]; done) | (simp only [zll]; omega) | omega)) (by decide) (rows_one vl_ones)) (by first | omega | (simp only [zll] <;> omega)) rows_app (by first | omega | (simp only [maxLen, zll] <;> omega)) (by first | omega | (simp only [zll] <;> omega)) (fun ad180 cp180 w180 (hS180 : St _ _ [_, _, _, _, _, .ow 106 3 ad180 ((l ++ [((x30 : Int), (0 : Int), (q.take kz))]).length) cp180 (List.flatMap vl (l ++ [((x30 : Int), (0 : Int), (q.take kz))]))] _) => ?_)
 clear hS179o
 refine hK _ _ ?_; clear hK K
 refine l_q rfl rfl (q_assignS rfl) ?_
 refine l_nil ?_
 refine hK24 _ _ ?_
 refine wp_region_lit ?_
 refine l_q rfl rfl (q_moveI rfl) ?_
 refine l_q rfl rfl (u_sub (a := n) (b := 1) rfl rfl rfl (by omega) (by show n < 256; omega)) ?_
 refine l_q rfl rfl (q_assignI rfl) ?_
 refine l_nil ?_
 have hS181 := hS180.fr3; clear hS180
 have hS182 := hS181.fr3; clear hS181
 have hS183 := hS182.fr3; clear hS182
 have hS184 := hS183.fr5; clear hS183
 have hS185 : St _ _ [_, _, _, _] _ := hS184.only 4; clear hS184
 refine hK19 _ _ (came (⟨(l ++ [((x30 : Int), (0 : Int), (q.take kz))]), (q.drop kz), ra172, rc172, ad180, cp180, (n - 1), (decide ((l.length : Int) < 16))⟩) (by repeat' (first | exact Agree.refl _ _ | refine Agree.up ?_ rfl | refine Agree.hav2 ?_ rfl | refine Agree.ups2 ?_ rfl)) (by repeat' (first | exact trivial | refine ⟨by first | rfl | assumption, ?_⟩)) ?_)
 have htk : TkR rest ((x30 : Int), (0 : Int), (q.take kz)) (q.drop kz) (rightB ((x30 : Int), (0 : Int), (q.take kz))) := tkr4 hxh30 (by omega) hzq (by omega)
 exact ⟨⟨hS185, RowI.next hI (by omega) hva htk (by rw [hrt, Bool.true_and]), hl.app (VsOk.one hva), (Bytes.drop (hBq)), hGr172, (by first | assumption | omega), (by first | omega | (simp only [List.length_drop]; omega)), (by show n - 1 < 256; omega)⟩, by (show n - 1 < n); omega⟩
 have hg177b := hg177
 try simp only [zbb] at hg177
 have hrt := hg177
 refine l_off rfl rfl rfl hg177b ?_
 refine l_off rfl rfl rfl hg177b ?_
 refine l_off rfl rfl rfl hg177b ?_
 refine l_q rfl rfl (q_pickF rfl hg177b rfl) ?_
 refine l_e rfl (fun K hK => ?_)
 refine e_store1 hS176 rfl rfl (by kernel_rfl) (by first | rfl | assumption) (i := 0) rfl rfl (fun w186 (hS186 : St _ _ [_, _, _, _, _] _) => ?_)
 clear hS176
 refine hK _ _ ?_; clear hK K
 refine l_nil ?_
 refine hK175 _ _ ?_
 refine wp_region_lit ?_
 refine l_q rfl rfl (q_moveS rfl) ?_
 refine l_q rfl rfl (q_loadA (m := 3) rfl (by kernel_rfl) (by kernel_rfl) (hS186.blk (i := 3) rfl) rfl rfl) ?_
 refine l_e rfl (fun K hK => ?_)
 refine e_buildSliceA (e := 106) (m := 3) (zv := .agg #[.int .i64 0, .int .i64 0, .string ⟨#[]⟩]) hS186 (by kernel_rfl) (by kernel_rfl) (by kernel_rfl) rfl rfl rfl rfl (fun b187 w187 (hS187 : St _ _ [.blk b187 (.cells #[.int .i64 (x30 : Int), .int .i64 (0 : Int), .string (bs (q.take kz))] 106), _, _, _, _, _] _) => ?_)
 clear hS186
 have hva : VOk ((x30 : Int), (0 : Int), (q.take kz)) := vok_of (Bytes.take (hBq)) ⟨by omega, by omega⟩ ⟨by omega, by omega⟩
 have hS187o : St _ _ [.ow 106 3 (some ⟨b187, 0, none⟩) 1 1 (List.flatMap vl [((x30 : Int), (0 : Int), (q.take kz))]), _, _, _, _, _] _ := hS187.blkOw' (i := 0) (m := 1) (size := 3) (xs := List.flatMap vl [((x30 : Int), (0 : Int), (q.take kz))]) rfl rfl rfl (by decide); clear hS187
 refine hK _ _ ?_; clear hK K
 refine l_e rfl (fun K hK => ?_)
 refine e_app (e := 106) (size := 3) (bytes := 32) (i := 5) (m' := (l ++ [((x30 : Int), (0 : Int), (q.take kz))]).length) (by kernel_rfl) hS187o rfl rfl rfl (SlG.src (e := 106) (by kernel_rfl) (hS187o.owG (i := 0) rfl) ((rows_len (c := vl) (m := 3) (fun _ => rfl) _).trans (by first | rfl | (simp only [zll]; done) | (simp only [zll]; omega) | omega)) (by decide) (rows_one vl_ones)) (by first | omega | (simp only [zll] <;> omega)) rows_app (by first | omega | (simp only [maxLen, zll] <;> omega)) (by first | omega | (simp only [zll] <;> omega)) (fun ad188 cp188 w188 (hS188 : St _ _ [_, _, _, _, _, .ow 106 3 ad188 ((l ++ [((x30 : Int), (0 : Int), (q.take kz))]).length) cp188 (List.flatMap vl (l ++ [((x30 : Int), (0 : Int), (q.take kz))]))] _) => ?_)
 clear hS187o
 refine hK _ _ ?_; clear hK K
 refine l_q rfl rfl (q_assignS rfl) ?_
 refine l_nil ?_
 refine hK24 _ _ ?_
 refine wp_region_lit ?_
 refine l_q rfl rfl (q_moveI rfl) ?_
 refine l_q rfl rfl (u_sub (a := n) (b := 1) rfl rfl rfl (by omega) (by show n < 256; omega)) ?_
 refine l_q rfl rfl (q_assignI rfl) ?_
 refine l_nil ?_
 have hS189 := hS188.fr3; clear hS188
 have hS190 := hS189.fr3; clear hS189
 have hS191 := hS190.fr3; clear hS190
 have hS192 := hS191.fr5; clear hS191
 have hS193 : St _ _ [_, _, _, _] _ := hS192.only 4; clear hS192
 refine hK19 _ _ (came (⟨(l ++ [((x30 : Int), (0 : Int), (q.take kz))]), (q.drop kz), ra172, rc172, ad188, cp188, (n - 1), false⟩) (by repeat' (first | exact Agree.refl _ _ | refine Agree.up ?_ rfl | refine Agree.hav2 ?_ rfl | refine Agree.ups2 ?_ rfl)) (by repeat' (first | exact trivial | refine ⟨by first | rfl | assumption, ?_⟩)) ?_)
 have htk : TkR rest ((x30 : Int), (0 : Int), (q.take kz)) (q.drop kz) (rightB ((x30 : Int), (0 : Int), (q.take kz))) := tkr4 hxh30 (by omega) hzq (by omega)
 exact ⟨⟨hS193, RowI.next hI (by omega) hva htk (by rw [hrt, Bool.false_and]), hl.app (VsOk.one hva), (Bytes.drop (hBq)), hGr172, (by first | assumption | omega), (by first | omega | (simp only [List.length_drop]; omega)), (by show n - 1 < 256; omega)⟩, by (show n - 1 < n); omega⟩
 refine o_eff (i := 3) (by kernel_rfl) rfl (goes0 rfl) (fun K hK => ?_)
 refine e_callV (by kernel_rfl) rfl (take_no b4 b2 q (hBq) (by first | omega | (simp only [zll] <;> omega)) true zz (by first | exact .inl rfl | exact .inr (by omega)) _ _ (by omega) _ _ (St.rogB (Γ1 := [_, _]) hS171) hGr167 (St.begin (Γ := [_, _]) hS171)) rfl (after_M (Γ1 := [_, _]) hS171 (fun v194 G194 w194 hv194 hS194 => ?_))
 clear hS171
 obtain ⟨nb194, rfl, rfl⟩ := hv194
 have hS195 : St _ _ [_, _, .ow 5 1 (some ⟨nb194, 0, none⟩) 1 1 (bv [0]), _, _, _] _ := hS194; clear hS194
 refine hK _ _ ⟨trivial, fun h => absurd h (by decide)⟩ ?_; clear hK K
 refine o_held (i := 4) [5, 6] (fun j w => ⟨(fun _ _ => trivial) j w, fun _ h => h⟩) rfl rfl (by kernel_rfl) (goes0 rfl) (QOk.inBlock (QOk.then (QOk.inBlock (QOk.then (QOk.then (QOk.inBlock (QOk.then QOk.body))))))) (q_convBS (l := [0]) rfl (hS195.owG (i := 2) rfl) (by first | omega | (simp only [zll] <;> omega)) (by kernel_rfl) (by kernel_rfl)) ?_
 refine o_pure (i := 5) (fun j w => ⟨(fun j w => ⟨(fun _ _ => trivial) j w, fun _ h => h⟩) j w, fun _ h => h⟩) rfl rfl (by kernel_rfl) (goes0 rfl) (QOk.inBlock (QOk.then (QOk.inBlock (QOk.then (QOk.then (QOk.inBlock (QOk.then QOk.body))))))) (fun w => q_fieldAddr (ft := 9) (o := 2) rfl (by kernel_rfl)) ?_
 refine o_eff (i := 6) (by kernel_rfl) rfl (goes0 rfl) (fun K hK => ?_)
 refine e_store1 hS195 rfl rfl (by kernel_rfl) (by first | rfl | assumption) (i := 4) rfl rfl (fun w196 (hS196 : St _ _ [_, _, _, _, .blk b31 (.cells #[.int .i64 (x30 : Int), .int .i64 (0 : Int), .string (bs [0])] 106), _] _) => ?_)
 clear hS195
 refine hK _ _ ⟨⟨trivial, fun h => absurd h (by decide)⟩, fun h => absurd h (by decide)⟩ ?_; clear hK K
 refine o_done (by kernel_rfl) ?_
 refine hK33 _ _ ?_
 refine wp_seq_k (fun K197 hK197 => ?_)
 refine wp_region_lit ?_
 refine l_q rfl rfl (q_load1 rfl (by kernel_rfl) (hS196.cell (i := 0) rfl rfl)) ?_
 refine l_q rfl rfl (q_moveB rfl) ?_
 refine l_off rfl rfl rfl rfl ?_
 refine l_off rfl rfl rfl rfl ?_
 refine l_q rfl rfl (q_pickF rfl rfl rfl) ?_
 refine l_q rfl rfl (q_moveB rfl) ?_
 refine l_off rfl rfl rfl rfl ?_
 refine l_off rfl rfl rfl rfl ?_
 refine l_off rfl rfl rfl rfl ?_
 refine l_q rfl rfl (q_pickF rfl rfl rfl) ?_
 refine l_e rfl (fun K hK => ?_)
 refine e_store1 hS196 rfl rfl (by kernel_rfl) (by first | rfl | assumption) (i := 0) rfl rfl (fun w198 (hS198 : St _ _ [_, _, _, _, _, _] _) => ?_)
 clear hS196
 refine hK _ _ ?_; clear hK K
 refine l_nil ?_
 refine hK197 _ _ ?_
 refine wp_region_lit ?_
 refine l_q rfl rfl (q_moveS rfl) ?_
 refine l_q rfl rfl (q_loadA (m := 3) rfl (by kernel_rfl) (by kernel_rfl) (hS198.blk (i := 4) rfl) rfl rfl) ?_
 refine l_e rfl (fun K hK => ?_)
 refine e_buildSliceA (e := 106) (m := 3) (zv := .agg #[.int .i64 0, .int .i64 0, .string ⟨#[]⟩]) hS198 (by kernel_rfl) (by kernel_rfl) (by kernel_rfl) rfl rfl rfl rfl (fun b199 w199 (hS199 : St _ _ [.blk b199 (.cells #[.int .i64 (x30 : Int), .int .i64 (0 : Int), .string (bs [0])] 106), _, _, _, _, _, _] _) => ?_)
 clear hS198
 have hva : VOk ((x30 : Int), (0 : Int), [0]) := vok_of (by decide : Bytes [0]) ⟨by omega, by omega⟩ ⟨by omega, by omega⟩
 have hS199o : St _ _ [.ow 106 3 (some ⟨b199, 0, none⟩) 1 1 (List.flatMap vl [((x30 : Int), (0 : Int), [0])]), _, _, _, _, _, _] _ := hS199.blkOw' (i := 0) (m := 1) (size := 3) (xs := List.flatMap vl [((x30 : Int), (0 : Int), [0])]) rfl rfl rfl (by decide); clear hS199
 refine hK _ _ ?_; clear hK K
 refine l_e rfl (fun K hK => ?_)
 refine e_app (e := 106) (size := 3) (bytes := 32) (i := 6) (m' := (l ++ [((x30 : Int), (0 : Int), [0])]).length) (by kernel_rfl) hS199o rfl rfl rfl (SlG.src (e := 106) (by kernel_rfl) (hS199o.owG (i := 0) rfl) ((rows_len (c := vl) (m := 3) (fun _ => rfl) _).trans (by first | rfl | (simp only [zll]; done) | (simp only [zll]; omega) | omega)) (by decide) (rows_one vl_ones)) (by first | omega | (simp only [zll] <;> omega)) rows_app (by first | omega | (simp only [maxLen, zll] <;> omega)) (by first | omega | (simp only [zll] <;> omega)) (fun ad200 cp200 w200 (hS200 : St _ _ [_, _, _, _, _, _, .ow 106 3 ad200 ((l ++ [((x30 : Int), (0 : Int), [0])]).length) cp200 (List.flatMap vl (l ++ [((x30 : Int), (0 : Int), [0])]))] _) => ?_)
 clear hS199o
 refine hK _ _ ?_; clear hK K
 refine l_q rfl rfl (q_assignS rfl) ?_
 refine l_nil ?_
 refine hK24 _ _ ?_
 refine wp_region_lit ?_
 refine l_q rfl rfl (q_moveI rfl) ?_
 refine l_q rfl rfl (u_sub (a := n) (b := 1) rfl rfl rfl (by omega) (by show n < 256; omega)) ?_
 refine l_q rfl rfl (q_assignI rfl) ?_
 refine l_nil ?_
 have hS201 := hS200.fr4; clear hS200
 have hS202 := hS201.fr3; clear hS201
 have hS203 := hS202.fr3; clear hS202
 have hS204 := hS203.fr6; clear hS203
 have hS205 : St _ _ [_, _, _, _] _ := hS204.only 4; clear hS204
 refine hK19 _ _ (came (⟨(l ++ [((x30 : Int), (0 : Int), [0])]), q, ra167, rc167, ad200, cp200, (n - 1), false⟩) (by repeat' (first | exact Agree.refl _ _ | refine Agree.up ?_ rfl | refine Agree.hav2 ?_ rfl | refine Agree.ups2 ?_ rfl)) (by repeat' (first | exact trivial | refine ⟨by first | rfl | assumption, ?_⟩)) ?_)
 have htk : TkR rest ((x30 : Int), (0 : Int), [0]) q false := tkr_no (noval_long hxh30 (by omega) hzq (by omega))
 exact ⟨⟨hS205, RowI.next hI (by omega) hva htk rfl, hl.app (VsOk.one hva), (hBq), hGr167, (by first | assumption | omega), (by first | omega | (simp only [List.length_drop]; omega)), (by show n - 1 < 256; omega)⟩, by (show n - 1 < n); omega⟩
 refine o_eff (i := 2) (by kernel_rfl) rfl (goes0 rfl) (fun K hK => ?_)
 have hS207 := hS166.fr4; clear hS166
 have hS208 := hS207.fr3; clear hS207
 have hS209 := hS208.fr3; clear hS208
 refine e_callV (by kernel_rfl) rfl (number_no b4 b2 b7 (rest.drop 1) (Bytes.drop hbr) (by first | omega | (simp only [zll] <;> omega)) hno _ _ (by omega) _ _ (St.rogB (Γ1 := [_, _, _]) hS209) hGr26 (St.begin (Γ := [_, _, _]) hS209)) rfl (after_M (Γ1 := [_, _, _]) hS209 (fun v206 G206 w206 hv206 hS206 => ?_))
 clear hS209
 obtain ⟨rfl, rfl⟩ := hv206
 have hS210 : St _ _ [_, _, _, _, _] _ := hS206; clear hS206
 refine hK _ _ ⟨trivial, fun _ _ => by first | exact q_load1 rfl (by kernel_rfl) (hS210.cell (i := 2) rfl rfl)⟩ ?_; clear hK K
 refine o_eff (i := 3) (by kernel_rfl) rfl (goes0 rfl) (fun K hK => ?_)
 refine e_callV (by kernel_rfl) rfl (take_no b4 b2 (rest.drop 1) (Bytes.drop hbr) (by first | omega | (simp only [zll] <;> omega)) false (0 : Int) (by first | exact .inl rfl | exact .inr (by omega)) _ _ (by omega) _ _ (St.rogB (Γ1 := [_, _]) hS210) hGr26 (St.begin (Γ := [_, _]) hS210)) rfl (after_M (Γ1 := [_, _]) hS210 (fun v211 G211 w211 hv211 hS211 => ?_))
 clear hS210
 obtain ⟨nb211, rfl, rfl⟩ := hv211
 have hS212 : St _ _ [_, _, .ow 5 1 (some ⟨nb211, 0, none⟩) 1 1 (bv [0]), _, _, _] _ := hS211; clear hS211
 refine hK _ _ ⟨trivial, fun h => absurd h (by decide)⟩ ?_; clear hK K
 refine o_held (i := 4) [5, 6] (fun j w => ⟨(fun _ _ => trivial) j w, fun _ h => h⟩) rfl rfl (by kernel_rfl) (goes0 rfl) (QOk.inBlock (QOk.then (QOk.inBlock (QOk.then (QOk.then (QOk.inBlock (QOk.then QOk.body))))))) (q_convBS (l := [0]) rfl (hS212.owG (i := 2) rfl) (by first | omega | (simp only [zll] <;> omega)) (by kernel_rfl) (by kernel_rfl)) ?_
 refine o_pure (i := 5) (fun j w => ⟨(fun j w => ⟨(fun _ _ => trivial) j w, fun _ h => h⟩) j w, fun _ h => h⟩) rfl rfl (by kernel_rfl) (goes0 rfl) (QOk.inBlock (QOk.then (QOk.inBlock (QOk.then (QOk.then (QOk.inBlock (QOk.then QOk.body))))))) (fun w => q_fieldAddr (ft := 9) (o := 2) rfl (by kernel_rfl)) ?_
 refine o_eff (i := 6) (by kernel_rfl) rfl (goes0 rfl) (fun K hK => ?_)
 refine e_store1 hS212 rfl rfl (by kernel_rfl) (by first | rfl | assumption) (i := 4) rfl rfl (fun w213 (hS213 : St _ _ [_, _, _, _, _, _] _) => ?_)
 clear hS212
 refine hK _ _ ⟨⟨trivial, fun h => absurd h (by decide)⟩, fun h => absurd h (by decide)⟩ ?_; clear hK K
 refine o_done (by kernel_rfl) ?_
 refine hK33 _ _ ?_
 refine wp_seq_k (fun K214 hK214 => ?_)
 refine wp_region_lit ?_
 refine l_q rfl rfl (q_load1 rfl (by kernel_rfl) (hS213.cell (i := 0) rfl rfl)) ?_
 refine l_q rfl rfl (q_moveB rfl) ?_
 refine l_off rfl rfl rfl rfl ?_
 refine l_off rfl rfl rfl rfl ?_
 refine l_q rfl rfl (q_pickF rfl rfl rfl) ?_
 refine l_q rfl rfl (q_moveB rfl) ?_
 refine l_off rfl rfl rfl rfl ?_
 refine l_off rfl rfl rfl rfl ?_
 refine l_off rfl rfl rfl rfl ?_
 refine l_q rfl rfl (q_pickF rfl rfl rfl) ?_
 refine l_e rfl (fun K hK => ?_)
 refine e_store1 hS213 rfl rfl (by kernel_rfl) (by first | rfl | assumption) (i := 0) rfl rfl (fun w215 (hS215 : St _ _ [_, _, _, _, _, _] _) => ?_)
 clear hS213
 refine hK _ _ ?_; clear hK K
 refine l_nil ?_
 refine hK214 _ _ ?_
 refine wp_region_lit ?_
 refine l_q rfl rfl (q_moveS rfl) ?_
 refine l_q rfl rfl (q_loadA (m := 3) rfl (by kernel_rfl) (by kernel_rfl) (hS215.blk (i := 4) rfl) rfl rfl) ?_
 refine l_e rfl (fun K hK => ?_)
 refine e_buildSliceA (e := 106) (m := 3) (zv := .agg #[.int .i64 0, .int .i64 0, .string ⟨#[]⟩]) hS215 (by kernel_rfl) (by kernel_rfl) (by kernel_rfl) rfl rfl rfl rfl (fun b216 w216 (hS216 : St _ _ [.blk b216 (.cells #[.int .i64 (x30 : Int), .int .i64 (0 : Int), .string (bs [0])] 106), _, _, _, _, _, _] _) => ?_)
 clear hS215
 have hva : VOk ((x30 : Int), (0 : Int), [0]) := vok_of (by decide : Bytes [0]) ⟨by omega, by omega⟩ ⟨by omega, by omega⟩
 have hS216o : St _ _ [.ow 106 3 (some ⟨b216, 0, none⟩) 1 1 (List.flatMap vl [((x30 : Int), (0 : Int), [0])]), _, _, _, _, _, _] _ := hS216.blkOw' (i := 0) (m := 1) (size := 3) (xs := List.flatMap vl [((x30 : Int), (0 : Int), [0])]) rfl rfl rfl (by decide); clear hS216
 refine hK _ _ ?_; clear hK K
 refine l_e rfl (fun K hK => ?_)
 refine e_app (e := 106) (size := 3) (bytes := 32) (i := 6) (m' := (l ++ [((x30 : Int), (0 : Int), [0])]).length) (by kernel_rfl) hS216o rfl rfl rfl (SlG.src (e := 106) (by kernel_rfl) (hS216o.owG (i := 0) rfl) ((rows_len (c := vl) (m := 3) (fun _ => rfl) _).trans (by first | rfl | (simp only [zll]; done) | (simp only [zll]; omega) | omega)) (by decide) (rows_one vl_ones)) (by first | omega | (simp only [zll] <;> omega)) rows_app (by first | omega | (simp only [maxLen, zll] <;> omega)) (by first | omega | (simp only [zll] <;> omega)) (fun ad217 cp217 w217 (hS217 : St _ _ [_, _, _, _, _, _, .ow 106 3 ad217 ((l ++ [((x30 : Int), (0 : Int), [0])]).length) cp217 (List.flatMap vl (l ++ [((x30 : Int), (0 : Int), [0])]))] _) => ?_)
 clear hS216o
 refine hK _ _ ?_; clear hK K
 refine l_q rfl rfl (q_assignS rfl) ?_
 refine l_nil ?_
 refine hK24 _ _ ?_
 refine wp_region_lit ?_
 refine l_q rfl rfl (q_moveI rfl) ?_
 refine l_q rfl rfl (u_sub (a := n) (b := 1) rfl rfl rfl (by omega) (by show n < 256; omega)) ?_
 refine l_q rfl rfl (q_assignI rfl) ?_
 refine l_nil ?_
 have hS218 := hS217.fr4; clear hS217
 have hS219 := hS218.fr3; clear hS218
 have hS220 := hS219.fr3; clear hS219
 have hS221 := hS220.fr6; clear hS220
 have hS222 : St _ _ [_, _, _, _] _ := hS221.only 4; clear hS221
 refine hK19 _ _ (came (⟨(l ++ [((x30 : Int), (0 : Int), [0])]), (rest.drop 1), ra26, rc26, ad217, cp217, (n - 1), false⟩) (by repeat' (first | exact Agree.refl _ _ | refine Agree.up ?_ rfl | refine Agree.hav2 ?_ rfl | refine Agree.ups2 ?_ rfl)) (by repeat' (first | exact trivial | refine ⟨by first | rfl | assumption, ?_⟩)) ?_)
 have htk : TkR rest ((x30 : Int), (0 : Int), [0]) (rest.drop 1) false := tkr_no (noval_text hxh30 (by omega) hno)
 exact ⟨⟨hS222, RowI.next hI (by omega) hva htk rfl, hl.app (VsOk.one hva), (Bytes.drop hbr), hGr26, (by first | assumption | omega), (by first | omega | (simp only [List.length_drop]; omega)), (by show n - 1 < 256; omega)⟩, by (show n - 1 < n); omega⟩
 have hc164b := hc164
 try simp only [zbb] at hc164
 refine wp_region_lit ?_
 refine l_q rfl rfl (q_eql rfl rfl) ?_
 refine l_q rfl rfl (q_assignB rfl) ?_
 refine l_nil ?_
 refine hK162 _ _ ?_
 refine c_cond rfl (fun hc223 => ?_) (fun hc223 => ?_)
 have hc223b := hc223
 try simp only [zbb] at hc223
 refine r_any (by kernel_rfl) hS32 (fun w224 hS224 => ?_)
 clear hS32
 refine o_held (i := 0) [3, 4, 5, 6] (fun _ _ => trivial) rfl rfl (by kernel_rfl) (goes0 rfl) (QOk.inBlock (QOk.then (QOk.inBlock (QOk.then (QOk.then (QOk.inBlock (QOk.then QOk.body))))))) (q_load1 rfl (by kernel_rfl) (hS224.cell (i := 4) rfl rfl)) ?_
 refine o_pure (i := 1) (fun j w => ⟨(fun _ _ => trivial) j w, fun _ h => h⟩) rfl rfl (by kernel_rfl) (goes0 rfl) (QOk.inBlock (QOk.then (QOk.inBlock (QOk.then (QOk.then (QOk.inBlock (QOk.then QOk.body))))))) (fun w => q_move rfl) ?_
 rcases long_or (rest.drop 1) with ⟨zz, q, hzr1, hzr2, hzq⟩ | hno
 have hBq : Bytes q := fun y hy => hbr y (List.mem_of_mem_drop (show y ∈ rest.drop 1 from by rw [hzq]; exact List.mem_append_right _ hy))
 have hqz := congrArg List.length hzq
 rw [List.length_append, List.length_drop] at hqz
 refine o_eff (i := 2) (by kernel_rfl) rfl (goes0 rfl) (fun K hK => ?_)
 have hS226 := hS224.fr4; clear hS224
 have hS227 := hS226.fr3; clear hS226
 have hS228 := hS227.fr3; clear hS227
 refine e_callV (by kernel_rfl) rfl (number_yes b4 b2 b7 (rest.drop 1) (Bytes.drop hbr) (by first | omega | (simp only [zll] <;> omega)) zz q hzr1 hzr2 hzq _ _ (by omega) _ _ (St.rogB (Γ1 := [_, _, _]) hS228) hGr26 (St.begin (Γ := [_, _, _]) hS228)) rfl (after_M (Γ1 := [_, _, _]) hS228 (fun v225 G225 w225 hv225 hS225 => ?_))
 clear hS228
 obtain ⟨ra225, rc225, rfl, rfl, hGr225, hrc225⟩ := hv225
 have hS229 : St _ _ [_, .blk b2 (.cells #[.slice ra225 q.length rc225] 58), _, _, _] _ := hS225; clear hS225
 refine hK _ _ ⟨trivial, fun _ _ => by first | exact q_load1 rfl (by kernel_rfl) (hS229.cell (i := 2) rfl rfl)⟩ ?_; clear hK K
 by_cases hpz : 0 ≤ zz ∧ zz ≤ (q.length : Int)
 obtain ⟨kz, rfl⟩ : ∃ kz : Nat, zz = (kz : Int) := ⟨zz.toNat, by omega⟩
 refine o_eff (i := 3) (by kernel_rfl) rfl (goes0 rfl) (fun K hK => ?_)
 refine e_callV (by kernel_rfl) rfl (take_yes b4 b2 q (hBq) (by first | omega | (simp only [zll] <;> omega)) kz (by omega) _ _ (by omega) _ _ (St.rogB (Γ1 := [_, _]) hS229) hGr225 (St.begin (Γ := [_, _]) hS229)) rfl (after_M (Γ1 := [_, _]) hS229 (fun v230 G230 w230 hv230 hS230 => ?_))
 clear hS229
 obtain ⟨ra230, rc230, rfl, rfl, hGr230, hrc230⟩ := hv230
 have hS231 : St _ _ [_, .blk b2 (.cells #[.slice ra230 ((q.drop kz).length) rc230] 58), _, _, _] _ := hS230; clear hS230
 have hld230 := List.length_drop (i := kz) (l := q)
 refine hK _ _ ⟨trivial, fun h => absurd h (by decide)⟩ ?_; clear hK K
 refine o_held (i := 4) [5, 6] (fun j w => ⟨(fun _ _ => trivial) j w, fun _ h => h⟩) rfl rfl (by kernel_rfl) (goes0 rfl) (QOk.inBlock (QOk.then (QOk.inBlock (QOk.then (QOk.then (QOk.inBlock (QOk.then QOk.body))))))) (q_convBS (l := (q.take kz)) rfl ((bv_takeG (n := kz) hGr225).mono hS231.base) (by first | omega | (simp only [zll] <;> omega)) (by kernel_rfl) (by kernel_rfl)) ?_
 refine o_pure (i := 5) (fun j w => ⟨(fun j w => ⟨(fun _ _ => trivial) j w, fun _ h => h⟩) j w, fun _ h => h⟩) rfl rfl (by kernel_rfl) (goes0 rfl) (QOk.inBlock (QOk.then (QOk.inBlock (QOk.then (QOk.then (QOk.inBlock (QOk.then QOk.body))))))) (fun w => q_fieldAddr (ft := 9) (o := 2) rfl (by kernel_rfl)) ?_
 refine o_eff (i := 6) (by kernel_rfl) rfl (goes0 rfl) (fun K hK => ?_)
 refine e_store1 hS231 rfl rfl (by kernel_rfl) (by first | rfl | assumption) (i := 3) rfl rfl (fun w232 (hS232 : St _ _ [_, _, _, _, _] _) => ?_)
 clear hS231
 refine hK _ _ ⟨⟨trivial, fun h => absurd h (by decide)⟩, fun h => absurd h (by decide)⟩ ?_; clear hK K
 refine o_done (by kernel_rfl) ?_
 refine hK33 _ _ ?_
 refine wp_seq_k (fun K233 hK233 => ?_)
 refine wp_region_lit ?_
 refine l_q rfl rfl (q_load1 rfl (by kernel_rfl) (hS232.cell (i := 0) rfl rfl)) ?_
 refine l_q rfl rfl (q_moveB rfl) ?_
 refine l_on rfl rfl rfl ?_
 refine l_q rfl rfl (q_loadA (m := 3) rfl (by kernel_rfl) (by kernel_rfl) (hS232.blk (i := 3) rfl) rfl rfl) ?_
 refine l_on rfl rfl rfl ?_
 refine l_e rfl (fun K hK => ?_)
 refine e_call (by kernel_rfl) (right_ok ((x30 : Int), (0 : Int), (q.take kz)) (Bytes.take (hBq)) _) rfl (after_R hS232 (fun v234 w234 hv234 hS234 => ?_))
 clear hS232
 obtain rfl := hv234
 refine hK _ _ ?_; clear hK K
 refine l_q rfl rfl (q_pickT rfl rfl rfl) ?_
 refine l_q rfl rfl (q_moveB rfl) ?_
 refine g_splitL (t := 59) rfl (fun hg235 => ?_) (fun hg235 => ?_)
 have hg235b := hg235
 try simp only [zbb] at hg235
 have hrt := hg235
 refine l_on rfl rfl hg235b ?_
 refine l_q rfl rfl (q_moveS rfl) ?_
 refine l_on rfl rfl hg235b ?_
 refine l_q rfl rfl (q_lenSl (e := 106) rfl (by kernel_rfl)) ?_
 refine l_on rfl rfl hg235b ?_
 refine l_q rfl rfl (q_lss rfl rfl) ?_
 refine l_q rfl rfl (q_pickT rfl hg235b rfl) ?_
 refine l_e rfl (fun K hK => ?_)
 refine e_store1 hS234 rfl rfl (by kernel_rfl) (by first | rfl | assumption) (i := 0) rfl rfl (fun w236 (hS236 : St _ _ [_, _, _, _, _] _) => ?_)
 clear hS234
 refine hK _ _ ?_; clear hK K
 refine l_nil ?_
 refine hK233 _ _ ?_
 refine wp_region_lit ?_
 refine l_q rfl rfl (q_moveS rfl) ?_
 refine l_q rfl rfl (q_loadA (m := 3) rfl (by kernel_rfl) (by kernel_rfl) (hS236.blk (i := 3) rfl) rfl rfl) ?_
 refine l_e rfl (fun K hK => ?_)
 refine e_buildSliceA (e := 106) (m := 3) (zv := .agg #[.int .i64 0, .int .i64 0, .string ⟨#[]⟩]) hS236 (by kernel_rfl) (by kernel_rfl) (by kernel_rfl) rfl rfl rfl rfl (fun b237 w237 (hS237 : St _ _ [.blk b237 (.cells #[.int .i64 (x30 : Int), .int .i64 (0 : Int), .string (bs (q.take kz))] 106), _, _, _, _, _] _) => ?_)
 clear hS236
 have hva : VOk ((x30 : Int), (0 : Int), (q.take kz)) := vok_of (Bytes.take (hBq)) ⟨by omega, by omega⟩ ⟨by omega, by omega⟩
 have hS237o : St _ _ [.ow 106 3 (some ⟨b237, 0, none⟩) 1 1 (List.flatMap vl [((x30 : Int), (0 : Int), (q.take kz))]), _, _, _, _, _] _ := hS237.blkOw' (i := 0) (m := 1) (size := 3) (xs := List.flatMap vl [((x30 : Int), (0 : Int), (q.take kz))]) rfl rfl rfl (by decide); clear hS237
 refine hK _ _ ?_; clear hK K
 refine l_e rfl (fun K hK => ?_)
 refine e_app (e := 106) (size := 3) (bytes := 32) (i := 5) (m' := (l ++ [((x30 : Int), (0 : Int), (q.take kz))]).length) (by kernel_rfl) hS237o rfl rfl rfl (SlG.src (e := 106) (by kernel_rfl) (hS237o.owG (i := 0) rfl) ((rows_len (c := vl) (m := 3) (fun _ => rfl) _).trans (by first | rfl | (simp only [zll]; done) | (simp only [zll]; omega) | omega)) (by decide) (rows_one vl_ones)) (by first | omega | (simp only [zll] <;> omega)) rows_app (by first | omega | (simp only [maxLen, zll] <;> omega)) (by first | omega | (simp only [zll] <;> omega)) (fun ad238 cp238 w238 (hS238 : St _ _ [_, _, _, _, _, .ow 106 3 ad238 ((l ++ [((x30 : Int), (0 : Int), (q.take kz))]).length) cp238 (List.flatMap vl (l ++ [((x30 : Int), (0 : Int), (q.take kz))]))] _) => ?_)
 clear hS237o
 refine hK _ _ ?_; clear hK K
 refine l_q rfl rfl (q_assignS rfl) ?_
 refine l_nil ?_
 refine hK24 _ _ ?_
 refine wp_region_lit ?_
 refine l_q rfl rfl (q_moveI rfl) ?_
 refine l_q rfl rfl (u_sub (a := n) (b := 1) rfl rfl rfl (by omega) (by show n < 256; omega)) ?_
 refine l_q rfl rfl (q_assignI rfl) ?_
 refine l_nil ?_
 have hS239 := hS238.fr3; clear hS238
 have hS240 := hS239.fr3; clear hS239
 have hS241 := hS240.fr3; clear hS240
 have hS242 := hS241.fr5; clear hS241
 have hS243 : St _ _ [_, _, _, _] _ := hS242.only 4; clear hS242
 refine hK19 _ _ (came (⟨(l ++ [((x30 : Int), (0 : Int), (q.take kz))]), (q.drop kz), ra230, rc230, ad238, cp238, (n - 1), (decide ((l.length : Int) < 16))⟩) (by repeat' (first | exact Agree.refl _ _ | refine Agree.up ?_ rfl | refine Agree.hav2 ?_ rfl | refine Agree.ups2 ?_ rfl)) (by repeat' (first | exact trivial | refine ⟨by first | rfl | assumption, ?_⟩)) ?_)
 have htk : TkR rest ((x30 : Int), (0 : Int), (q.take kz)) (q.drop kz) (rightB ((x30 : Int), (0 : Int), (q.take kz))) := tkr4 hxh30 (by omega) hzq (by omega)
 exact ⟨⟨hS243, RowI.next hI (by omega) hva htk (by rw [hrt, Bool.true_and]), hl.app (VsOk.one hva), (Bytes.drop (hBq)), hGr230, (by first | assumption | omega), (by first | omega | (simp only [List.length_drop]; omega)), (by show n - 1 < 256; omega)⟩, by (show n - 1 < n); omega⟩
 have hg235b := hg235
 try simp only [zbb] at hg235
 have hrt := hg235
 refine l_off rfl rfl rfl hg235b ?_
 refine l_off rfl rfl rfl hg235b ?_
 refine l_off rfl rfl rfl hg235b ?_
 refine l_q rfl rfl (q_pickF rfl hg235b rfl) ?_
 refine l_e rfl (fun K hK => ?_)
 refine e_store1 hS234 rfl rfl (by kernel_rfl) (by first | rfl | assumption) (i := 0) rfl rfl (fun w244 (hS244 : St _ _ [_, _, _, _, _] _) => ?_)
 clear hS234
 refine hK _ _ ?_; clear hK K
 refine l_nil ?_
 refine hK233 _ _ ?_
 refine wp_region_lit ?_
 refine l_q rfl rfl (q_moveS rfl) ?_
 refine l_q rfl rfl (q_loadA (m := 3) rfl (by kernel_rfl) (by kernel_rfl) (hS244.blk (i := 3) rfl) rfl rfl) ?_
 refine l_e rfl (fun K hK => ?_)
 refine e_buildSliceA (e := 106) (m := 3) (zv := .agg #[.int .i64 0, .int .i64 0, .string ⟨#[]⟩]) hS244 (by kernel_rfl) (by kernel_rfl) (by kernel_rfl) rfl rfl rfl rfl (fun b245 w245 (hS245 : St _ _ [.blk b245 (.cells #[.int .i64 (x30 : Int), .int .i64 (0 : Int), .string (bs (q.take kz))] 106), _, _, _, _, _] _) => ?_)
 clear hS244
 have hva : VOk ((x30 : Int), (0 : Int), (q.take kz)) := vok_of (Bytes.take (hBq)) ⟨by omega, by omega⟩ ⟨by omega, by omega⟩
 have hS245o : St _ _ [.ow 106 3 (some ⟨b245, 0, none⟩) 1 1 (List.flatMap vl [((x30 : Int), (0 : Int), (q.take kz))]), _, _, _, _, _] _ := hS245.blkOw' (i := 0) (m := 1) (size := 3) (xs := List.flatMap vl [((x30 : Int), (0 : Int), (q.take kz))]) rfl rfl rfl (by decide); clear hS245
 refine hK _ _ ?_; clear hK K
 refine l_e rfl (fun K hK => ?_)
 refine e_app (e := 106) (size := 3) (bytes := 32) (i := 5) (m' := (l ++ [((x30 : Int), (0 : Int), (q.take kz))]).length) (by kernel_rfl) hS245o rfl rfl rfl (SlG.src (e := 106) (by kernel_rfl) (hS245o.owG (i := 0) rfl) ((rows_len (c := vl) (m := 3) (fun _ => rfl) _).trans (by first | rfl | (simp only [zll]; done) | (simp only [zll]; omega) | omega)) (by decide) (rows_one vl_ones)) (by first | omega | (simp only [zll] <;> omega)) rows_app (by first | omega | (simp only [maxLen, zll] <;> omega)) (by first | omega | (simp only [zll] <;> omega)) (fun ad246 cp246 w246 (hS246 : St _ _ [_, _, _, _, _, .ow 106 3 ad246 ((l ++ [((x30 : Int), (0 : Int), (q.take kz))]).length) cp246 (List.flatMap vl (l ++ [((x30 : Int), (0 : Int), (q.take kz))]))] _) => ?_)
 clear hS245o
 refine hK _ _ ?_; clear hK K
 refine l_q rfl rfl (q_assignS rfl) ?_
 refine l_nil ?_
 refine hK24 _ _ ?_
 refine wp_region_lit ?_
 refine l_q rfl rfl (q_moveI rfl) ?_
 refine l_q rfl rfl (u_sub (a := n) (b := 1) rfl rfl rfl (by omega) (by show n < 256; omega)) ?_
 refine l_q rfl rfl (q_assignI rfl) ?_
 refine l_nil ?_
 have hS247 := hS246.fr3; clear hS246
 have hS248 := hS247.fr3; clear hS247
 have hS249 := hS248.fr3; clear hS248
 have hS250 := hS249.fr5; clear hS249
 have hS251 : St _ _ [_, _, _, _] _ := hS250.only 4; clear hS250
 refine hK19 _ _ (came (⟨(l ++ [((x30 : Int), (0 : Int), (q.take kz))]), (q.drop kz), ra230, rc230, ad246, cp246, (n - 1), false⟩) (by repeat' (first | exact Agree.refl _ _ | refine Agree.up ?_ rfl | refine Agree.hav2 ?_ rfl | refine Agree.ups2 ?_ rfl)) (by repeat' (first | exact trivial | refine ⟨by first | rfl | assumption, ?_⟩)) ?_)
 have htk : TkR rest ((x30 : Int), (0 : Int), (q.take kz)) (q.drop kz) (rightB ((x30 : Int), (0 : Int), (q.take kz))) := tkr4 hxh30 (by omega) hzq (by omega)
 exact ⟨⟨hS251, RowI.next hI (by omega) hva htk (by rw [hrt, Bool.false_and]), hl.app (VsOk.one hva), (Bytes.drop (hBq)), hGr230, (by first | assumption | omega), (by first | omega | (simp only [List.length_drop]; omega)), (by show n - 1 < 256; omega)⟩, by (show n - 1 < n); omega⟩
 refine o_eff (i := 3) (by kernel_rfl) rfl (goes0 rfl) (fun K hK => ?_)
 refine e_callV (by kernel_rfl) rfl (take_no b4 b2 q (hBq) (by first | omega | (simp only [zll] <;> omega)) true zz (by first | exact .inl rfl | exact .inr (by omega)) _ _ (by omega) _ _ (St.rogB (Γ1 := [_, _]) hS229) hGr225 (St.begin (Γ := [_, _]) hS229)) rfl (after_M (Γ1 := [_, _]) hS229 (fun v252 G252 w252 hv252 hS252 => ?_))
 clear hS229
 obtain ⟨nb252, rfl, rfl⟩ := hv252
 have hS253 : St _ _ [_, _, .ow 5 1 (some ⟨nb252, 0, none⟩) 1 1 (bv [0]), _, _, _] _ := hS252; clear hS252
 refine hK _ _ ⟨trivial, fun h => absurd h (by decide)⟩ ?_; clear hK K
 refine o_held (i := 4) [5, 6] (fun j w => ⟨(fun _ _ => trivial) j w, fun _ h => h⟩) rfl rfl (by kernel_rfl) (goes0 rfl) (QOk.inBlock (QOk.then (QOk.inBlock (QOk.then (QOk.then (QOk.inBlock (QOk.then QOk.body))))))) (q_convBS (l := [0]) rfl (hS253.owG (i := 2) rfl) (by first | omega | (simp only [zll] <;> omega)) (by kernel_rfl) (by kernel_rfl)) ?_
 refine o_pure (i := 5) (fun j w => ⟨(fun j w => ⟨(fun _ _ => trivial) j w, fun _ h => h⟩) j w, fun _ h => h⟩) rfl rfl (by kernel_rfl) (goes0 rfl) (QOk.inBlock (QOk.then (QOk.inBlock (QOk.then (QOk.then (QOk.inBlock (QOk.then QOk.body))))))) (fun w => q_fieldAddr (ft := 9) (o := 2) rfl (by kernel_rfl)) ?_
 refine o_eff (i := 6) (by kernel_rfl) rfl (goes0 rfl) (fun K hK => ?_)
 refine e_store1 hS253 rfl rfl (by kernel_rfl) (by first | rfl | assumption) (i := 4) rfl rfl (fun w254 (hS254 : St _ _ [_, _, _, _, _, _] _) => ?_)
 clear hS253
 refine hK _ _ ⟨⟨trivial, fun h => absurd h (by decide)⟩, fun h => absurd h (by decide)⟩ ?_; clear hK K
 refine o_done (by kernel_rfl) ?_
 refine hK33 _ _ ?_
 refine wp_seq_k (fun K255 hK255 => ?_)
 refine wp_region_lit ?_
 refine l_q rfl rfl (q_load1 rfl (by kernel_rfl) (hS254.cell (i := 0) rfl rfl)) ?_
 refine l_q rfl rfl (q_moveB rfl) ?_
 refine l_off rfl rfl rfl rfl ?_
 refine l_off rfl rfl rfl rfl ?_
 refine l_q rfl rfl (q_pickF rfl rfl rfl) ?_
 refine l_q rfl rfl (q_moveB rfl) ?_
 refine l_off rfl rfl rfl rfl ?_
 refine l_off rfl rfl rfl rfl ?_
 refine l_off rfl rfl rfl rfl ?_
 refine l_q rfl rfl (q_pickF rfl rfl rfl) ?_
 refine l_e rfl (fun K hK => ?_)
 refine e_store1 hS254 rfl rfl (by kernel_rfl) (by first | rfl | assumption) (i := 0) rfl rfl (fun w256 (hS256 : St _ _ [_, _, _, _, _, _] _) => ?_)
 clear hS254
 refine hK _ _ ?_; clear hK K
 refine l_nil ?_
 refine hK255 _ _ ?_
 refine wp_region_lit ?_
 refine l_q rfl rfl (q_moveS rfl) ?_
 refine l_q rfl rfl (q_loadA (m := 3) rfl (by kernel_rfl) (by kernel_rfl) (hS256.blk (i := 4) rfl) rfl rfl) ?_
 refine l_e rfl (fun K hK => ?_)
 refine e_buildSliceA (e := 106) (m := 3) (zv := .agg #[.int .i64 0, .int .i64 0, .string ⟨#[]⟩]) hS256 (by kernel_rfl) (by kernel_rfl) (by kernel_rfl) rfl rfl rfl rfl (fun b257 w257 (hS257 : St _ _ [.blk b257 (.cells #[.int .i64 (x30 : Int), .int .i64 (0 : Int), .string (bs [0])] 106), _, _, _, _, _, _] _) => ?_)
 clear hS256
 have hva : VOk ((x30 : Int), (0 : Int), [0]) := vok_of (by decide : Bytes [0]) ⟨by omega, by omega⟩ ⟨by omega, by omega⟩
 have hS257o : St _ _ [.ow 106 3 (some ⟨b257, 0, none⟩) 1 1 (List.flatMap vl [((x30 : Int), (0 : Int), [0])]), _, _, _, _, _, _] _ := hS257.blkOw' (i := 0) (m := 1) (size := 3) (xs := List.flatMap vl [((x30 : Int), (0 : Int), [0])]) rfl rfl rfl (by decide); clear hS257
 refine hK _ _ ?_; clear hK K
 refine l_e rfl (fun K hK => ?_)
 refine e_app (e := 106) (size := 3) (bytes := 32) (i := 6) (m' := (l ++ [((x30 : Int), (0 : Int), [0])]).length) (by kernel_rfl) hS257o rfl rfl rfl (SlG.src (e := 106) (by kernel_rfl) (hS257o.owG (i := 0) rfl) ((rows_len (c := vl) (m := 3) (fun _ => rfl) _).trans (by first | rfl | (simp only [zll]; done) | (simp only [zll]; omega) | omega)) (by decide) (rows_one vl_ones)) (by first | omega | (simp only [zll] <;> omega)) rows_app (by first | omega | (simp only [maxLen, zll] <;> omega)) (by first | omega | (simp only [zll] <;> omega)) (fun ad258 cp258 w258 (hS258 : St _ _ [_, _, _, _, _, _, .ow 106 3 ad258 ((l ++ [((x30 : Int), (0 : Int), [0])]).length) cp258 (List.flatMap vl (l ++ [((x30 : Int), (0 : Int), [0])]))] _) => ?_)
 clear hS257o
 refine hK _ _ ?_; clear hK K
 refine l_q rfl rfl (q_assignS rfl) ?_
 refine l_nil ?_
 refine hK24 _ _ ?_
 refine wp_region_lit ?_
 refine l_q rfl rfl (q_moveI rfl) ?_
 refine l_q rfl rfl (u_sub (a := n) (b := 1) rfl rfl rfl (by omega) (by show n < 256; omega)) ?_
 refine l_q rfl rfl (q_assignI rfl) ?_
 refine l_nil ?_
 have hS259 := hS258.fr4; clear hS258
 have hS260 := hS259.fr3; clear hS259
 have hS261 := hS260.fr3; clear hS260
 have hS262 := hS261.fr6; clear hS261
 have hS263 : St _ _ [_, _, _, _] _ := hS262.only 4; clear hS262
 refine hK19 _ _ (came (⟨(l ++ [((x30 : Int), (0 : Int), [0])]), q, ra225, rc225, ad258, cp258, (n - 1), false⟩) (by repeat' (first | exact Agree.refl _ _ | refine Agree.up ?_ rfl | refine Agree.hav2 ?_ rfl | refine Agree.ups2 ?_ rfl)) (by repeat' (first | exact trivial | refine ⟨by first | rfl | assumption, ?_⟩)) ?_)
 have htk : TkR rest ((x30 : Int), (0 : Int), [0]) q false := tkr_no (noval_long hxh30 (by omega) hzq (by omega))
 exact ⟨⟨hS263, RowI.next hI (by omega) hva htk rfl, hl.app (VsOk.one hva), (hBq), hGr225, (by first | assumption | omega), (by first | omega | (simp only [List.length_drop]; omega)), (by show n - 1 < 256; omega)⟩, by (show n - 1 < n); omega⟩
 refine o_eff (i := 2) (by kernel_rfl) rfl (goes0 rfl) (fun K hK => ?_)
 have hS265 := hS224.fr4; clear hS224
 have hS266 := hS265.fr3; clear hS265
 have hS267 := hS266.fr3; clear hS266
 refine e_callV (by kernel_rfl) rfl (number_no b4 b2 b7 (rest.drop 1) (Bytes.drop hbr) (by first | omega | (simp only [zll] <;> omega)) hno _ _ (by omega) _ _ (St.rogB (Γ1 := [_, _, _]) hS267) hGr26 (St.begin (Γ := [_, _, _]) hS267)) rfl (after_M (Γ1 := [_, _, _]) hS267 (fun v264 G264 w264 hv264 hS264 => ?_))
 clear hS267
 obtain ⟨rfl, rfl⟩ := hv264
 have hS268 : St _ _ [_, _, _, _, _] _ := hS264; clear hS264
 refine hK _ _ ⟨trivial, fun _ _ => by first | exact q_load1 rfl (by kernel_rfl) (hS268.cell (i := 2) rfl rfl)⟩ ?_; clear hK K
 refine o_eff (i := 3) (by kernel_rfl) rfl (goes0 rfl) (fun K hK => ?_)
 refine e_callV (by kernel_rfl) rfl (take_no b4 b2 (rest.drop 1) (Bytes.drop hbr) (by first | omega | (simp only [zll] <;> omega)) false (0 : Int) (by first | exact .inl rfl | exact .inr (by omega)) _ _ (by omega) _ _ (St.rogB (Γ1 := [_, _]) hS268) hGr26 (St.begin (Γ := [_, _]) hS268)) rfl (after_M (Γ1 := [_, _]) hS268 (fun v269 G269 w269 hv269 hS269 => ?_))
 clear hS268
 obtain ⟨nb269, rfl, rfl⟩ := hv269
 have hS270 : St _ _ [_, _, .ow 5 1 (some ⟨nb269, 0, none⟩) 1 1 (bv [0]), _, _, _] _ := hS269; clear hS269
 refine hK _ _ ⟨trivial, fun h => absurd h (by decide)⟩ ?_; clear hK K
 refine o_held (i := 4) [5, 6] (fun j w => ⟨(fun _ _ => trivial) j w, fun _ h => h⟩) rfl rfl (by kernel_rfl) (goes0 rfl) (QOk.inBlock (QOk.then (QOk.inBlock (QOk.then (QOk.then (QOk.inBlock (QOk.then QOk.body))))))) (q_convBS (l := [0]) rfl (hS270.owG (i := 2) rfl) (by first | omega | (simp only [zll] <;> omega)) (by kernel_rfl) (by kernel_rfl)) ?_
 refine o_pure (i := 5) (fun j w => ⟨(fun j w => ⟨(fun _ _ => trivial) j w, fun _ h => h⟩) j w, fun _ h => h⟩) rfl rfl (by kernel_rfl) (goes0 rfl) (QOk.inBlock (QOk.then (QOk.inBlock (QOk.then (QOk.then (QOk.inBlock (QOk.then QOk.body))))))) (fun w => q_fieldAddr (ft := 9) (o := 2) rfl (by kernel_rfl)) ?_
 refine o_eff (i := 6) (by kernel_rfl) rfl (goes0 rfl) (fun K hK => ?_)
 refine e_store1 hS270 rfl rfl (by kernel_rfl) (by first | rfl | assumption) (i := 4) rfl rfl (fun w271 (hS271 : St _ _ [_, _, _, _, _, _] _) => ?_)
 clear hS270
 refine hK _ _ ⟨⟨trivial, fun h => absurd h (by decide)⟩, fun h => absurd h (by decide)⟩ ?_; clear hK K
 refine o_done (by kernel_rfl) ?_
 refine hK33 _ _ ?_
 refine wp_seq_k (fun K272 hK272 => ?_)
 refine wp_region_lit ?_
 refine l_q rfl rfl (q_load1 rfl (by kernel_rfl) (hS271.cell (i := 0) rfl rfl)) ?_
 refine l_q rfl rfl (q_moveB rfl) ?_
 refine l_off rfl rfl rfl rfl ?_
 refine l_off rfl rfl rfl rfl ?_
 refine l_q rfl rfl (q_pickF rfl rfl rfl) ?_
 refine l_q rfl rfl (q_moveB rfl) ?_
 refine l_off rfl rfl rfl rfl ?_
 refine l_off rfl rfl rfl rfl ?_
 refine l_off rfl rfl rfl rfl ?_
 refine l_q rfl rfl (q_pickF rfl rfl rfl) ?_
 refine l_e rfl (fun K hK => ?_)
 refine e_store1 hS271 rfl rfl (by kernel_rfl) (by first | rfl | assumption) (i := 0) rfl rfl (fun w273 (hS273 : St _ _ [_, _, _, _, _, _] _) => ?_)
 clear hS271
 refine hK _ _ ?_; clear hK K
 refine l_nil ?_
 refine hK272 _ _ ?_
 refine wp_region_lit ?_
 refine l_q rfl rfl (q_moveS rfl) ?_
 refine l_q rfl rfl (q_loadA (m := 3) rfl (by kernel_rfl) (by kernel_rfl) (hS273.blk (i := 4) rfl) rfl rfl) ?_
 refine l_e rfl (fun K hK => ?_)
 refine e_buildSliceA (e := 106) (m := 3) (zv := .agg #[.int .i64 0, .int .i64 0, .string ⟨#[]⟩]) hS273 (by kernel_rfl) (by kernel_rfl) (by kernel_rfl) rfl rfl rfl rfl (fun b274 w274 (hS274 : St _ _ [.blk b274 (.cells #[.int .i64 (x30 : Int), .int .i64 (0 : Int), .string (bs [0])] 106), _, _, _, _, _, _] _) => ?_)
 clear hS273
 have hva : VOk ((x30 : Int), (0 : Int), [0]) := vok_of (by decide : Bytes [0]) ⟨by omega, by omega⟩ ⟨by omega, by omega⟩
 have hS274o : St _ _ [.ow 106 3 (some ⟨b274, 0, none⟩) 1 1 (List.flatMap vl [((x30 : Int), (0 : Int), [0])]), _, _, _, _, _, _] _ := hS274.blkOw' (i := 0) (m := 1) (size := 3) (xs := List.flatMap vl [((x30 : Int), (0 : Int), [0])]) rfl rfl rfl (by decide); clear hS274
 refine hK _ _ ?_; clear hK K
 refine l_e rfl (fun K hK => ?_)
 refine e_app (e := 106) (size := 3) (bytes := 32) (i := 6) (m' := (l ++ [((x30 : Int), (0 : Int), [0])]).length) (by kernel_rfl) hS274o rfl rfl rfl (SlG.src (e := 106) (by kernel_rfl) (hS274o.owG (i := 0) rfl) ((rows_len (c := vl) (m := 3) (fun _ => rfl) _).trans (by first | rfl | (simp only [zll]; done) | (simp only [zll]; omega) | omega)) (by decide) (rows_one vl_ones)) (by first | omega | (simp only [zll] <;> omega)) rows_app (by first | omega | (simp only [maxLen, zll] <;> omega)) (by first | omega | (simp only [zll] <;> omega)) (fun ad275 cp275 w275 (hS275 : St _ _ [_, _, _, _, _, _, .ow 106 3 ad275 ((l ++ [((x30 : Int), (0 : Int), [0])]).length) cp275 (List.flatMap vl (l ++ [((x30 : Int), (0 : Int), [0])]))] _) => ?_)
 clear hS274o
 refine hK _ _ ?_; clear hK K
 refine l_q rfl rfl (q_assignS rfl) ?_
 refine l_nil ?_
 refine hK24 _ _ ?_
 refine wp_region_lit ?_
 refine l_q rfl rfl (q_moveI rfl) ?_
 refine l_q rfl rfl (u_sub (a := n) (b := 1) rfl rfl rfl (by omega) (by show n < 256; omega)) ?_
 refine l_q rfl rfl (q_assignI rfl) ?_
 refine l_nil ?_
 have hS276 := hS275.fr4; clear hS275
 have hS277 := hS276.fr3; clear hS276
 have hS278 := hS277.fr3; clear hS277
 have hS279 := hS278.fr6; clear hS278
 have hS280 : St _ _ [_, _, _, _] _ := hS279.only 4; clear hS279
 refine hK19 _ _ (came (⟨(l ++ [((x30 : Int), (0 : Int), [0])]), (rest.drop 1), ra26, rc26, ad275, cp275, (n - 1), false⟩) (by repeat' (first | exact Agree.refl _ _ | refine Agree.up ?_ rfl | refine Agree.hav2 ?_ rfl | refine Agree.ups2 ?_ rfl)) (by repeat' (first | exact trivial | refine ⟨by first | rfl | assumption, ?_⟩)) ?_)
 have htk : TkR rest ((x30 : Int), (0 : Int), [0]) (rest.drop 1) false := tkr_no (noval_text hxh30 (by omega) hno)
 exact ⟨⟨hS280, RowI.next hI (by omega) hva htk rfl, hl.app (VsOk.one hva), (Bytes.drop hbr), hGr26, (by first | assumption | omega), (by first | omega | (simp only [List.length_drop]; omega)), (by show n - 1 < 256; omega)⟩, by (show n - 1 < n); omega⟩
 have hc223b := hc223
 try simp only [zbb] at hc223
 refine wp_skip ?_
 refine hK33 _ _ ?_
 refine wp_seq_k (fun K281 hK281 => ?_)
 refine wp_region_lit ?_
 refine l_q rfl rfl (q_load1 rfl (by kernel_rfl) (hS32.cell (i := 1) rfl rfl)) ?_
 refine l_q rfl rfl (q_moveB rfl) ?_
 refine l_on rfl rfl rfl ?_
 refine l_q rfl rfl (q_loadA (m := 3) rfl (by kernel_rfl) (by kernel_rfl) (hS32.blk (i := 0) rfl) rfl rfl) ?_
 refine l_on rfl rfl rfl ?_
 refine l_e rfl (fun K hK => ?_)
 refine e_call (by kernel_rfl) (right_ok ((x30 : Int), (0 : Int), []) Bytes.nil _) rfl (after_R hS32 (fun v282 w282 hv282 hS282 => ?_))
 clear hS32
 obtain rfl := hv282
 refine hK _ _ ?_; clear hK K
 refine l_q rfl rfl (q_pickT rfl rfl rfl) ?_
 refine l_q rfl rfl (q_moveB rfl) ?_
 refine g_splitL (t := 59) rfl (fun hg283 => ?_) (fun hg283 => ?_)
 have hg283b := hg283
 try simp only [zbb] at hg283
 have hrt := hg283
 refine l_on rfl rfl hg283b ?_
 refine l_q rfl rfl (q_moveS rfl) ?_
 refine l_on rfl rfl hg283b ?_
 refine l_q rfl rfl (q_lenSl (e := 106) rfl (by kernel_rfl)) ?_
 refine l_on rfl rfl hg283b ?_
 refine l_q rfl rfl (q_lss rfl rfl) ?_
 refine l_q rfl rfl (q_pickT rfl hg283b rfl) ?_
 refine l_e rfl (fun K hK => ?_)
 refine e_store1 hS282 rfl rfl (by kernel_rfl) (by first | rfl | assumption) (i := 1) rfl rfl (fun w284 (hS284 : St _ _ [_, _, _, _, _] _) => ?_)
 clear hS282
 refine hK _ _ ?_; clear hK K
 refine l_nil ?_
 refine hK281 _ _ ?_
 refine wp_region_lit ?_
 refine l_q rfl rfl (q_moveS rfl) ?_
 refine l_q rfl rfl (q_loadA (m := 3) rfl (by kernel_rfl) (by kernel_rfl) (hS284.blk (i := 0) rfl) rfl rfl) ?_
 refine l_e rfl (fun K hK => ?_)
 refine e_buildSliceA (e := 106) (m := 3) (zv := .agg #[.int .i64 0, .int .i64 0, .string ⟨#[]⟩]) hS284 (by kernel_rfl) (by kernel_rfl) (by kernel_rfl) rfl rfl rfl rfl (fun b285 w285 (hS285 : St _ _ [.blk b285 (.cells #[.int .i64 (x30 : Int), .int .i64 (0 : Int), .string (bs [])] 106), _, _, _, _, _] _) => ?_)
 clear hS284
 have hva : VOk ((x30 : Int), (0 : Int), []) := vok_of Bytes.nil ⟨by omega, by omega⟩ ⟨by omega, by omega⟩
 have hS285o : St _ _ [.ow 106 3 (some ⟨b285, 0, none⟩) 1 1 (List.flatMap vl [((x30 : Int), (0 : Int), [])]), _, _, _, _, _] _ := hS285.blkOw' (i := 0) (m := 1) (size := 3) (xs := List.flatMap vl [((x30 : Int), (0 : Int), [])]) rfl rfl rfl (by decide); clear hS285
 refine hK _ _ ?_; clear hK K
 refine l_e rfl (fun K hK => ?_)
 refine e_app (e := 106) (size := 3) (bytes := 32) (i := 4) (m' := (l ++ [((x30 : Int), (0 : Int), [])]).length) (by kernel_rfl) hS285o rfl rfl rfl (SlG.src (e := 106) (by kernel_rfl) (hS285o.owG (i := 0) rfl) ((rows_len (c := vl) (m := 3) (fun _ => rfl) _).trans (by first | rfl | (simp only [zll]; done) | (simp only [zll]; omega) | omega)) (by decide) (rows_one vl_ones)) (by first | omega | (simp only [zll] <;> omega)) rows_app (by first | omega | (simp only [maxLen, zll] <;> omega)) (by first | omega | (simp only [zll] <;> omega)) (fun ad286 cp286 w286 (hS286 : St _ _ [_, _, _, _, .ow 106 3 ad286 ((l ++ [((x30 : Int), (0 : Int), [])]).length) cp286 (List.flatMap vl (l ++ [((x30 : Int), (0 : Int), [])])), _] _) => ?_)
 clear hS285o
 refine hK _ _ ?_; clear hK K
 refine l_q rfl rfl (q_assignS rfl) ?_
 refine l_nil ?_
 refine hK24 _ _ ?_
 refine wp_region_lit ?_
 refine l_q rfl rfl (q_moveI rfl) ?_
 refine l_q rfl rfl (u_sub (a := n) (b := 1) rfl rfl rfl (by omega) (by show n < 256; omega)) ?_
 refine l_q rfl rfl (q_assignI rfl) ?_
 refine l_nil ?_
 have hS287 := hS286.fr5; clear hS286
 have hS288 := hS287.fr4; clear hS287
 have hS289 := hS288.fr4; clear hS288
 have hS290 := hS289.fr5; clear hS289
 have hS291 : St _ _ [_, _, _, _] _ := hS290.only 4; clear hS290
 refine hK19 _ _ (came (⟨(l ++ [((x30 : Int), (0 : Int), [])]), (rest.drop 1), ra26, rc26, ad286, cp286, (n - 1), (decide ((l.length : Int) < 16))⟩) (by repeat' (first | exact Agree.refl _ _ | refine Agree.up ?_ rfl | refine Agree.hav2 ?_ rfl | refine Agree.ups2 ?_ rfl)) (by repeat' (first | exact trivial | refine ⟨by first | rfl | assumption, ?_⟩)) ?_)
 have htk : TkR rest ((x30 : Int), (0 : Int), []) (rest.drop 1) (rightB ((x30 : Int), (0 : Int), [])) := tkr06 hxh30 ⟨by omega, by omega, by omega, by omega, by omega⟩
 exact ⟨⟨hS291, RowI.next hI (by omega) hva htk (by rw [hrt, Bool.true_and]), hl.app (VsOk.one hva), (Bytes.drop hbr), hGr26, (by first | assumption | omega), (by first | omega | (simp only [List.length_drop]; omega)), (by show n - 1 < 256; omega)⟩, by (show n - 1 < n); omega⟩
 have hg283b := hg283
 try simp only [zbb] at hg283
 have hrt := hg283
 refine l_off rfl rfl rfl hg283b ?_
 refine l_off rfl rfl rfl hg283b ?_
 refine l_off rfl rfl rfl hg283b ?_
 refine l_q rfl rfl (q_pickF rfl hg283b rfl) ?_
 refine l_e rfl (fun K hK => ?_)
 refine e_store1 hS282 rfl rfl (by kernel_rfl) (by first | rfl | assumption) (i := 1) rfl rfl (fun w292 (hS292 : St _ _ [_, _, _, _, _] _) => ?_)
 clear hS282
 refine hK _ _ ?_; clear hK K
 refine l_nil ?_
 refine hK281 _ _ ?_
 refine wp_region_lit ?_
 refine l_q rfl rfl (q_moveS rfl) ?_
 refine l_q rfl rfl (q_loadA (m := 3) rfl (by kernel_rfl) (by kernel_rfl) (hS292.blk (i := 0) rfl) rfl rfl) ?_
 refine l_e rfl (fun K hK => ?_)
 refine e_buildSliceA (e := 106) (m := 3) (zv := .agg #[.int .i64 0, .int .i64 0, .string ⟨#[]⟩]) hS292 (by kernel_rfl) (by kernel_rfl) (by kernel_rfl) rfl rfl rfl rfl (fun b293 w293 (hS293 : St _ _ [.blk b293 (.cells #[.int .i64 (x30 : Int), .int .i64 (0 : Int), .string (bs [])] 106), _, _, _, _, _] _) => ?_)
 clear hS292
 have hva : VOk ((x30 : Int), (0 : Int), []) := vok_of Bytes.nil ⟨by omega, by omega⟩ ⟨by omega, by omega⟩
 have hS293o : St _ _ [.ow 106 3 (some ⟨b293, 0, none⟩) 1 1 (List.flatMap vl [((x30 : Int), (0 : Int), [])]), _, _, _, _, _] _ := hS293.blkOw' (i := 0) (m := 1) (size := 3) (xs := List.flatMap vl [((x30 : Int), (0 : Int), [])]) rfl rfl rfl (by decide); clear hS293
 refine hK _ _ ?_; clear hK K
 refine l_e rfl (fun K hK => ?_)
 refine e_app (e := 106) (size := 3) (bytes := 32) (i := 4) (m' := (l ++ [((x30 : Int), (0 : Int), [])]).length) (by kernel_rfl) hS293o rfl rfl rfl (SlG.src (e := 106) (by kernel_rfl) (hS293o.owG (i := 0) rfl) ((rows_len (c := vl) (m := 3) (fun _ => rfl) _).trans (by first | rfl | (simp only [zll]; done) | (simp only [zll]; omega) | omega)) (by decide) (rows_one vl_ones)) (by first | omega | (simp only [zll] <;> omega)) rows_app (by first | omega | (simp only [maxLen, zll] <;> omega)) (by first | omega | (simp only [zll] <;> omega)) (fun ad294 cp294 w294 (hS294 : St _ _ [_, _, _, _, .ow 106 3 ad294 ((l ++ [((x30 : Int), (0 : Int), [])]).length) cp294 (List.flatMap vl (l ++ [((x30 : Int), (0 : Int), [])])), _] _) => ?_)
 clear hS293o
 refine hK _ _ ?_; clear hK K
 refine l_q rfl rfl (q_assignS rfl) ?_
 refine l_nil ?_
 refine hK24 _ _ ?_
 refine wp_region_lit ?_
 refine l_q rfl rfl (q_moveI rfl) ?_
 refine l_q rfl rfl (u_sub (a := n) (b := 1) rfl rfl rfl (by omega) (by show n < 256; omega)) ?_
 refine l_q rfl rfl (q_assignI rfl) ?_
 refine l_nil ?_
 have hS295 := hS294.fr5; clear hS294
 have hS296 := hS295.fr4; clear hS295
 have hS297 := hS296.fr4; clear hS296
 have hS298 := hS297.fr5; clear hS297
 have hS299 : St _ _ [_, _, _, _] _ := hS298.only 4; clear hS298
 refine hK19 _ _ (came (⟨(l ++ [((x30 : Int), (0 : Int), [])]), (rest.drop 1), ra26, rc26, ad294, cp294, (n - 1), false⟩) (by repeat' (first | exact Agree.refl _ _ | refine Agree.up ?_ rfl | refine Agree.hav2 ?_ rfl | refine Agree.ups2 ?_ rfl)) (by repeat' (first | exact trivial | refine ⟨by first | rfl | assumption, ?_⟩)) ?_)
 have htk : TkR rest ((x30 : Int), (0 : Int), []) (rest.drop 1) (rightB ((x30 : Int), (0 : Int), [])) := tkr06 hxh30 ⟨by omega, by omega, by omega, by omega, by omega⟩
 exact ⟨⟨hS299, RowI.next hI (by omega) hva htk (by rw [hrt, Bool.false_and]), hl.app (VsOk.one hva), (Bytes.drop hbr), hGr26, (by first | assumption | omega), (by first | omega | (simp only [List.length_drop]; omega)), (by show n - 1 < 256; omega)⟩, by (show n - 1 < n); omega⟩
 refine l_e rfl (fun K hK => ?_)
 have hS301 := hS19.fr2; clear hS19
 have hS302 := hS301.fr2; clear hS301
 refine e_callV (by kernel_rfl) rfl (take_no b4 b2 rest hbr (by first | omega | (simp only [zll] <;> omega)) true (1 : Int) (by first | exact .inl rfl | exact .inr (by omega)) _ _ (by omega) _ _ (St.rogB (Γ1 := [_, _]) hS302) hGr (St.begin (Γ := [_, _]) hS302)) rfl (after_M (Γ1 := [_, _]) hS302 (fun v300 G300 w300 hv300 hS300 => ?_))
 clear hS302
 obtain ⟨nb300, rfl, rfl⟩ := hv300
 have hS303 : St _ _ [_, .blk b2 (.cells #[.slice ra rest.length rc] 58), .ow 5 1 (some ⟨nb300, 0, none⟩) 1 1 (bv [0]), _, _] _ := hS300; clear hS300
 refine hK _ _ ?_; clear hK K
 refine l_q rfl rfl (q_ixG (e := 5) (m := 1) (j := 0) rfl rfl (by kernel_rfl) (by kernel_rfl) (by first | rfl | omega) (by omega) (hS303.owG (i := 2) rfl) (by rw [bv_len]; first | omega | (simp only [zll] <;> omega))) ?_
 obtain ⟨x304, hx304⟩ : ∃ x, ([0])[0]? = some x := ⟨_, List.getElem?_eq_getElem (by first | omega | (simp only [zll] <;> omega) | (simp <;> omega))⟩
 have hb304 : x304 < 256 := (by decide : Bytes [0]) x304 (List.mem_of_getElem? hx304)
 refine l_q rfl rfl (q_load1 rfl (by kernel_rfl) (SlG.cell (hS303.owG (i := 2) rfl) (Gle.refl _) (at1 (bv_at hx304)))) ?_
 have hx0_304 : x304 = 0 := by simpa using hx304.symm
 refine l_q rfl rfl (q_convN (a := x304) rfl (by kernel_rfl) (by kernel_rfl) (wrap_fit_i64 (by omega))) ?_
 refine l_q rfl rfl (q_build (ps := [(0, 1), (1, 1), (2, 1)]) (zv := .agg #[.int .i64 0, .int .i64 0, .string ⟨#[]⟩]) (by kernel_rfl) (by kernel_rfl) rfl (by repeat' (first | exact trivial | refine ⟨fun _ => by first | rfl | assumption | exact one_if (by assumption), ?_⟩ | refine ⟨fun ⟨_, h⟩ => by simp at h, ?_⟩)) rfl) ?_
 refine l_e rfl (fun K hK => ?_)
 refine e_alloc (zv := .agg #[.int .i64 0, .int .i64 0, .string ⟨#[]⟩]) hS303 (by kernel_rfl) (fun b305 w305 (hS305 : St _ _ [.blk b305 (.cells #[.int .i64 (0 : Int), .int .i64 (0 : Int), .string (bs [])] 106), _, _, _, _, _] _) => ?_)
 clear hS303
 refine hK _ _ ?_; clear hK K
 refine l_e rfl (fun K hK => ?_)
 refine e_storeA hS305 rfl rfl (by kernel_rfl) (by repeat' (first | exact trivial | refine ⟨by first | rfl | assumption | exact one_if (by assumption), ?_⟩)) (i := 0) rfl rfl (fun w306 (hS306 : St _ _ [.blk b305 (.cells #[.int .i64 (x304 : Int), .int .i64 (0 : Int), .string (bs [])] 106), _, _, _, _, _] _) => ?_)
 clear hS305
 refine hK _ _ ?_; clear hK K
 refine l_nil ?_
 refine hK25 _ _ ?_
 refine wp_seq_k (fun K307 hK307 => ?_)
 refine wp_seq_k (fun K308 hK308 => ?_)
 refine wp_region_lit ?_
 refine l_q rfl rfl (q_fieldAddr (ft := 104) (o := 0) rfl (by kernel_rfl)) ?_
 refine l_q rfl rfl (q_load1 rfl (by kernel_rfl) (hS306.cell (i := 0) rfl rfl)) ?_
 refine l_nil ?_
 refine hK308 _ _ ?_
 refine wp_block ?_
 refine wp_seq_k (fun K309 hK309 => ?_)
 refine wp_region_lit ?_
 refine l_q rfl rfl (q_eql rfl rfl) ?_
 refine l_q rfl rfl (q_assignB rfl) ?_
 refine l_nil ?_
 refine hK309 _ _ ?_
 refine c_condF rfl (decide_eq_false (by omega)) ?_
 refine wp_seq_k (fun K311 hK311 => ?_)
 refine wp_seq_k (fun K312 hK312 => ?_)
 refine wp_region_lit ?_
 refine l_q rfl rfl (q_eql rfl rfl) ?_
 refine l_q rfl rfl (q_assignB rfl) ?_
 refine l_nil ?_
 refine hK312 _ _ ?_
 refine c_condF rfl (decide_eq_false (by omega)) ?_
 refine wp_region_lit ?_
 refine l_q rfl rfl (q_eql rfl rfl) ?_
 refine l_q rfl rfl (q_assignB rfl) ?_
 refine l_nil ?_
 refine hK311 _ _ ?_
 refine c_condF rfl (decide_eq_false (by omega)) ?_
 refine wp_seq_k (fun K315 hK315 => ?_)
 refine wp_seq_k (fun K316 hK316 => ?_)
 refine wp_region_lit ?_
 refine l_q rfl rfl (q_eql rfl rfl) ?_
 refine l_q rfl rfl (q_assignB rfl) ?_
 refine l_nil ?_
 refine hK316 _ _ ?_
 refine c_condF rfl (decide_eq_false (by omega)) ?_
 refine wp_region_lit ?_
 refine l_q rfl rfl (q_eql rfl rfl) ?_
 refine l_q rfl rfl (q_assignB rfl) ?_
 refine l_nil ?_
 refine hK315 _ _ ?_
 refine c_condF rfl (decide_eq_false (by omega)) ?_
 refine wp_skip ?_
 refine hK307 _ _ ?_
 refine wp_seq_k (fun K319 hK319 => ?_)
 refine wp_region_lit ?_
 refine l_q rfl rfl (q_load1 rfl (by kernel_rfl) (hS306.cell (i := 1) rfl rfl)) ?_
 refine l_q rfl rfl (q_moveB rfl) ?_
 refine l_off rfl rfl rfl rfl ?_
 refine l_off rfl rfl rfl rfl ?_
 refine l_q rfl rfl (q_pickF rfl rfl rfl) ?_
 refine l_q rfl rfl (q_moveB rfl) ?_
 refine l_off rfl rfl rfl rfl ?_
 refine l_off rfl rfl rfl rfl ?_
 refine l_off rfl rfl rfl rfl ?_
 refine l_q rfl rfl (q_pickF rfl rfl rfl) ?_
 refine l_e rfl (fun K hK => ?_)
 refine e_store1 hS306 rfl rfl (by kernel_rfl) (by first | rfl | assumption) (i := 1) rfl rfl (fun w320 (hS320 : St _ _ [_, _, _, _, _, _] _) => ?_)
 clear hS306
 refine hK _ _ ?_; clear hK K
 refine l_nil ?_
 refine hK319 _ _ ?_
 refine wp_region_lit ?_
 refine l_q rfl rfl (q_moveS rfl) ?_
 refine l_q rfl rfl (q_loadA (m := 3) rfl (by kernel_rfl) (by kernel_rfl) (hS320.blk (i := 0) rfl) rfl rfl) ?_
 refine l_e rfl (fun K hK => ?_)
 refine e_buildSliceA (e := 106) (m := 3) (zv := .agg #[.int .i64 0, .int .i64 0, .string ⟨#[]⟩]) hS320 (by kernel_rfl) (by kernel_rfl) (by kernel_rfl) rfl rfl rfl rfl (fun b321 w321 (hS321 : St _ _ [.blk b321 (.cells #[.int .i64 (x304 : Int), .int .i64 (0 : Int), .string (bs [])] 106), _, _, _, _, _, _] _) => ?_)
 clear hS320
 have hva : VOk ((x304 : Int), (0 : Int), []) := vok_of Bytes.nil ⟨by omega, by omega⟩ ⟨by omega, by omega⟩
 have hS321o : St _ _ [.ow 106 3 (some ⟨b321, 0, none⟩) 1 1 (List.flatMap vl [((x304 : Int), (0 : Int), [])]), _, _, _, _, _, _] _ := hS321.blkOw' (i := 0) (m := 1) (size := 3) (xs := List.flatMap vl [((x304 : Int), (0 : Int), [])]) rfl rfl rfl (by decide); clear hS321
 refine hK _ _ ?_; clear hK K
 refine l_e rfl (fun K hK => ?_)
 refine e_app (e := 106) (size := 3) (bytes := 32) (i := 5) (m' := (l ++ [((x304 : Int), (0 : Int), [])]).length) (by kernel_rfl) hS321o rfl rfl rfl (SlG.src (e := 106) (by kernel_rfl) (hS321o.owG (i := 0) rfl) ((rows_len (c := vl) (m := 3) (fun _ => rfl) _).trans (by first | rfl | (simp only [zll]; done) | (simp only [zll]; omega) | omega)) (by decide) (rows_one vl_ones)) (by first | omega | (simp only [zll] <;> omega)) rows_app (by first | omega | (simp only [maxLen, zll] <;> omega)) (by first | omega | (simp only [zll] <;> omega)) (fun ad322 cp322 w322 (hS322 : St _ _ [_, _, _, _, _, .ow 106 3 ad322 ((l ++ [((x304 : Int), (0 : Int), [])]).length) cp322 (List.flatMap vl (l ++ [((x304 : Int), (0 : Int), [])])), _] _) => ?_)
 clear hS321o
 refine hK _ _ ?_; clear hK K
 refine l_q rfl rfl (q_assignS rfl) ?_
 refine l_nil ?_
 refine hK24 _ _ ?_
 refine wp_region_lit ?_
 refine l_q rfl rfl (q_moveI rfl) ?_
 refine l_q rfl rfl (u_sub (a := n) (b := 1) rfl rfl rfl (by omega) (by show n < 256; omega)) ?_
 refine l_q rfl rfl (q_assignI rfl) ?_
 refine l_nil ?_
 have hS323 := hS322.fr6; clear hS322
 have hS324 := hS323.fr4; clear hS323
 have hS325 := hS324.fr4; clear hS324
 have hS326 := hS325.fr6; clear hS325
 have hS327 : St _ _ [_, _, _, _] _ := hS326.only 4; clear hS326
 refine hK19 _ _ (came (⟨(l ++ [((x304 : Int), (0 : Int), [])]), rest, ra, rc, ad322, cp322, (n - 1), false⟩) (by repeat' (first | exact Agree.refl _ _ | refine Agree.up ?_ rfl | refine Agree.hav2 ?_ rfl | refine Agree.ups2 ?_ rfl)) (by repeat' (first | exact trivial | refine ⟨by first | rfl | assumption, ?_⟩)) ?_)
 have htk : TkR rest ((x304 : Int), (0 : Int), []) rest false := tkr_no (noval_emp hp)
 exact ⟨⟨hS327, RowI.next hI (by omega) hva htk rfl, hl.app (VsOk.one hva), hbr, hGr, (by first | assumption | omega), (by first | omega | (simp only [List.length_drop]; omega)), (by show n - 1 < 256; omega)⟩, by (show n - 1 < n); omega⟩
 have hc23b := hc23
 try simp only [zbb] at hc23
 refine wp_exit ?_
 refine hK11 _ _ ?_
 refine wp_seq_k (fun K328 hK328 => ?_)
 refine wp_seq_k (fun K329 hK329 => ?_)
 refine wp_region_lit ?_
 refine l_q rfl rfl (q_load1 rfl (by kernel_rfl) (hS19.cell (i := 1) rfl rfl)) ?_
 refine l_q rfl rfl (q_not rfl) ?_
 refine l_q rfl rfl (q_moveB rfl) ?_
 refine l_on rfl rfl rfl ?_
 refine l_q rfl rfl (q_load1 rfl (by kernel_rfl) (hS19.cell (i := 2) rfl rfl)) ?_
 refine l_on rfl rfl rfl ?_
 refine l_q rfl rfl (q_lenSl (e := 5) rfl (by kernel_rfl)) ?_
 refine l_on rfl rfl rfl ?_
 refine l_q rfl rfl (q_gtr rfl rfl) ?_
 refine l_q rfl rfl (q_pickF rfl rfl rfl) ?_
 refine l_nil ?_
 refine hK329 _ _ ?_
 refine c_cond rfl (fun hc330 => ?_) (fun hc330 => ?_)
 have hc330b := hc330
 try simp only [zbb] at hc330
 refine wp_seq_k (fun K331 hK331 => ?_)
 refine wp_region_lit ?_
 refine l_q rfl rfl (q_assignS rfl) ?_
 refine l_q rfl rfl (q_assignI rfl) ?_
 refine l_nil ?_
 refine hK331 _ _ ?_
 refine wp_ret ?_
 refine c_ret2 rfl rfl rfl ?_
 have hd : decRw b = ([], 51) := by first | exact decRw_no (hI.2 rfl) | exact decRw_no (row_more hbe hRl (by omega) hl16 (by omega))
 exact ⟨_, _, rfl, ⟨none, 0, by rw [hd]; rfl, by rw [hd]; rfl⟩, hS19.drop.ow_nil _ _⟩
 have hc330b := hc330
 try simp only [zbb] at hc330
 refine wp_skip ?_
 refine hK328 _ _ ?_
 refine wp_seq_k (fun K332 hK332 => ?_)
 refine wp_region_lit ?_
 refine l_q rfl rfl (q_moveS rfl) ?_
 refine l_q rfl rfl (q_assignS rfl) ?_
 refine l_q rfl rfl (q_assignI rfl) ?_
 refine l_nil ?_
 refine hK332 _ _ ?_
 refine wp_ret ?_
 refine c_ret2 rfl rfl rfl ?_
 have hS333 : St _ _ [_] _ := hS19.only 1; clear hS19
 have hd := row_yes hbe hRl (by omega) hl16 (by omega)
 exact ⟨_, _, rfl, ⟨oa, oc, (congrArg (fun q : List Vl × Int => Value.tuple #[.slice oa q.1.length oc, .int .i64 q.2]) hd).symm, by rw [hd]⟩, hS333⟩
 have hg22b := hg22
 try simp only [zbb] at hg22
 have hok := hg22
 subst hok
 refine l_off rfl rfl rfl hg22b ?_
 refine l_off rfl rfl rfl hg22b ?_
 refine l_q rfl rfl (q_pickF rfl hg22b rfl) ?_
 refine l_nil ?_
 refine hK21 _ _ ?_
 refine c_condF rfl rfl ?_
 refine wp_exit ?_
 refine hK11 _ _ ?_
 refine wp_seq_k (fun K335 hK335 => ?_)
 refine wp_seq_k (fun K336 hK336 => ?_)
 refine wp_region_lit ?_
 refine l_q rfl rfl (q_load1 rfl (by kernel_rfl) (hS19.cell (i := 1) rfl rfl)) ?_
 refine l_q rfl rfl (q_not rfl) ?_
 refine l_q rfl rfl (q_moveB rfl) ?_
 refine l_off rfl rfl rfl rfl ?_
 refine l_off rfl rfl rfl rfl ?_
 refine l_off rfl rfl rfl rfl ?_
 refine l_q rfl rfl (q_pickT rfl rfl rfl) ?_
 refine l_nil ?_
 refine hK336 _ _ ?_
 refine c_condT rfl rfl ?_
 refine wp_seq_k (fun K338 hK338 => ?_)
 refine wp_region_lit ?_
 refine l_q rfl rfl (q_assignS rfl) ?_
 refine l_q rfl rfl (q_assignI rfl) ?_
 refine l_nil ?_
 refine hK338 _ _ ?_
 refine wp_ret ?_
 refine c_ret2 rfl rfl rfl ?_
 have hd : decRw b = ([], 51) := by first | exact decRw_no (hI.2 rfl) | exact decRw_no (row_more hbe hRl (by omega) hl16 (by omega))
 exact ⟨_, _, rfl, ⟨none, 0, by rw [hd]; rfl, by rw [hd]; rfl⟩, hS19.drop.ow_nil _ _⟩
 refine l_e rfl (fun K hK => ?_)
 have hS340 := hS8.fr2; clear hS8
 have hS341 := hS340.fr2; clear hS340
 refine e_callV (by kernel_rfl) rfl (take_no b4 b2 b hb (by first | omega | (simp only [zll] <;> omega)) true (1 : Int) (by first | exact .inl rfl | exact .inr (by omega)) _ _ (by omega) _ _ (St.rogB (Γ1 := [_, _]) hS341) hG (St.begin (Γ := [_, _]) hS341)) rfl (after_M (Γ1 := [_, _]) hS341 (fun v339 G339 w339 hv339 hS339 => ?_))
 clear hS341
 obtain ⟨nb339, rfl, rfl⟩ := hv339
 have hS342 : St _ _ [_, _, .ow 5 1 (some ⟨nb339, 0, none⟩) 1 1 (bv [0]), _] _ := hS339; clear hS339
 refine hK _ _ ?_; clear hK K
 refine l_q rfl rfl (q_ixG (e := 5) (m := 1) (j := 0) rfl rfl (by kernel_rfl) (by kernel_rfl) (by first | rfl | omega) (by omega) (hS342.owG (i := 2) rfl) (by rw [bv_len]; first | omega | (simp only [zll] <;> omega))) ?_
 obtain ⟨x343, hx343⟩ : ∃ x, ([0])[0]? = some x := ⟨_, List.getElem?_eq_getElem (by first | omega | (simp only [zll] <;> omega) | (simp <;> omega))⟩
 have hb343 : x343 < 256 := (by decide : Bytes [0]) x343 (List.mem_of_getElem? hx343)
 refine l_q rfl rfl (q_load1 rfl (by kernel_rfl) (SlG.cell (hS342.owG (i := 2) rfl) (Gle.refl _) (at1 (bv_at hx343)))) ?_
 have hx0_343 : x343 = 0 := by simpa using hx343.symm
 refine l_q rfl rfl (q_assignI rfl) ?_
 refine l_nil ?_
 refine hK12 _ _ ?_
 refine wp_block ?_
 have hS344 := hS342.ow_nil 106 3; clear hS342
 have hS345 := hS344.fr4; clear hS344
 have hS346 := hS345.fr3; clear hS345
 have hS347 := hS346.fr3; clear hS346
 have hS348 := hS347.fr3; clear hS347
 have hS349 : St _ _ [.ow 106 3 none 0 0 (List.flatMap vl []), _, _, _] _ := hS348.only 4; clear hS348
 refine c_loop (τ := (List Vl) × (List Nat) × (Option Addr) × Nat × (Option Addr) × Nat × Nat × Bool) [(7, 9), (16, 67)] (fun x => (fun (l : List Vl) (rest : List Nat) (ra : Option Addr) (rc : Nat) (oa : Option Addr) (oc : Nat) (n : Nat) (ok : Bool) => [(7, .slice oa l.length oc), (8, .int .u8 (n : Int))]) x.1 x.2.1 x.2.2.1 x.2.2.2.1 x.2.2.2.2.1 x.2.2.2.2.2.1 x.2.2.2.2.2.2.1 x.2.2.2.2.2.2.2) (fun x w' => (fun (l : List Vl) (rest : List Nat) (ra : Option Addr) (rc : Nat) (oa : Option Addr) (oc : Nat) (n : Nat) (ok : Bool) => St w (fun _ => False) [.ow 106 3 oa l.length oc (List.flatMap vl l), .blk b4 (.cells #[.bool ok] 4), .blk b2 (.cells #[.slice ra rest.length rc] 58), .blk b7 (.cells #[.func (.func 66) #[] #[.pointer (some ⟨b4, 0, none⟩), .pointer (some ⟨b2, 0, none⟩)]] 116)] w' ∧ RowI b l rest n ok ∧ VsOk l ∧ Bytes rest ∧ SlG (hw w) ra (bv rest) ∧ rest.length ≤ rc ∧ rest.length ≤ b.length ∧ n < 256) x.1 x.2.1 x.2.2.1 x.2.2.2.1 x.2.2.2.2.1 x.2.2.2.2.2.1 x.2.2.2.2.2.2.1 x.2.2.2.2.2.2.2) (fun x => (fun (l : List Vl) (rest : List Nat) (ra : Option Addr) (rc : Nat) (oa : Option Addr) (oc : Nat) (n : Nat) (ok : Bool) => n) x.1 x.2.1 x.2.2.1 x.2.2.2.1 x.2.2.2.2.1 x.2.2.2.2.2.1 x.2.2.2.2.2.2.1 x.2.2.2.2.2.2.2) (⟨[], b, ab, cb, none, 0, x343, false⟩) ?_ (by repeat' (first | exact trivial | refine ⟨by first | rfl | assumption, ?_⟩)) (fun x350 j350 w350 hJ350 K350 hK350 => ?_)
 exact ⟨hS349, RowI.none hp, VsOk.nil, hb, hG, by omega, by first | exact Nat.le_refl _ | omega | (rw [List.length_drop]; omega), by omega⟩
 obtain ⟨l, rest, ra, rc, oa, oc, n, ok⟩ := x350
 obtain ⟨hS350, hI, hl, hbr, hGr, hrc, hrl, hn⟩ := hJ350
 try dsimp only at hS350 hI hl hbr hGr hrc hrl hn ⊢
 refine wp_seq_k (fun K351 hK351 => ?_)
 refine wp_seq_k (fun K352 hK352 => ?_)
 refine wp_region_lit ?_
 refine l_q rfl rfl (q_load1 rfl (by kernel_rfl) (hS350.cell (i := 1) rfl rfl)) ?_
 refine l_q rfl rfl (q_moveB rfl) ?_
 refine g_splitL (t := 17) rfl (fun hg353 => ?_) (fun hg353 => ?_)
 have hg353b := hg353
 try simp only [zbb] at hg353
 have hok := hg353
 subst hok
 obtain ⟨xh, hxh, hbe, hRl, hl16, hxn⟩ := hI.1 rfl
 refine l_on rfl rfl hg353b ?_
 refine l_q rfl rfl (q_moveI rfl) ?_
 refine l_on rfl rfl hg353b ?_
 refine l_q rfl rfl (q_gtr rfl rfl) ?_
 refine l_q rfl rfl (q_pickT rfl hg353b rfl) ?_
 refine l_nil ?_
 refine hK352 _ _ ?_
 refine c_cond rfl (fun hc354 => ?_) (fun hc354 => ?_)
 have hc354b := hc354
 try simp only [zbb] at hc354
 refine wp_skip ?_
 refine hK351 _ _ ?_
 refine wp_seq_k (fun K355 hK355 => ?_)
 refine wp_block ?_
 refine wp_seq_k (fun K356 hK356 => ?_)
 refine wp_region_lit ?_
 refine l_q rfl rfl (q_load1 rfl (by kernel_rfl) (hS350.cell (i := 3) rfl rfl)) ?_
 by_cases hp : 0 < rest.length
 refine l_e rfl (fun K hK => ?_)
 have hS358 := hS350.fr2; clear hS350
 have hS359 := hS358.fr2; clear hS358
 refine e_callV (by kernel_rfl) rfl (take_yes b4 b2 rest hbr (by first | omega | (simp only [zll] <;> omega)) 1 (by omega) _ _ (by omega) _ _ (St.rogB (Γ1 := [_, _]) hS359) hGr (St.begin (Γ := [_, _]) hS359)) rfl (after_M (Γ1 := [_, _]) hS359 (fun v357 G357 w357 hv357 hS357 => ?_))
 clear hS359
 obtain ⟨ra357, rc357, rfl, rfl, hGr357, hrc357⟩ := hv357
 have hS360 : St _ _ [_, .blk b2 (.cells #[.slice ra357 ((rest.drop 1).length) rc357] 58), _, _] _ := hS357; clear hS357
 have hld357 := List.length_drop (i := 1) (l := rest)
 refine hK _ _ ?_; clear hK K
 refine l_q rfl rfl (q_ixG (e := 5) (m := 1) (j := 0) rfl rfl (by kernel_rfl) (by kernel_rfl) (by first | rfl | omega) (by omega) (bv_takeG (n := 1) hGr) (by rw [bv_len]; first | omega | (simp only [zll] <;> omega))) ?_
 obtain ⟨x361, hx361⟩ : ∃ x, ((rest.take 1))[0]? = some x := ⟨_, List.getElem?_eq_getElem (by first | omega | (simp only [zll] <;> omega) | (simp <;> omega))⟩
 have hb361 : x361 < 256 := (Bytes.take hbr) x361 (List.mem_of_getElem? hx361)
 refine l_q rfl rfl (q_load1 rfl (by kernel_rfl) (SlG.cell ((bv_takeG (n := 1) hGr).mono hS360.base) (Gle.refl _) (at1 (bv_at hx361)))) ?_
 have hxh361 := take1 hx361
 refine l_q rfl rfl (q_convN (a := x361) rfl (by kernel_rfl) (by kernel_rfl) (wrap_fit_i64 (by omega))) ?_
 refine l_q rfl rfl (q_build (ps := [(0, 1), (1, 1), (2, 1)]) (zv := .agg #[.int .i64 0, .int .i64 0, .string ⟨#[]⟩]) (by kernel_rfl) (by kernel_rfl) rfl (by repeat' (first | exact trivial | refine ⟨fun _ => by first | rfl | assumption | exact one_if (by assumption), ?_⟩ | refine ⟨fun ⟨_, h⟩ => by simp at h, ?_⟩)) rfl) ?_
 refine l_e rfl (fun K hK => ?_)
 refine e_alloc (zv := .agg #[.int .i64 0, .int .i64 0, .string ⟨#[]⟩]) hS360 (by kernel_rfl) (fun b362 w362 (hS362 : St _ _ [.blk b362 (.cells #[.int .i64 (0 : Int), .int .i64 (0 : Int), .string (bs [])] 106), _, _, _, _] _) => ?_)
 clear hS360
 refine hK _ _ ?_; clear hK K
 refine l_e rfl (fun K hK => ?_)
 refine e_storeA hS362 rfl rfl (by kernel_rfl) (by repeat' (first | exact trivial | refine ⟨by first | rfl | assumption | exact one_if (by assumption), ?_⟩)) (i := 0) rfl rfl (fun w363 (hS363 : St _ _ [.blk b362 (.cells #[.int .i64 (x361 : Int), .int .i64 (0 : Int), .string (bs [])] 106), _, _, _, _] _) => ?_)
 clear hS362
 refine hK _ _ ?_; clear hK K
 refine l_nil ?_
 refine hK356 _ _ ?_
 refine wp_seq_k (fun K364 hK364 => ?_)
 refine wp_seq_k (fun K365 hK365 => ?_)
 refine wp_region_lit ?_
 refine l_q rfl rfl (q_fieldAddr (ft := 104) (o := 0) rfl (by kernel_rfl)) ?_
 refine l_q rfl rfl (q_load1 rfl (by kernel_rfl) (hS363.cell (i := 0) rfl rfl)) ?_
 refine l_nil ?_
 refine hK365 _ _ ?_
 refine wp_block ?_
 refine wp_seq_k (fun K366 hK366 => ?_)
 refine wp_region_lit ?_
 refine l_q rfl rfl (q_eql rfl rfl) ?_
 refine l_q rfl rfl (q_assignB rfl) ?_
 refine l_nil ?_
 refine hK366 _ _ ?_
 refine c_cond rfl (fun hc367 => ?_) (fun hc367 => ?_)
 have hc367b := hc367
 try simp only [zbb] at hc367
 refine wp_region_lit ?_
 refine l_q rfl rfl (q_load1 rfl (by kernel_rfl) (hS363.cell (i := 4) rfl rfl)) ?_
 by_cases hp1 : 0 < (rest.drop 1).length
 refine l_e rfl (fun K hK => ?_)
 have hS369 := hS363.fr2; clear hS363
 have hS370 := hS369.fr2; clear hS369
 refine e_callV (by kernel_rfl) rfl (take_yes b4 b2 (rest.drop 1) (Bytes.drop hbr) (by first | omega | (simp only [zll] <;> omega)) 1 (by omega) _ _ (by omega) _ _ (St.rogB (Γ1 := [_, _]) hS370) hGr357 (St.begin (Γ := [_, _]) hS370)) rfl (after_M (Γ1 := [_, _]) hS370 (fun v368 G368 w368 hv368 hS368 => ?_))
 clear hS370
 obtain ⟨ra368, rc368, rfl, rfl, hGr368, hrc368⟩ := hv368
 have hS371 : St _ _ [_, .blk b2 (.cells #[.slice ra368 (((rest.drop 1).drop 1).length) rc368] 58), _, _, _] _ := hS368; clear hS368
 have hld368 := List.length_drop (i := 1) (l := (rest.drop 1))
 refine hK _ _ ?_; clear hK K
 refine l_q rfl rfl (q_ixG (e := 5) (m := 1) (j := 0) rfl rfl (by kernel_rfl) (by kernel_rfl) (by first | rfl | omega) (by omega) (bv_takeG (n := 1) hGr357) (by rw [bv_len]; first | omega | (simp only [zll] <;> omega))) ?_
 obtain ⟨x372, hx372⟩ : ∃ x, (((rest.drop 1).take 1))[0]? = some x := ⟨_, List.getElem?_eq_getElem (by first | omega | (simp only [zll] <;> omega) | (simp <;> omega))⟩
 have hb372 : x372 < 256 := (Bytes.take (Bytes.drop hbr)) x372 (List.mem_of_getElem? hx372)
 refine l_q rfl rfl (q_load1 rfl (by kernel_rfl) (SlG.cell ((bv_takeG (n := 1) hGr357).mono hS371.base) (Gle.refl _) (at1 (bv_at hx372)))) ?_
 have hxh372 := take1 hx372
 refine l_q rfl rfl (q_convN (a := x372) rfl (by kernel_rfl) (by kernel_rfl) (wrap_fit_i64 (by omega))) ?_
 refine l_q rfl rfl (q_fieldAddr (ft := 2) (o := 1) rfl (by kernel_rfl)) ?_
 refine l_e rfl (fun K hK => ?_)
 refine e_store1 hS371 rfl rfl (by kernel_rfl) (by first | rfl | assumption) (i := 2) rfl rfl (fun w373 (hS373 : St _ _ [_, _, .blk b362 (.cells #[.int .i64 (x361 : Int), .int .i64 (x372 : Int), .string (bs [])] 106), _, _] _) => ?_)
 clear hS371
 refine hK _ _ ?_; clear hK K
 refine l_nil ?_
 refine hK364 _ _ ?_
 refine wp_seq_k (fun K374 hK374 => ?_)
 refine wp_region_lit ?_
 refine l_q rfl rfl (q_load1 rfl (by kernel_rfl) (hS373.cell (i := 0) rfl rfl)) ?_
 refine l_q rfl rfl (q_moveB rfl) ?_
 refine l_on rfl rfl rfl ?_
 refine l_q rfl rfl (q_loadA (m := 3) rfl (by kernel_rfl) (by kernel_rfl) (hS373.blk (i := 2) rfl) rfl rfl) ?_
 refine l_on rfl rfl rfl ?_
 refine l_e rfl (fun K hK => ?_)
 refine e_call (by kernel_rfl) (right_ok ((x361 : Int), (x372 : Int), []) Bytes.nil _) rfl (after_R hS373 (fun v375 w375 hv375 hS375 => ?_))
 clear hS373
 obtain rfl := hv375
 refine hK _ _ ?_; clear hK K
 refine l_q rfl rfl (q_pickT rfl rfl rfl) ?_
 refine l_q rfl rfl (q_moveB rfl) ?_
 refine g_splitL (t := 59) rfl (fun hg376 => ?_) (fun hg376 => ?_)
 have hg376b := hg376
 try simp only [zbb] at hg376
 have hrt := hg376
 refine l_on rfl rfl hg376b ?_
 refine l_q rfl rfl (q_moveS rfl) ?_
 refine l_on rfl rfl hg376b ?_
 refine l_q rfl rfl (q_lenSl (e := 106) rfl (by kernel_rfl)) ?_
 refine l_on rfl rfl hg376b ?_
 refine l_q rfl rfl (q_lss rfl rfl) ?_
 refine l_q rfl rfl (q_pickT rfl hg376b rfl) ?_
 refine l_e rfl (fun K hK => ?_)
 refine e_store1 hS375 rfl rfl (by kernel_rfl) (by first | rfl | assumption) (i := 0) rfl rfl (fun w377 (hS377 : St _ _ [_, _, _, _, _] _) => ?_)
 clear hS375
 refine hK _ _ ?_; clear hK K
 refine l_nil ?_
 refine hK374 _ _ ?_
 refine wp_region_lit ?_
 refine l_q rfl rfl (q_moveS rfl) ?_
 refine l_q rfl rfl (q_loadA (m := 3) rfl (by kernel_rfl) (by kernel_rfl) (hS377.blk (i := 2) rfl) rfl rfl) ?_
 refine l_e rfl (fun K hK => ?_)
 refine e_buildSliceA (e := 106) (m := 3) (zv := .agg #[.int .i64 0, .int .i64 0, .string ⟨#[]⟩]) hS377 (by kernel_rfl) (by kernel_rfl) (by kernel_rfl) rfl rfl rfl rfl (fun b378 w378 (hS378 : St _ _ [.blk b378 (.cells #[.int .i64 (x361 : Int), .int .i64 (x372 : Int), .string (bs [])] 106), _, _, _, _, _] _) => ?_)
 clear hS377
 have hva : VOk ((x361 : Int), (x372 : Int), []) := vok_of Bytes.nil ⟨by omega, by omega⟩ ⟨by omega, by omega⟩
 have hS378o : St _ _ [.ow 106 3 (some ⟨b378, 0, none⟩) 1 1 (List.flatMap vl [((x361 : Int), (x372 : Int), [])]), _, _, _, _, _] _ := hS378.blkOw' (i := 0) (m := 1) (size := 3) (xs := List.flatMap vl [((x361 : Int), (x372 : Int), [])]) rfl rfl rfl (by decide); clear hS378
 refine hK _ _ ?_; clear hK K
 refine l_e rfl (fun K hK => ?_)
 refine e_app (e := 106) (size := 3) (bytes := 32) (i := 4) (m' := (l ++ [((x361 : Int), (x372 : Int), [])]).length) (by kernel_rfl) hS378o rfl rfl rfl (SlG.src (e := 106) (by kernel_rfl) (hS378o.owG (i := 0) rfl) ((rows_len (c := vl) (m := 3) (fun _ => rfl) _).trans (by first | rfl | (simp only [zll]; done) | (simp only [zll]; omega) | omega)) (by decide) (rows_one vl_ones)) (by first | omega | (simp only [zll] <;> omega)) rows_app (by first | omega | (simp only [maxLen, zll] <;> omega)) (by first | omega | (simp only [zll] <;> omega)) (fun ad379 cp379 w379 (hS379 : St _ _ [_, _, _, _, .ow 106 3 ad379 ((l ++ [((x361 : Int), (x372 : Int), [])]).length) cp379 (List.flatMap vl (l ++ [((x361 : Int), (x372 : Int), [])])), _] _) => ?_)
 clear hS378o
 refine hK _ _ ?_; clear hK K
 refine l_q rfl rfl (q_assignS rfl) ?_
 refine l_nil ?_
 refine hK355 _ _ ?_
 refine wp_region_lit ?_
 refine l_q rfl rfl (q_moveI rfl) ?_
 refine l_q rfl rfl (u_sub (a := n) (b := 1) rfl rfl rfl (by omega) (by show n < 256; omega)) ?_
 refine l_q rfl rfl (q_assignI rfl) ?_
 refine l_nil ?_
 have hS380 := hS379.fr5; clear hS379
 have hS381 := hS380.fr3; clear hS380
 have hS382 := hS381.fr3; clear hS381
 have hS383 := hS382.fr5; clear hS382
 have hS384 : St _ _ [_, _, _, _] _ := hS383.only 4; clear hS383
 refine hK350 _ _ (came (⟨(l ++ [((x361 : Int), (x372 : Int), [])]), ((rest.drop 1).drop 1), ra368, rc368, ad379, cp379, (n - 1), (decide ((l.length : Int) < 16))⟩) (by repeat' (first | exact Agree.refl _ _ | refine Agree.up ?_ rfl | refine Agree.hav2 ?_ rfl | refine Agree.ups2 ?_ rfl)) (by repeat' (first | exact trivial | refine ⟨by first | rfl | assumption, ?_⟩)) ?_)
 have htk : TkR rest ((x361 : Int), (x372 : Int), []) ((rest.drop 1).drop 1) (rightB ((x361 : Int), (x372 : Int), [])) := tkr1 hxh361 (by omega) hxh372 (by omega)
 exact ⟨⟨hS384, RowI.next hI (by omega) hva htk (by rw [hrt, Bool.true_and]), hl.app (VsOk.one hva), (Bytes.drop (Bytes.drop hbr)), hGr368, (by first | assumption | omega), (by first | omega | (simp only [List.length_drop]; omega)), (by show n - 1 < 256; omega)⟩, by (show n - 1 < n); omega⟩
 have hg376b := hg376
 try simp only [zbb] at hg376
 have hrt := hg376
 refine l_off rfl rfl rfl hg376b ?_
 refine l_off rfl rfl rfl hg376b ?_
 refine l_off rfl rfl rfl hg376b ?_
 refine l_q rfl rfl (q_pickF rfl hg376b rfl) ?_
 refine l_e rfl (fun K hK => ?_)
 refine e_store1 hS375 rfl rfl (by kernel_rfl) (by first | rfl | assumption) (i := 0) rfl rfl (fun w385 (hS385 : St _ _ [_, _, _, _, _] _) => ?_)
 clear hS375
 refine hK _ _ ?_; clear hK K
 refine l_nil ?_
 refine hK374 _ _ ?_
 refine wp_region_lit ?_
 refine l_q rfl rfl (q_moveS rfl) ?_
 refine l_q rfl rfl (q_loadA (m := 3) rfl (by kernel_rfl) (by kernel_rfl) (hS385.blk (i := 2) rfl) rfl rfl) ?_
 refine l_e rfl (fun K hK => ?_)
 refine e_buildSliceA (e := 106) (m := 3) (zv := .agg #[.int .i64 0, .int .i64 0, .string ⟨#[]⟩]) hS385 (by kernel_rfl) (by kernel_rfl) (by kernel_rfl) rfl rfl rfl rfl (fun b386 w386 (hS386 : St _ _ [.blk b386 (.cells #[.int .i64 (x361 : Int), .int .i64 (x372 : Int), .string (bs [])] 106), _, _, _, _, _] _) => ?_)
 clear hS385
 have hva : VOk ((x361 : Int), (x372 : Int), []) := vok_of Bytes.nil ⟨by omega, by omega⟩ ⟨by omega, by omega⟩
 have hS386o : St _ _ [.ow 106 3 (some ⟨b386, 0, none⟩) 1 1 (List.flatMap vl [((x361 : Int), (x372 : Int), [])]), _, _, _, _, _] _ := hS386.blkOw' (i := 0) (m := 1) (size := 3) (xs := List.flatMap vl [((x361 : Int), (x372 : Int), [])]) rfl rfl rfl (by decide); clear hS386
 refine hK _ _ ?_; clear hK K
 refine l_e rfl (fun K hK => ?_)
 refine e_app (e := 106) (size := 3) (bytes := 32) (i := 4) (m' := (l ++ [((x361 : Int), (x372 : Int), [])]).length) (by kernel_rfl) hS386o rfl rfl rfl (SlG.src (e := 106) (by kernel_rfl) (hS386o.owG (i := 0) rfl) ((rows_len (c := vl) (m := 3) (fun _ => rfl) _).trans (by first | rfl | (simp only [zll]; done) | (simp only [zll]; omega) | omega)) (by decide) (rows_one vl_ones)) (by first | omega | (simp only [zll] <;> omega)) rows_app (by first | omega | (simp only [maxLen, zll] <;> omega)) (by first | omega | (simp only [zll] <;> omega)) (fun ad387 cp387 w387 (hS387 : St _ _ [_, _, _, _, .ow 106 3 ad387 ((l ++ [((x361 : Int), (x372 : Int), [])]).length) cp387 (List.flatMap vl (l ++ [((x361 : Int), (x372 : Int), [])])), _] _) => ?_)
 clear hS386o
 refine hK _ _ ?_; clear hK K
 refine l_q rfl rfl (q_assignS rfl) ?_
 refine l_nil ?_
 refine hK355 _ _ ?_
 refine wp_region_lit ?_
 refine l_q rfl rfl (q_moveI rfl) ?_
 refine l_q rfl rfl (u_sub (a := n) (b := 1) rfl rfl rfl (by omega) (by show n < 256; omega)) ?_
 refine l_q rfl rfl (q_assignI rfl) ?_
 refine l_nil ?_
 have hS388 := hS387.fr5; clear hS387
 have hS389 := hS388.fr3; clear hS388
 have hS390 := hS389.fr3; clear hS389
 have hS391 := hS390.fr5; clear hS390
 have hS392 : St _ _ [_, _, _, _] _ := hS391.only 4; clear hS391
 refine hK350 _ _ (came (⟨(l ++ [((x361 : Int), (x372 : Int), [])]), ((rest.drop 1).drop 1), ra368, rc368, ad387, cp387, (n - 1), false⟩) (by repeat' (first | exact Agree.refl _ _ | refine Agree.up ?_ rfl | refine Agree.hav2 ?_ rfl | refine Agree.ups2 ?_ rfl)) (by repeat' (first | exact trivial | refine ⟨by first | rfl | assumption, ?_⟩)) ?_)
 have htk : TkR rest ((x361 : Int), (x372 : Int), []) ((rest.drop 1).drop 1) (rightB ((x361 : Int), (x372 : Int), [])) := tkr1 hxh361 (by omega) hxh372 (by omega)
 exact ⟨⟨hS392, RowI.next hI (by omega) hva htk (by rw [hrt, Bool.false_and]), hl.app (VsOk.one hva), (Bytes.drop (Bytes.drop hbr)), hGr368, (by first | assumption | omega), (by first | omega | (simp only [List.length_drop]; omega)), (by show n - 1 < 256; omega)⟩, by (show n - 1 < n); omega⟩
 refine l_e rfl (fun K hK => ?_)
 have hS394 := hS363.fr2; clear hS363
 have hS395 := hS394.fr2; clear hS394
 refine e_callV (by kernel_rfl) rfl (take_no b4 b2 (rest.drop 1) (Bytes.drop hbr) (by first | omega | (simp only [zll] <;> omega)) true (1 : Int) (by first | exact .inl rfl | exact .inr (by omega)) _ _ (by omega) _ _ (St.rogB (Γ1 := [_, _]) hS395) hGr357 (St.begin (Γ := [_, _]) hS395)) rfl (after_M (Γ1 := [_, _]) hS395 (fun v393 G393 w393 hv393 hS393 => ?_))
 clear hS395
 obtain ⟨nb393, rfl, rfl⟩ := hv393
 have hS396 : St _ _ [_, _, .ow 5 1 (some ⟨nb393, 0, none⟩) 1 1 (bv [0]), _, _, _] _ := hS393; clear hS393
 refine hK _ _ ?_; clear hK K
 refine l_q rfl rfl (q_ixG (e := 5) (m := 1) (j := 0) rfl rfl (by kernel_rfl) (by kernel_rfl) (by first | rfl | omega) (by omega) (hS396.owG (i := 2) rfl) (by rw [bv_len]; first | omega | (simp only [zll] <;> omega))) ?_
 obtain ⟨x397, hx397⟩ : ∃ x, ([0])[0]? = some x := ⟨_, List.getElem?_eq_getElem (by first | omega | (simp only [zll] <;> omega) | (simp <;> omega))⟩
 have hb397 : x397 < 256 := (by decide : Bytes [0]) x397 (List.mem_of_getElem? hx397)
 refine l_q rfl rfl (q_load1 rfl (by kernel_rfl) (SlG.cell (hS396.owG (i := 2) rfl) (Gle.refl _) (at1 (bv_at hx397)))) ?_
 have hx0_397 : x397 = 0 := by simpa using hx397.symm
 refine l_q rfl rfl (q_convN (a := x397) rfl (by kernel_rfl) (by kernel_rfl) (wrap_fit_i64 (by omega))) ?_
 refine l_q rfl rfl (q_fieldAddr (ft := 2) (o := 1) rfl (by kernel_rfl)) ?_
 refine l_e rfl (fun K hK => ?_)
 refine e_store1 hS396 rfl rfl (by kernel_rfl) (by first | rfl | assumption) (i := 3) rfl rfl (fun w398 (hS398 : St _ _ [_, _, _, .blk b362 (.cells #[.int .i64 (x361 : Int), .int .i64 (x397 : Int), .string (bs [])] 106), _, _] _) => ?_)
 clear hS396
 refine hK _ _ ?_; clear hK K
 refine l_nil ?_
 refine hK364 _ _ ?_
 refine wp_seq_k (fun K399 hK399 => ?_)
 refine wp_region_lit ?_
 refine l_q rfl rfl (q_load1 rfl (by kernel_rfl) (hS398.cell (i := 0) rfl rfl)) ?_
 refine l_q rfl rfl (q_moveB rfl) ?_
 refine l_off rfl rfl rfl rfl ?_
 refine l_off rfl rfl rfl rfl ?_
 refine l_q rfl rfl (q_pickF rfl rfl rfl) ?_
 refine l_q rfl rfl (q_moveB rfl) ?_
 refine l_off rfl rfl rfl rfl ?_
 refine l_off rfl rfl rfl rfl ?_
 refine l_off rfl rfl rfl rfl ?_
 refine l_q rfl rfl (q_pickF rfl rfl rfl) ?_
 refine l_e rfl (fun K hK => ?_)
 refine e_store1 hS398 rfl rfl (by kernel_rfl) (by first | rfl | assumption) (i := 0) rfl rfl (fun w400 (hS400 : St _ _ [_, _, _, _, _, _] _) => ?_)
 clear hS398
 refine hK _ _ ?_; clear hK K
 refine l_nil ?_
 refine hK399 _ _ ?_
 refine wp_region_lit ?_
 refine l_q rfl rfl (q_moveS rfl) ?_
 refine l_q rfl rfl (q_loadA (m := 3) rfl (by kernel_rfl) (by kernel_rfl) (hS400.blk (i := 3) rfl) rfl rfl) ?_
 refine l_e rfl (fun K hK => ?_)
 refine e_buildSliceA (e := 106) (m := 3) (zv := .agg #[.int .i64 0, .int .i64 0, .string ⟨#[]⟩]) hS400 (by kernel_rfl) (by kernel_rfl) (by kernel_rfl) rfl rfl rfl rfl (fun b401 w401 (hS401 : St _ _ [.blk b401 (.cells #[.int .i64 (x361 : Int), .int .i64 (x397 : Int), .string (bs [])] 106), _, _, _, _, _, _] _) => ?_)
 clear hS400
 have hva : VOk ((x361 : Int), (x397 : Int), []) := vok_of Bytes.nil ⟨by omega, by omega⟩ ⟨by omega, by omega⟩
 have hS401o : St _ _ [.ow 106 3 (some ⟨b401, 0, none⟩) 1 1 (List.flatMap vl [((x361 : Int), (x397 : Int), [])]), _, _, _, _, _, _] _ := hS401.blkOw' (i := 0) (m := 1) (size := 3) (xs := List.flatMap vl [((x361 : Int), (x397 : Int), [])]) rfl rfl rfl (by decide); clear hS401
 refine hK _ _ ?_; clear hK K
 refine l_e rfl (fun K hK => ?_)
 refine e_app (e := 106) (size := 3) (bytes := 32) (i := 5) (m' := (l ++ [((x361 : Int), (x397 : Int), [])]).length) (by kernel_rfl) hS401o rfl rfl rfl (SlG.src (e := 106) (by kernel_rfl) (hS401o.owG (i := 0) rfl) ((rows_len (c := vl) (m := 3) (fun _ => rfl) _).trans (by first | rfl | (simp only [zll]; done) | (simp only [zll]; omega) | omega)) (by decide) (rows_one vl_ones)) (by first | omega | (simp only [zll] <;> omega)) rows_app (by first | omega | (simp only [maxLen, zll] <;> omega)) (by first | omega | (simp only [zll] <;> omega)) (fun ad402 cp402 w402 (hS402 : St _ _ [_, _, _, _, _, .ow 106 3 ad402 ((l ++ [((x361 : Int), (x397 : Int), [])]).length) cp402 (List.flatMap vl (l ++ [((x361 : Int), (x397 : Int), [])])), _] _) => ?_)
 clear hS401o
 refine hK _ _ ?_; clear hK K
 refine l_q rfl rfl (q_assignS rfl) ?_
 refine l_nil ?_
 refine hK355 _ _ ?_
 refine wp_region_lit ?_
 refine l_q rfl rfl (q_moveI rfl) ?_
 refine l_q rfl rfl (u_sub (a := n) (b := 1) rfl rfl rfl (by omega) (by show n < 256; omega)) ?_
 refine l_q rfl rfl (q_assignI rfl) ?_
 refine l_nil ?_
 have hS403 := hS402.fr6; clear hS402
 have hS404 := hS403.fr3; clear hS403
 have hS405 := hS404.fr3; clear hS404
 have hS406 := hS405.fr6; clear hS405
 have hS407 : St _ _ [_, _, _, _] _ := hS406.only 4; clear hS406
 refine hK350 _ _ (came (⟨(l ++ [((x361 : Int), (x397 : Int), [])]), (rest.drop 1), ra357, rc357, ad402, cp402, (n - 1), false⟩) (by repeat' (first | exact Agree.refl _ _ | refine Agree.up ?_ rfl | refine Agree.hav2 ?_ rfl | refine Agree.ups2 ?_ rfl)) (by repeat' (first | exact trivial | refine ⟨by first | rfl | assumption, ?_⟩)) ?_)
 have htk : TkR rest ((x361 : Int), (x397 : Int), []) (rest.drop 1) false := tkr1n hxh361 (by omega) hp1
 exact ⟨⟨hS407, RowI.next hI (by omega) hva htk rfl, hl.app (VsOk.one hva), (Bytes.drop hbr), hGr357, (by first | assumption | omega), (by first | omega | (simp only [List.length_drop]; omega)), (by show n - 1 < 256; omega)⟩, by (show n - 1 < n); omega⟩
 have hc367b := hc367
 try simp only [zbb] at hc367
 refine wp_seq_k (fun K408 hK408 => ?_)
 refine wp_seq_k (fun K409 hK409 => ?_)
 refine wp_region_lit ?_
 refine l_q rfl rfl (q_eql rfl rfl) ?_
 refine l_q rfl rfl (q_assignB rfl) ?_
 refine l_nil ?_
 refine hK409 _ _ ?_
 refine c_cond rfl (fun hc410 => ?_) (fun hc410 => ?_)
 have hc410b := hc410
 try simp only [zbb] at hc410
 refine wp_skip ?_
 refine hK408 _ _ ?_
 refine c_condT rfl hc410b ?_
 refine wp_region_lit ?_
 refine l_q rfl rfl (q_move rfl) ?_
 rcases long_or (rest.drop 1) with ⟨zz, q, hzr1, hzr2, hzq⟩ | hno
 have hBq : Bytes q := fun y hy => hbr y (List.mem_of_mem_drop (show y ∈ rest.drop 1 from by rw [hzq]; exact List.mem_append_right _ hy))
 have hqz := congrArg List.length hzq
 rw [List.length_append, List.length_drop] at hqz
 refine l_e rfl (fun K hK => ?_)
 have hS413 := hS363.fr4; clear hS363
 have hS414 := hS413.fr3; clear hS413
 have hS415 := hS414.fr3; clear hS414
 refine e_callV (by kernel_rfl) rfl (number_yes b4 b2 b7 (rest.drop 1) (Bytes.drop hbr) (by first | omega | (simp only [zll] <;> omega)) zz q hzr1 hzr2 hzq _ _ (by omega) _ _ (St.rogB (Γ1 := [_, _, _]) hS415) hGr357 (St.begin (Γ := [_, _, _]) hS415)) rfl (after_M (Γ1 := [_, _, _]) hS415 (fun v412 G412 w412 hv412 hS412 => ?_))
 clear hS415
 obtain ⟨ra412, rc412, rfl, rfl, hGr412, hrc412⟩ := hv412
 have hS416 : St _ _ [_, .blk b2 (.cells #[.slice ra412 q.length rc412] 58), _, _, _] _ := hS412; clear hS412
 refine hK _ _ ?_; clear hK K
 refine l_q rfl rfl (q_fieldAddr (ft := 2) (o := 1) rfl (by kernel_rfl)) ?_
 refine l_e rfl (fun K hK => ?_)
 refine e_store1 hS416 rfl rfl (by kernel_rfl) (by first | rfl | assumption) (i := 3) rfl rfl (fun w417 (hS417 : St _ _ [_, _, _, .blk b362 (.cells #[.int .i64 (x361 : Int), .int .i64 zz, .string (bs [])] 106), _] _) => ?_)
 clear hS416
 refine hK _ _ ?_; clear hK K
 refine l_nil ?_
 refine hK364 _ _ ?_
 refine wp_seq_k (fun K418 hK418 => ?_)
 refine wp_region_lit ?_
 refine l_q rfl rfl (q_load1 rfl (by kernel_rfl) (hS417.cell (i := 0) rfl rfl)) ?_
 refine l_q rfl rfl (q_moveB rfl) ?_
 refine l_on rfl rfl rfl ?_
 refine l_q rfl rfl (q_loadA (m := 3) rfl (by kernel_rfl) (by kernel_rfl) (hS417.blk (i := 3) rfl) rfl rfl) ?_
 refine l_on rfl rfl rfl ?_
 refine l_e rfl (fun K hK => ?_)
 refine e_call (by kernel_rfl) (right_ok ((x361 : Int), zz, []) Bytes.nil _) rfl (after_R hS417 (fun v419 w419 hv419 hS419 => ?_))
 clear hS417
 obtain rfl := hv419
 refine hK _ _ ?_; clear hK K
 refine l_q rfl rfl (q_pickT rfl rfl rfl) ?_
 refine l_q rfl rfl (q_moveB rfl) ?_
 refine g_splitL (t := 59) rfl (fun hg420 => ?_) (fun hg420 => ?_)
 have hg420b := hg420
 try simp only [zbb] at hg420
 have hrt := hg420
 refine l_on rfl rfl hg420b ?_
 refine l_q rfl rfl (q_moveS rfl) ?_
 refine l_on rfl rfl hg420b ?_
 refine l_q rfl rfl (q_lenSl (e := 106) rfl (by kernel_rfl)) ?_
 refine l_on rfl rfl hg420b ?_
 refine l_q rfl rfl (q_lss rfl rfl) ?_
 refine l_q rfl rfl (q_pickT rfl hg420b rfl) ?_
 refine l_e rfl (fun K hK => ?_)
 refine e_store1 hS419 rfl rfl (by kernel_rfl) (by first | rfl | assumption) (i := 0) rfl rfl (fun w421 (hS421 : St _ _ [_, _, _, _, _] _) => ?_)
 clear hS419
 refine hK _ _ ?_; clear hK K
 refine l_nil ?_
 refine hK418 _ _ ?_
 refine wp_region_lit ?_
 refine l_q rfl rfl (q_moveS rfl) ?_
 refine l_q rfl rfl (q_loadA (m := 3) rfl (by kernel_rfl) (by kernel_rfl) (hS421.blk (i := 3) rfl) rfl rfl) ?_
 refine l_e rfl (fun K hK => ?_)
 refine e_buildSliceA (e := 106) (m := 3) (zv := .agg #[.int .i64 0, .int .i64 0, .string ⟨#[]⟩]) hS421 (by kernel_rfl) (by kernel_rfl) (by kernel_rfl) rfl rfl rfl rfl (fun b422 w422 (hS422 : St _ _ [.blk b422 (.cells #[.int .i64 (x361 : Int), .int .i64 zz, .string (bs [])] 106), _, _, _, _, _] _) => ?_)
 clear hS421
 have hva : VOk ((x361 : Int), zz, []) := vok_of Bytes.nil ⟨by omega, by omega⟩ ⟨by omega, by omega⟩
 have hS422o : St _ _ [.ow 106 3 (some ⟨b422, 0, none⟩) 1 1 (List.flatMap vl [((x361 : Int), zz, [])]), _, _, _, _, _] _ := hS422.blkOw' (i := 0) (m := 1) (size := 3) (xs := List.flatMap vl [((x361 : Int), zz, [])]) rfl rfl rfl (by decide); clear hS422
 refine hK _ _ ?_; clear hK K
 refine l_e rfl (fun K hK => ?_)
 refine e_app (e := 106) (size := 3) (bytes := 32) (i := 5) (m' := (l ++ [((x361 : Int), zz, [])]).length) (by kernel_rfl) hS422o rfl rfl rfl (SlG.src (e := 106) (by kernel_rfl) (hS422o.owG (i := 0) rfl) ((rows_len (c := vl) (m := 3) (fun _ => rfl) _).trans (by first | rfl | (simp only [zll]; done) | (simp only [zll]; omega) | omega)) (by decide) (rows_one vl_ones)) (by first | omega | (simp only [zll] <;> omega)) rows_app (by first | omega | (simp only [maxLen, zll] <;> omega)) (by first | omega | (simp only [zll] <;> omega)) (fun ad423 cp423 w423 (hS423 : St _ _ [_, _, _, _, _, .ow 106 3 ad423 ((l ++ [((x361 : Int), zz, [])]).length) cp423 (List.flatMap vl (l ++ [((x361 : Int), zz, [])]))] _) => ?_)
 clear hS422o
 refine hK _ _ ?_; clear hK K
 refine l_q rfl rfl (q_assignS rfl) ?_
 refine l_nil ?_
 refine hK355 _ _ ?_
 refine wp_region_lit ?_
 refine l_q rfl rfl (q_moveI rfl) ?_
 refine l_q rfl rfl (u_sub (a := n) (b := 1) rfl rfl rfl (by omega) (by show n < 256; omega)) ?_
 refine l_q rfl rfl (q_assignI rfl) ?_
 refine l_nil ?_
 have hS424 := hS423.fr3; clear hS423
 have hS425 := hS424.fr3; clear hS424
 have hS426 := hS425.fr3; clear hS425
 have hS427 := hS426.fr5; clear hS426
 have hS428 : St _ _ [_, _, _, _] _ := hS427.only 4; clear hS427
 refine hK350 _ _ (came (⟨(l ++ [((x361 : Int), zz, [])]), q, ra412, rc412, ad423, cp423, (n - 1), (decide ((l.length : Int) < 16))⟩) (by repeat' (first | exact Agree.refl _ _ | refine Agree.up ?_ rfl | refine Agree.hav2 ?_ rfl | refine Agree.ups2 ?_ rfl)) (by repeat' (first | exact trivial | refine ⟨by first | rfl | assumption, ?_⟩)) ?_)
 have htk : TkR rest ((x361 : Int), zz, []) q (rightB ((x361 : Int), zz, [])) := tkr2 hxh361 (by omega) hzq
 exact ⟨⟨hS428, RowI.next hI (by omega) hva htk (by rw [hrt, Bool.true_and]), hl.app (VsOk.one hva), (hBq), hGr412, (by first | assumption | omega), (by first | omega | (simp only [List.length_drop]; omega)), (by show n - 1 < 256; omega)⟩, by (show n - 1 < n); omega⟩
 have hg420b := hg420
 try simp only [zbb] at hg420
 have hrt := hg420
 refine l_off rfl rfl rfl hg420b ?_
 refine l_off rfl rfl rfl hg420b ?_
 refine l_off rfl rfl rfl hg420b ?_
 refine l_q rfl rfl (q_pickF rfl hg420b rfl) ?_
 refine l_e rfl (fun K hK => ?_)
 refine e_store1 hS419 rfl rfl (by kernel_rfl) (by first | rfl | assumption) (i := 0) rfl rfl (fun w429 (hS429 : St _ _ [_, _, _, _, _] _) => ?_)
 clear hS419
 refine hK _ _ ?_; clear hK K
 refine l_nil ?_
 refine hK418 _ _ ?_
 refine wp_region_lit ?_
 refine l_q rfl rfl (q_moveS rfl) ?_
 refine l_q rfl rfl (q_loadA (m := 3) rfl (by kernel_rfl) (by kernel_rfl) (hS429.blk (i := 3) rfl) rfl rfl) ?_
 refine l_e rfl (fun K hK => ?_)
 refine e_buildSliceA (e := 106) (m := 3) (zv := .agg #[.int .i64 0, .int .i64 0, .string ⟨#[]⟩]) hS429 (by kernel_rfl) (by kernel_rfl) (by kernel_rfl) rfl rfl rfl rfl (fun b430 w430 (hS430 : St _ _ [.blk b430 (.cells #[.int .i64 (x361 : Int), .int .i64 zz, .string (bs [])] 106), _, _, _, _, _] _) => ?_)
 clear hS429
 have hva : VOk ((x361 : Int), zz, []) := vok_of Bytes.nil ⟨by omega, by omega⟩ ⟨by omega, by omega⟩
 have hS430o : St _ _ [.ow 106 3 (some ⟨b430, 0, none⟩) 1 1 (List.flatMap vl [((x361 : Int), zz, [])]), _, _, _, _, _] _ := hS430.blkOw' (i := 0) (m := 1) (size := 3) (xs := List.flatMap vl [((x361 : Int), zz, [])]) rfl rfl rfl (by decide); clear hS430
 refine hK _ _ ?_; clear hK K
 refine l_e rfl (fun K hK => ?_)
 refine e_app (e := 106) (size := 3) (bytes := 32) (i := 5) (m' := (l ++ [((x361 : Int), zz, [])]).length) (by kernel_rfl) hS430o rfl rfl rfl (SlG.src (e := 106) (by kernel_rfl) (hS430o.owG (i := 0) rfl) ((rows_len (c := vl) (m := 3) (fun _ => rfl) _).trans (by first | rfl | (simp only [zll]; done) | (simp only [zll]; omega) | omega)) (by decide) (rows_one vl_ones)) (by first | omega | (simp only [zll] <;> omega)) rows_app (by first | omega | (simp only [maxLen, zll] <;> omega)) (by first | omega | (simp only [zll] <;> omega)) (fun ad431 cp431 w431 (hS431 : St _ _ [_, _, _, _, _, .ow 106 3 ad431 ((l ++ [((x361 : Int), zz, [])]).length) cp431 (List.flatMap vl (l ++ [((x361 : Int), zz, [])]))] _) => ?_)
 clear hS430o
 refine hK _ _ ?_; clear hK K
 refine l_q rfl rfl (q_assignS rfl) ?_
 refine l_nil ?_
 refine hK355 _ _ ?_
 refine wp_region_lit ?_
 refine l_q rfl rfl (q_moveI rfl) ?_
 refine l_q rfl rfl (u_sub (a := n) (b := 1) rfl rfl rfl (by omega) (by show n < 256; omega)) ?_
 refine l_q rfl rfl (q_assignI rfl) ?_
 refine l_nil ?_
 have hS432 := hS431.fr3; clear hS431
 have hS433 := hS432.fr3; clear hS432
 have hS434 := hS433.fr3; clear hS433
 have hS435 := hS434.fr5; clear hS434
 have hS436 : St _ _ [_, _, _, _] _ := hS435.only 4; clear hS435
 refine hK350 _ _ (came (⟨(l ++ [((x361 : Int), zz, [])]), q, ra412, rc412, ad431, cp431, (n - 1), false⟩) (by repeat' (first | exact Agree.refl _ _ | refine Agree.up ?_ rfl | refine Agree.hav2 ?_ rfl | refine Agree.ups2 ?_ rfl)) (by repeat' (first | exact trivial | refine ⟨by first | rfl | assumption, ?_⟩)) ?_)
 have htk : TkR rest ((x361 : Int), zz, []) q (rightB ((x361 : Int), zz, [])) := tkr2 hxh361 (by omega) hzq
 exact ⟨⟨hS436, RowI.next hI (by omega) hva htk (by rw [hrt, Bool.false_and]), hl.app (VsOk.one hva), (hBq), hGr412, (by first | assumption | omega), (by first | omega | (simp only [List.length_drop]; omega)), (by show n - 1 < 256; omega)⟩, by (show n - 1 < n); omega⟩
 refine l_e rfl (fun K hK => ?_)
 have hS438 := hS363.fr4; clear hS363
 have hS439 := hS438.fr3; clear hS438
 have hS440 := hS439.fr3; clear hS439
 refine e_callV (by kernel_rfl) rfl (number_no b4 b2 b7 (rest.drop 1) (Bytes.drop hbr) (by first | omega | (simp only [zll] <;> omega)) hno _ _ (by omega) _ _ (St.rogB (Γ1 := [_, _, _]) hS440) hGr357 (St.begin (Γ := [_, _, _]) hS440)) rfl (after_M (Γ1 := [_, _, _]) hS440 (fun v437 G437 w437 hv437 hS437 => ?_))
 clear hS440
 obtain ⟨rfl, rfl⟩ := hv437
 have hS441 : St _ _ [_, _, _, _, _] _ := hS437; clear hS437
 refine hK _ _ ?_; clear hK K
 refine l_q rfl rfl (q_fieldAddr (ft := 2) (o := 1) rfl (by kernel_rfl)) ?_
 refine l_e rfl (fun K hK => ?_)
 refine e_store1 hS441 rfl rfl (by kernel_rfl) (by first | rfl | assumption) (i := 3) rfl rfl (fun w442 (hS442 : St _ _ [_, _, _, _, _] _) => ?_)
 clear hS441
 refine hK _ _ ?_; clear hK K
 refine l_nil ?_
 refine hK364 _ _ ?_
 refine wp_seq_k (fun K443 hK443 => ?_)
 refine wp_region_lit ?_
 refine l_q rfl rfl (q_load1 rfl (by kernel_rfl) (hS442.cell (i := 0) rfl rfl)) ?_
 refine l_q rfl rfl (q_moveB rfl) ?_
 refine l_off rfl rfl rfl rfl ?_
 refine l_off rfl rfl rfl rfl ?_
 refine l_q rfl rfl (q_pickF rfl rfl rfl) ?_
 refine l_q rfl rfl (q_moveB rfl) ?_
 refine l_off rfl rfl rfl rfl ?_
 refine l_off rfl rfl rfl rfl ?_
 refine l_off rfl rfl rfl rfl ?_
 refine l_q rfl rfl (q_pickF rfl rfl rfl) ?_
 refine l_e rfl (fun K hK => ?_)
 refine e_store1 hS442 rfl rfl (by kernel_rfl) (by first | rfl | assumption) (i := 0) rfl rfl (fun w444 (hS444 : St _ _ [_, _, _, _, _] _) => ?_)
 clear hS442
 refine hK _ _ ?_; clear hK K
 refine l_nil ?_
 refine hK443 _ _ ?_
 refine wp_region_lit ?_
 refine l_q rfl rfl (q_moveS rfl) ?_
 refine l_q rfl rfl (q_loadA (m := 3) rfl (by kernel_rfl) (by kernel_rfl) (hS444.blk (i := 3) rfl) rfl rfl) ?_
 refine l_e rfl (fun K hK => ?_)
 refine e_buildSliceA (e := 106) (m := 3) (zv := .agg #[.int .i64 0, .int .i64 0, .string ⟨#[]⟩]) hS444 (by kernel_rfl) (by kernel_rfl) (by kernel_rfl) rfl rfl rfl rfl (fun b445 w445 (hS445 : St _ _ [.blk b445 (.cells #[.int .i64 (x361 : Int), .int .i64 (0 : Int), .string (bs [])] 106), _, _, _, _, _] _) => ?_)
 clear hS444
 have hva : VOk ((x361 : Int), (0 : Int), []) := vok_of Bytes.nil ⟨by omega, by omega⟩ ⟨by omega, by omega⟩
 have hS445o : St _ _ [.ow 106 3 (some ⟨b445, 0, none⟩) 1 1 (List.flatMap vl [((x361 : Int), (0 : Int), [])]), _, _, _, _, _] _ := hS445.blkOw' (i := 0) (m := 1) (size := 3) (xs := List.flatMap vl [((x361 : Int), (0 : Int), [])]) rfl rfl rfl (by decide); clear hS445
 refine hK _ _ ?_; clear hK K
 refine l_e rfl (fun K hK => ?_)
 refine e_app (e := 106) (size := 3) (bytes := 32) (i := 5) (m' := (l ++ [((x361 : Int), (0 : Int), [])]).length) (by kernel_rfl) hS445o rfl rfl rfl (SlG.src (e := 106) (by kernel_rfl) (hS445o.owG (i := 0) rfl) ((rows_len (c := vl) (m := 3) (fun _ => rfl) _).trans (by first | rfl | (simp only [zll]; done) | (simp only [zll]; omega) | omega)) (by decide) (rows_one vl_ones)) (by first | omega | (simp only [zll] <;> omega)) rows_app (by first | omega | (simp only [maxLen, zll] <;> omega)) (by first | omega | (simp only [zll] <;> omega)) (fun ad446 cp446 w446 (hS446 : St _ _ [_, _, _, _, _, .ow 106 3 ad446 ((l ++ [((x361 : Int), (0 : Int), [])]).length) cp446 (List.flatMap vl (l ++ [((x361 : Int), (0 : Int), [])]))] _) => ?_)
 clear hS445o
 refine hK _ _ ?_; clear hK K
 refine l_q rfl rfl (q_assignS rfl) ?_
 refine l_nil ?_
 refine hK355 _ _ ?_
 refine wp_region_lit ?_
 refine l_q rfl rfl (q_moveI rfl) ?_
 refine l_q rfl rfl (u_sub (a := n) (b := 1) rfl rfl rfl (by omega) (by show n < 256; omega)) ?_
 refine l_q rfl rfl (q_assignI rfl) ?_
 refine l_nil ?_
 have hS447 := hS446.fr3; clear hS446
 have hS448 := hS447.fr3; clear hS447
 have hS449 := hS448.fr3; clear hS448
 have hS450 := hS449.fr5; clear hS449
 have hS451 : St _ _ [_, _, _, _] _ := hS450.only 4; clear hS450
 refine hK350 _ _ (came (⟨(l ++ [((x361 : Int), (0 : Int), [])]), (rest.drop 1), ra357, rc357, ad446, cp446, (n - 1), false⟩) (by repeat' (first | exact Agree.refl _ _ | refine Agree.up ?_ rfl | refine Agree.hav2 ?_ rfl | refine Agree.ups2 ?_ rfl)) (by repeat' (first | exact trivial | refine ⟨by first | rfl | assumption, ?_⟩)) ?_)
 have htk : TkR rest ((x361 : Int), (0 : Int), []) (rest.drop 1) false := tkr_no (noval_num hxh361 (by omega) hno)
 exact ⟨⟨hS451, RowI.next hI (by omega) hva htk rfl, hl.app (VsOk.one hva), (Bytes.drop hbr), hGr357, (by first | assumption | omega), (by first | omega | (simp only [List.length_drop]; omega)), (by show n - 1 < 256; omega)⟩, by (show n - 1 < n); omega⟩
 have hc410b := hc410
 try simp only [zbb] at hc410
 refine wp_region_lit ?_
 refine l_q rfl rfl (q_eql rfl rfl) ?_
 refine l_q rfl rfl (q_assignB rfl) ?_
 refine l_nil ?_
 refine hK408 _ _ ?_
 refine c_cond rfl (fun hc452 => ?_) (fun hc452 => ?_)
 have hc452b := hc452
 try simp only [zbb] at hc452
 refine wp_region_lit ?_
 refine l_q rfl rfl (q_move rfl) ?_
 rcases long_or (rest.drop 1) with ⟨zz, q, hzr1, hzr2, hzq⟩ | hno
 have hBq : Bytes q := fun y hy => hbr y (List.mem_of_mem_drop (show y ∈ rest.drop 1 from by rw [hzq]; exact List.mem_append_right _ hy))
 have hqz := congrArg List.length hzq
 rw [List.length_append, List.length_drop] at hqz
 refine l_e rfl (fun K hK => ?_)
 have hS454 := hS363.fr4; clear hS363
 have hS455 := hS454.fr3; clear hS454
 have hS456 := hS455.fr3; clear hS455
 refine e_callV (by kernel_rfl) rfl (number_yes b4 b2 b7 (rest.drop 1) (Bytes.drop hbr) (by first | omega | (simp only [zll] <;> omega)) zz q hzr1 hzr2 hzq _ _ (by omega) _ _ (St.rogB (Γ1 := [_, _, _]) hS456) hGr357 (St.begin (Γ := [_, _, _]) hS456)) rfl (after_M (Γ1 := [_, _, _]) hS456 (fun v453 G453 w453 hv453 hS453 => ?_))
 clear hS456
 obtain ⟨ra453, rc453, rfl, rfl, hGr453, hrc453⟩ := hv453
 have hS457 : St _ _ [_, .blk b2 (.cells #[.slice ra453 q.length rc453] 58), _, _, _] _ := hS453; clear hS453
 refine hK _ _ ?_; clear hK K
 refine l_q rfl rfl (q_fieldAddr (ft := 2) (o := 1) rfl (by kernel_rfl)) ?_
 refine l_e rfl (fun K hK => ?_)
 refine e_store1 hS457 rfl rfl (by kernel_rfl) (by first | rfl | assumption) (i := 3) rfl rfl (fun w458 (hS458 : St _ _ [_, _, _, _, _] _) => ?_)
 clear hS457
 refine hK _ _ ?_; clear hK K
 refine l_nil ?_
 refine hK364 _ _ ?_
 refine wp_seq_k (fun K459 hK459 => ?_)
 refine wp_region_lit ?_
 refine l_q rfl rfl (q_load1 rfl (by kernel_rfl) (hS458.cell (i := 0) rfl rfl)) ?_
 refine l_q rfl rfl (q_moveB rfl) ?_
 refine l_on rfl rfl rfl ?_
 refine l_q rfl rfl (q_loadA (m := 3) rfl (by kernel_rfl) (by kernel_rfl) (hS458.blk (i := 3) rfl) rfl rfl) ?_
 refine l_on rfl rfl rfl ?_
 refine l_e rfl (fun K hK => ?_)
 refine e_call (by kernel_rfl) (right_ok ((x361 : Int), zz, []) Bytes.nil _) rfl (after_R hS458 (fun v460 w460 hv460 hS460 => ?_))
 clear hS458
 obtain rfl := hv460
 refine hK _ _ ?_; clear hK K
 refine l_q rfl rfl (q_pickT rfl rfl rfl) ?_
 refine l_q rfl rfl (q_moveB rfl) ?_
 refine g_splitL (t := 59) rfl (fun hg461 => ?_) (fun hg461 => ?_)
 have hg461b := hg461
 try simp only [zbb] at hg461
 have hrt := hg461
 refine l_on rfl rfl hg461b ?_
 refine l_q rfl rfl (q_moveS rfl) ?_
 refine l_on rfl rfl hg461b ?_
 refine l_q rfl rfl (q_lenSl (e := 106) rfl (by kernel_rfl)) ?_
 refine l_on rfl rfl hg461b ?_
 refine l_q rfl rfl (q_lss rfl rfl) ?_
 refine l_q rfl rfl (q_pickT rfl hg461b rfl) ?_
 refine l_e rfl (fun K hK => ?_)
 refine e_store1 hS460 rfl rfl (by kernel_rfl) (by first | rfl | assumption) (i := 0) rfl rfl (fun w462 (hS462 : St _ _ [_, _, _, _, _] _) => ?_)
 clear hS460
 refine hK _ _ ?_; clear hK K
 refine l_nil ?_
 refine hK459 _ _ ?_
 refine wp_region_lit ?_
 refine l_q rfl rfl (q_moveS rfl) ?_
 refine l_q rfl rfl (q_loadA (m := 3) rfl (by kernel_rfl) (by kernel_rfl) (hS462.blk (i := 3) rfl) rfl rfl) ?_
 refine l_e rfl (fun K hK => ?_)
 refine e_buildSliceA (e := 106) (m := 3) (zv := .agg #[.int .i64 0, .int .i64 0, .string ⟨#[]⟩]) hS462 (by kernel_rfl) (by kernel_rfl) (by kernel_rfl) rfl rfl rfl rfl (fun b463 w463 (hS463 : St _ _ [.blk b463 (.cells #[.int .i64 (x361 : Int), .int .i64 zz, .string (bs [])] 106), _, _, _, _, _] _) => ?_)
 clear hS462
 have hva : VOk ((x361 : Int), zz, []) := vok_of Bytes.nil ⟨by omega, by omega⟩ ⟨by omega, by omega⟩
 have hS463o : St _ _ [.ow 106 3 (some ⟨b463, 0, none⟩) 1 1 (List.flatMap vl [((x361 : Int), zz, [])]), _, _, _, _, _] _ := hS463.blkOw' (i := 0) (m := 1) (size := 3) (xs := List.flatMap vl [((x361 : Int), zz, [])]) rfl rfl rfl (by decide); clear hS463
 refine hK _ _ ?_; clear hK K
 refine l_e rfl (fun K hK => ?_)
 refine e_app (e := 106) (size := 3) (bytes := 32) (i := 5) (m' := (l ++ [((x361 : Int), zz, [])]).length) (by kernel_rfl) hS463o rfl rfl rfl (SlG.src (e := 106) (by kernel_rfl) (hS463o.owG (i := 0) rfl) ((rows_len (c := vl) (m := 3) (fun _ => rfl) _).trans (by first | rfl | (simp only [zll]; done) | (simp only [zll]; omega) | omega)) (by decide) (rows_one vl_ones)) (by first | omega | (simp only [zll] <;> omega)) rows_app (by first | omega | (simp only [maxLen, zll] <;> omega)) (by first | omega | (simp only [zll] <;> omega)) (fun ad464 cp464 w464 (hS464 : St _ _ [_, _, _, _, _, .ow 106 3 ad464 ((l ++ [((x361 : Int), zz, [])]).length) cp464 (List.flatMap vl (l ++ [((x361 : Int), zz, [])]))] _) => ?_)
 clear hS463o
 refine hK _ _ ?_; clear hK K
 refine l_q rfl rfl (q_assignS rfl) ?_
 refine l_nil ?_
 refine hK355 _ _ ?_
 refine wp_region_lit ?_
 refine l_q rfl rfl (q_moveI rfl) ?_
 refine l_q rfl rfl (u_sub (a := n) (b := 1) rfl rfl rfl (by omega) (by show n < 256; omega)) ?_
 refine l_q rfl rfl (q_assignI rfl) ?_
 refine l_nil ?_
 have hS465 := hS464.fr3; clear hS464
 have hS466 := hS465.fr3; clear hS465
 have hS467 := hS466.fr3; clear hS466
 have hS468 := hS467.fr5; clear hS467
 have hS469 : St _ _ [_, _, _, _] _ := hS468.only 4; clear hS468
 refine hK350 _ _ (came (⟨(l ++ [((x361 : Int), zz, [])]), q, ra453, rc453, ad464, cp464, (n - 1), (decide ((l.length : Int) < 16))⟩) (by repeat' (first | exact Agree.refl _ _ | refine Agree.up ?_ rfl | refine Agree.hav2 ?_ rfl | refine Agree.ups2 ?_ rfl)) (by repeat' (first | exact trivial | refine ⟨by first | rfl | assumption, ?_⟩)) ?_)
 have htk : TkR rest ((x361 : Int), zz, []) q (rightB ((x361 : Int), zz, [])) := tkr2 hxh361 (by omega) hzq
 exact ⟨⟨hS469, RowI.next hI (by omega) hva htk (by rw [hrt, Bool.true_and]), hl.app (VsOk.one hva), (hBq), hGr453, (by first | assumption | omega), (by first | omega | (simp only [List.length_drop]; omega)), (by show n - 1 < 256; omega)⟩, by (show n - 1 < n); omega⟩
 have hg461b := hg461
 try simp only [zbb] at hg461
 have hrt := hg461
 refine l_off rfl rfl rfl hg461b ?_
 refine l_off rfl rfl rfl hg461b ?_
 refine l_off rfl rfl rfl hg461b ?_
 refine l_q rfl rfl (q_pickF rfl hg461b rfl) ?_
 refine l_e rfl (fun K hK => ?_)
 refine e_store1 hS460 rfl rfl (by kernel_rfl) (by first | rfl | assumption) (i := 0) rfl rfl (fun w470 (hS470 : St _ _ [_, _, _, _, _] _) => ?_)
 clear hS460
 refine hK _ _ ?_; clear hK K
 refine l_nil ?_
 refine hK459 _ _ ?_
 refine wp_region_lit ?_
 refine l_q rfl rfl (q_moveS rfl) ?_
 refine l_q rfl rfl (q_loadA (m := 3) rfl (by kernel_rfl) (by kernel_rfl) (hS470.blk (i := 3) rfl) rfl rfl) ?_
 refine l_e rfl (fun K hK => ?_)
 refine e_buildSliceA (e := 106) (m := 3) (zv := .agg #[.int .i64 0, .int .i64 0, .string ⟨#[]⟩]) hS470 (by kernel_rfl) (by kernel_rfl) (by kernel_rfl) rfl rfl rfl rfl (fun b471 w471 (hS471 : St _ _ [.blk b471 (.cells #[.int .i64 (x361 : Int), .int .i64 zz, .string (bs [])] 106), _, _, _, _, _] _) => ?_)
 clear hS470
 have hva : VOk ((x361 : Int), zz, []) := vok_of Bytes.nil ⟨by omega, by omega⟩ ⟨by omega, by omega⟩
 have hS471o : St _ _ [.ow 106 3 (some ⟨b471, 0, none⟩) 1 1 (List.flatMap vl [((x361 : Int), zz, [])]), _, _, _, _, _] _ := hS471.blkOw' (i := 0) (m := 1) (size := 3) (xs := List.flatMap vl [((x361 : Int), zz, [])]) rfl rfl rfl (by decide); clear hS471
 refine hK _ _ ?_; clear hK K
 refine l_e rfl (fun K hK => ?_)
 refine e_app (e := 106) (size := 3) (bytes := 32) (i := 5) (m' := (l ++ [((x361 : Int), zz, [])]).length) (by kernel_rfl) hS471o rfl rfl rfl (SlG.src (e := 106) (by kernel_rfl) (hS471o.owG (i := 0) rfl) ((rows_len (c := vl) (m := 3) (fun _ => rfl) _).trans (by first | rfl | (simp only [zll]; done) | (simp only [zll]; omega) | omega)) (by decide) (rows_one vl_ones)) (by first | omega | (simp only [zll] <;> omega)) rows_app (by first | omega | (simp only [maxLen, zll] <;> omega)) (by first | omega | (simp only [zll] <;> omega)) (fun ad472 cp472 w472 (hS472 : St _ _ [_, _, _, _, _, .ow 106 3 ad472 ((l ++ [((x361 : Int), zz, [])]).length) cp472 (List.flatMap vl (l ++ [((x361 : Int), zz, [])]))] _) => ?_)
 clear hS471o
 refine hK _ _ ?_; clear hK K
 refine l_q rfl rfl (q_assignS rfl) ?_
 refine l_nil ?_
 refine hK355 _ _ ?_
 refine wp_region_lit ?_
 refine l_q rfl rfl (q_moveI rfl) ?_
 refine l_q rfl rfl (u_sub (a := n) (b := 1) rfl rfl rfl (by omega) (by show n < 256; omega)) ?_
 refine l_q rfl rfl (q_assignI rfl) ?_
 refine l_nil ?_
 have hS473 := hS472.fr3; clear hS472
 have hS474 := hS473.fr3; clear hS473
 have hS475 := hS474.fr3; clear hS474
 have hS476 := hS475.fr5; clear hS475
 have hS477 : St _ _ [_, _, _, _] _ := hS476.only 4; clear hS476
 refine hK350 _ _ (came (⟨(l ++ [((x361 : Int), zz, [])]), q, ra453, rc453, ad472, cp472, (n - 1), false⟩) (by repeat' (first | exact Agree.refl _ _ | refine Agree.up ?_ rfl | refine Agree.hav2 ?_ rfl | refine Agree.ups2 ?_ rfl)) (by repeat' (first | exact trivial | refine ⟨by first | rfl | assumption, ?_⟩)) ?_)
 have htk : TkR rest ((x361 : Int), zz, []) q (rightB ((x361 : Int), zz, [])) := tkr2 hxh361 (by omega) hzq
 exact ⟨⟨hS477, RowI.next hI (by omega) hva htk (by rw [hrt, Bool.false_and]), hl.app (VsOk.one hva), (hBq), hGr453, (by first | assumption | omega), (by first | omega | (simp only [List.length_drop]; omega)), (by show n - 1 < 256; omega)⟩, by (show n - 1 < n); omega⟩
 refine l_e rfl (fun K hK => ?_)
 have hS479 := hS363.fr4; clear hS363
 have hS480 := hS479.fr3; clear hS479
 have hS481 := hS480.fr3; clear hS480
 refine e_callV (by kernel_rfl) rfl (number_no b4 b2 b7 (rest.drop 1) (Bytes.drop hbr) (by first | omega | (simp only [zll] <;> omega)) hno _ _ (by omega) _ _ (St.rogB (Γ1 := [_, _, _]) hS481) hGr357 (St.begin (Γ := [_, _, _]) hS481)) rfl (after_M (Γ1 := [_, _, _]) hS481 (fun v478 G478 w478 hv478 hS478 => ?_))
 clear hS481
 obtain ⟨rfl, rfl⟩ := hv478
 have hS482 : St _ _ [_, _, _, _, _] _ := hS478; clear hS478
 refine hK _ _ ?_; clear hK K
 refine l_q rfl rfl (q_fieldAddr (ft := 2) (o := 1) rfl (by kernel_rfl)) ?_
 refine l_e rfl (fun K hK => ?_)
 refine e_store1 hS482 rfl rfl (by kernel_rfl) (by first | rfl | assumption) (i := 3) rfl rfl (fun w483 (hS483 : St _ _ [_, _, _, _, _] _) => ?_)
 clear hS482
 refine hK _ _ ?_; clear hK K
 refine l_nil ?_
 refine hK364 _ _ ?_
 refine wp_seq_k (fun K484 hK484 => ?_)
 refine wp_region_lit ?_
 refine l_q rfl rfl (q_load1 rfl (by kernel_rfl) (hS483.cell (i := 0) rfl rfl)) ?_
 refine l_q rfl rfl (q_moveB rfl) ?_
 refine l_off rfl rfl rfl rfl ?_
 refine l_off rfl rfl rfl rfl ?_
 refine l_q rfl rfl (q_pickF rfl rfl rfl) ?_
 refine l_q rfl rfl (q_moveB rfl) ?_
 refine l_off rfl rfl rfl rfl ?_
 refine l_off rfl rfl rfl rfl ?_
 refine l_off rfl rfl rfl rfl ?_
 refine l_q rfl rfl (q_pickF rfl rfl rfl) ?_
 refine l_e rfl (fun K hK => ?_)
 refine e_store1 hS483 rfl rfl (by kernel_rfl) (by first | rfl | assumption) (i := 0) rfl rfl (fun w485 (hS485 : St _ _ [_, _, _, _, _] _) => ?_)
 clear hS483
 refine hK _ _ ?_; clear hK K
 refine l_nil ?_
 refine hK484 _ _ ?_
 refine wp_region_lit ?_
 refine l_q rfl rfl (q_moveS rfl) ?_
 refine l_q rfl rfl (q_loadA (m := 3) rfl (by kernel_rfl) (by kernel_rfl) (hS485.blk (i := 3) rfl) rfl rfl) ?_
 refine l_e rfl (fun K hK => ?_)
 refine e_buildSliceA (e := 106) (m := 3) (zv := .agg #[.int .i64 0, .int .i64 0, .string ⟨#[]⟩]) hS485 (by kernel_rfl) (by kernel_rfl) (by kernel_rfl) rfl rfl rfl rfl (fun b486 w486 (hS486 : St _ _ [.blk b486 (.cells #[.int .i64 (x361 : Int), .int .i64 (0 : Int), .string (bs [])] 106), _, _, _, _, _] _) => ?_)
 clear hS485
 have hva : VOk ((x361 : Int), (0 : Int), []) := vok_of Bytes.nil ⟨by omega, by omega⟩ ⟨by omega, by omega⟩
 have hS486o : St _ _ [.ow 106 3 (some ⟨b486, 0, none⟩) 1 1 (List.flatMap vl [((x361 : Int), (0 : Int), [])]), _, _, _, _, _] _ := hS486.blkOw' (i := 0) (m := 1) (size := 3) (xs := List.flatMap vl [((x361 : Int), (0 : Int), [])]) rfl rfl rfl (by decide); clear hS486
 refine hK _ _ ?_; clear hK K
 refine l_e rfl (fun K hK => ?_)
 refine e_app (e := 106) (size := 3) (bytes := 32) (i := 5) (m' := (l ++ [((x361 : Int), (0 : Int), [])]).length) (by kernel_rfl) hS486o rfl rfl rfl (SlG.src (e := 106) (by kernel_rfl) (hS486o.owG (i := 0) rfl) ((rows_len (c := vl) (m := 3) (fun _ => rfl) _).trans (by first | rfl | (simp only [zll]; done) | (simp only [zll]; omega) | omega)) (by decide) (rows_one vl_ones)) (by first | omega | (simp only [zll] <;> omega)) rows_app (by first | omega | (simp only [maxLen, zll] <;> omega)) (by first | omega | (simp only [zll] <;> omega)) (fun ad487 cp487 w487 (hS487 : St _ _ [_, _, _, _, _, .ow 106 3 ad487 ((l ++ [((x361 : Int), (0 : Int), [])]).length) cp487 (List.flatMap vl (l ++ [((x361 : Int), (0 : Int), [])]))] _) => ?_)
 clear hS486o
 refine hK _ _ ?_; clear hK K
 refine l_q rfl rfl (q_assignS rfl) ?_
 refine l_nil ?_
 refine hK355 _ _ ?_
 refine wp_region_lit ?_
 refine l_q rfl rfl (q_moveI rfl) ?_
 refine l_q rfl rfl (u_sub (a := n) (b := 1) rfl rfl rfl (by omega) (by show n < 256; omega)) ?_
 refine l_q rfl rfl (q_assignI rfl) ?_
 refine l_nil ?_
 have hS488 := hS487.fr3; clear hS487
 have hS489 := hS488.fr3; clear hS488
 have hS490 := hS489.fr3; clear hS489
 have hS491 := hS490.fr5; clear hS490
 have hS492 : St _ _ [_, _, _, _] _ := hS491.only 4; clear hS491
 refine hK350 _ _ (came (⟨(l ++ [((x361 : Int), (0 : Int), [])]), (rest.drop 1), ra357, rc357, ad487, cp487, (n - 1), false⟩) (by repeat' (first | exact Agree.refl _ _ | refine Agree.up ?_ rfl | refine Agree.hav2 ?_ rfl | refine Agree.ups2 ?_ rfl)) (by repeat' (first | exact trivial | refine ⟨by first | rfl | assumption, ?_⟩)) ?_)
 have htk : TkR rest ((x361 : Int), (0 : Int), []) (rest.drop 1) false := tkr_no (noval_num hxh361 (by omega) hno)
 exact ⟨⟨hS492, RowI.next hI (by omega) hva htk rfl, hl.app (VsOk.one hva), (Bytes.drop hbr), hGr357, (by first | assumption | omega), (by first | omega | (simp only [List.length_drop]; omega)), (by show n - 1 < 256; omega)⟩, by (show n - 1 < n); omega⟩
 have hc452b := hc452
 try simp only [zbb] at hc452
 refine wp_seq_k (fun K493 hK493 => ?_)
 refine wp_seq_k (fun K494 hK494 => ?_)
 refine wp_region_lit ?_
 refine l_q rfl rfl (q_eql rfl rfl) ?_
 refine l_q rfl rfl (q_assignB rfl) ?_
 refine l_nil ?_
 refine hK494 _ _ ?_
 refine c_cond rfl (fun hc495 => ?_) (fun hc495 => ?_)
 have hc495b := hc495
 try simp only [zbb] at hc495
 refine wp_skip ?_
 refine hK493 _ _ ?_
 refine c_condT rfl hc495b ?_
 refine r_any (by kernel_rfl) hS363 (fun w497 hS497 => ?_)
 clear hS363
 refine o_held (i := 0) [3, 4, 5, 6] (fun _ _ => trivial) rfl rfl (by kernel_rfl) (goes0 rfl) (QOk.inBlock (QOk.then (QOk.inBlock (QOk.then (QOk.then (QOk.inBlock (QOk.then QOk.body))))))) (q_load1 rfl (by kernel_rfl) (hS497.cell (i := 4) rfl rfl)) ?_
 refine o_pure (i := 1) (fun j w => ⟨(fun _ _ => trivial) j w, fun _ h => h⟩) rfl rfl (by kernel_rfl) (goes0 rfl) (QOk.inBlock (QOk.then (QOk.inBlock (QOk.then (QOk.then (QOk.inBlock (QOk.then QOk.body))))))) (fun w => q_move rfl) ?_
 rcases long_or (rest.drop 1) with ⟨zz, q, hzr1, hzr2, hzq⟩ | hno
 have hBq : Bytes q := fun y hy => hbr y (List.mem_of_mem_drop (show y ∈ rest.drop 1 from by rw [hzq]; exact List.mem_append_right _ hy))
 have hqz := congrArg List.length hzq
 rw [List.length_append, List.length_drop] at hqz
 refine o_eff (i := 2) (by kernel_rfl) rfl (goes0 rfl) (fun K hK => ?_)
 have hS499 := hS497.fr4; clear hS497
 have hS500 := hS499.fr3; clear hS499
 have hS501 := hS500.fr3; clear hS500
 refine e_callV (by kernel_rfl) rfl (number_yes b4 b2 b7 (rest.drop 1) (Bytes.drop hbr) (by first | omega | (simp only [zll] <;> omega)) zz q hzr1 hzr2 hzq _ _ (by omega) _ _ (St.rogB (Γ1 := [_, _, _]) hS501) hGr357 (St.begin (Γ := [_, _, _]) hS501)) rfl (after_M (Γ1 := [_, _, _]) hS501 (fun v498 G498 w498 hv498 hS498 => ?_))
 clear hS501
 obtain ⟨ra498, rc498, rfl, rfl, hGr498, hrc498⟩ := hv498
 have hS502 : St _ _ [_, .blk b2 (.cells #[.slice ra498 q.length rc498] 58), _, _, _] _ := hS498; clear hS498
 refine hK _ _ ⟨trivial, fun _ _ => by first | exact q_load1 rfl (by kernel_rfl) (hS502.cell (i := 2) rfl rfl)⟩ ?_; clear hK K
 by_cases hpz : 0 ≤ zz ∧ zz ≤ (q.length : Int)
 obtain ⟨kz, rfl⟩ : ∃ kz : Nat, zz = (kz : Int) := ⟨zz.toNat, by omega⟩
 refine o_eff (i := 3) (by kernel_rfl) rfl (goes0 rfl) (fun K hK => ?_)
 refine e_callV (by kernel_rfl) rfl (take_yes b4 b2 q (hBq) (by first | omega | (simp only [zll] <;> omega)) kz (by omega) _ _ (by omega) _ _ (St.rogB (Γ1 := [_, _]) hS502) hGr498 (St.begin (Γ := [_, _]) hS502)) rfl (after_M (Γ1 := [_, _]) hS502 (fun v503 G503 w503 hv503 hS503 => ?_))
 clear hS502
 obtain ⟨ra503, rc503, rfl, rfl, hGr503, hrc503⟩ := hv503
 have hS504 : St _ _ [_, .blk b2 (.cells #[.slice ra503 ((q.drop kz).length) rc503] 58), _, _, _] _ := hS503; clear hS503
 have hld503 := List.length_drop (i := kz) (l := q)
 refine hK _ _ ⟨trivial, fun h => absurd h (by decide)⟩ ?_; clear hK K
 refine o_held (i := 4) [5, 6] (fun j w => ⟨(fun _ _ => trivial) j w, fun _ h => h⟩) rfl rfl (by kernel_rfl) (goes0 rfl) (QOk.inBlock (QOk.then (QOk.inBlock (QOk.then (QOk.then (QOk.inBlock (QOk.then QOk.body))))))) (q_convBS (l := (q.take kz)) rfl ((bv_takeG (n := kz) hGr498).mono hS504.base) (by first | omega | (simp only [zll] <;> omega)) (by kernel_rfl) (by kernel_rfl)) ?_
 refine o_pure (i := 5) (fun j w => ⟨(fun j w => ⟨(fun _ _ => trivial) j w, fun _ h => h⟩) j w, fun _ h => h⟩) rfl rfl (by kernel_rfl) (goes0 rfl) (QOk.inBlock (QOk.then (QOk.inBlock (QOk.then (QOk.then (QOk.inBlock (QOk.then QOk.body))))))) (fun w => q_fieldAddr (ft := 9) (o := 2) rfl (by kernel_rfl)) ?_
 refine o_eff (i := 6) (by kernel_rfl) rfl (goes0 rfl) (fun K hK => ?_)
 refine e_store1 hS504 rfl rfl (by kernel_rfl) (by first | rfl | assumption) (i := 3) rfl rfl (fun w505 (hS505 : St _ _ [_, _, _, .blk b362 (.cells #[.int .i64 (x361 : Int), .int .i64 (0 : Int), .string (bs (q.take kz))] 106), _] _) => ?_)
 clear hS504
 refine hK _ _ ⟨⟨trivial, fun h => absurd h (by decide)⟩, fun h => absurd h (by decide)⟩ ?_; clear hK K
 refine o_done (by kernel_rfl) ?_
 refine hK364 _ _ ?_
 refine wp_seq_k (fun K506 hK506 => ?_)
 refine wp_region_lit ?_
 refine l_q rfl rfl (q_load1 rfl (by kernel_rfl) (hS505.cell (i := 0) rfl rfl)) ?_
 refine l_q rfl rfl (q_moveB rfl) ?_
 refine l_on rfl rfl rfl ?_
 refine l_q rfl rfl (q_loadA (m := 3) rfl (by kernel_rfl) (by kernel_rfl) (hS505.blk (i := 3) rfl) rfl rfl) ?_
 refine l_on rfl rfl rfl ?_
 refine l_e rfl (fun K hK => ?_)
 refine e_call (by kernel_rfl) (right_ok ((x361 : Int), (0 : Int), (q.take kz)) (Bytes.take (hBq)) _) rfl (after_R hS505 (fun v507 w507 hv507 hS507 => ?_))
 clear hS505
 obtain rfl := hv507
 refine hK _ _ ?_; clear hK K
 refine l_q rfl rfl (q_pickT rfl rfl rfl) ?_
 refine l_q rfl rfl (q_moveB rfl) ?_
 refine g_splitL (t := 59) rfl (fun hg508 => ?_) (fun hg508 => ?_)
 have hg508b := hg508
 try simp only [zbb] at hg508
 have hrt := hg508
 refine l_on rfl rfl hg508b ?_
 refine l_q rfl rfl (q_moveS rfl) ?_
 refine l_on rfl rfl hg508b ?_
 refine l_q rfl rfl (q_lenSl (e := 106) rfl (by kernel_rfl)) ?_
 refine l_on rfl rfl hg508b ?_
 refine l_q rfl rfl (q_lss rfl rfl) ?_
 refine l_q rfl rfl (q_pickT rfl hg508b rfl) ?_
 refine l_e rfl (fun K hK => ?_)
 refine e_store1 hS507 rfl rfl (by kernel_rfl) (by first | rfl | assumption) (i := 0) rfl rfl (fun w509 (hS509 : St _ _ [_, _, _, _, _] _) => ?_)
 clear hS507
 refine hK _ _ ?_; clear hK K
 refine l_nil ?_
 refine hK506 _ _ ?_
 refine wp_region_lit ?_
 refine l_q rfl rfl (q_moveS rfl) ?_
 refine l_q rfl rfl (q_loadA (m := 3) rfl (by kernel_rfl) (by kernel_rfl) (hS509.blk (i := 3) rfl) rfl rfl) ?_
 refine l_e rfl (fun K hK => ?_)
 refine e_buildSliceA (e := 106) (m := 3) (zv := .agg #[.int .i64 0, .int .i64 0, .string ⟨#[]⟩]) hS509 (by kernel_rfl) (by kernel_rfl) (by kernel_rfl) rfl rfl rfl rfl (fun b510 w510 (hS510 : St _ _ [.blk b510 (.cells #[.int .i64 (x361 : Int), .int .i64 (0 : Int), .string (bs (q.take kz))] 106), _, _, _, _, _] _) => ?_)
 clear hS509
 have hva : VOk ((x361 : Int), (0 : Int), (q.take kz)) := vok_of (Bytes.take (hBq)) ⟨by omega, by omega⟩ ⟨by omega, by omega⟩
 have hS510o : St _ _ [.ow 106 3 (some ⟨b510, 0, none⟩) 1 1 (List.flatMap vl [((x361 : Int), (0 : Int), (q.take kz))]), _, _, _, _, _] _ := hS510.blkOw' (i := 0) (m := 1) (size := 3) (xs := List.flatMap vl [((x361 : Int), (0 : Int), (q.take kz))]) rfl rfl rfl (by decide); clear hS510
 refine hK _ _ ?_; clear hK K
 refine l_e rfl (fun K hK => ?_)
 refine e_app (e := 106) (size := 3) (bytes := 32) (i := 5) (m' := (l ++ [((x361 : Int), (0 : Int), (q.take kz))]).length) (by kernel_rfl) hS510o rfl rfl rfl (SlG.src (e := 106) (by kernel_rfl) (hS510o.owG (i := 0) rfl) ((rows_len (c := vl) (m := 3) (fun _ => rfl) _).trans (by first | rfl | (simp only [zll]; done) | (simp only [zll]; omega) | omega)) (by decide) (rows_one vl_ones)) (by first | omega | (simp only [zll] <;> omega)) rows_app (by first | omega | (simp only [maxLen, zll] <;> omega)) (by first | omega | (simp only [zll] <;> omega)) (fun ad511 cp511 w511 (hS511 : St _ _ [_, _, _, _, _, .ow 106 3 ad511 ((l ++ [((x361 : Int), (0 : Int), (q.take kz))]).length) cp511 (List.flatMap vl (l ++ [((x361 : Int), (0 : Int), (q.take kz))]))] _) => ?_)
 clear hS510o
 refine hK _ _ ?_; clear hK K
 refine l_q rfl rfl (q_assignS rfl) ?_
 refine l_nil ?_
 refine hK355 _ _ ?_
 refine wp_region_lit ?_
 refine l_q rfl rfl (q_moveI rfl) ?_
 refine l_q rfl rfl (u_sub (a := n) (b := 1) rfl rfl rfl (by omega) (by show n < 256; omega)) ?_
 refine l_q rfl rfl (q_assignI rfl) ?_
 refine l_nil ?_
 have hS512 := hS511.fr3; clear hS511
 have hS513 := hS512.fr3; clear hS512
 have hS514 := hS513.fr3; clear hS513
 have hS515 := hS514.fr5; clear hS514
 have hS516 : St _ _ [_, _, _, _] _ := hS515.only 4; clear hS515
 refine hK350 _ _ (came (⟨(l ++ [((x361 : Int), (0 : Int), (q.take kz))]), (q.drop kz), ra503, rc503, ad511, cp511, (n - 1), (decide ((l.length : Int) < 16))⟩) (by repeat' (first | exact Agree.refl _ _ | refine Agree.up ?_ rfl | refine Agree.hav2 ?_ rfl | refine Agree.ups2 ?_ rfl)) (by repeat' (first | exact trivial | refine ⟨by first | rfl | assumption, ?_⟩)) ?_)
 have htk : TkR rest ((x361 : Int), (0 : Int), (q.take kz)) (q.drop kz) (rightB ((x361 : Int), (0 : Int), (q.take kz))) := tkr4 hxh361 (by omega) hzq (by omega)
 exact ⟨⟨hS516, RowI.next hI (by omega) hva htk (by rw [hrt, Bool.true_and]), hl.app (VsOk.one hva), (Bytes.drop (hBq)), hGr503, (by first | assumption | omega), (by first | omega | (simp only [List.length_drop]; omega)), (by show n - 1 < 256; omega)⟩, by (show n - 1 < n); omega⟩
 have hg508b := hg508
 try simp only [zbb] at hg508
 have hrt := hg508
 refine l_off rfl rfl rfl hg508b ?_
 refine l_off rfl rfl rfl hg508b ?_
 refine l_off rfl rfl rfl hg508b ?_
 refine l_q rfl rfl (q_pickF rfl hg508b rfl) ?_
 refine l_e rfl (fun K hK => ?_)
 refine e_store1 hS507 rfl rfl (by kernel_rfl) (by first | rfl | assumption) (i := 0) rfl rfl (fun w517 (hS517 : St _ _ [_, _, _, _, _] _) => ?_)
 clear hS507
 refine hK _ _ ?_; clear hK K
 refine l_nil ?_
 refine hK506 _ _ ?_
 refine wp_region_lit ?_
 refine l_q rfl rfl (q_moveS rfl) ?_
 refine l_q rfl rfl (q_loadA (m := 3) rfl (by kernel_rfl) (by kernel_rfl) (hS517.blk (i := 3) rfl) rfl rfl) ?_
 refine l_e rfl (fun K hK => ?_)
 refine e_buildSliceA (e := 106) (m := 3) (zv := .agg #[.int .i64 0, .int .i64 0, .string ⟨#[]⟩]) hS517 (by kernel_rfl) (by kernel_rfl) (by kernel_rfl) rfl rfl rfl rfl (fun b518 w518 (hS518 : St _ _ [.blk b518 (.cells #[.int .i64 (x361 : Int), .int .i64 (0 : Int), .string (bs (q.take kz))] 106), _, _, _, _, _] _) => ?_)
 clear hS517
 have hva : VOk ((x361 : Int), (0 : Int), (q.take kz)) := vok_of (Bytes.take (hBq)) ⟨by omega, by omega⟩ ⟨by omega, by omega⟩
 have hS518o : St _ _ [.ow 106 3 (some ⟨b518, 0, none⟩) 1 1 (List.flatMap vl [((x361 : Int), (0 : Int), (q.take kz))]), _, _, _, _, _] _ := hS518.blkOw' (i := 0) (m := 1) (size := 3) (xs := List.flatMap vl [((x361 : Int), (0 : Int), (q.take kz))]) rfl rfl rfl (by decide); clear hS518
 refine hK _ _ ?_; clear hK K
 refine l_e rfl (fun K hK => ?_)
 refine e_app (e := 106) (size := 3) (bytes := 32) (i := 5) (m' := (l ++ [((x361 : Int), (0 : Int), (q.take kz))]).length) (by kernel_rfl) hS518o rfl rfl rfl (SlG.src (e := 106) (by kernel_rfl) (hS518o.owG (i := 0) rfl) ((rows_len (c := vl) (m := 3) (fun _ => rfl) _).trans (by first | rfl | (simp only [zll]; done) | (simp only [zll]; omega) | omega)) (by decide) (rows_one vl_ones)) (by first | omega | (simp only [zll] <;> omega)) rows_app (by first | omega | (simp only [maxLen, zll] <;> omega)) (by first | omega | (simp only [zll] <;> omega)) (fun ad519 cp519 w519 (hS519 : St _ _ [_, _, _, _, _, .ow 106 3 ad519 ((l ++ [((x361 : Int), (0 : Int), (q.take kz))]).length) cp519 (List.flatMap vl (l ++ [((x361 : Int), (0 : Int), (q.take kz))]))] _) => ?_)
 clear hS518o
 refine hK _ _ ?_; clear hK K
 refine l_q rfl rfl (q_assignS rfl) ?_
 refine l_nil ?_
 refine hK355 _ _ ?_
 refine wp_region_lit ?_
 refine l_q rfl rfl (q_moveI rfl) ?_
 refine l_q rfl rfl (u_sub (a := n) (b := 1) rfl rfl rfl (by omega) (by show n < 256; omega)) ?_
 refine l_q rfl rfl (q_assignI rfl) ?_
 refine l_nil ?_
 have hS520 := hS519.fr3; clear hS519
 have hS521 := hS520.fr3; clear hS520
 have hS522 := hS521.fr3; clear hS521
 have hS523 := hS522.fr5; clear hS522
 have hS524 : St _ _ [_, _, _, _] _ := hS523.only 4; clear hS523
 refine hK350 _ _ (came (⟨(l ++ [((x361 : Int), (0 : Int), (q.take kz))]), (q.drop kz), ra503, rc503, ad519, cp519, (n - 1), false⟩) (by repeat' (first | exact Agree.refl _ _ | refine Agree.up ?_ rfl | refine Agree.hav2 ?_ rfl | refine Agree.ups2 ?_ rfl)) (by repeat' (first | exact trivial | refine ⟨by first | rfl | assumption, ?_⟩)) ?_)
 have htk : TkR rest ((x361 : Int), (0 : Int), (q.take kz)) (q.drop kz) (rightB ((x361 : Int), (0 : Int), (q.take kz))) := tkr4 hxh361 (by omega) hzq (by omega)
 exact ⟨⟨hS524, RowI.next hI (by omega) hva htk (by rw [hrt, Bool.false_and]), hl.app (VsOk.one hva), (Bytes.drop (hBq)), hGr503, (by first | assumption | omega), (by first | omega | (simp only [List.length_drop]; omega)), (by show n - 1 < 256; omega)⟩, by (show n - 1 < n); omega⟩
 refine o_eff (i := 3) (by kernel_rfl) rfl (goes0 rfl) (fun K hK => ?_)
 refine e_callV (by kernel_rfl) rfl (take_no b4 b2 q (hBq) (by first | omega | (simp only [zll] <;> omega)) true zz (by first | exact .inl rfl | exact .inr (by omega)) _ _ (by omega) _ _ (St.rogB (Γ1 := [_, _]) hS502) hGr498 (St.begin (Γ := [_, _]) hS502)) rfl (after_M (Γ1 := [_, _]) hS502 (fun v525 G525 w525 hv525 hS525 => ?_))
 clear hS502
 obtain ⟨nb525, rfl, rfl⟩ := hv525
 have hS526 : St _ _ [_, _, .ow 5 1 (some ⟨nb525, 0, none⟩) 1 1 (bv [0]), _, _, _] _ := hS525; clear hS525
 refine hK _ _ ⟨trivial, fun h => absurd h (by decide)⟩ ?_; clear hK K
 refine o_held (i := 4) [5, 6] (fun j w => ⟨(fun _ _ => trivial) j w, fun _ h => h⟩) rfl rfl (by kernel_rfl) (goes0 rfl) (QOk.inBlock (QOk.then (QOk.inBlock (QOk.then (QOk.then (QOk.inBlock (QOk.then QOk.body))))))) (q_convBS (l := [0]) rfl (hS526.owG (i := 2) rfl) (by first | omega | (simp only [zll] <;> omega)) (by kernel_rfl) (by kernel_rfl)) ?_
 refine o_pure (i := 5) (fun j w => ⟨(fun j w => ⟨(fun _ _ => trivial) j w, fun _ h => h⟩) j w, fun _ h => h⟩) rfl rfl (by kernel_rfl) (goes0 rfl) (QOk.inBlock (QOk.then (QOk.inBlock (QOk.then (QOk.then (QOk.inBlock (QOk.then QOk.body))))))) (fun w => q_fieldAddr (ft := 9) (o := 2) rfl (by kernel_rfl)) ?_
 refine o_eff (i := 6) (by kernel_rfl) rfl (goes0 rfl) (fun K hK => ?_)
 refine e_store1 hS526 rfl rfl (by kernel_rfl) (by first | rfl | assumption) (i := 4) rfl rfl (fun w527 (hS527 : St _ _ [_, _, _, _, .blk b362 (.cells #[.int .i64 (x361 : Int), .int .i64 (0 : Int), .string (bs [0])] 106), _] _) => ?_)
 clear hS526
 refine hK _ _ ⟨⟨trivial, fun h => absurd h (by decide)⟩, fun h => absurd h (by decide)⟩ ?_; clear hK K
 refine o_done (by kernel_rfl) ?_
 refine hK364 _ _ ?_
 refine wp_seq_k (fun K528 hK528 => ?_)
 refine wp_region_lit ?_
 refine l_q rfl rfl (q_load1 rfl (by kernel_rfl) (hS527.cell (i := 0) rfl rfl)) ?_
 refine l_q rfl rfl (q_moveB rfl) ?_
 refine l_off rfl rfl rfl rfl ?_
 refine l_off rfl rfl rfl rfl ?_
 refine l_q rfl rfl (q_pickF rfl rfl rfl) ?_
 refine l_q rfl rfl (q_moveB rfl) ?_
 refine l_off rfl rfl rfl rfl ?_
 refine l_off rfl rfl rfl rfl ?_
 refine l_off rfl rfl rfl rfl ?_
 refine l_q rfl rfl (q_pickF rfl rfl rfl) ?_
 refine l_e rfl (fun K hK => ?_)
 refine e_store1 hS527 rfl rfl (by kernel_rfl) (by first | rfl | assumption) (i := 0) rfl rfl (fun w529 (hS529 : St _ _ [_, _, _, _, _, _] _) => ?_)
 clear hS527
 refine hK _ _ ?_; clear hK K
 refine l_nil ?_
 refine hK528 _ _ ?_
 refine wp_region_lit ?_
 refine l_q rfl rfl (q_moveS rfl) ?_
 refine l_q rfl rfl (q_loadA (m := 3) rfl (by kernel_rfl) (by kernel_rfl) (hS529.blk (i := 4) rfl) rfl rfl) ?_
 refine l_e rfl (fun K hK => ?_)
 refine e_buildSliceA (e := 106) (m := 3) (zv := .agg #[.int .i64 0, .int .i64 0, .string ⟨#[]⟩]) hS529 (by kernel_rfl) (by kernel_rfl) (by kernel_rfl) rfl rfl rfl rfl (fun b530 w530 (hS530 : St _ _ [.blk b530 (.cells #[.int .i64 (x361 : Int), .int .i64 (0 : Int), .string (bs [0])] 106), _, _, _, _, _, _] _) => ?_)
 clear hS529
 have hva : VOk ((x361 : Int), (0 : Int), [0]) := vok_of (by decide : Bytes [0]) ⟨by omega, by omega⟩ ⟨by omega, by omega⟩
 have hS530o : St _ _ [.ow 106 3 (some ⟨b530, 0, none⟩) 1 1 (List.flatMap vl [((x361 : Int), (0 : Int), [0])]), _, _, _, _, _, _] _ := hS530.blkOw' (i := 0) (m := 1) (size := 3) (xs := List.flatMap vl [((x361 : Int), (0 : Int), [0])]) rfl rfl rfl (by decide); clear hS530
 refine hK _ _ ?_; clear hK K
 refine l_e rfl (fun K hK => ?_)
 refine e_app (e := 106) (size := 3) (bytes := 32) (i := 6) (m' := (l ++ [((x361 : Int), (0 : Int), [0])]).length) (by kernel_rfl) hS530o rfl rfl rfl (SlG.src (e := 106) (by kernel_rfl) (hS530o.owG (i := 0) rfl) ((rows_len (c := vl) (m := 3) (fun _ => rfl) _).trans (by first | rfl | (simp only [zll]; done) | (simp only [zll]; omega) | omega)) (by decide) (rows_one vl_ones)) (by first | omega | (simp only [zll] <;> omega)) rows_app (by first | omega | (simp only [maxLen, zll] <;> omega)) (by first | omega | (simp only [zll] <;> omega)) (fun ad531 cp531 w531 (hS531 : St _ _ [_, _, _, _, _, _, .ow 106 3 ad531 ((l ++ [((x361 : Int), (0 : Int), [0])]).length) cp531 (List.flatMap vl (l ++ [((x361 : Int), (0 : Int), [0])]))] _) => ?_)
 clear hS530o
 refine hK _ _ ?_; clear hK K
 refine l_q rfl rfl (q_assignS rfl) ?_
 refine l_nil ?_
 refine hK355 _ _ ?_
 refine wp_region_lit ?_
 refine l_q rfl rfl (q_moveI rfl) ?_
 refine l_q rfl rfl (u_sub (a := n) (b := 1) rfl rfl rfl (by omega) (by show n < 256; omega)) ?_
 refine l_q rfl rfl (q_assignI rfl) ?_
 refine l_nil ?_
 have hS532 := hS531.fr4; clear hS531
 have hS533 := hS532.fr3; clear hS532
 have hS534 := hS533.fr3; clear hS533
 have hS535 := hS534.fr6; clear hS534
 have hS536 : St _ _ [_, _, _, _] _ := hS535.only 4; clear hS535
 refine hK350 _ _ (came (⟨(l ++ [((x361 : Int), (0 : Int), [0])]), q, ra498, rc498, ad531, cp531, (n - 1), false⟩) (by repeat' (first | exact Agree.refl _ _ | refine Agree.up ?_ rfl | refine Agree.hav2 ?_ rfl | refine Agree.ups2 ?_ rfl)) (by repeat' (first | exact trivial | refine ⟨by first | rfl | assumption, ?_⟩)) ?_)
 have htk : TkR rest ((x361 : Int), (0 : Int), [0]) q false := tkr_no (noval_long hxh361 (by omega) hzq (by omega))
 exact ⟨⟨hS536, RowI.next hI (by omega) hva htk rfl, hl.app (VsOk.one hva), (hBq), hGr498, (by first | assumption | omega), (by first | omega | (simp only [List.length_drop]; omega)), (by show n - 1 < 256; omega)⟩, by (show n - 1 < n); omega⟩
 refine o_eff (i := 2) (by kernel_rfl) rfl (goes0 rfl) (fun K hK => ?_)
 have hS538 := hS497.fr4; clear hS497
 have hS539 := hS538.fr3; clear hS538
 have hS540 := hS539.fr3; clear hS539
 refine e_callV (by kernel_rfl) rfl (number_no b4 b2 b7 (rest.drop 1) (Bytes.drop hbr) (by first | omega | (simp only [zll] <;> omega)) hno _ _ (by omega) _ _ (St.rogB (Γ1 := [_, _, _]) hS540) hGr357 (St.begin (Γ := [_, _, _]) hS540)) rfl (after_M (Γ1 := [_, _, _]) hS540 (fun v537 G537 w537 hv537 hS537 => ?_))
 clear hS540
 obtain ⟨rfl, rfl⟩ := hv537
 have hS541 : St _ _ [_, _, _, _, _] _ := hS537; clear hS537
 refine hK _ _ ⟨trivial, fun _ _ => by first | exact q_load1 rfl (by kernel_rfl) (hS541.cell (i := 2) rfl rfl)⟩ ?_; clear hK K
 refine o_eff (i := 3) (by kernel_rfl) rfl (goes0 rfl) (fun K hK => ?_)
 refine e_callV (by kernel_rfl) rfl (take_no b4 b2 (rest.drop 1) (Bytes.drop hbr) (by first | omega | (simp only [zll] <;> omega)) false (0 : Int) (by first | exact .inl rfl | exact .inr (by omega)) _ _ (by omega) _ _ (St.rogB (Γ1 := [_, _]) hS541) hGr357 (St.begin (Γ := [_, _]) hS541)) rfl (after_M (Γ1 := [_, _]) hS541 (fun v542 G542 w542 hv542 hS542 => ?_))
 clear hS541
 obtain ⟨nb542, rfl, rfl⟩ := hv542
 have hS543 : St _ _ [_, _, .ow 5 1 (some ⟨nb542, 0, none⟩) 1 1 (bv [0]), _, _, _] _ := hS542; clear hS542
 refine hK _ _ ⟨trivial, fun h => absurd h (by decide)⟩ ?_; clear hK K
 refine o_held (i := 4) [5, 6] (fun j w => ⟨(fun _ _ => trivial) j w, fun _ h => h⟩) rfl rfl (by kernel_rfl) (goes0 rfl) (QOk.inBlock (QOk.then (QOk.inBlock (QOk.then (QOk.then (QOk.inBlock (QOk.then QOk.body))))))) (q_convBS (l := [0]) rfl (hS543.owG (i := 2) rfl) (by first | omega | (simp only [zll] <;> omega)) (by kernel_rfl) (by kernel_rfl)) ?_
 refine o_pure (i := 5) (fun j w => ⟨(fun j w => ⟨(fun _ _ => trivial) j w, fun _ h => h⟩) j w, fun _ h => h⟩) rfl rfl (by kernel_rfl) (goes0 rfl) (QOk.inBlock (QOk.then (QOk.inBlock (QOk.then (QOk.then (QOk.inBlock (QOk.then QOk.body))))))) (fun w => q_fieldAddr (ft := 9) (o := 2) rfl (by kernel_rfl)) ?_
 refine o_eff (i := 6) (by kernel_rfl) rfl (goes0 rfl) (fun K hK => ?_)
 refine e_store1 hS543 rfl rfl (by kernel_rfl) (by first | rfl | assumption) (i := 4) rfl rfl (fun w544 (hS544 : St _ _ [_, _, _, _, _, _] _) => ?_)
 clear hS543
 refine hK _ _ ⟨⟨trivial, fun h => absurd h (by decide)⟩, fun h => absurd h (by decide)⟩ ?_; clear hK K
 refine o_done (by kernel_rfl) ?_
 refine hK364 _ _ ?_
 refine wp_seq_k (fun K545 hK545 => ?_)
 refine wp_region_lit ?_
 refine l_q rfl rfl (q_load1 rfl (by kernel_rfl) (hS544.cell (i := 0) rfl rfl)) ?_
 refine l_q rfl rfl (q_moveB rfl) ?_
 refine l_off rfl rfl rfl rfl ?_
 refine l_off rfl rfl rfl rfl ?_
 refine l_q rfl rfl (q_pickF rfl rfl rfl) ?_
 refine l_q rfl rfl (q_moveB rfl) ?_
 refine l_off rfl rfl rfl rfl ?_
 refine l_off rfl rfl rfl rfl ?_
 refine l_off rfl rfl rfl rfl ?_
 refine l_q rfl rfl (q_pickF rfl rfl rfl) ?_
 refine l_e rfl (fun K hK => ?_)
 refine e_store1 hS544 rfl rfl (by kernel_rfl) (by first | rfl | assumption) (i := 0) rfl rfl (fun w546 (hS546 : St _ _ [_, _, _, _, _, _] _) => ?_)
 clear hS544
 refine hK _ _ ?_; clear hK K
 refine l_nil ?_
 refine hK545 _ _ ?_
 refine wp_region_lit ?_
 refine l_q rfl rfl (q_moveS rfl) ?_
 refine l_q rfl rfl (q_loadA (m := 3) rfl (by kernel_rfl) (by kernel_rfl) (hS546.blk (i := 4) rfl) rfl rfl) ?_
 refine l_e rfl (fun K hK => ?_)
 refine e_buildSliceA (e := 106) (m := 3) (zv := .agg #[.int .i64 0, .int .i64 0, .string ⟨#[]⟩]) hS546 (by kernel_rfl) (by kernel_rfl) (by kernel_rfl) rfl rfl rfl rfl (fun b547 w547 (hS547 : St _ _ [.blk b547 (.cells #[.int .i64 (x361 : Int), .int .i64 (0 : Int), .string (bs [0])] 106), _, _, _, _, _, _] _) => ?_)
 clear hS546
 have hva : VOk ((x361 : Int), (0 : Int), [0]) := vok_of (by decide : Bytes [0]) ⟨by omega, by omega⟩ ⟨by omega, by omega⟩
 have hS547o : St _ _ [.ow 106 3 (some ⟨b547, 0, none⟩) 1 1 (List.flatMap vl [((x361 : Int), (0 : Int), [0])]), _, _, _, _, _, _] _ := hS547.blkOw' (i := 0) (m := 1) (size := 3) (xs := List.flatMap vl [((x361 : Int), (0 : Int), [0])]) rfl rfl rfl (by decide); clear hS547
 refine hK _ _ ?_; clear hK K
 refine l_e rfl (fun K hK => ?_)
 refine e_app (e := 106) (size := 3) (bytes := 32) (i := 6) (m' := (l ++ [((x361 : Int), (0 : Int), [0])]).length) (by kernel_rfl) hS547o rfl rfl rfl (SlG.src (e := 106) (by kernel_rfl) (hS547o.owG (i := 0) rfl) ((rows_len (c := vl) (m := 3) (fun _ => rfl) _).trans (by first | rfl | (simp only [zll]; done) | (simp only [zll]; omega) | omega)) (by decide) (rows_one vl_ones)) (by first | omega | (simp only [zll] <;> omega)) rows_app (by first | omega | (simp only [maxLen, zll] <;> omega)) (by first | omega | (simp only [zll] <;> omega)) (fun ad548 cp548 w548 (hS548 : St _ _ [_, _, _, _, _, _, .ow 106 3 ad548 ((l ++ [((x361 : Int), (0 : Int), [0])]).length) cp548 (List.flatMap vl (l ++ [((x361 : Int), (0 : Int), [0])]))] _) => ?_)
 clear hS547o
 refine hK _ _ ?_; clear hK K
 refine l_q rfl rfl (q_assignS rfl) ?_
 refine l_nil ?_
 refine hK355 _ _ ?_
 refine wp_region_lit ?_
 refine l_q rfl rfl (q_moveI rfl) ?_
 refine l_q rfl rfl (u_sub (a := n) (b := 1) rfl rfl rfl (by omega) (by show n < 256; omega)) ?_
 refine l_q rfl rfl (q_assignI rfl) ?_
 refine l_nil ?_
 have hS549 := hS548.fr4; clear hS548
 have hS550 := hS549.fr3; clear hS549
 have hS551 := hS550.fr3; clear hS550
 have hS552 := hS551.fr6; clear hS551
 have hS553 : St _ _ [_, _, _, _] _ := hS552.only 4; clear hS552
 refine hK350 _ _ (came (⟨(l ++ [((x361 : Int), (0 : Int), [0])]), (rest.drop 1), ra357, rc357, ad548, cp548, (n - 1), false⟩) (by repeat' (first | exact Agree.refl _ _ | refine Agree.up ?_ rfl | refine Agree.hav2 ?_ rfl | refine Agree.ups2 ?_ rfl)) (by repeat' (first | exact trivial | refine ⟨by first | rfl | assumption, ?_⟩)) ?_)
 have htk : TkR rest ((x361 : Int), (0 : Int), [0]) (rest.drop 1) false := tkr_no (noval_text hxh361 (by omega) hno)
 exact ⟨⟨hS553, RowI.next hI (by omega) hva htk rfl, hl.app (VsOk.one hva), (Bytes.drop hbr), hGr357, (by first | assumption | omega), (by first | omega | (simp only [List.length_drop]; omega)), (by show n - 1 < 256; omega)⟩, by (show n - 1 < n); omega⟩
 have hc495b := hc495
 try simp only [zbb] at hc495
 refine wp_region_lit ?_
 refine l_q rfl rfl (q_eql rfl rfl) ?_
 refine l_q rfl rfl (q_assignB rfl) ?_
 refine l_nil ?_
 refine hK493 _ _ ?_
 refine c_cond rfl (fun hc554 => ?_) (fun hc554 => ?_)
 have hc554b := hc554
 try simp only [zbb] at hc554
 refine r_any (by kernel_rfl) hS363 (fun w555 hS555 => ?_)
 clear hS363
 refine o_held (i := 0) [3, 4, 5, 6] (fun _ _ => trivial) rfl rfl (by kernel_rfl) (goes0 rfl) (QOk.inBlock (QOk.then (QOk.inBlock (QOk.then (QOk.then (QOk.inBlock (QOk.then QOk.body))))))) (q_load1 rfl (by kernel_rfl) (hS555.cell (i := 4) rfl rfl)) ?_
 refine o_pure (i := 1) (fun j w => ⟨(fun _ _ => trivial) j w, fun _ h => h⟩) rfl rfl (by kernel_rfl) (goes0 rfl) (QOk.inBlock (QOk.then (QOk.inBlock (QOk.then (QOk.then (QOk.inBlock (QOk.then QOk.body))))))) (fun w => q_move rfl) ?_
 rcases long_or (rest.drop 1) with ⟨zz, q, hzr1, hzr2, hzq⟩ | hno
 have hBq : Bytes q := fun y hy => hbr y (List.mem_of_mem_drop (show y ∈ rest.drop 1 from by rw [hzq]; exact List.mem_append_right _ hy))
 have hqz := congrArg List.length hzq
 rw [List.length_append, List.length_drop] at hqz
 refine o_eff (i := 2) (by kernel_rfl) rfl (goes0 rfl) (fun K hK => ?_)
 have hS557 := hS555.fr4; clear hS555
 have hS558 := hS557.fr3; clear hS557
 have hS559 := hS558.fr3; clear hS558
 refine e_callV (by kernel_rfl) rfl (number_yes b4 b2 b7 (rest.drop 1) (Bytes.drop hbr) (by first | omega | (simp only [zll] <;> omega)) zz q hzr1 hzr2 hzq _ _ (by omega) _ _ (St.rogB (Γ1 := [_, _, _]) hS559) hGr357 (St.begin (Γ := [_, _, _]) hS559)) rfl (after_M (Γ1 := [_, _, _]) hS559 (fun v556 G556 w556 hv556 hS556 => ?_))
 clear hS559
 obtain ⟨ra556, rc556, rfl, rfl, hGr556, hrc556⟩ := hv556
 have hS560 : St _ _ [_, .blk b2 (.cells #[.slice ra556 q.length rc556] 58), _, _, _] _ := hS556; clear hS556
 refine hK _ _ ⟨trivial, fun _ _ => by first | exact q_load1 rfl (by kernel_rfl) (hS560.cell (i := 2) rfl rfl)⟩ ?_; clear hK K
 by_cases hpz : 0 ≤ zz ∧ zz ≤ (q.length : Int)
 obtain ⟨kz, rfl⟩ : ∃ kz : Nat, zz = (kz : Int) := ⟨zz.toNat, by omega⟩
 refine o_eff (i := 3) (by kernel_rfl) rfl (goes0 rfl) (fun K hK => ?_)
 refine e_callV (by kernel_rfl) rfl (take_yes b4 b2 q (hBq) (by first | omega | (simp only [zll] <;> omega)) kz (by omega) _ _ (by omega) _ _ (St.rogB (Γ1 := [_, _]) hS560) hGr556 (St.begin (Γ := [_, _]) hS560)) rfl (after_M (Γ1 := [_, _]) hS560 (fun v561 G561 w561 hv561 hS561 => ?_))
 clear hS560
 obtain ⟨ra561, rc561, rfl, rfl, hGr561, hrc561⟩ := hv561
 have hS562 : St _ _ [_, .blk b2 (.cells #[.slice ra561 ((q.drop kz).length) rc561] 58), _, _, _] _ := hS561; clear hS561
 have hld561 := List.length_drop (i := kz) (l := q)
 refine hK _ _ ⟨trivial, fun h => absurd h (by decide)⟩ ?_; clear hK K
 refine o_held (i := 4) [5, 6] (fun j w => ⟨(fun _ _ => trivial) j w, fun _ h => h⟩) rfl rfl (by kernel_rfl) (goes0 rfl) (QOk.inBlock (QOk.then (QOk.inBlock (QOk.then (QOk.then (QOk.inBlock (QOk.then QOk.body))))))) (q_convBS (l := (q.take kz)) rfl ((bv_takeG (n := kz) hGr556).mono hS562.base) (by first | omega | (simp only [zll] <;> omega)) (by kernel_rfl) (by kernel_rfl)) ?_
 refine o_pure (i := 5) (fun j w => ⟨(fun j w => ⟨(fun _ _ => trivial) j w, fun _ h => h⟩) j w, fun _ h => h⟩) rfl rfl (by kernel_rfl) (goes0 rfl) (QOk.inBlock (QOk.then (QOk.inBlock (QOk.then (QOk.then (QOk.inBlock (QOk.then QOk.body))))))) (fun w => q_fieldAddr (ft := 9) (o := 2) rfl (by kernel_rfl)) ?_
 refine o_eff (i := 6) (by kernel_rfl) rfl (goes0 rfl) (fun K hK => ?_)
 refine e_store1 hS562 rfl rfl (by kernel_rfl) (by first | rfl | assumption) (i := 3) rfl rfl (fun w563 (hS563 : St _ _ [_, _, _, _, _] _) => ?_)
 clear hS562
 refine hK _ _ ⟨⟨trivial, fun h => absurd h (by decide)⟩, fun h => absurd h (by decide)⟩ ?_; clear hK K
 refine o_done (by kernel_rfl) ?_
 refine hK364 _ _ ?_
 refine wp_seq_k (fun K564 hK564 => ?_)
 refine wp_region_lit ?_
 refine l_q rfl rfl (q_load1 rfl (by kernel_rfl) (hS563.cell (i := 0) rfl rfl)) ?_
 refine l_q rfl rfl (q_moveB rfl) ?_
 refine l_on rfl rfl rfl ?_
 refine l_q rfl rfl (q_loadA (m := 3) rfl (by kernel_rfl) (by kernel_rfl) (hS563.blk (i := 3) rfl) rfl rfl) ?_
 refine l_on rfl rfl rfl ?_
 refine l_e rfl (fun K hK => ?_)
 refine e_call (by kernel_rfl) (right_ok ((x361 : Int), (0 : Int), (q.take kz)) (Bytes.take (hBq)) _) rfl (after_R hS563 (fun v565 w565 hv565 hS565 => ?_))
 clear hS563
 obtain rfl := hv565
 refine hK _ _ ?_; clear hK K
 refine l_q rfl rfl (q_pickT rfl rfl rfl) ?_
 refine l_q rfl rfl (q_moveB rfl) ?_
 refine g_splitL (t := 59) rfl (fun hg566 => ?_) (fun hg566 => ?_)
 have hg566b := hg566
 try simp only [zbb] at hg566
 have hrt := hg566
 refine l_on rfl rfl hg566b ?_
 refine l_q rfl rfl (q_moveS rfl) ?_
 refine l_on rfl rfl hg566b ?_
 refine l_q rfl rfl (q_lenSl (e := 106) rfl (by kernel_rfl)) ?_
 refine l_on rfl rfl hg566b ?_
 refine l_q rfl rfl (q_lss rfl rfl) ?_
 refine l_q rfl rfl (q_pickT rfl hg566b rfl) ?_
 refine l_e rfl (fun K hK => ?_)
 refine e_store1 hS565 rfl rfl (by kernel_rfl) (by first | rfl | assumption) (i := 0) rfl rfl (fun w567 (hS567 : St _ _ [_, _, _, _, _] _) => ?_)
 clear hS565
 refine hK _ _ ?_; clear hK K
 refine l_nil ?_
 refine hK564 _ _ ?_
 refine wp_region_lit ?_
 refine l_q rfl rfl (q_moveS rfl) ?_
 refine l_q rfl rfl (q_loadA (m := 3) rfl (by kernel_rfl) (by kernel_rfl) (hS567.blk (i := 3) rfl) rfl rfl) ?_
 refine l_e rfl (fun K hK => ?_)
 refine e_buildSliceA (e := 106) (m := 3) (zv := .agg #[.int .i64 0, .int .i64 0, .string ⟨#[]⟩]) hS567 (by kernel_rfl) (by kernel_rfl) (by kernel_rfl) rfl rfl rfl rfl (fun b568 w568 (hS568 : St _ _ [.blk b568 (.cells #[.int .i64 (x361 : Int), .int .i64 (0 : Int), .string (bs (q.take kz))] 106), _, _, _, _, _] _) => ?_)
 clear hS567
 have hva : VOk ((x361 : Int), (0 : Int), (q.take kz)) := vok_of (Bytes.take (hBq)) ⟨by omega, by omega⟩ ⟨by omega, by omega⟩
 have hS568o : St _ _ [.ow 106 3 (some ⟨b568, 0, none⟩) 1 1 (List.flatMap vl [((x361 : Int), (0 : Int), (q.take kz))]), _, _, _, _, _] _ := hS568.blkOw' (i := 0) (m := 1) (size := 3) (xs := List.flatMap vl [((x361 : Int), (0 : Int), (q.take kz))]) rfl rfl rfl (by decide); clear hS568
 refine hK _ _ ?_; clear hK K
 refine l_e rfl (fun K hK => ?_)
 refine e_app (e := 106) (size := 3) (bytes := 32) (i := 5) (m' := (l ++ [((x361 : Int), (0 : Int), (q.take kz))]).length) (by kernel_rfl) hS568o rfl rfl rfl (SlG.src (e := 106) (by kernel_rfl) (hS568o.owG (i := 0) rfl) ((rows_len (c := vl) (m := 3) (fun _ => rfl) _).trans (by first | rfl | (simp only [zll]; done) | (simp only [zll]; omega) | omega)) (by decide) (rows_one vl_ones)) (by first | omega | (simp only [zll] <;> omega)) rows_app (by first | omega | (simp only [maxLen, zll] <;> omega)) (by first | omega | (simp only [zll] <;> omega)) (fun ad569 cp569 w569 (hS569 : St _ _ [_, _, _, _, _, .ow 106 3 ad569 ((l ++ [((x361 : Int), (0 : Int), (q.take kz))]).length) cp569 (List.flatMap vl (l ++ [((x361 : Int), (0 : Int), (q.take kz))]))] _) => ?_)
 clear hS568o
 refine hK _ _ ?_; clear hK K
 refine l_q rfl rfl (q_assignS rfl) ?_
 refine l_nil ?_
 refine hK355 _ _ ?_
 refine wp_region_lit ?_
 refine l_q rfl rfl (q_moveI rfl) ?_
 refine l_q rfl rfl (u_sub (a := n) (b := 1) rfl rfl rfl (by omega) (by show n < 256; omega)) ?_
 refine l_q rfl rfl (q_assignI rfl) ?_
 refine l_nil ?_
 have hS570 := hS569.fr3; clear hS569
 have hS571 := hS570.fr3; clear hS570
 have hS572 := hS571.fr3; clear hS571
 have hS573 := hS572.fr5; clear hS572
 have hS574 : St _ _ [_, _, _, _] _ := hS573.only 4; clear hS573
 refine hK350 _ _ (came (⟨(l ++ [((x361 : Int), (0 : Int), (q.take kz))]), (q.drop kz), ra561, rc561, ad569, cp569, (n - 1), (decide ((l.length : Int) < 16))⟩) (by repeat' (first | exact Agree.refl _ _ | refine Agree.up ?_ rfl | refine Agree.hav2 ?_ rfl | refine Agree.ups2 ?_ rfl)) (by repeat' (first | exact trivial | refine ⟨by first | rfl | assumption, ?_⟩)) ?_)
 have htk : TkR rest ((x361 : Int), (0 : Int), (q.take kz)) (q.drop kz) (rightB ((x361 : Int), (0 : Int), (q.take kz))) := tkr4 hxh361 (by omega) hzq (by omega)
 exact ⟨⟨hS574, RowI.next hI (by omega) hva htk (by rw [hrt, Bool.true_and]), hl.app (VsOk.one hva), (Bytes.drop (hBq)), hGr561, (by first | assumption | omega), (by first | omega | (simp only [List.length_drop]; omega)), (by show n - 1 < 256; omega)⟩, by (show n - 1 < n); omega⟩
 have hg566b := hg566
 try simp only [zbb] at hg566
 have hrt := hg566
 refine l_off rfl rfl rfl hg566b ?_
 refine l_off rfl rfl rfl hg566b ?_
 refine l_off rfl rfl rfl hg566b ?_
 refine l_q rfl rfl (q_pickF rfl hg566b rfl) ?_
 refine l_e rfl (fun K hK => ?_)
 refine e_store1 hS565 rfl rfl (by kernel_rfl) (by first | rfl | assumption) (i := 0) rfl rfl (fun w575 (hS575 : St _ _ [_, _, _, _, _] _) => ?_)
 clear hS565
 refine hK _ _ ?_; clear hK K
 refine l_nil ?_
 refine hK564 _ _ ?_
 refine wp_region_lit ?_
 refine l_q rfl rfl (q_moveS rfl) ?_
 refine l_q rfl rfl (q_loadA (m := 3) rfl (by kernel_rfl) (by kernel_rfl) (hS575.blk (i := 3) rfl) rfl rfl) ?_
 refine l_e rfl (fun K hK => ?_)
 refine e_buildSliceA (e := 106) (m := 3) (zv := .agg #[.int .i64 0, .int .i64 0, .string ⟨#[]⟩]) hS575 (by kernel_rfl) (by kernel_rfl) (by kernel_rfl) rfl rfl rfl rfl (fun b576 w576 (hS576 : St _ _ [.blk b576 (.cells #[.int .i64 (x361 : Int), .int .i64 (0 : Int), .string (bs (q.take kz))] 106), _, _, _, _, _] _) => ?_)
 clear hS575
 have hva : VOk ((x361 : Int), (0 : Int), (q.take kz)) := vok_of (Bytes.take (hBq)) ⟨by omega, by omega⟩ ⟨by omega, by omega⟩
 have hS576o : St _ _ [.ow 106 3 (some ⟨b576, 0, none⟩) 1 1 (List.flatMap vl [((x361 : Int), (0 : Int), (q.take kz))]), _, _, _, _, _] _ := hS576.blkOw' (i := 0) (m := 1) (size := 3) (xs := List.flatMap vl [((x361 : Int), (0 : Int), (q.take kz))]) rfl rfl rfl (by decide); clear hS576
 refine hK _ _ ?_; clear hK K
 refine l_e rfl (fun K hK => ?_)
 refine e_app (e := 106) (size := 3) (bytes := 32) (i := 5) (m' := (l ++ [((x361 : Int), (0 : Int), (q.take kz))]).length) (by kernel_rfl) hS576o rfl rfl rfl (SlG.src (e := 106) (by kernel_rfl) (hS576o.owG (i := 0) rfl) ((rows_len (c := vl) (m := 3) (fun _ => rfl) _).trans (by first | rfl | (simp only [zll]; done) | (simp only [zll]; omega) | omega)) (by decide) (rows_one vl_ones)) (by first | omega | (simp only [zll] <;> omega)) rows_app (by first | omega | (simp only [maxLen, zll] <;> omega)) (by first | omega | (simp only [zll] <;> omega)) (fun ad577 cp577 w577 (hS577 : St _ _ [_, _, _, _, _, .ow 106 3 ad577 ((l ++ [((x361 : Int), (0 : Int), (q.take kz))]).length) cp577 (List.flatMap vl (l ++ [((x361 : Int), (0 : Int), (q.take kz))]))] _) => ?_)
 clear hS576o
 refine hK _ _ ?_; clear hK K
 refine l_q rfl rfl (q_assignS rfl) ?_
 refine l_nil ?_
 refine hK355 _ _ ?_
 refine wp_region_lit ?_
 refine l_q rfl rfl (q_moveI rfl) ?_
 refine l_q rfl rfl (u_sub (a := n) (b := 1) rfl rfl rfl (by omega) (by show n < 256; omega)) ?_
 refine l_q rfl rfl (q_assignI rfl) ?_
 refine l_nil ?_
 have hS578 := hS577.fr3; clear hS577
 have hS579 := hS578.fr3; clear hS578
 have hS580 := hS579.fr3; clear hS579
 have hS581 := hS580.fr5; clear hS580
 have hS582 : St _ _ [_, _, _, _] _ := hS581.only 4; clear hS581
 refine hK350 _ _ (came (⟨(l ++ [((x361 : Int), (0 : Int), (q.take kz))]), (q.drop kz), ra561, rc561, ad577, cp577, (n - 1), false⟩) (by repeat' (first | exact Agree.refl _ _ | refine Agree.up ?_ rfl | refine Agree.hav2 ?_ rfl | refine Agree.ups2 ?_ rfl)) (by repeat' (first | exact trivial | refine ⟨by first | rfl | assumption, ?_⟩)) ?_)
 have htk : TkR rest ((x361 : Int), (0 : Int), (q.take kz)) (q.drop kz) (rightB ((x361 : Int), (0 : Int), (q.take kz))) := tkr4 hxh361 (by omega) hzq (by omega)
 exact ⟨⟨hS582, RowI.next hI (by omega) hva htk (by rw [hrt, Bool.false_and]), hl.app (VsOk.one hva), (Bytes.drop (hBq)), hGr561, (by first | assumption | omega), (by first | omega | (simp only [List.length_drop]; omega)), (by show n - 1 < 256; omega)⟩, by (show n - 1 < n); omega⟩
 refine o_eff (i := 3) (by kernel_rfl) rfl (goes0 rfl) (fun K hK => ?_)
 refine e_callV (by kernel_rfl) rfl (take_no b4 b2 q (hBq) (by first | omega | (simp only [zll] <;> omega)) true zz (by first | exact .inl rfl | exact .inr (by omega)) _ _ (by omega) _ _ (St.rogB (Γ1 := [_, _]) hS560) hGr556 (St.begin (Γ := [_, _]) hS560)) rfl (after_M (Γ1 := [_, _]) hS560 (fun v583 G583 w583 hv583 hS583 => ?_))
 clear hS560
 obtain ⟨nb583, rfl, rfl⟩ := hv583
 have hS584 : St _ _ [_, _, .ow 5 1 (some ⟨nb583, 0, none⟩) 1 1 (bv [0]), _, _, _] _ := hS583; clear hS583
 refine hK _ _ ⟨trivial, fun h => absurd h (by decide)⟩ ?_; clear hK K
 refine o_held (i := 4) [5, 6] (fun j w => ⟨(fun _ _ => trivial) j w, fun _ h => h⟩) rfl rfl (by kernel_rfl) (goes0 rfl) (QOk.inBlock (QOk.then (QOk.inBlock (QOk.then (QOk.then (QOk.inBlock (QOk.then QOk.body))))))) (q_convBS (l := [0]) rfl (hS584.owG (i := 2) rfl) (by first | omega | (simp only [zll] <;> omega)) (by kernel_rfl) (by kernel_rfl)) ?_
 refine o_pure (i := 5) (fun j w => ⟨(fun j w => ⟨(fun _ _ => trivial) j w, fun _ h => h⟩) j w, fun _ h => h⟩) rfl rfl (by kernel_rfl) (goes0 rfl) (QOk.inBlock (QOk.then (QOk.inBlock (QOk.then (QOk.then (QOk.inBlock (QOk.then QOk.body))))))) (fun w => q_fieldAddr (ft := 9) (o := 2) rfl (by kernel_rfl)) ?_
 refine o_eff (i := 6) (by kernel_rfl) rfl (goes0 rfl) (fun K hK => ?_)
 refine e_store1 hS584 rfl rfl (by kernel_rfl) (by first | rfl | assumption) (i := 4) rfl rfl (fun w585 (hS585 : St _ _ [_, _, _, _, _, _] _) => ?_)
 clear hS584
 refine hK _ _ ⟨⟨trivial, fun h => absurd h (by decide)⟩, fun h => absurd h (by decide)⟩ ?_; clear hK K
 refine o_done (by kernel_rfl) ?_
 refine hK364 _ _ ?_
 refine wp_seq_k (fun K586 hK586 => ?_)
 refine wp_region_lit ?_
 refine l_q rfl rfl (q_load1 rfl (by kernel_rfl) (hS585.cell (i := 0) rfl rfl)) ?_
 refine l_q rfl rfl (q_moveB rfl) ?_
 refine l_off rfl rfl rfl rfl ?_
 refine l_off rfl rfl rfl rfl ?_
 refine l_q rfl rfl (q_pickF rfl rfl rfl) ?_
 refine l_q rfl rfl (q_moveB rfl) ?_
 refine l_off rfl rfl rfl rfl ?_
 refine l_off rfl rfl rfl rfl ?_
 refine l_off rfl rfl rfl rfl ?_
 refine l_q rfl rfl (q_pickF rfl rfl rfl) ?_
 refine l_e rfl (fun K hK => ?_)
 refine e_store1 hS585 rfl rfl (by kernel_rfl) (by first | rfl | assumption) (i := 0) rfl rfl (fun w587 (hS587 : St _ _ [_, _, _, _, _, _] _) => ?_)
 clear hS585
 refine hK _ _ ?_; clear hK K
 refine l_nil ?_
 refine hK586 _ _ ?_
 refine wp_region_lit ?_
 refine l_q rfl rfl (q_moveS rfl) ?_
 refine l_q rfl rfl (q_loadA (m := 3) rfl (by kernel_rfl) (by kernel_rfl) (hS587.blk (i := 4) rfl) rfl rfl) ?_
 refine l_e rfl (fun K hK => ?_)
 refine e_buildSliceA (e := 106) (m := 3) (zv := .agg #[.int .i64 0, .int .i64 0, .string ⟨#[]⟩]) hS587 (by kernel_rfl) (by kernel_rfl) (by kernel_rfl) rfl rfl rfl rfl (fun b588 w588 (hS588 : St _ _ [.blk b588 (.cells #[.int .i64 (x361 : Int), .int .i64 (0 : Int), .string (bs [0])] 106), _, _, _, _, _, _] _) => ?_)
 clear hS587
 have hva : VOk ((x361 : Int), (0 : Int), [0]) := vok_of (by decide : Bytes [0]) ⟨by omega, by omega⟩ ⟨by omega, by omega⟩
 have hS588o : St _ _ [.ow 106 3 (some ⟨b588, 0, none⟩) 1 1 (List.flatMap vl [((x361 : Int), (0 : Int), [0])]), _, _, _, _, _, _] _ := hS588.blkOw' (i := 0) (m := 1) (size := 3) (xs := List.flatMap vl [((x361 : Int), (0 : Int), [0])]) rfl rfl rfl (by decide); clear hS588
 refine hK _ _ ?_; clear hK K
 refine l_e rfl (fun K hK => ?_)
 refine e_app (e := 106) (size := 3) (bytes := 32) (i := 6) (m' := (l ++ [((x361 : Int), (0 : Int), [0])]).length) (by kernel_rfl) hS588o rfl rfl rfl (SlG.src (e := 106) (by kernel_rfl) (hS588o.owG (i := 0) rfl) ((rows_len (c := vl) (m := 3) (fun _ => rfl) _).trans (by first | rfl | (simp only [zll]; done) | (simp only [zll]; omega) | omega)) (by decide) (rows_one vl_ones)) (by first | omega | (simp only [zll] <;> omega)) rows_app (by first | omega | (simp only [maxLen, zll] <;> omega)) (by first | omega | (simp only [zll] <;> omega)) (fun ad589 cp589 w589 (hS589 : St _ _ [_, _, _, _, _, _, .ow 106 3 ad589 ((l ++ [((x361 : Int), (0 : Int), [0])]).length) cp589 (List.flatMap vl (l ++ [((x361 : Int), (0 : Int), [0])]))] _) => ?_)
 clear hS588o
 refine hK _ _ ?_; clear hK K
 refine l_q rfl rfl (q_assignS rfl) ?_
 refine l_nil ?_
 refine hK355 _ _ ?_
 refine wp_region_lit ?_
 refine l_q rfl rfl (q_moveI rfl) ?_
 refine l_q rfl rfl (u_sub (a := n) (b := 1) rfl rfl rfl (by omega) (by show n < 256; omega)) ?_
 refine l_q rfl rfl (q_assignI rfl) ?_
 refine l_nil ?_
 have hS590 := hS589.fr4; clear hS589
 have hS591 := hS590.fr3; clear hS590
 have hS592 := hS591.fr3; clear hS591
 have hS593 := hS592.fr6; clear hS592
 have hS594 : St _ _ [_, _, _, _] _ := hS593.only 4; clear hS593
 refine hK350 _ _ (came (⟨(l ++ [((x361 : Int), (0 : Int), [0])]), q, ra556, rc556, ad589, cp589, (n - 1), false⟩) (by repeat' (first | exact Agree.refl _ _ | refine Agree.up ?_ rfl | refine Agree.hav2 ?_ rfl | refine Agree.ups2 ?_ rfl)) (by repeat' (first | exact trivial | refine ⟨by first | rfl | assumption, ?_⟩)) ?_)
 have htk : TkR rest ((x361 : Int), (0 : Int), [0]) q false := tkr_no (noval_long hxh361 (by omega) hzq (by omega))
 exact ⟨⟨hS594, RowI.next hI (by omega) hva htk rfl, hl.app (VsOk.one hva), (hBq), hGr556, (by first | assumption | omega), (by first | omega | (simp only [List.length_drop]; omega)), (by show n - 1 < 256; omega)⟩, by (show n - 1 < n); omega⟩
 refine o_eff (i := 2) (by kernel_rfl) rfl (goes0 rfl) (fun K hK => ?_)
 have hS596 := hS555.fr4; clear hS555
 have hS597 := hS596.fr3; clear hS596
 have hS598 := hS597.fr3; clear hS597
 refine e_callV (by kernel_rfl) rfl (number_no b4 b2 b7 (rest.drop 1) (Bytes.drop hbr) (by first | omega | (simp only [zll] <;> omega)) hno _ _ (by omega) _ _ (St.rogB (Γ1 := [_, _, _]) hS598) hGr357 (St.begin (Γ := [_, _, _]) hS598)) rfl (after_M (Γ1 := [_, _, _]) hS598 (fun v595 G595 w595 hv595 hS595 => ?_))
 clear hS598
 obtain ⟨rfl, rfl⟩ := hv595
 have hS599 : St _ _ [_, _, _, _, _] _ := hS595; clear hS595
 refine hK _ _ ⟨trivial, fun _ _ => by first | exact q_load1 rfl (by kernel_rfl) (hS599.cell (i := 2) rfl rfl)⟩ ?_; clear hK K
 refine o_eff (i := 3) (by kernel_rfl) rfl (goes0 rfl) (fun K hK => ?_)
 refine e_callV (by kernel_rfl) rfl (take_no b4 b2 (rest.drop 1) (Bytes.drop hbr) (by first | omega | (simp only [zll] <;> omega)) false (0 : Int) (by first | exact .inl rfl | exact .inr (by omega)) _ _ (by omega) _ _ (St.rogB (Γ1 := [_, _]) hS599) hGr357 (St.begin (Γ := [_, _]) hS599)) rfl (after_M (Γ1 := [_, _]) hS599 (fun v600 G600 w600 hv600 hS600 => ?_))
 clear hS599
 obtain ⟨nb600, rfl, rfl⟩ := hv600
 have hS601 : St _ _ [_, _, .ow 5 1 (some ⟨nb600, 0, none⟩) 1 1 (bv [0]), _, _, _] _ := hS600; clear hS600
 refine hK _ _ ⟨trivial, fun h => absurd h (by decide)⟩ ?_; clear hK K
 refine o_held (i := 4) [5, 6] (fun j w => ⟨(fun _ _ => trivial) j w, fun _ h => h⟩) rfl rfl (by kernel_rfl) (goes0 rfl) (QOk.inBlock (QOk.then (QOk.inBlock (QOk.then (QOk.then (QOk.inBlock (QOk.then QOk.body))))))) (q_convBS (l := [0]) rfl (hS601.owG (i := 2) rfl) (by first | omega | (simp only [zll] <;> omega)) (by kernel_rfl) (by kernel_rfl)) ?_
 refine o_pure (i := 5) (fun j w => ⟨(fun j w => ⟨(fun _ _ => trivial) j w, fun _ h => h⟩) j w, fun _ h => h⟩) rfl rfl (by kernel_rfl) (goes0 rfl) (QOk.inBlock (QOk.then (QOk.inBlock (QOk.then (QOk.then (QOk.inBlock (QOk.then QOk.body))))))) (fun w => q_fieldAddr (ft := 9) (o := 2) rfl (by kernel_rfl)) ?_
 refine o_eff (i := 6) (by kernel_rfl) rfl (goes0 rfl) (fun K hK => ?_)
 refine e_store1 hS601 rfl rfl (by kernel_rfl) (by first | rfl | assumption) (i := 4) rfl rfl (fun w602 (hS602 : St _ _ [_, _, _, _, _, _] _) => ?_)
 clear hS601
 refine hK _ _ ⟨⟨trivial, fun h => absurd h (by decide)⟩, fun h => absurd h (by decide)⟩ ?_; clear hK K
 refine o_done (by kernel_rfl) ?_
 refine hK364 _ _ ?_
 refine wp_seq_k (fun K603 hK603 => ?_)
 refine wp_region_lit ?_
 refine l_q rfl rfl (q_load1 rfl (by kernel_rfl) (hS602.cell (i := 0) rfl rfl)) ?_
 refine l_q rfl rfl (q_moveB rfl) ?_
 refine l_off rfl rfl rfl rfl ?_
 refine l_off rfl rfl rfl rfl ?_
 refine l_q rfl rfl (q_pickF rfl rfl rfl) ?_
 refine l_q rfl rfl (q_moveB rfl) ?_
 refine l_off rfl rfl rfl rfl ?_
 refine l_off rfl rfl rfl rfl ?_
 refine l_off rfl rfl rfl rfl ?_
 refine l_q rfl rfl (q_pickF rfl rfl rfl) ?_
 refine l_e rfl (fun K hK => ?_)
 refine e_store1 hS602 rfl rfl (by kernel_rfl) (by first | rfl | assumption) (i := 0) rfl rfl (fun w604 (hS604 : St _ _ [_, _, _, _, _, _] _) => ?_)
 clear hS602
 refine hK _ _ ?_; clear hK K
 refine l_nil ?_
 refine hK603 _ _ ?_
 refine wp_region_lit ?_
 refine l_q rfl rfl (q_moveS rfl) ?_
 refine l_q rfl rfl (q_loadA (m := 3) rfl (by kernel_rfl) (by kernel_rfl) (hS604.blk (i := 4) rfl) rfl rfl) ?_
 refine l_e rfl (fun K hK => ?_)
 refine e_buildSliceA (e := 106) (m := 3) (zv := .agg #[.int .i64 0, .int .i64 0, .string ⟨#[]⟩]) hS604 (by kernel_rfl) (by kernel_rfl) (by kernel_rfl) rfl rfl rfl rfl (fun b605 w605 (hS605 : St _ _ [.blk b605 (.cells #[.int .i64 (x361 : Int), .int .i64 (0 : Int), .string (bs [0])] 106), _, _, _, _, _, _] _) => ?_)
 clear hS604
 have hva : VOk ((x361 : Int), (0 : Int), [0]) := vok_of (by decide : Bytes [0]) ⟨by omega, by omega⟩ ⟨by omega, by omega⟩
 have hS605o : St _ _ [.ow 106 3 (some ⟨b605, 0, none⟩) 1 1 (List.flatMap vl [((x361 : Int), (0 : Int), [0])]), _, _, _, _, _, _] _ := hS605.blkOw' (i := 0) (m := 1) (size := 3) (xs := List.flatMap vl [((x361 : Int), (0 : Int), [0])]) rfl rfl rfl (by decide); clear hS605
 refine hK _ _ ?_; clear hK K
 refine l_e rfl (fun K hK => ?_)
 refine e_app (e := 106) (size := 3) (bytes := 32) (i := 6) (m' := (l ++ [((x361 : Int), (0 : Int), [0])]).length) (by kernel_rfl) hS605o rfl rfl rfl (SlG.src (e := 106) (by kernel_rfl) (hS605o.owG (i := 0) rfl) ((rows_len (c := vl) (m := 3) (fun _ => rfl) _).trans (by first | rfl | (simp only [zll]; done) | (simp only [zll]; omega) | omega)) (by decide) (rows_one vl_ones)) (by first | omega | (simp only [zll] <;> omega)) rows_app (by first | omega | (simp only [maxLen, zll] <;> omega)) (by first | omega | (simp only [zll] <;> omega)) (fun ad606 cp606 w606 (hS606 : St _ _ [_, _, _, _, _, _, .ow 106 3 ad606 ((l ++ [((x361 : Int), (0 : Int), [0])]).length) cp606 (List.flatMap vl (l ++ [((x361 : Int), (0 : Int), [0])]))] _) => ?_)
 clear hS605o
 refine hK _ _ ?_; clear hK K
 refine l_q rfl rfl (q_assignS rfl) ?_
 refine l_nil ?_
 refine hK355 _ _ ?_
 refine wp_region_lit ?_
 refine l_q rfl rfl (q_moveI rfl) ?_
 refine l_q rfl rfl (u_sub (a := n) (b := 1) rfl rfl rfl (by omega) (by show n < 256; omega)) ?_
 refine l_q rfl rfl (q_assignI rfl) ?_
 refine l_nil ?_
 have hS607 := hS606.fr4; clear hS606
 have hS608 := hS607.fr3; clear hS607
 have hS609 := hS608.fr3; clear hS608
 have hS610 := hS609.fr6; clear hS609
 have hS611 : St _ _ [_, _, _, _] _ := hS610.only 4; clear hS610
 refine hK350 _ _ (came (⟨(l ++ [((x361 : Int), (0 : Int), [0])]), (rest.drop 1), ra357, rc357, ad606, cp606, (n - 1), false⟩) (by repeat' (first | exact Agree.refl _ _ | refine Agree.up ?_ rfl | refine Agree.hav2 ?_ rfl | refine Agree.ups2 ?_ rfl)) (by repeat' (first | exact trivial | refine ⟨by first | rfl | assumption, ?_⟩)) ?_)
 have htk : TkR rest ((x361 : Int), (0 : Int), [0]) (rest.drop 1) false := tkr_no (noval_text hxh361 (by omega) hno)
 exact ⟨⟨hS611, RowI.next hI (by omega) hva htk rfl, hl.app (VsOk.one hva), (Bytes.drop hbr), hGr357, (by first | assumption | omega), (by first | omega | (simp only [List.length_drop]; omega)), (by show n - 1 < 256; omega)⟩, by (show n - 1 < n); omega⟩
 have hc554b := hc554
 try simp only [zbb] at hc554
 refine wp_skip ?_
 refine hK364 _ _ ?_
 refine wp_seq_k (fun K612 hK612 => ?_)
 refine wp_region_lit ?_
 refine l_q rfl rfl (q_load1 rfl (by kernel_rfl) (hS363.cell (i := 1) rfl rfl)) ?_
 refine l_q rfl rfl (q_moveB rfl) ?_
 refine l_on rfl rfl rfl ?_
 refine l_q rfl rfl (q_loadA (m := 3) rfl (by kernel_rfl) (by kernel_rfl) (hS363.blk (i := 0) rfl) rfl rfl) ?_
 refine l_on rfl rfl rfl ?_
 refine l_e rfl (fun K hK => ?_)
 refine e_call (by kernel_rfl) (right_ok ((x361 : Int), (0 : Int), []) Bytes.nil _) rfl (after_R hS363 (fun v613 w613 hv613 hS613 => ?_))
 clear hS363
 obtain rfl := hv613
 refine hK _ _ ?_; clear hK K
 refine l_q rfl rfl (q_pickT rfl rfl rfl) ?_
 refine l_q rfl rfl (q_moveB rfl) ?_
 refine g_splitL (t := 59) rfl (fun hg614 => ?_) (fun hg614 => ?_)
 have hg614b := hg614
 try simp only [zbb] at hg614
 have hrt := hg614
 refine l_on rfl rfl hg614b ?_
 refine l_q rfl rfl (q_moveS rfl) ?_
 refine l_on rfl rfl hg614b ?_
 refine l_q rfl rfl (q_lenSl (e := 106) rfl (by kernel_rfl)) ?_
 refine l_on rfl rfl hg614b ?_
 refine l_q rfl rfl (q_lss rfl rfl) ?_
 refine l_q rfl rfl (q_pickT rfl hg614b rfl) ?_
 refine l_e rfl (fun K hK => ?_)
 refine e_store1 hS613 rfl rfl (by kernel_rfl) (by first | rfl | assumption) (i := 1) rfl rfl (fun w615 (hS615 : St _ _ [_, _, _, _, _] _) => ?_)
 clear hS613
 refine hK _ _ ?_; clear hK K
 refine l_nil ?_
 refine hK612 _ _ ?_
 refine wp_region_lit ?_
 refine l_q rfl rfl (q_moveS rfl) ?_
 refine l_q rfl rfl (q_loadA (m := 3) rfl (by kernel_rfl) (by kernel_rfl) (hS615.blk (i := 0) rfl) rfl rfl) ?_
 refine l_e rfl (fun K hK => ?_)
 refine e_buildSliceA (e := 106) (m := 3) (zv := .agg #[.int .i64 0, .int .i64 0, .string ⟨#[]⟩]) hS615 (by kernel_rfl) (by kernel_rfl) (by kernel_rfl) rfl rfl rfl rfl (fun b616 w616 (hS616 : St _ _ [.blk b616 (.cells #[.int .i64 (x361 : Int), .int .i64 (0 : Int), .string (bs [])] 106), _, _, _, _, _] _) => ?_)
 clear hS615
 have hva : VOk ((x361 : Int), (0 : Int), []) := vok_of Bytes.nil ⟨by omega, by omega⟩ ⟨by omega, by omega⟩
 have hS616o : St _ _ [.ow 106 3 (some ⟨b616, 0, none⟩) 1 1 (List.flatMap vl [((x361 : Int), (0 : Int), [])]), _, _, _, _, _] _ := hS616.blkOw' (i := 0) (m := 1) (size := 3) (xs := List.flatMap vl [((x361 : Int), (0 : Int), [])]) rfl rfl rfl (by decide); clear hS616
 refine hK _ _ ?_; clear hK K
 refine l_e rfl (fun K hK => ?_)
 refine e_app (e := 106) (size := 3) (bytes := 32) (i := 4) (m' := (l ++ [((x361 : Int), (0 : Int), [])]).length) (by kernel_rfl) hS616o rfl rfl rfl (SlG.src (e := 106) (by kernel_rfl) (hS616o.owG (i := 0) rfl) ((rows_len (c := vl) (m := 3) (fun _ => rfl) _).trans (by first | rfl | (simp only [zll]; done) | (simp only [zll]; omega) | omega)) (by decide) (rows_one vl_ones)) (by first | omega | (simp only [zll] <;> omega)) rows_app (by first | omega | (simp only [maxLen, zll] <;> omega)) (by first | omega | (simp only [zll] <;> omega)) (fun ad617 cp617 w617 (hS617 : St _ _ [_, _, _, _, .ow 106 3 ad617 ((l ++ [((x361 : Int), (0 : Int), [])]).length) cp617 (List.flatMap vl (l ++ [((x361 : Int), (0 : Int), [])])), _] _) => ?_)
 clear hS616o
 refine hK _ _ ?_; clear hK K
 refine l_q rfl rfl (q_assignS rfl) ?_
 refine l_nil ?_
 refine hK355 _ _ ?_
 refine wp_region_lit ?_
 refine l_q rfl rfl (q_moveI rfl) ?_
 refine l_q rfl rfl (u_sub (a := n) (b := 1) rfl rfl rfl (by omega) (by show n < 256; omega)) ?_
 refine l_q rfl rfl (q_assignI rfl) ?_
 refine l_nil ?_
 have hS618 := hS617.fr5; clear hS617
 have hS619 := hS618.fr4; clear hS618
 have hS620 := hS619.fr4; clear hS619
 have hS621 := hS620.fr5; clear hS620
 have hS622 : St _ _ [_, _, _, _] _ := hS621.only 4; clear hS621
 refine hK350 _ _ (came (⟨(l ++ [((x361 : Int), (0 : Int), [])]), (rest.drop 1), ra357, rc357, ad617, cp617, (n - 1), (decide ((l.length : Int) < 16))⟩) (by repeat' (first | exact Agree.refl _ _ | refine Agree.up ?_ rfl | refine Agree.hav2 ?_ rfl | refine Agree.ups2 ?_ rfl)) (by repeat' (first | exact trivial | refine ⟨by first | rfl | assumption, ?_⟩)) ?_)
 have htk : TkR rest ((x361 : Int), (0 : Int), []) (rest.drop 1) (rightB ((x361 : Int), (0 : Int), [])) := tkr06 hxh361 ⟨by omega, by omega, by omega, by omega, by omega⟩
 exact ⟨⟨hS622, RowI.next hI (by omega) hva htk (by rw [hrt, Bool.true_and]), hl.app (VsOk.one hva), (Bytes.drop hbr), hGr357, (by first | assumption | omega), (by first | omega | (simp only [List.length_drop]; omega)), (by show n - 1 < 256; omega)⟩, by (show n - 1 < n); omega⟩
 have hg614b := hg614
 try simp only [zbb] at hg614
 have hrt := hg614
 refine l_off rfl rfl rfl hg614b ?_
 refine l_off rfl rfl rfl hg614b ?_
 refine l_off rfl rfl rfl hg614b ?_
 refine l_q rfl rfl (q_pickF rfl hg614b rfl) ?_
 refine l_e rfl (fun K hK => ?_)
 refine e_store1 hS613 rfl rfl (by kernel_rfl) (by first | rfl | assumption) (i := 1) rfl rfl (fun w623 (hS623 : St _ _ [_, _, _, _, _] _) => ?_)
 clear hS613
 refine hK _ _ ?_; clear hK K
 refine l_nil ?_
 refine hK612 _ _ ?_
 refine wp_region_lit ?_
 refine l_q rfl rfl (q_moveS rfl) ?_
 refine l_q rfl rfl (q_loadA (m := 3) rfl (by kernel_rfl) (by kernel_rfl) (hS623.blk (i := 0) rfl) rfl rfl) ?_
 refine l_e rfl (fun K hK => ?_)
 refine e_buildSliceA (e := 106) (m := 3) (zv := .agg #[.int .i64 0, .int .i64 0, .string ⟨#[]⟩]) hS623 (by kernel_rfl) (by kernel_rfl) (by kernel_rfl) rfl rfl rfl rfl (fun b624 w624 (hS624 : St _ _ [.blk b624 (.cells #[.int .i64 (x361 : Int), .int .i64 (0 : Int), .string (bs [])] 106), _, _, _, _, _] _) => ?_)
 clear hS623
 have hva : VOk ((x361 : Int), (0 : Int), []) := vok_of Bytes.nil ⟨by omega, by omega⟩ ⟨by omega, by omega⟩
 have hS624o : St _ _ [.ow 106 3 (some ⟨b624, 0, none⟩) 1 1 (List.flatMap vl [((x361 : Int), (0 : Int), [])]), _, _, _, _, _] _ := hS624.blkOw' (i := 0) (m := 1) (size := 3) (xs := List.flatMap vl [((x361 : Int), (0 : Int), [])]) rfl rfl rfl (by decide); clear hS624
 refine hK _ _ ?_; clear hK K
 refine l_e rfl (fun K hK => ?_)
 refine e_app (e := 106) (size := 3) (bytes := 32) (i := 4) (m' := (l ++ [((x361 : Int), (0 : Int), [])]).length) (by kernel_rfl) hS624o rfl rfl rfl (SlG.src (e := 106) (by kernel_rfl) (hS624o.owG (i := 0) rfl) ((rows_len (c := vl) (m := 3) (fun _ => rfl) _).trans (by first | rfl | (simp only [zll]; done) | (simp only [zll]; omega) | omega)) (by decide) (rows_one vl_ones)) (by first | omega | (simp only [zll] <;> omega)) rows_app (by first | omega | (simp only [maxLen, zll] <;> omega)) (by first | omega | (simp only [zll] <;> omega)) (fun ad625 cp625 w625 (hS625 : St _ _ [_, _, _, _, .ow 106 3 ad625 ((l ++ [((x361 : Int), (0 : Int), [])]).length) cp625 (List.flatMap vl (l ++ [((x361 : Int), (0 : Int), [])])), _] _) => ?_)
 clear hS624o
 refine hK _ _ ?_; clear hK K
 refine l_q rfl rfl (q_assignS rfl) ?_
 refine l_nil ?_
 refine hK355 _ _ ?_
 refine wp_region_lit ?_
 refine l_q rfl rfl (q_moveI rfl) ?_
 refine l_q rfl rfl (u_sub (a := n) (b := 1) rfl rfl rfl (by omega) (by show n < 256; omega)) ?_
 refine l_q rfl rfl (q_assignI rfl) ?_
 refine l_nil ?_
 have hS626 := hS625.fr5; clear hS625
 have hS627 := hS626.fr4; clear hS626
 have hS628 := hS627.fr4; clear hS627
 have hS629 := hS628.fr5; clear hS628
 have hS630 : St _ _ [_, _, _, _] _ := hS629.only 4; clear hS629
 refine hK350 _ _ (came (⟨(l ++ [((x361 : Int), (0 : Int), [])]), (rest.drop 1), ra357, rc357, ad625, cp625, (n - 1), false⟩) (by repeat' (first | exact Agree.refl _ _ | refine Agree.up ?_ rfl | refine Agree.hav2 ?_ rfl | refine Agree.ups2 ?_ rfl)) (by repeat' (first | exact trivial | refine ⟨by first | rfl | assumption, ?_⟩)) ?_)
 have htk : TkR rest ((x361 : Int), (0 : Int), []) (rest.drop 1) (rightB ((x361 : Int), (0 : Int), [])) := tkr06 hxh361 ⟨by omega, by omega, by omega, by omega, by omega⟩
 exact ⟨⟨hS630, RowI.next hI (by omega) hva htk (by rw [hrt, Bool.false_and]), hl.app (VsOk.one hva), (Bytes.drop hbr), hGr357, (by first | assumption | omega), (by first | omega | (simp only [List.length_drop]; omega)), (by show n - 1 < 256; omega)⟩, by (show n - 1 < n); omega⟩
 refine l_e rfl (fun K hK => ?_)
 have hS632 := hS350.fr2; clear hS350
 have hS633 := hS632.fr2; clear hS632
 refine e_callV (by kernel_rfl) rfl (take_no b4 b2 rest hbr (by first | omega | (simp only [zll] <;> omega)) true (1 : Int) (by first | exact .inl rfl | exact .inr (by omega)) _ _ (by omega) _ _ (St.rogB (Γ1 := [_, _]) hS633) hGr (St.begin (Γ := [_, _]) hS633)) rfl (after_M (Γ1 := [_, _]) hS633 (fun v631 G631 w631 hv631 hS631 => ?_))
 clear hS633
 obtain ⟨nb631, rfl, rfl⟩ := hv631
 have hS634 : St _ _ [_, _, .ow 5 1 (some ⟨nb631, 0, none⟩) 1 1 (bv [0]), _, _] _ := hS631; clear hS631
 refine hK _ _ ?_; clear hK K
 refine l_q rfl rfl (q_ixG (e := 5) (m := 1) (j := 0) rfl rfl (by kernel_rfl) (by kernel_rfl) (by first | rfl | omega) (by omega) (hS634.owG (i := 2) rfl) (by rw [bv_len]; first | omega | (simp only [zll] <;> omega))) ?_
 obtain ⟨x635, hx635⟩ : ∃ x, ([0])[0]? = some x := ⟨_, List.getElem?_eq_getElem (by first | omega | (simp only [zll] <;> omega) | (simp <;> omega))⟩
 have hb635 : x635 < 256 := (by decide : Bytes [0]) x635 (List.mem_of_getElem? hx635)
 refine l_q rfl rfl (q_load1 rfl (by kernel_rfl) (SlG.cell (hS634.owG (i := 2) rfl) (Gle.refl _) (at1 (bv_at hx635)))) ?_
 have hx0_635 : x635 = 0 := by simpa using hx635.symm
 refine l_q rfl rfl (q_convN (a := x635) rfl (by kernel_rfl) (by kernel_rfl) (wrap_fit_i64 (by omega))) ?_
 refine l_q rfl rfl (q_build (ps := [(0, 1), (1, 1), (2, 1)]) (zv := .agg #[.int .i64 0, .int .i64 0, .string ⟨#[]⟩]) (by kernel_rfl) (by kernel_rfl) rfl (by repeat' (first | exact trivial | refine ⟨fun _ => by first | rfl | assumption | exact one_if (by assumption), ?_⟩ | refine ⟨fun ⟨_, h⟩ => by simp at h, ?_⟩)) rfl) ?_
 refine l_e rfl (fun K hK => ?_)
 refine e_alloc (zv := .agg #[.int .i64 0, .int .i64 0, .string ⟨#[]⟩]) hS634 (by kernel_rfl) (fun b636 w636 (hS636 : St _ _ [.blk b636 (.cells #[.int .i64 (0 : Int), .int .i64 (0 : Int), .string (bs [])] 106), _, _, _, _, _] _) => ?_)
 clear hS634
 refine hK _ _ ?_; clear hK K
 refine l_e rfl (fun K hK => ?_)
 refine e_storeA hS636 rfl rfl (by kernel_rfl) (by repeat' (first | exact trivial | refine ⟨by first | rfl | assumption | exact one_if (by assumption), ?_⟩)) (i := 0) rfl rfl (fun w637 (hS637 : St _ _ [.blk b636 (.cells #[.int .i64 (x635 : Int), .int .i64 (0 : Int), .string (bs [])] 106), _, _, _, _, _] _) => ?_)
 clear hS636
 refine hK _ _ ?_; clear hK K
 refine l_nil ?_
 refine hK356 _ _ ?_
 refine wp_seq_k (fun K638 hK638 => ?_)
 refine wp_seq_k (fun K639 hK639 => ?_)
 refine wp_region_lit ?_
 refine l_q rfl rfl (q_fieldAddr (ft := 104) (o := 0) rfl (by kernel_rfl)) ?_
 refine l_q rfl rfl (q_load1 rfl (by kernel_rfl) (hS637.cell (i := 0) rfl rfl)) ?_
 refine l_nil ?_
 refine hK639 _ _ ?_
 refine wp_block ?_
 refine wp_seq_k (fun K640 hK640 => ?_)
 refine wp_region_lit ?_
 refine l_q rfl rfl (q_eql rfl rfl) ?_
 refine l_q rfl rfl (q_assignB rfl) ?_
 refine l_nil ?_
 refine hK640 _ _ ?_
 refine c_condF rfl (decide_eq_false (by omega)) ?_
 refine wp_seq_k (fun K642 hK642 => ?_)
 refine wp_seq_k (fun K643 hK643 => ?_)
 refine wp_region_lit ?_
 refine l_q rfl rfl (q_eql rfl rfl) ?_
 refine l_q rfl rfl (q_assignB rfl) ?_
 refine l_nil ?_
 refine hK643 _ _ ?_
 refine c_condF rfl (decide_eq_false (by omega)) ?_
 refine wp_region_lit ?_
 refine l_q rfl rfl (q_eql rfl rfl) ?_
 refine l_q rfl rfl (q_assignB rfl) ?_
 refine l_nil ?_
 refine hK642 _ _ ?_
 refine c_condF rfl (decide_eq_false (by omega)) ?_
 refine wp_seq_k (fun K646 hK646 => ?_)
 refine wp_seq_k (fun K647 hK647 => ?_)
 refine wp_region_lit ?_
 refine l_q rfl rfl (q_eql rfl rfl) ?_
 refine l_q rfl rfl (q_assignB rfl) ?_
 refine l_nil ?_
 refine hK647 _ _ ?_
 refine c_condF rfl (decide_eq_false (by omega)) ?_
 refine wp_region_lit ?_
 refine l_q rfl rfl (q_eql rfl rfl) ?_
 refine l_q rfl rfl (q_assignB rfl) ?_
 refine l_nil ?_
 refine hK646 _ _ ?_
 refine c_condF rfl (decide_eq_false (by omega)) ?_
 refine wp_skip ?_
 refine hK638 _ _ ?_
 refine wp_seq_k (fun K650 hK650 => ?_)
 refine wp_region_lit ?_
 refine l_q rfl rfl (q_load1 rfl (by kernel_rfl) (hS637.cell (i := 1) rfl rfl)) ?_
 refine l_q rfl rfl (q_moveB rfl) ?_
 refine l_off rfl rfl rfl rfl ?_
 refine l_off rfl rfl rfl rfl ?_
 refine l_q rfl rfl (q_pickF rfl rfl rfl) ?_
 refine l_q rfl rfl (q_moveB rfl) ?_
 refine l_off rfl rfl rfl rfl ?_
 refine l_off rfl rfl rfl rfl ?_
 refine l_off rfl rfl rfl rfl ?_
 refine l_q rfl rfl (q_pickF rfl rfl rfl) ?_
 refine l_e rfl (fun K hK => ?_)
 refine e_store1 hS637 rfl rfl (by kernel_rfl) (by first | rfl | assumption) (i := 1) rfl rfl (fun w651 (hS651 : St _ _ [_, _, _, _, _, _] _) => ?_)
 clear hS637
 refine hK _ _ ?_; clear hK K
 refine l_nil ?_
 refine hK650 _ _ ?_
 refine wp_region_lit ?_
 refine l_q rfl rfl (q_moveS rfl) ?_
 refine l_q rfl rfl (q_loadA (m := 3) rfl (by kernel_rfl) (by kernel_rfl) (hS651.blk (i := 0) rfl) rfl rfl) ?_
 refine l_e rfl (fun K hK => ?_)
 refine e_buildSliceA (e := 106) (m := 3) (zv := .agg #[.int .i64 0, .int .i64 0, .string ⟨#[]⟩]) hS651 (by kernel_rfl) (by kernel_rfl) (by kernel_rfl) rfl rfl rfl rfl (fun b652 w652 (hS652 : St _ _ [.blk b652 (.cells #[.int .i64 (x635 : Int), .int .i64 (0 : Int), .string (bs [])] 106), _, _, _, _, _, _] _) => ?_)
 clear hS651
 have hva : VOk ((x635 : Int), (0 : Int), []) := vok_of Bytes.nil ⟨by omega, by omega⟩ ⟨by omega, by omega⟩
 have hS652o : St _ _ [.ow 106 3 (some ⟨b652, 0, none⟩) 1 1 (List.flatMap vl [((x635 : Int), (0 : Int), [])]), _, _, _, _, _, _] _ := hS652.blkOw' (i := 0) (m := 1) (size := 3) (xs := List.flatMap vl [((x635 : Int), (0 : Int), [])]) rfl rfl rfl (by decide); clear hS652
 refine hK _ _ ?_; clear hK K
 refine l_e rfl (fun K hK => ?_)
 refine e_app (e := 106) (size := 3) (bytes := 32) (i := 5) (m' := (l ++ [((x635 : Int), (0 : Int), [])]).length) (by kernel_rfl) hS652o rfl rfl rfl (SlG.src (e := 106) (by kernel_rfl) (hS652o.owG (i := 0) rfl) ((rows_len (c := vl) (m := 3) (fun _ => rfl) _).trans (by first | rfl | (simp only [zll]; done) | (simp only [zll]; omega) | omega)) (by decide) (rows_one vl_ones)) (by first | omega | (simp only [zll] <;> omega)) rows_app (by first | omega | (simp only [maxLen, zll] <;> omega)) (by first | omega | (simp only [zll] <;> omega)) (fun ad653 cp653 w653 (hS653 : St _ _ [_, _, _, _, _, .ow 106 3 ad653 ((l ++ [((x635 : Int), (0 : Int), [])]).length) cp653 (List.flatMap vl (l ++ [((x635 : Int), (0 : Int), [])])), _] _) => ?_)
 clear hS652o
 refine hK _ _ ?_; clear hK K
 refine l_q rfl rfl (q_assignS rfl) ?_
 refine l_nil ?_
 refine hK355 _ _ ?_
 refine wp_region_lit ?_
 refine l_q rfl rfl (q_moveI rfl) ?_
 refine l_q rfl rfl (u_sub (a := n) (b := 1) rfl rfl rfl (by omega) (by show n < 256; omega)) ?_
 refine l_q rfl rfl (q_assignI rfl) ?_
 refine l_nil ?_
 have hS654 := hS653.fr6; clear hS653
 have hS655 := hS654.fr4; clear hS654
 have hS656 := hS655.fr4; clear hS655
 have hS657 := hS656.fr6; clear hS656
 have hS658 : St _ _ [_, _, _, _] _ := hS657.only 4; clear hS657
 refine hK350 _ _ (came (⟨(l ++ [((x635 : Int), (0 : Int), [])]), rest, ra, rc, ad653, cp653, (n - 1), false⟩) (by repeat' (first | exact Agree.refl _ _ | refine Agree.up ?_ rfl | refine Agree.hav2 ?_ rfl | refine Agree.ups2 ?_ rfl)) (by repeat' (first | exact trivial | refine ⟨by first | rfl | assumption, ?_⟩)) ?_)
 have htk : TkR rest ((x635 : Int), (0 : Int), []) rest false := tkr_no (noval_emp hp)
 exact ⟨⟨hS658, RowI.next hI (by omega) hva htk rfl, hl.app (VsOk.one hva), hbr, hGr, (by first | assumption | omega), (by first | omega | (simp only [List.length_drop]; omega)), (by show n - 1 < 256; omega)⟩, by (show n - 1 < n); omega⟩
 have hc354b := hc354
 try simp only [zbb] at hc354
 refine wp_exit ?_
 refine hK11 _ _ ?_
 refine wp_seq_k (fun K659 hK659 => ?_)
 refine wp_seq_k (fun K660 hK660 => ?_)
 refine wp_region_lit ?_
 refine l_q rfl rfl (q_load1 rfl (by kernel_rfl) (hS350.cell (i := 1) rfl rfl)) ?_
 refine l_q rfl rfl (q_not rfl) ?_
 refine l_q rfl rfl (q_moveB rfl) ?_
 refine l_on rfl rfl rfl ?_
 refine l_q rfl rfl (q_load1 rfl (by kernel_rfl) (hS350.cell (i := 2) rfl rfl)) ?_
 refine l_on rfl rfl rfl ?_
 refine l_q rfl rfl (q_lenSl (e := 5) rfl (by kernel_rfl)) ?_
 refine l_on rfl rfl rfl ?_
 refine l_q rfl rfl (q_gtr rfl rfl) ?_
 refine l_q rfl rfl (q_pickF rfl rfl rfl) ?_
 refine l_nil ?_
 refine hK660 _ _ ?_
 refine c_cond rfl (fun hc661 => ?_) (fun hc661 => ?_)
 have hc661b := hc661
 try simp only [zbb] at hc661
 refine wp_seq_k (fun K662 hK662 => ?_)
 refine wp_region_lit ?_
 refine l_q rfl rfl (q_assignS rfl) ?_
 refine l_q rfl rfl (q_assignI rfl) ?_
 refine l_nil ?_
 refine hK662 _ _ ?_
 refine wp_ret ?_
 refine c_ret2 rfl rfl rfl ?_
 have hd : decRw b = ([], 51) := by first | exact decRw_no (hI.2 rfl) | exact decRw_no (row_more hbe hRl (by omega) hl16 (by omega))
 exact ⟨_, _, rfl, ⟨none, 0, by rw [hd]; rfl, by rw [hd]; rfl⟩, hS350.drop.ow_nil _ _⟩
 have hc661b := hc661
 try simp only [zbb] at hc661
 refine wp_skip ?_
 refine hK659 _ _ ?_
 refine wp_seq_k (fun K663 hK663 => ?_)
 refine wp_region_lit ?_
 refine l_q rfl rfl (q_moveS rfl) ?_
 refine l_q rfl rfl (q_assignS rfl) ?_
 refine l_q rfl rfl (q_assignI rfl) ?_
 refine l_nil ?_
 refine hK663 _ _ ?_
 refine wp_ret ?_
 refine c_ret2 rfl rfl rfl ?_
 have hS664 : St _ _ [_] _ := hS350.only 1; clear hS350
 have hd := row_yes hbe hRl (by omega) hl16 (by omega)
 exact ⟨_, _, rfl, ⟨oa, oc, (congrArg (fun q : List Vl × Int => Value.tuple #[.slice oa q.1.length oc, .int .i64 q.2]) hd).symm, by rw [hd]⟩, hS664⟩
 have hg353b := hg353
 try simp only [zbb] at hg353
 have hok := hg353
 subst hok
 refine l_off rfl rfl rfl hg353b ?_
 refine l_off rfl rfl rfl hg353b ?_
 refine l_q rfl rfl (q_pickF rfl hg353b rfl) ?_
 refine l_nil ?_
 refine hK352 _ _ ?_
 refine c_condF rfl rfl ?_
 refine wp_exit ?_
 refine hK11 _ _ ?_
 refine wp_seq_k (fun K666 hK666 => ?_)
 refine wp_seq_k (fun K667 hK667 => ?_)
 refine wp_region_lit ?_
 refine l_q rfl rfl (q_load1 rfl (by kernel_rfl) (hS350.cell (i := 1) rfl rfl)) ?_
 refine l_q rfl rfl (q_not rfl) ?_
 refine l_q rfl rfl (q_moveB rfl) ?_
 refine l_off rfl rfl rfl rfl ?_
 refine l_off rfl rfl rfl rfl ?_
 refine l_off rfl rfl rfl rfl ?_
 refine l_q rfl rfl (q_pickT rfl rfl rfl) ?_
 refine l_nil ?_
 refine hK667 _ _ ?_
 refine c_condT rfl rfl ?_
 refine wp_seq_k (fun K669 hK669 => ?_)
 refine wp_region_lit ?_
 refine l_q rfl rfl (q_assignS rfl) ?_
 refine l_q rfl rfl (q_assignI rfl) ?_
 refine l_nil ?_
 refine hK669 _ _ ?_
 refine wp_ret ?_
 refine c_ret2 rfl rfl rfl ?_
 have hd : decRw b = ([], 51) := by first | exact decRw_no (hI.2 rfl) | exact decRw_no (row_more hbe hRl (by omega) hl16 (by omega))
 exact ⟨_, _, rfl, ⟨none, 0, by rw [hd]; rfl, by rw [hd]; rfl⟩, hS350.drop.ow_nil _ _⟩
end Go.Proofs.Yteojpdijmnpmgaa
namespace Go.Proofs.Yteojpdijmnpmgaa
/-- A letter: its kind, from, to, its transaction, its nodes. -/
structure Lr where
  k : Int
  f : Int
  t : Int
  x : Int
  nd : List Int
def LV (l : Lr) (an : Option Addr) (cn : Nat) : List Value := [.int .i64 l.k, .int .i64 l.f, .int .i64 l.t, .int .i64 l.x, .slice an l.nd.length cn]
/-- Do nodes rise behind a? -/
def risB : Int → List Int → Bool
  | _, [] => true
  | a, x :: l => decide (a < x) && decide (0 ≤ x) && decide (x < 16) && risB x l
theorem risB_cons {a x : Int} {l : List Int} : risB a (x :: l) = true ↔ a < x ∧ 0 ≤ x ∧ x < 16 ∧ risB x l = true := by
  show (decide (a < x) && decide (0 ≤ x) && decide (x < 16) && risB x l) = true ↔ _
  simp only [Bool.and_eq_true, decide_eq_true_eq]
  constructor
  · rintro ⟨⟨⟨h1, h2⟩, h3⟩, h4⟩; exact ⟨h1, h2, h3, h4⟩
  · rintro ⟨h1, h2, h3, h4⟩; exact ⟨⟨⟨h1, h2⟩, h3⟩, h4⟩
/-- Is a letter right? -/
def rightL (l : Lr) : Bool := decide (1 ≤ l.k ∧ l.k ≤ 8 ∧ 0 ≤ l.f ∧ l.f < 16 ∧ 0 ≤ l.t ∧ l.t < 16 ∧ 0 ≤ l.x ∧ l.x ≤ 1099511627776) && (if l.k = 1 then risB (-1) l.nd else decide (l.nd = []))
theorem rightL_iff {l : Lr} : rightL l = true ↔ (1 ≤ l.k ∧ l.k ≤ 8 ∧ 0 ≤ l.f ∧ l.f < 16 ∧ 0 ≤ l.t ∧ l.t < 16 ∧ 0 ≤ l.x ∧ l.x ≤ 1099511627776) ∧ ((l.k = 1 → risB (-1) l.nd = true) ∧ (l.k ≠ 1 → l.nd = [])) := by
  unfold rightL
  rw [Bool.and_eq_true, decide_eq_true_eq]
  split
  · rename_i h; constructor
    · rintro ⟨h1, h2⟩; exact ⟨h1, fun _ => h2, fun h3 => absurd h h3⟩
    · rintro ⟨h1, h2, _⟩; exact ⟨h1, h2 h⟩
  · rename_i h; rw [decide_eq_true_eq]; constructor
    · rintro ⟨h1, h2⟩; exact ⟨h1, fun h3 => absurd h3 h, fun _ => h2⟩
    · rintro ⟨h1, _, h2⟩; exact ⟨h1, h2 h⟩
/-- The last of the nodes that were seen, and whether all rise till then. -/
def lastN (nd : List Int) (i : Nat) : Int := if i = 0 then -1 else (nd[i - 1]?).getD 0
theorem lastN_zero (nd : List Int) : lastN nd 0 = -1 := rfl
theorem lastN_succ {nd : List Int} {i : Nat} {x : Int} (h : nd[i]? = some x) : lastN nd (i + 1) = x := by
  unfold lastN
  rw [if_neg (by omega), Nat.add_sub_cancel, h]; rfl
def okTo (nd : List Int) (i : Nat) : Prop := ∀ j, j < i → ∀ x, nd[j]? = some x → lastN nd j < x ∧ 0 ≤ x ∧ x < 16
theorem okTo.zero (nd : List Int) : okTo nd 0 := fun j h => by omega
theorem okTo.next {nd : List Int} {i : Nat} {x : Int} (h : okTo nd i) (hx : nd[i]? = some x) (h2 : lastN nd i < x ∧ 0 ≤ x ∧ x < 16) : okTo nd (i + 1) := fun j hj y hy => by
  by_cases e : j = i
  · subst e; rw [hx] at hy; injection hy with hy; subst hy; exact h2
  · exact h j (by omega) y hy
theorem risB_ok : ∀ (nd pre : List Int) (a : Int), (∀ j x, nd[j]? = some x → (if j = 0 then a else (nd[j - 1]?).getD 0) < x ∧ 0 ≤ x ∧ x < 16) ↔ risB a nd = true
  | [], _, a => by simp [risB]
  | y :: nd, pre, a => by
    rw [risB_cons]
    constructor
    · intro h
      have h0 := h 0 y rfl
      simp only [if_true] at h0
      refine ⟨h0.1, h0.2.1, h0.2.2, (risB_ok nd pre y).1 fun j x hx => ?_⟩
      have h1 := h (j + 1) x (by simpa using hx)
      rw [if_neg (by omega), Nat.add_sub_cancel] at h1
      refine ⟨?_, h1.2⟩
      by_cases hj : j = 0
      · subst hj; simpa using h1.1
      · rw [if_neg hj]
        obtain ⟨j', rfl⟩ : ∃ j', j = j' + 1 := ⟨j - 1, by omega⟩
        simpa using h1.1
    · rintro ⟨h1, h2, h3, h4⟩ j x hx
      have ih := (risB_ok nd pre y).2 h4
      by_cases hj : j = 0
      · subst hj; simp at hx; subst hx; simpa using ⟨h1, h2, h3⟩
      · obtain ⟨j', rfl⟩ : ∃ j', j = j' + 1 := ⟨j - 1, by omega⟩
        have h5 := ih j' x (by simpa using hx)
        rw [if_neg hj, Nat.add_sub_cancel]
        refine ⟨?_, h5.2⟩
        by_cases hj' : j' = 0
        · subst hj'; simpa using h5.1
        · rw [if_neg hj'] at h5
          obtain ⟨j'', rfl⟩ : ∃ j'', j' = j'' + 1 := ⟨j' - 1, by omega⟩
          simpa using h5.1
theorem okTo_ris {nd : List Int} : okTo nd nd.length ↔ risB (-1) nd = true := by
  rw [← risB_ok nd [] (-1)]
  constructor
  · intro h j x hx; exact h j (List.getElem?_eq_some_iff.1 hx).1 x hx
  · intro h j _ x hx; exact h j x hx
theorem okTo_bad {nd : List Int} {i : Nat} {x : Int} (hx : nd[i]? = some x) (h : ¬(lastN nd i < x ∧ 0 ≤ x ∧ x < 16)) : risB (-1) nd = false := by
  rw [Bool.eq_false_iff]
  intro h'
  exact h (okTo_ris.2 h' i (List.getElem?_eq_some_iff.1 hx).1 x hx)
theorem ris_bd {nd : List Int} (h : risB (-1) nd = true) {i : Nat} {x : Int} (hx : nd[i]? = some x) : lastN nd i < x ∧ 0 ≤ x ∧ x < 16 := okTo_ris.2 h i (List.getElem?_eq_some_iff.1 hx).1 x hx
/-- Nodes as bits. -/
def bitsOf : List Int → Nat
  | [] => 0
  | x :: l => 2 ^ x.toNat + bitsOf l
theorem bitsOf_app : ∀ (l m : List Int), bitsOf (l ++ m) = bitsOf l + bitsOf m
  | [], m => (Nat.zero_add _).symm
  | x :: l, m => by show 2 ^ x.toNat + bitsOf (l ++ m) = _; rw [bitsOf_app l m]; show _ = 2 ^ x.toNat + bitsOf l + bitsOf m; omega
theorem bits_lt {nd : List Int} (h : risB (-1) nd = true) : ∀ i, i ≤ nd.length → ∀ m : Nat, lastN nd i < (m : Int) → bitsOf (nd.take i) < 2 ^ m
  | 0, _, m, _ => by show 0 < 2 ^ m; exact Nat.pow_pos (by decide)
  | i + 1, hi, m, hm => by
    obtain ⟨x, hx⟩ : ∃ x, nd[i]? = some x := ⟨_, List.getElem?_eq_getElem (by omega)⟩
    obtain ⟨h1, h2, h3⟩ := ris_bd h hx
    rw [lastN_succ hx] at hm
    rw [List.take_add_one, hx, bitsOf_app]
    have ih := bits_lt h i (by omega) x.toNat (by omega)
    have h4 : 2 ^ (x.toNat + 1) ≤ 2 ^ m := Nat.pow_le_pow_right (by decide) (by omega)
    rw [Nat.pow_succ] at h4
    show _ + (2 ^ x.toNat + 0) < 2 ^ m
    omega
theorem bits_step {nd : List Int} (h : risB (-1) nd = true) {i m : Nat} (hx : nd[i]? = some ((m : Nat) : Int)) : bitsOf (nd.take i) ||| (1 * 2 ^ m) = bitsOf (nd.take (i + 1)) ∧ bitsOf (nd.take i) < 65536 ∧ 2 ^ m ≤ 32768 ∧ m < 16 := by
  obtain ⟨h1, h2, h3⟩ := ris_bd h hx
  have hi : i < nd.length := (List.getElem?_eq_some_iff.1 hx).1
  have h4 := bits_lt h i (by omega) m h1
  have h5 : 2 ^ m ≤ 2 ^ 15 := Nat.pow_le_pow_right (by decide) (by omega)
  refine ⟨?_, by omega, by omega, by omega⟩
  rw [or_step h4, List.take_add_one, hx, bitsOf_app]
  show _ = _ + (2 ^ ((m : Nat) : Int).toNat + 0)
  rw [Int.toNat_natCast]; omega
theorem bits_16 {nd : List Int} (h : risB (-1) nd = true) : bitsOf nd < 65536 := by
  have := bits_lt h nd.length (Nat.le_refl _) 16 (by
    by_cases h0 : nd.length = 0
    · rw [h0, lastN_zero]; omega
    · obtain ⟨x, hx⟩ : ∃ x, nd[nd.length - 1]? = some x := ⟨_, List.getElem?_eq_getElem (by omega)⟩
      have h1 := lastN_succ hx
      rw [show nd.length - 1 + 1 = nd.length from by omega] at h1
      rw [h1]
      exact (ris_bd h hx).2.2)
  rwa [List.take_length] at this
/-- Bits as nodes. -/
def nodesTo (u : Nat) : Nat → List Int
  | 0 => []
  | i + 1 => if u / 2 ^ i % 2 = 1 then nodesTo u i ++ [((i : Nat) : Int)] else nodesTo u i
theorem nodesTo_zero (u : Nat) : nodesTo u 0 = [] := rfl
theorem nodesTo_len (u : Nat) : ∀ i, (nodesTo u i).length ≤ i
  | 0 => Nat.le_refl _
  | i + 1 => by
    unfold nodesTo
    have := nodesTo_len u i
    split
    · rw [List.length_append]; simp; omega
    · omega
theorem nodesTo_at {u i : Nat} (h : u / 2 ^ i % 2 = 1) : nodesTo u (i + 1) = nodesTo u i ++ [((i : Nat) : Int)] := by show (if _ then _ else _) = _; rw [if_pos h]
theorem nodesTo_off {u i : Nat} (h : ¬u / 2 ^ i % 2 = 1) : nodesTo u (i + 1) = nodesTo u i := by show (if _ then _ else _) = _; rw [if_neg h]
/-- All nodes are below m, and rise: their bits give them again. -/
theorem nodes_bits : ∀ (m : Nat) (nd : List Int), (∀ x ∈ nd, 0 ≤ x ∧ x < (m : Int)) → nd.Pairwise (· < ·) → nodesTo (bitsOf nd) m = nd ∧ bitsOf nd < 2 ^ m
  | 0, nd, h, _ => by
    have : nd = [] := by
      cases nd with
      | nil => rfl
      | cons x l => have := h x (.head _); omega
    subst this; exact ⟨rfl, by decide⟩
  | m + 1, nd, h, hp => by
    have up : ∀ (u v : Nat), (∀ i, i < m → u / 2 ^ i % 2 = v / 2 ^ i % 2) → nodesTo u m = nodesTo v m := by
      intro u v huv
      have : ∀ j, j ≤ m → nodesTo u j = nodesTo v j := by
        intro j
        induction j with
        | zero => intro _; rfl
        | succ j ih =>
          intro hj
          unfold nodesTo
          rw [huv j (by omega), ih (by omega)]
      exact this m (Nat.le_refl _)
    rcases List.eq_nil_or_concat nd with rfl | ⟨l, x, rfl⟩
    · obtain ⟨h1, h2⟩ := nodes_bits m [] (by simp) List.Pairwise.nil
      refine ⟨?_, Nat.pow_pos (by decide)⟩
      have : ¬ bitsOf [] / 2 ^ m % 2 = 1 := by show ¬ 0 / 2 ^ m % 2 = 1; rw [Nat.zero_div]; decide
      rw [nodesTo_off this]; exact h1
    · rw [List.concat_eq_append] at *
      rw [List.pairwise_append] at hp
      obtain ⟨p1, _, p3⟩ := hp
      have hx := h x (List.mem_append_right _ (.head _))
      have hlt : ∀ y ∈ l, 0 ≤ y ∧ y < x := fun y hy => ⟨(h y (List.mem_append_left _ hy)).1, p3 y hy x (.head _)⟩
      by_cases hxm : x = (m : Int)
      · obtain ⟨h1, h2⟩ := nodes_bits m l (fun y hy => by rw [← hxm]; exact hlt y hy) p1
        have hb : bitsOf (l ++ [x]) = 2 ^ m + bitsOf l := by
          rw [bitsOf_app, hxm]; show _ + (2 ^ ((m : Nat) : Int).toNat + 0) = _; rw [Int.toNat_natCast]; omega
        have hpos : 0 < 2 ^ m := Nat.pow_pos (by decide)
        have hq : bitsOf (l ++ [x]) / 2 ^ m = 1 := by
          rw [hb, Nat.add_div_left _ hpos, Nat.div_eq_of_lt h2]
        refine ⟨?_, by rw [hb, Nat.pow_succ]; omega⟩
        rw [nodesTo_at (by rw [hq]), up _ (bitsOf l), h1, hxm]
        intro i hi
        rw [hb]
        have e : 2 ^ m = 2 ^ i * (2 * 2 ^ (m - i - 1)) := by
          rw [← Nat.pow_succ', ← Nat.pow_add]; congr 1; omega
        rw [e, Nat.mul_add_div (Nat.pow_pos (by decide))]
        omega
      · obtain ⟨h1, h2⟩ := nodes_bits m (l ++ [x]) (fun y hy => by
          rcases List.mem_append.1 hy with hy | hy
          · have := hlt y hy; omega
          · rw [List.mem_singleton] at hy; subst hy; omega) (by rw [List.pairwise_append]; exact ⟨p1, by simp, p3⟩)
        refine ⟨?_, by rw [Nat.pow_succ]; omega⟩
        rw [nodesTo_off (by rw [Nat.div_eq_of_lt h2]; decide), h1]
theorem ris_pair : ∀ {nd : List Int} {a : Int}, risB a nd = true → nd.Pairwise (· < ·) ∧ ∀ x ∈ nd, a < x ∧ 0 ≤ x ∧ x < 16
  | [], a, _ => ⟨.nil, by simp⟩
  | x :: nd, a, h => by
    obtain ⟨h1, h2, h3, h4⟩ := risB_cons.1 h
    obtain ⟨i1, i2⟩ := ris_pair h4
    refine ⟨List.pairwise_cons.2 ⟨fun y hy => (i2 y hy).1, i1⟩, fun y hy => ?_⟩
    rcases List.mem_cons.1 hy with rfl | hy
    · exact ⟨h1, h2, h3⟩
    · obtain ⟨j1, j2, j3⟩ := i2 y hy; exact ⟨by omega, j2, j3⟩
theorem nodes_16 {nd : List Int} (h : risB (-1) nd = true) : nodesTo (bitsOf nd) 16 = nd :=
  (nodes_bits 16 nd (fun x hx => ((ris_pair h).2 x hx).2) (ris_pair h).1).1
/-- A letter's row, its bytes. -/
def vI (n : Int) : Vl := (2, n, [])
theorem vI_right (n : Int) : rightB (vI n) = true := by simp [vI, rightB]
theorem vI_ok {n : Int} (h1 : -9223372036854775808 ≤ n) (h2 : n ≤ 9223372036854775807) : VOk (vI n) := ⟨Bytes.nil, by show -9223372036854775808 ≤ (2 : Int) ∧ (2 : Int) ≤ 9223372036854775807; omega, h1, h2⟩
theorem vIs_step {ns : List Int} {vs : List Vl} {i : Nat} {x : Int} (h : vs = (ns.take i).map vI) (hx : ns[i]? = some x) : vs ++ [((2 : Int), x, [])] = (ns.take (i + 1)).map vI := by
  rw [h, List.take_add_one, hx, List.map_append]; rfl
end Go.Proofs.Yteojpdijmnpmgaa
namespace Go.Proofs.Yteojpdijmnpmgaa
open Go.RowKit
/-- Is a node one of a set's? -/
def bt (u m : Nat) : Prop := u / 2 ^ m % 2 = 1
theorem bt_iff {u m : Nat} : bt u m ↔ u.testBit m = true := by
  unfold bt; rw [Nat.testBit_eq_decide_div_mod_eq, decide_eq_true_iff]
theorem bt_or {a b m : Nat} : bt (a ||| b) m ↔ bt a m ∨ bt b m := by
  rw [bt_iff, bt_iff, bt_iff, Nat.testBit_or, Bool.or_eq_true]
theorem bt_one {i m : Nat} : bt (1 * 2 ^ i) m ↔ m = i := by
  rw [bt_iff, Nat.one_mul, Nat.testBit_two_pow, decide_eq_true_iff]; exact eq_comm
theorem bt_and {a b m : Nat} : bt (a &&& b) m ↔ bt a m ∧ bt b m := by
  rw [bt_iff, bt_iff, bt_iff, Nat.testBit_and, Bool.and_eq_true]
theorem bt_sub {a b m : Nat} : bt (a ^^^ (a &&& b)) m ↔ bt a m ∧ ¬bt b m := by
  rw [bt_iff, bt_iff, bt_iff, Nat.testBit_xor, Nat.testBit_and]
  cases a.testBit m <;> cases b.testBit m <;> simp
theorem bt_zero (m : Nat) : ¬bt 0 m := by unfold bt; simp
theorem bt_ext {a b : Nat} (h : ∀ m, bt a m ↔ bt b m) : a = b := Nat.eq_of_testBit_eq fun m => by
  have := h m
  rw [bt_iff, bt_iff] at this
  cases h1 : a.testBit m <;> cases h2 : b.testBit m <;> simp_all
theorem bt_lt {u m : Nat} (h : u < 65536) (hb : bt u m) : m < 16 := by
  rcases Nat.lt_or_ge m 16 with h1 | h1
  · exact h1
  · have : u < 2 ^ m := Nat.lt_of_lt_of_le h (show 2 ^ 16 ≤ 2 ^ m from Nat.pow_le_pow_right (by decide) h1)
    rw [bt_iff, Nat.testBit_lt_two_pow this] at hb; cases hb
/-- u &^ one, u & one = 0, u & one /= 0. -/
theorem and_one {u m : Nat} : u &&& (1 * 2 ^ m) = 0 ↔ ¬bt u m := by
  constructor
  · intro h hb
    have : bt (u &&& (1 * 2 ^ m)) m := bt_and.2 ⟨hb, bt_one.2 rfl⟩
    rw [h] at this; exact bt_zero _ this
  · intro h
    refine bt_ext fun i => ⟨fun hi => ?_, fun hi => absurd hi (bt_zero _)⟩
    rw [bt_and, bt_one] at hi
    obtain ⟨h1, rfl⟩ := hi
    exact absurd h1 h
theorem sub_lt {u v : Nat} (h : u < 65536) : u ^^^ (u &&& v) < 65536 := by
  refine Nat.lt_pow_two_of_testBit (n := 16) _ fun i hi => ?_
  cases h1 : (u ^^^ (u &&& v)).testBit i with
  | false => rfl
  | true => have := bt_lt h (bt_sub.1 (bt_iff.2 h1)).1; omega
theorem or_lt {u v : Nat} (h : u < 65536) (h' : v < 65536) : u ||| v < 65536 := Nat.or_lt_two_pow (n := 16) h h'
theorem nodes_mem {u : Nat} {x : Int} : ∀ {n : Nat}, x ∈ nodesTo u n ↔ ∃ m : Nat, m < n ∧ x = (m : Int) ∧ bt u m
  | 0 => by rw [nodesTo_zero]; simp
  | n + 1 => by
    by_cases h : u / 2 ^ n % 2 = 1
    · rw [nodesTo_at h, List.mem_append, nodes_mem, List.mem_singleton]
      constructor
      · rintro (⟨m, h1, h2, h3⟩ | rfl)
        · exact ⟨m, by omega, h2, h3⟩
        · exact ⟨n, by omega, rfl, h⟩
      · rintro ⟨m, h1, h2, h3⟩
        by_cases e : m = n
        · subst e; exact .inr h2
        · exact .inl ⟨m, by omega, h2, h3⟩
    · rw [nodesTo_off h, nodes_mem]
      constructor
      · rintro ⟨m, h1, h2, h3⟩; exact ⟨m, by omega, h2, h3⟩
      · rintro ⟨m, h1, h2, h3⟩
        by_cases e : m = n
        · subst e; exact absurd h3 h
        · exact ⟨m, by omega, h2, h3⟩
theorem nodes_rise (u : Nat) : ∀ n, (nodesTo u n).Pairwise (· < ·)
  | 0 => by rw [nodesTo_zero]; exact .nil
  | n + 1 => by
    by_cases h : u / 2 ^ n % 2 = 1
    · rw [nodesTo_at h, List.pairwise_append]
      refine ⟨nodes_rise u n, by simp, fun a ha b hb => ?_⟩
      obtain ⟨m, h1, h2, _⟩ := nodes_mem.1 ha
      rw [List.mem_singleton] at hb; omega
    · rw [nodesTo_off h]; exact nodes_rise u n
theorem nodes_nodup (u n : Nat) : (nodesTo u n).Nodup := (nodes_rise u n).imp fun h => by omega
theorem nodes_inj {u v : Nat} (hu : u < 65536) (hv : v < 65536) (h : nodesTo u 16 = nodesTo v 16) : u = v := bt_ext fun m => by
  constructor
  · intro hm
    have : ((m : Nat) : Int) ∈ nodesTo v 16 := by rw [← h]; exact nodes_mem.2 ⟨m, bt_lt hu hm, rfl, hm⟩
    obtain ⟨i, _, h2, h3⟩ := nodes_mem.1 this
    obtain rfl : m = i := by omega
    exact h3
  · intro hm
    have : ((m : Nat) : Int) ∈ nodesTo u 16 := by rw [h]; exact nodes_mem.2 ⟨m, bt_lt hv hm, rfl, hm⟩
    obtain ⟨i, _, h2, h3⟩ := nodes_mem.1 this
    obtain rfl : m = i := by omega
    exact h3
theorem nodes_nil {u : Nat} (hu : u < 65536) : nodesTo u 16 = [] ↔ u = 0 := by
  constructor
  · intro h; exact nodes_inj hu (by decide) (h.trans (by
      symm; rw [List.eq_nil_iff_forall_not_mem]; intro x hx; obtain ⟨m, _, _, h3⟩ := nodes_mem.1 hx; exact bt_zero _ h3))
  · rintro rfl; rw [List.eq_nil_iff_forall_not_mem]; intro x hx; obtain ⟨m, _, _, h3⟩ := nodes_mem.1 hx; exact bt_zero _ h3
end Go.Proofs.Yteojpdijmnpmgaa
namespace Go.Proofs.Yteojpdijmnpmgaa
open Go.RowKit
theorem lastN_take {nd : List Int} {i j : Nat} (h : j ≤ i) : lastN (nd.take i) j = lastN nd j := by
  unfold lastN
  split
  · rfl
  · rw [List.getElem?_take_of_lt (by omega)]
theorem lastN_ge {nd : List Int} {i : Nat} (h : okTo nd i) (hi : i ≤ nd.length) : -1 ≤ lastN nd i := by
  unfold lastN
  split
  · omega
  · have hl : i - 1 < nd.length := by omega
    have := h (i - 1) (by omega) nd[i - 1] (List.getElem?_eq_getElem hl)
    rw [List.getElem?_eq_getElem hl]; show -1 ≤ nd[i - 1]; omega
theorem ris_take {nd : List Int} {i : Nat} (h : okTo nd i) (hi : i ≤ nd.length) : risB (-1) (nd.take i) = true := by
  refine okTo_ris.1 fun j hj x hx => ?_
  rw [List.length_take] at hj
  rw [lastN_take (by omega)]
  rw [List.getElem?_take_of_lt (by omega)] at hx
  exact h j (by omega) x hx
theorem bits_stepT {nd : List Int} {i m : Nat} (h : okTo nd (i + 1)) (hx : nd[i]? = some ((m : Nat) : Int)) : bitsOf (nd.take i) ||| (1 * 2 ^ m) = bitsOf (nd.take (i + 1)) ∧ bitsOf (nd.take i) < 65536 ∧ 2 ^ m ≤ 32768 ∧ m < 16 := by
  have hi : i < nd.length := (List.getElem?_eq_some_iff.1 hx).1
  have h1 := bits_step (i := i) (m := m) (ris_take h hi) (by rw [List.getElem?_take_of_lt (by omega)]; exact hx)
  rw [List.take_take, List.take_take, Nat.min_eq_left (by omega), Nat.min_self] at h1
  exact h1
/-- A set of nodes, whether they are such as may be. -/
def ofL (nd : List Int) : Nat × Bool := if risB (-1) nd = true then (bitsOf nd, decide (0 < bitsOf nd)) else (0, false)
theorem ofL_yes {nd : List Int} (h : risB (-1) nd = true) : ofL nd = (bitsOf nd, decide (0 < bitsOf nd)) := if_pos h
theorem ofL_no {nd : List Int} (h : risB (-1) nd = false) : ofL nd = (0, false) := if_neg (by rw [h]; decide)
/-- Is a value one of a record's numbers? -/
def recB (v : Vl) : Bool := decide (v.1 = 2 ∧ 0 ≤ v.2.1 ∧ v.2.1 ≤ 1099511627776)
/-- A record's numbers; nothing: it is none. -/
noncomputable def readL (b : List Nat) : List Int := if (decRw b).2 = 0 ∧ 2 ≤ (decRw b).1.length ∧ (decRw b).1.length ≤ 3 ∧ (decRw b).1.all recB = true then (decRw b).1.map (·.2.1) else []
theorem readL_no {b : List Nat} (h : ¬((decRw b).2 = 0 ∧ 2 ≤ (decRw b).1.length ∧ (decRw b).1.length ≤ 3)) : readL b = [] := if_neg fun h' => h ⟨h'.1, h'.2.1, h'.2.2.1⟩
theorem readL_bad {b : List Nat} {i : Nat} {v : Vl} (hv : (decRw b).1[i]? = some v) (h : ¬(v.1 = 2 ∧ 0 ≤ v.2.1 ∧ v.2.1 ≤ 1099511627776)) : readL b = [] := if_neg fun h' => by
  have := List.all_eq_true.1 h'.2.2.2 v (List.mem_of_getElem? hv)
  exact h (of_decide_eq_true this)
theorem readL_yes {b : List Nat} (h : (decRw b).2 = 0) (h1 : 2 ≤ (decRw b).1.length) (h2 : (decRw b).1.length ≤ 3) (h3 : ∀ j, j < (decRw b).1.length → ∀ v, (decRw b).1[j]? = some v → v.1 = 2 ∧ 0 ≤ v.2.1 ∧ v.2.1 ≤ 1099511627776) : readL b = (decRw b).1.map (·.2.1) := if_pos ⟨h, h1, h2, List.all_eq_true.2 fun v hv => by
  obtain ⟨j, hj, e⟩ := List.getElem_of_mem hv
  exact decide_eq_true (h3 j hj v (by rw [List.getElem?_eq_getElem hj, e]))⟩
theorem mt_step {L : List Vl} {i : Nat} {v : Vl} (h : L[i]? = some v) : (L.take (i + 1)).map (·.2.1) = (L.take i).map (·.2.1) ++ [v.2.1] := by rw [List.take_add_one, h]; simp
theorem recs_ok {ns : List Int} (h : ∀ x ∈ ns, -9223372036854775808 ≤ x ∧ x ≤ 9223372036854775807) : VsOk (ns.map vI) := fun v hv => by
  obtain ⟨x, hx, rfl⟩ := List.mem_map.1 hv; exact vI_ok (h x hx).1 (h x hx).2
attribute [local irreducible] Oper.wp Sem.run Code.wp wpList wpAnyO callFunc execOp Calls
attribute [local irreducible] toU short rencs renc rowE encRow rightB zig unzig decRw rightL risB lastN bitsOf nodesTo readL recB ofL
set_option maxRecDepth 100000 in
theorem has_ok (u m : Nat) (hu : u < 65536) (hm : m < 16) (w : World) : Calls Try.prog 72 #[.int .i64 (u : Int), .int .i64 (m : Int)] w (PostR w fun v => v = .bool (decide (u / 2 ^ m % 2 = 1))) := by
 have hS := St.start w
 refine c_enter Try.func72 rfl rfl rfl ?_
 refine wp_seq_k (fun K1 hK1 => ?_)
 refine wp_region_lit ?_
 refine l_q rfl rfl (q_assignB rfl) ?_
 refine l_nil ?_
 refine hK1 _ _ ?_
 refine wp_seq_k (fun K2 hK2 => ?_)
 have hdl : u / 2 ^ m ≤ u := Nat.div_le_self _ _
 refine wp_region_lit ?_
 refine l_q rfl rfl (q_moveI rfl) ?_
 refine l_q rfl rfl (q_moveI rfl) ?_
 refine l_q rfl rfl (q_shrN (k := .i64) (a := u) (b := m) rfl rfl (by show _ ≤ 64; omega)) ?_
 refine l_q rfl rfl (q_andP (a := (u / 2 ^ m)) (j := 1) (M := 2) 63 rfl rfl (by decide) (by decide) (by decide) (by show _ < 9223372036854775808; omega) (.inr (by decide))) ?_
 refine l_q rfl rfl (q_eql rfl rfl) ?_
 refine l_q rfl rfl (q_assignB rfl) ?_
 refine l_nil ?_
 refine hK2 _ _ ?_
 refine wp_ret ?_
 refine c_ret1 rfl rfl ?_
 exact ⟨_, rfl, congrArg Value.bool (by first | rfl | (exact decide_eq_decide.2 (by omega))), hS.drop⟩
set_option maxRecDepth 100000 in
theorem nodes_ok (u : Nat) (hu : u < 65536) (w : World) : Calls Try.prog 55 #[.int .i64 (u : Int)] w (PostN w fun v G => ∃ ad cap, v = .slice ad (nodesTo u 16).length cap ∧ G = [.ow 3 1 ad (nodesTo u 16).length cap (iv (nodesTo u 16))]) := by
 have hS := St.start w
 refine c_enter Try.func55 rfl rfl rfl ?_
 refine wp_seq_k (fun K1 hK1 => ?_)
 refine wp_region_lit ?_
 refine l_q rfl rfl (q_assignS rfl) ?_
 refine l_nil ?_
 refine hK1 _ _ ?_
 refine wp_seq_k (fun K2 hK2 => ?_)
 refine wp_region_lit ?_
 refine l_q rfl rfl (q_assignS rfl) ?_
 refine l_nil ?_
 refine hK2 _ _ ?_
 refine wp_seq_k (fun K3 hK3 => ?_)
 refine wp_seq_k (fun K4 hK4 => ?_)
 refine wp_region_lit ?_
 refine l_q rfl rfl (q_moveI rfl) ?_
 refine l_nil ?_
 refine hK4 _ _ ?_
 refine wp_block ?_
 have hS5 := hS.ow_nil 3 1; clear hS
 refine c_loop (τ := Nat × (Option Addr) × Nat) [(3, 15)] (fun x => (fun (i : Nat) (ad : Option Addr) (cap : Nat) => [(5, .int .i64 (i : Int)), (3, .slice ad ((nodesTo u i).length) cap)]) x.1 x.2.1 x.2.2) (fun x w' => (fun (i : Nat) (ad : Option Addr) (cap : Nat) => St w (fun _ => False) [.ow 3 1 ad ((nodesTo u i).length) cap (iv (nodesTo u i))] w' ∧ i ≤ 16) x.1 x.2.1 x.2.2) (fun x => (fun (i : Nat) (ad : Option Addr) (cap : Nat) => 16 - i) x.1 x.2.1 x.2.2) (⟨0, none, 0⟩) ?_ (by refine ⟨rfl, ⟨by rw [nodesTo_zero]; rfl, trivial⟩⟩) (fun x6 j6 w6 hJ6 K6 hK6 => ?_)
 exact ⟨hS5.cast (by rw [nodesTo_zero]; rfl), Nat.zero_le _⟩
 obtain ⟨i, ad, cap⟩ := x6
 obtain ⟨hS6, hi⟩ := hJ6
 try dsimp only at hS6 hi ⊢
 have hnl := nodesTo_len u i
 refine wp_seq_k (fun K7 hK7 => ?_)
 refine wp_region_lit ?_
 refine l_q rfl rfl (q_lss rfl rfl) ?_
 refine l_nil ?_
 refine hK7 _ _ ?_
 refine wp_seq_k (fun K8 hK8 => ?_)
 refine c_cond rfl (fun hc9 => ?_) (fun hc9 => ?_)
 have hc9b := hc9
 try simp only [zbb] at hc9
 refine wp_skip ?_
 refine hK8 _ _ ?_
 refine wp_seq_k (fun K10 hK10 => ?_)
 refine wp_block ?_
 refine wp_seq_k (fun K11 hK11 => ?_)
 refine wp_region_lit ?_
 refine l_q rfl rfl (q_moveI rfl) ?_
 refine l_q rfl rfl (q_assignI rfl) ?_
 refine l_nil ?_
 refine hK11 _ _ ?_
 refine wp_seq_k (fun K12 hK12 => ?_)
 refine wp_region_lit ?_
 refine l_q rfl rfl (q_moveI rfl) ?_
 refine l_q rfl rfl (q_moveI rfl) ?_
 refine l_e rfl (fun K hK => ?_)
 refine e_call (by kernel_rfl) (has_ok u i (by first | omega | (simp only [zll] <;> omega)) (by first | omega | (simp only [zll] <;> omega)) _) rfl (after_R hS6 (fun v13 w13 hv13 hS13 => ?_))
 clear hS6
 obtain rfl := hv13
 refine hK _ _ ?_; clear hK K
 refine l_nil ?_
 refine hK12 _ _ ?_
 refine c_cond rfl (fun hc14 => ?_) (fun hc14 => ?_)
 have hc14b := hc14
 try simp only [zbb] at hc14
 refine wp_region_lit ?_
 refine l_q rfl rfl (q_moveS rfl) ?_
 refine l_q rfl rfl (q_moveI rfl) ?_
 refine l_e rfl (fun K hK => ?_)
 refine e_buildSlice1 (e := 3) (zv := .int .i64 0) (xs := [.tmp 12]) hS13 (by kernel_rfl) (by kernel_rfl) (by kernel_rfl) rfl rfl rfl rfl (allone (by repeat' (first | exact trivial | refine ⟨by first | rfl | assumption, ?_⟩))) rfl (fun b15 w15 (hS15 : St _ _ [.blk b15 (.cells #[.int .i64 (i : Int)] 3), .ow 3 1 ad ((nodesTo u i).length) cap (iv (nodesTo u i))] _) => ?_)
 clear hS13
 have hS15o : St _ _ [.ow 3 1 (some ⟨b15, 0, none⟩) 1 1 (iv [(i : Int)]), _] _ := hS15.blkOw' (i := 0) (m := 1) (size := 1) (xs := iv [(i : Int)]) rfl rfl rfl (by decide); clear hS15
 refine hK _ _ ?_; clear hK K
 refine l_e rfl (fun K hK => ?_)
 refine e_app (e := 3) (size := 1) (bytes := 8) (i := 1) (m' := ((nodesTo u i) ++ [(i : Int)]).length) (by kernel_rfl) hS15o rfl rfl rfl (SlG.src (e := 3) (by kernel_rfl) (hS15o.owG (i := 0) rfl) (by first | (simp only [zll, Nat.mul_one]; done) | (simp only [zll]; omega) | rfl | (simp; done)) (by decide) (iv_one _)) (by first | omega | (simp only [zll] <;> omega) | (simp; done)) iv_app (by first | omega | (simp only [maxLen, zll] <;> omega) | (simp only [maxLen]; omega)) (by first | omega | (simp only [zll] <;> omega)) (fun ad16 cp16 w16 (hS16 : St _ _ [_, .ow 3 1 ad16 (((nodesTo u i) ++ [(i : Int)]).length) cp16 (iv ((nodesTo u i) ++ [(i : Int)]))] _) => ?_)
 clear hS15o
 refine hK _ _ ?_; clear hK K
 refine l_q rfl rfl (q_assignS rfl) ?_
 refine l_nil ?_
 refine hK10 _ _ ?_
 refine wp_region_lit ?_
 refine l_q rfl rfl (q_addx rfl rfl (by first | decide | omega) (by first | decide | omega)) ?_
 refine l_q rfl rfl (q_moveI rfl) ?_
 refine l_nil ?_
 have hS17 := hS16.fr1; clear hS16
 have hS18 : St _ _ [_] _ := hS17.only 1; clear hS17
 refine hK6 _ _ (came (⟨(i + 1), ad16, cp16⟩) (by repeat' (first | exact Agree.refl _ _ | refine Agree.up ?_ rfl | refine Agree.hav2 ?_ rfl | refine Agree.ups2 ?_ rfl)) (by refine ⟨rfl, ⟨by rw [nodesTo_at (of_decide_eq_true (by assumption))]; rfl, trivial⟩⟩) ?_)
 exact ⟨⟨hS18.cast (by rw [nodesTo_at (of_decide_eq_true (by assumption))]), (by show i + 1 ≤ 16; omega)⟩, by (show 16 - (i + 1) < 16 - i); omega⟩
 have hc14b := hc14
 try simp only [zbb] at hc14
 refine wp_skip ?_
 refine hK10 _ _ ?_
 refine wp_region_lit ?_
 refine l_q rfl rfl (q_addx rfl rfl (by first | decide | omega) (by first | decide | omega)) ?_
 refine l_q rfl rfl (q_moveI rfl) ?_
 refine l_nil ?_
 refine hK6 _ _ (came (⟨(i + 1), ad, cap⟩) (by repeat' (first | exact Agree.refl _ _ | refine Agree.up ?_ rfl | refine Agree.hav2 ?_ rfl | refine Agree.ups2 ?_ rfl)) (by refine ⟨rfl, ⟨by rw [nodesTo_off (of_decide_eq_false (by assumption))]; rfl, trivial⟩⟩) ?_)
 exact ⟨⟨hS13.cast (by rw [nodesTo_off (of_decide_eq_false (by assumption))]), (by show i + 1 ≤ 16; omega)⟩, by (show 16 - (i + 1) < 16 - i); omega⟩
 have hc9b := hc9
 try simp only [zbb] at hc9
 refine wp_exit ?_
 refine hK3 _ _ ?_
 refine wp_seq_k (fun K19 hK19 => ?_)
 refine wp_region_lit ?_
 refine l_q rfl rfl (q_moveS rfl) ?_
 refine l_q rfl rfl (q_assignS rfl) ?_
 refine l_nil ?_
 refine hK19 _ _ ?_
 refine wp_ret ?_
 refine c_ret1 rfl rfl ?_
 have hi16 : i = 16 := by omega
 subst hi16
 exact ⟨_, _, rfl, ⟨ad, cap, rfl, rfl⟩, hS6⟩
set_option maxRecDepth 100000 in
theorem record_ok (ns : List Int) (hns : ∀ x ∈ ns, -9223372036854775808 ≤ x ∧ x ≤ 9223372036854775807) (n : Nat) (hn : ns.length = n) (hm : n ≤ 1000) (an : Option Addr) (cn : Nat) (w : World) (hG : SlG (hw w) an (iv ns)) : Calls Try.prog 31 #[.slice an n cn] w (PostN w fun v G => ∃ oa oc, v = .slice oa (rowE (ns.map vI)).1.length oc ∧ G = [.ow 5 1 oa (rowE (ns.map vI)).1.length oc (bv (rowE (ns.map vI)).1)]) := by
 have hS := St.start w
 subst hn
 refine c_enter Try.func31 rfl rfl rfl ?_
 refine wp_seq_k (fun K1 hK1 => ?_)
 refine wp_region_lit ?_
 refine l_q rfl rfl (q_assignS rfl) ?_
 refine l_nil ?_
 refine hK1 _ _ ?_
 refine wp_seq_k (fun K2 hK2 => ?_)
 refine wp_region_lit ?_
 refine l_q rfl rfl (q_assignS rfl) ?_
 refine l_nil ?_
 refine hK2 _ _ ?_
 refine wp_seq_k (fun K3 hK3 => ?_)
 refine wp_seq_k (fun K4 hK4 => ?_)
 refine wp_region_lit ?_
 refine l_q rfl rfl (q_moveS rfl) ?_
 refine l_q rfl rfl (q_lenSl (e := 3) rfl (by kernel_rfl)) ?_
 refine l_q rfl rfl (q_moveI rfl) ?_
 refine l_nil ?_
 refine hK4 _ _ ?_
 refine wp_block ?_
 have hS5 := hS.ow_nil 106 3; clear hS
 refine c_loop (τ := Nat × (List Vl) × (Option Addr) × Nat) [(3, 3), (5, 5), (10, 19)] (fun x => (fun (j : Nat) (vs : List Vl) (ad : Option Addr) (cap : Nat) => [(3, .slice ad vs.length cap), (10, .int .i64 (j : Int))]) x.1 x.2.1 x.2.2.1 x.2.2.2) (fun x w' => (fun (j : Nat) (vs : List Vl) (ad : Option Addr) (cap : Nat) => St w (fun _ => False) [.ow 106 3 ad vs.length cap (List.flatMap vl vs)] w' ∧ j ≤ ns.length ∧ vs = (ns.take j).map vI ∧ VsOk vs ∧ vs.length = j) x.1 x.2.1 x.2.2.1 x.2.2.2) (fun x => (fun (j : Nat) (vs : List Vl) (ad : Option Addr) (cap : Nat) => ns.length - j) x.1 x.2.1 x.2.2.1 x.2.2.2) (⟨0, [], none, 0⟩) ?_ (by repeat' (first | exact trivial | refine ⟨by first | rfl | exact int_succ _ | assumption, ?_⟩)) (fun x6 j6 w6 hJ6 K6 hK6 => ?_)
 exact ⟨hS5, Nat.zero_le _, rfl, VsOk.nil, rfl⟩
 obtain ⟨j, vs, ad, cap⟩ := x6
 obtain ⟨hS6, hj, hve, hvs, hvl⟩ := hJ6
 try dsimp only at hS6 hj hve hvs hvl ⊢
 refine wp_seq_k (fun K7 hK7 => ?_)
 refine wp_region_lit ?_
 refine l_q rfl rfl (q_lss rfl rfl) ?_
 refine l_nil ?_
 refine hK7 _ _ ?_
 refine wp_seq_k (fun K8 hK8 => ?_)
 refine c_cond rfl (fun hc9 => ?_) (fun hc9 => ?_)
 have hc9b := hc9
 try simp only [zbb] at hc9
 refine wp_skip ?_
 refine hK8 _ _ ?_
 refine wp_seq_k (fun K10 hK10 => ?_)
 refine wp_block ?_
 refine wp_seq_k (fun K11 hK11 => ?_)
 refine wp_region_lit ?_
 refine l_q rfl rfl (q_ixG (e := 3) (m := 1) (j := j) rfl rfl (by kernel_rfl) (by kernel_rfl) (by first | rfl | omega) (by omega) hG (by rw [iv_len]; first | omega | (simp only [zll] <;> omega))) ?_
 obtain ⟨x12, hx12⟩ : ∃ x, (ns)[j]? = some x := ⟨_, List.getElem?_eq_getElem (by first | omega | (simp only [zll] <;> omega) | (simp <;> omega))⟩
 refine l_q rfl rfl (q_load1 rfl (by kernel_rfl) (SlG.cell (hG.mono hS6.base) (Gle.refl _) (at1 (iv_at hx12)))) ?_
 refine l_q rfl rfl (q_assignI rfl) ?_
 refine l_nil ?_
 refine hK11 _ _ ?_
 refine wp_region_lit ?_
 refine l_q rfl rfl (q_moveS rfl) ?_
 refine l_q rfl rfl (q_moveI rfl) ?_
 refine l_q rfl rfl (q_build (ps := [(0, 1), (1, 1), (2, 1)]) (zv := .agg #[.int .i64 0, .int .i64 0, .string ⟨#[]⟩]) (by kernel_rfl) (by kernel_rfl) rfl (by repeat' (first | exact trivial | refine ⟨fun _ => by first | rfl | assumption | exact one_if (by assumption), ?_⟩ | refine ⟨fun ⟨_, h⟩ => by simp at h, ?_⟩)) rfl) ?_
 refine l_e rfl (fun K hK => ?_)
 refine e_buildSliceA (e := 106) (m := 3) (zv := .agg #[.int .i64 0, .int .i64 0, .string ⟨#[]⟩]) hS6 (by kernel_rfl) (by kernel_rfl) (by kernel_rfl) rfl rfl rfl rfl (fun b13 w13 (hS13 : St _ _ [.blk b13 (.cells #[.int .i64 (2 : Int), .int .i64 x12, .string (bs [])] 106), .ow 106 3 ad vs.length cap (List.flatMap vl vs)] _) => ?_)
 clear hS6
 have hnx12 := hns x12 (List.mem_of_getElem? hx12)
 have hS13o : St _ _ [.ow 106 3 (some ⟨b13, 0, none⟩) 1 1 (List.flatMap vl [((2 : Int), x12, [])]), _] _ := hS13.blkOw' (i := 0) (m := 1) (size := 3) (xs := List.flatMap vl [((2 : Int), x12, [])]) rfl rfl rfl (by decide); clear hS13
 refine hK _ _ ?_; clear hK K
 refine l_e rfl (fun K hK => ?_)
 refine e_app (e := 106) (size := 3) (bytes := 32) (i := 1) (m' := (vs ++ [((2 : Int), x12, [])]).length) (by kernel_rfl) hS13o rfl rfl rfl (SlG.src (e := 106) (by kernel_rfl) (hS13o.owG (i := 0) rfl) ((rows_len (c := vl) (m := 3) (fun _ => rfl) _).trans (by first | rfl | (simp only [zll]; done) | (simp only [zll]; omega) | omega)) (by decide) (rows_one vl_ones)) (by first | omega | (simp only [zll] <;> omega) | (simp; done)) rows_app (by first | omega | (simp only [maxLen, zll] <;> omega) | (simp only [maxLen]; omega)) (by first | omega | (simp only [zll] <;> omega)) (fun ad14 cp14 w14 (hS14 : St _ _ [_, .ow 106 3 ad14 ((vs ++ [((2 : Int), x12, [])]).length) cp14 (List.flatMap vl (vs ++ [((2 : Int), x12, [])]))] _) => ?_)
 clear hS13o
 refine hK _ _ ?_; clear hK K
 refine l_q rfl rfl (q_assignS rfl) ?_
 refine l_nil ?_
 refine hK10 _ _ ?_
 refine wp_region_lit ?_
 refine l_q rfl rfl (q_addx rfl rfl (by first | decide | omega) (by first | decide | omega)) ?_
 refine l_q rfl rfl (q_moveI rfl) ?_
 refine l_nil ?_
 have hS15 := hS14.fr1; clear hS14
 have hS16 : St _ _ [_] _ := hS15.only 1; clear hS15
 refine hK6 _ _ (came (⟨(j + 1), (vs ++ [((2 : Int), x12, [])]), ad14, cp14⟩) (by repeat' (first | exact Agree.refl _ _ | refine Agree.up ?_ rfl | refine Agree.hav2 ?_ rfl | refine Agree.ups2 ?_ rfl)) (by repeat' (first | exact trivial | refine ⟨by first | rfl | exact int_succ _ | assumption, ?_⟩)) ?_)
 exact ⟨⟨hS16, by show j + 1 ≤ ns.length; omega, vIs_step hve hx12, hvs.app (VsOk.one (vI_ok hnx12.1 hnx12.2)), (by show (vs ++ [((2 : Int), x12, [])]).length = j + 1; rw [List.length_append, hvl]; rfl)⟩, by (show ns.length - (j + 1) < ns.length - j); omega⟩
 have hc9b := hc9
 try simp only [zbb] at hc9
 refine wp_exit ?_
 refine hK3 _ _ ?_
 refine wp_seq_k (fun K17 hK17 => ?_)
 refine wp_region_lit ?_
 refine l_q rfl rfl (q_moveS rfl) ?_
 refine l_e rfl (fun K hK => ?_)
 have hel18 := rowE_len (L := vs) hvs
 refine e_call (by kernel_rfl) (rowEnc_ok vs hvs vs.length (by first | omega | (simp only [zll] <;> omega)) (by first | omega | (simp only [zll] <;> omega)) _ _ _ (hS6.owG (i := 0) rfl)) rfl (after_N hS6 (fun v18 G18 w18 hv18 hS18 => ?_))
 clear hS6
 obtain ⟨oa18, oc18, rfl, rfl⟩ := hv18
 have hS19 : St _ _ [.ow 5 1 oa18 (((rowE vs).1).length) oc18 (bv ((rowE vs).1)), _] _ := hS18; clear hS18
 refine hK _ _ ?_; clear hK K
 refine l_q rfl rfl (q_move rfl) ?_
 refine l_q rfl rfl (q_extract rfl rfl) ?_
 refine l_q rfl rfl (q_extract rfl rfl) ?_
 refine l_q rfl rfl (q_assignS rfl) ?_
 refine l_q rfl rfl (q_assignI rfl) ?_
 refine l_nil ?_
 refine hK17 _ _ ?_
 refine wp_seq_k (fun K20 hK20 => ?_)
 refine wp_region_lit ?_
 refine l_q rfl rfl (q_moveS rfl) ?_
 refine l_q rfl rfl (q_assignS rfl) ?_
 refine l_nil ?_
 refine hK20 _ _ ?_
 refine wp_ret ?_
 refine c_ret1 rfl rfl ?_
 have hS21 : St _ _ [_] _ := hS19.only 1; clear hS19
 have hjn : j = ns.length := by omega
 have hvr : vs = ns.map vI := by rw [hve, hjn, List.take_length]
 subst hvr
 exact ⟨_, _, rfl, ⟨oa18, oc18, rfl, rfl⟩, hS21⟩
end Go.Proofs.Yteojpdijmnpmgaa
