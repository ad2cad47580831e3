/- Texts that the claim needs, part 4. -/
import Derived.Test.YteojpdijmnpmgaaZDe3
import Derived.WalkKit
import Derived.Test.YteojpdijmnpmgaaProg
import Derived.Shelf.SlIterI.Nil
import Derived.Shelf.SortM.Plain
import Derived.Shelf.SortM.SortNone
import Derived.RangeFuncNested
import Derived.RangeFuncBound
import Derived.RangeFuncCalls
import Derived.RangeFuncLeaves
import Derived.OrdersIn
import Derived.TacticsIn
import Derived.OwnWalkIn
import Derived.MapKept
import Derived.WalkArith
set_option linter.unusedVariables false
set_option linter.unusedSimpArgs false
namespace Go.Proofs.Yteojpdijmnpmgaa
open Go.RowKit
theorem q_nvc {P : Program} {n : Nat} {f : Nat → Value} {o : Oper} {w : World} {k : IntKind} {a b : Nat} (h : a = b) (hr : Run P n f o w (.int k ((a : Nat) : Int))) : Run P n f o w (.int k ((b : Nat) : Int)) := by rw [← h]; exact hr
theorem readL_len (b : List Nat) : (readL b).length ≤ 3 := by
  unfold readL
  split
  · rename_i h; rw [List.length_map]; exact h.2.2.1
  · simp
attribute [local irreducible] Oper.wp Sem.run Code.wp wpList wpAnyO callFunc execOp Calls
attribute [local irreducible] toU short rencs renc rowE encRow rightB zig unzig decRw rightL risB lastN bitsOf nodesTo readL recB ofL
set_option maxHeartbeats 2000000 in
set_option maxRecDepth 100000 in
theorem read_ok (b : List Nat) (hb : Bytes b) (n : Nat) (hn : b.length = n) (hm : n ≤ 2000000) (ab : Option Addr) (cb : Nat) (hcb : n ≤ cb) (w : World) (hG : SlG (hw w) ab (bv b)) : Calls Try.prog 29 #[.slice ab n cb] w (PostN w fun v G => ∃ oa oc, v = .slice oa (readL b).length oc ∧ G = [.ow 3 1 oa (readL b).length oc (iv (readL b))]) := by
 have hS := St.start w
 subst hn
 refine c_enter Try.func29 rfl rfl rfl ?_
 refine wp_seq_k (fun K1 hK1 => ?_)
 refine wp_region_lit ?_
 refine l_q rfl rfl (q_assignS rfl) ?_
 refine l_nil ?_
 refine hK1 _ _ ?_
 refine wp_seq_k (fun K2 hK2 => ?_)
 refine wp_region_lit ?_
 refine l_q rfl rfl (q_moveS rfl) ?_
 refine l_e rfl (fun K hK => ?_)
 have hd3 := decRw_ok b
 refine e_call (by kernel_rfl) (rowDec_ok b hb b.length (by first | omega | (simp only [zll] <;> omega)) (by first | omega | (simp only [zll] <;> omega)) _ _ (by first | omega | (simp only [zll] <;> omega)) _ (hG.mono hS.base)) rfl (after_N hS (fun v3 G3 w3 hv3 hS3 => ?_))
 clear hS
 obtain ⟨oa3, oc3, rfl, rfl⟩ := hv3
 have hS4 : St _ _ [.ow 106 3 oa3 (((decRw b).1).length) oc3 (List.flatMap vl ((decRw b).1))] _ := hS3; clear hS3
 refine hK _ _ ?_; clear hK K
 refine l_q rfl rfl (q_move rfl) ?_
 refine l_q rfl rfl (q_extract rfl rfl) ?_
 refine l_q rfl rfl (q_extract rfl rfl) ?_
 refine l_q rfl rfl (q_assignS rfl) ?_
 refine l_q rfl rfl (q_assignI rfl) ?_
 refine l_nil ?_
 refine hK2 _ _ ?_
 refine wp_seq_k (fun K5 hK5 => ?_)
 refine wp_seq_k (fun K6 hK6 => ?_)
 refine wp_region_lit ?_
 refine l_q rfl rfl (q_moveI rfl) ?_
 refine l_q rfl rfl (q_neq rfl rfl) ?_
 refine l_q rfl rfl (q_moveB rfl) ?_
 refine g_splitL (t := 15) rfl (fun hg7 => ?_) (fun hg7 => ?_)
 have hg7b := hg7
 try simp only [zbb] at hg7
 refine l_off rfl rfl rfl hg7b ?_
 refine l_off rfl rfl rfl hg7b ?_
 refine l_off rfl rfl rfl hg7b ?_
 refine l_q rfl rfl (q_pickT rfl hg7b rfl) ?_
 refine l_q rfl rfl (q_moveB rfl) ?_
 refine l_off rfl rfl rfl rfl ?_
 refine l_off rfl rfl rfl rfl ?_
 refine l_off rfl rfl rfl rfl ?_
 refine l_q rfl rfl (q_pickT rfl rfl rfl) ?_
 refine l_nil ?_
 refine hK6 _ _ ?_
 refine c_condT rfl rfl ?_
 refine wp_seq_k (fun K9 hK9 => ?_)
 refine wp_region_lit ?_
 refine l_q rfl rfl (q_assignS rfl) ?_
 refine l_nil ?_
 refine hK9 _ _ ?_
 refine wp_ret ?_
 refine c_ret1 rfl rfl ?_
 have hno := readL_no (b := b) (by omega)
 exact ⟨_, _, rfl, ⟨none, 0, by rw [hno]; rfl, by rw [hno]; rfl⟩, hS4.drop.ow_nil _ _⟩
 have hg7b := hg7
 try simp only [zbb] at hg7
 refine l_on rfl rfl hg7b ?_
 refine l_q rfl rfl (q_moveS rfl) ?_
 refine l_on rfl rfl hg7b ?_
 refine l_q rfl rfl (q_lenSl (e := 106) rfl (by kernel_rfl)) ?_
 refine l_on rfl rfl hg7b ?_
 refine l_q rfl rfl (q_lss rfl rfl) ?_
 refine l_q rfl rfl (q_pickF rfl hg7b rfl) ?_
 refine l_q rfl rfl (q_moveB rfl) ?_
 refine g_splitL (t := 20) rfl (fun hg10 => ?_) (fun hg10 => ?_)
 have hg10b := hg10
 try simp only [zbb] at hg10
 refine l_off rfl rfl rfl hg10b ?_
 refine l_off rfl rfl rfl hg10b ?_
 refine l_off rfl rfl rfl hg10b ?_
 refine l_q rfl rfl (q_pickT rfl hg10b rfl) ?_
 refine l_nil ?_
 refine hK6 _ _ ?_
 refine c_condT rfl rfl ?_
 refine wp_seq_k (fun K12 hK12 => ?_)
 refine wp_region_lit ?_
 refine l_q rfl rfl (q_assignS rfl) ?_
 refine l_nil ?_
 refine hK12 _ _ ?_
 refine wp_ret ?_
 refine c_ret1 rfl rfl ?_
 have hno := readL_no (b := b) (by omega)
 exact ⟨_, _, rfl, ⟨none, 0, by rw [hno]; rfl, by rw [hno]; rfl⟩, hS4.drop.ow_nil _ _⟩
 have hg10b := hg10
 try simp only [zbb] at hg10
 refine l_on rfl rfl hg10b ?_
 refine l_q rfl rfl (q_moveS rfl) ?_
 refine l_on rfl rfl hg10b ?_
 refine l_q rfl rfl (q_lenSl (e := 106) rfl (by kernel_rfl)) ?_
 refine l_on rfl rfl hg10b ?_
 refine l_q rfl rfl (q_gtr rfl rfl) ?_
 refine l_q rfl rfl (q_pickF rfl hg10b rfl) ?_
 refine l_nil ?_
 refine hK6 _ _ ?_
 refine c_cond rfl (fun hc13 => ?_) (fun hc13 => ?_)
 have hc13b := hc13
 try simp only [zbb] at hc13
 refine wp_seq_k (fun K14 hK14 => ?_)
 refine wp_region_lit ?_
 refine l_q rfl rfl (q_assignS rfl) ?_
 refine l_nil ?_
 refine hK14 _ _ ?_
 refine wp_ret ?_
 refine c_ret1 rfl rfl ?_
 have hno := readL_no (b := b) (by omega)
 exact ⟨_, _, rfl, ⟨none, 0, by rw [hno]; rfl, by rw [hno]; rfl⟩, hS4.drop.ow_nil _ _⟩
 have hc13b := hc13
 try simp only [zbb] at hc13
 refine wp_skip ?_
 refine hK5 _ _ ?_
 refine wp_seq_k (fun K15 hK15 => ?_)
 refine wp_region_lit ?_
 refine l_q rfl rfl (q_assignS rfl) ?_
 refine l_nil ?_
 refine hK15 _ _ ?_
 refine wp_seq_k (fun K16 hK16 => ?_)
 refine wp_seq_k (fun K17 hK17 => ?_)
 refine wp_region_lit ?_
 refine l_q rfl rfl (q_moveS rfl) ?_
 refine l_q rfl rfl (q_lenSl (e := 106) rfl (by kernel_rfl)) ?_
 refine l_q rfl rfl (q_moveI rfl) ?_
 refine l_nil ?_
 refine hK17 _ _ ?_
 refine wp_block ?_
 have hS18 := hS4.ow_nil 3 1; clear hS4
 refine c_loop (τ := Nat × (List Int) × (Option Addr) × Nat) [(2, 2), (5, 5), (7, 7), (27, 49)] (fun x => (fun (i : Nat) (ks : List Int) (ad : Option Addr) (cap : Nat) => [(5, .slice ad ks.length cap), (27, .int .i64 (i : Int))]) x.1 x.2.1 x.2.2.1 x.2.2.2) (fun x w' => (fun (i : Nat) (ks : List Int) (ad : Option Addr) (cap : Nat) => St w (fun _ => False) [.ow 3 1 ad ks.length cap (iv ks), .ow 106 3 oa3 (((decRw b).1).length) oc3 (List.flatMap vl ((decRw b).1))] w' ∧ i ≤ (decRw b).1.length ∧ ks = ((decRw b).1.take i).map (·.2.1) ∧ ks.length = i ∧ (∀ j, j < i → ∀ v, (decRw b).1[j]? = some v → v.1 = 2 ∧ 0 ≤ v.2.1 ∧ v.2.1 ≤ 1099511627776)) x.1 x.2.1 x.2.2.1 x.2.2.2) (fun x => (fun (i : Nat) (ks : List Int) (ad : Option Addr) (cap : Nat) => (decRw b).1.length - i) x.1 x.2.1 x.2.2.1 x.2.2.2) (⟨0, [], none, 0⟩) ?_ (by repeat' (first | exact trivial | refine ⟨by first | rfl | exact int_succ _ | assumption, ?_⟩)) (fun x19 j19 w19 hJ19 K19 hK19 => ?_)
 exact ⟨hS18, Nat.zero_le _, rfl, rfl, fun j hj => by omega⟩
 obtain ⟨i, ks, ad, cap⟩ := x19
 obtain ⟨hS19, hi, hke, hkl, hk⟩ := hJ19
 try dsimp only at hS19 hi hke hkl hk ⊢
 refine wp_seq_k (fun K20 hK20 => ?_)
 refine wp_region_lit ?_
 refine l_q rfl rfl (q_lss rfl rfl) ?_
 refine l_nil ?_
 refine hK20 _ _ ?_
 refine wp_seq_k (fun K21 hK21 => ?_)
 refine c_cond rfl (fun hc22 => ?_) (fun hc22 => ?_)
 have hc22b := hc22
 try simp only [zbb] at hc22
 refine wp_skip ?_
 refine hK21 _ _ ?_
 refine wp_seq_k (fun K23 hK23 => ?_)
 refine wp_block ?_
 refine wp_seq_k (fun K24 hK24 => ?_)
 refine wp_region_lit ?_
 refine l_q rfl rfl (q_ixG (e := 106) (m := 3) (j := i) rfl rfl (by kernel_rfl) (by kernel_rfl) (by first | rfl | omega) (by omega) (hS19.owG (i := 1) rfl) (by rw [rows_len (c := vl) (m := 3) (fun _ => rfl)]; first | omega | (simp only [zll] <;> omega))) ?_
 obtain ⟨x25, hx25⟩ : ∃ x, (((decRw b).1))[i]? = some x := ⟨_, List.getElem?_eq_getElem (by first | omega | (simp only [zll] <;> omega) | (simp <;> omega))⟩
 have hvb_x25 := (hd3.1.1 x25 (List.mem_of_getElem? hx25)).2
 refine l_q rfl rfl (q_loadGA (m := 3) rfl (by kernel_rfl) (by kernel_rfl) (hS19.owG (i := 1) rfl) (row_take hx25 (c := vl) (m := 3) (fun _ => rfl)) rfl (by decide)) ?_
 refine l_e rfl (fun K hK => ?_)
 refine e_alloc (zv := .agg #[.int .i64 0, .int .i64 0, .string ⟨#[]⟩]) hS19 (by kernel_rfl) (fun b26 w26 (hS26 : St _ _ [.blk b26 (.cells #[.int .i64 (0 : Int), .int .i64 (0 : Int), .string (bs [])] 106), .ow 3 1 ad ks.length cap (iv ks), _] _) => ?_)
 clear hS19
 refine hK _ _ ?_; clear hK K
 refine l_e rfl (fun K hK => ?_)
 refine e_storeA hS26 rfl rfl (by kernel_rfl) (by repeat' (first | exact trivial | refine ⟨by first | rfl | assumption | exact one_if (by assumption), ?_⟩)) (i := 0) rfl rfl (fun w27 (hS27 : St _ _ [.blk b26 (.cells #[.int .i64 x25.1, .int .i64 x25.2.1, .string (bs x25.2.2)] 106), _, _] _) => ?_)
 clear hS26
 refine hK _ _ ?_; clear hK K
 refine l_nil ?_
 refine hK24 _ _ ?_
 refine wp_seq_k (fun K28 hK28 => ?_)
 refine wp_seq_k (fun K29 hK29 => ?_)
 refine wp_region_lit ?_
 refine l_q rfl rfl (q_fieldAddr (ft := 104) (o := 0) rfl (by kernel_rfl)) ?_
 refine l_q rfl rfl (q_load1 rfl (by kernel_rfl) (hS27.cell (i := 0) rfl rfl)) ?_
 refine l_q rfl rfl (q_neq rfl rfl) ?_
 refine l_q rfl rfl (q_moveB rfl) ?_
 refine g_splitL (t := 34) rfl (fun hg30 => ?_) (fun hg30 => ?_)
 have hg30b := hg30
 try simp only [zbb] at hg30
 refine l_off rfl rfl rfl hg30b ?_
 refine l_off rfl rfl rfl hg30b ?_
 refine l_off rfl rfl rfl hg30b ?_
 refine l_q rfl rfl (q_pickT rfl hg30b rfl) ?_
 refine l_q rfl rfl (q_moveB rfl) ?_
 refine l_off rfl rfl rfl rfl ?_
 refine l_off rfl rfl rfl rfl ?_
 refine l_off rfl rfl rfl rfl ?_
 refine l_q rfl rfl (q_pickT rfl rfl rfl) ?_
 refine l_nil ?_
 refine hK29 _ _ ?_
 refine c_condT rfl rfl ?_
 refine wp_seq_k (fun K32 hK32 => ?_)
 refine wp_region_lit ?_
 refine l_q rfl rfl (q_assignS rfl) ?_
 refine l_nil ?_
 refine hK32 _ _ ?_
 refine wp_ret ?_
 refine c_ret1 rfl rfl ?_
 have hno := readL_bad (b := b) hx25 (by omega)
 exact ⟨_, _, rfl, ⟨none, 0, by rw [hno]; rfl, by rw [hno]; rfl⟩, hS27.drop.ow_nil _ _⟩
 have hg30b := hg30
 try simp only [zbb] at hg30
 refine l_on rfl rfl hg30b ?_
 refine l_q rfl rfl (q_fieldAddr (ft := 2) (o := 1) rfl (by kernel_rfl)) ?_
 refine l_on rfl rfl hg30b ?_
 refine l_q rfl rfl (q_load1 rfl (by kernel_rfl) (hS27.cell (i := 0) rfl rfl)) ?_
 refine l_on rfl rfl hg30b ?_
 refine l_q rfl rfl (q_lss rfl rfl) ?_
 refine l_q rfl rfl (q_pickF rfl hg30b rfl) ?_
 refine l_q rfl rfl (q_moveB rfl) ?_
 refine g_splitL (t := 39) rfl (fun hg33 => ?_) (fun hg33 => ?_)
 have hg33b := hg33
 try simp only [zbb] at hg33
 refine l_off rfl rfl rfl hg33b ?_
 refine l_off rfl rfl rfl hg33b ?_
 refine l_off rfl rfl rfl hg33b ?_
 refine l_q rfl rfl (q_pickT rfl hg33b rfl) ?_
 refine l_nil ?_
 refine hK29 _ _ ?_
 refine c_condT rfl rfl ?_
 refine wp_seq_k (fun K35 hK35 => ?_)
 refine wp_region_lit ?_
 refine l_q rfl rfl (q_assignS rfl) ?_
 refine l_nil ?_
 refine hK35 _ _ ?_
 refine wp_ret ?_
 refine c_ret1 rfl rfl ?_
 have hno := readL_bad (b := b) hx25 (by omega)
 exact ⟨_, _, rfl, ⟨none, 0, by rw [hno]; rfl, by rw [hno]; rfl⟩, hS27.drop.ow_nil _ _⟩
 have hg33b := hg33
 try simp only [zbb] at hg33
 refine l_on rfl rfl hg33b ?_
 refine l_q rfl rfl (q_fieldAddr (ft := 2) (o := 1) rfl (by kernel_rfl)) ?_
 refine l_on rfl rfl hg33b ?_
 refine l_q rfl rfl (q_load1 rfl (by kernel_rfl) (hS27.cell (i := 0) rfl rfl)) ?_
 refine l_on rfl rfl hg33b ?_
 refine l_q rfl rfl (q_gtr rfl rfl) ?_
 refine l_q rfl rfl (q_pickF rfl hg33b rfl) ?_
 refine l_nil ?_
 refine hK29 _ _ ?_
 refine c_cond rfl (fun hc36 => ?_) (fun hc36 => ?_)
 have hc36b := hc36
 try simp only [zbb] at hc36
 refine wp_seq_k (fun K37 hK37 => ?_)
 refine wp_region_lit ?_
 refine l_q rfl rfl (q_assignS rfl) ?_
 refine l_nil ?_
 refine hK37 _ _ ?_
 refine wp_ret ?_
 refine c_ret1 rfl rfl ?_
 have hno := readL_bad (b := b) hx25 (by omega)
 exact ⟨_, _, rfl, ⟨none, 0, by rw [hno]; rfl, by rw [hno]; rfl⟩, hS27.drop.ow_nil _ _⟩
 have hc36b := hc36
 try simp only [zbb] at hc36
 refine wp_skip ?_
 refine hK28 _ _ ?_
 refine wp_region_lit ?_
 refine l_q rfl rfl (q_moveS rfl) ?_
 refine l_q rfl rfl (q_fieldAddr (ft := 2) (o := 1) rfl (by kernel_rfl)) ?_
 refine l_q rfl rfl (q_load1 rfl (by kernel_rfl) (hS27.cell (i := 0) rfl rfl)) ?_
 refine l_e rfl (fun K hK => ?_)
 refine e_buildSlice1 (e := 3) (zv := .int .i64 0) (xs := [.tmp 46]) hS27 (by kernel_rfl) (by kernel_rfl) (by kernel_rfl) rfl rfl rfl rfl (allone (by repeat' (first | exact trivial | refine ⟨by first | rfl | assumption, ?_⟩))) rfl (fun b38 w38 (hS38 : St _ _ [.blk b38 (.cells #[.int .i64 x25.2.1] 3), _, _, _] _) => ?_)
 clear hS27
 have hS38o : St _ _ [.ow 3 1 (some ⟨b38, 0, none⟩) 1 1 (iv [x25.2.1]), _, _, _] _ := hS38.blkOw' (i := 0) (m := 1) (size := 1) (xs := iv [x25.2.1]) rfl rfl rfl (by decide); clear hS38
 refine hK _ _ ?_; clear hK K
 refine l_e rfl (fun K hK => ?_)
 refine e_app (e := 3) (size := 1) (bytes := 8) (i := 2) (m' := (ks ++ [x25.2.1]).length) (by kernel_rfl) hS38o rfl rfl rfl (SlG.src (e := 3) (by kernel_rfl) (hS38o.owG (i := 0) rfl) (by first | (simp only [zll, Nat.mul_one]; done) | (simp only [zll]; omega) | rfl | (simp; done)) (by decide) (iv_one _)) (by first | omega | (simp only [zll] <;> omega) | (simp; done)) iv_app (by first | omega | (simp only [maxLen, zll] <;> omega) | (simp only [maxLen]; omega)) (by first | omega | (simp only [zll] <;> omega)) (fun ad39 cp39 w39 (hS39 : St _ _ [_, _, .ow 3 1 ad39 ((ks ++ [x25.2.1]).length) cp39 (iv (ks ++ [x25.2.1])), _] _) => ?_)
 clear hS38o
 refine hK _ _ ?_; clear hK K
 refine l_q rfl rfl (q_assignS rfl) ?_
 refine l_nil ?_
 refine hK23 _ _ ?_
 refine wp_region_lit ?_
 refine l_q rfl rfl (q_addx rfl rfl (by first | decide | omega) (by first | decide | omega)) ?_
 refine l_q rfl rfl (q_moveI rfl) ?_
 refine l_nil ?_
 have hS40 := hS39.fr3; clear hS39
 have hS41 := hS40.fr3; clear hS40
 have hS42 : St _ _ [_, _] _ := hS41.only 2; clear hS41
 refine hK19 _ _ (came (⟨(i + 1), (ks ++ [x25.2.1]), ad39, cp39⟩) (by repeat' (first | exact Agree.refl _ _ | refine Agree.up ?_ rfl | refine Agree.hav2 ?_ rfl | refine Agree.ups2 ?_ rfl)) (by repeat' (first | exact trivial | refine ⟨by first | rfl | exact int_succ _ | assumption, ?_⟩)) ?_)
 exact ⟨⟨hS42, by show i + 1 ≤ (decRw b).1.length; omega, by rw [mt_step hx25, hke], by rw [List.length_append, hkl]; rfl, fun j hj v hv => by
       have hj : j < i + 1 := hj
       by_cases hji : j = i
       · subst hji; rw [hx25] at hv; injection hv with hv; subst hv; exact ⟨by omega, by omega, by omega⟩
       · exact hk j (by omega) v hv⟩, by (show (decRw b).1.length - (i + 1) < (decRw b).1.length - i); omega⟩
 have hc22b := hc22
 try simp only [zbb] at hc22
 refine wp_exit ?_
 refine hK16 _ _ ?_
 refine wp_seq_k (fun K43 hK43 => ?_)
 refine wp_region_lit ?_
 refine l_q rfl rfl (q_moveS rfl) ?_
 refine l_q rfl rfl (q_assignS rfl) ?_
 refine l_nil ?_
 refine hK43 _ _ ?_
 refine wp_ret ?_
 refine c_ret1 rfl rfl ?_
 have hS44 : St _ _ [_] _ := hS19.only 1; clear hS19
 have hii : i = (decRw b).1.length := by omega
 subst hii
 have hy := readL_yes (b := b) (by omega) (by omega) (by omega) hk
 rw [List.take_length] at hke
 rw [← hke] at hy
 exact ⟨_, _, rfl, ⟨ad, cap, (by rw [hy]; rfl), by rw [hy]⟩, hS44⟩
set_option maxRecDepth 100000 in
theorem of_ok (nd : List Int) (n : Nat) (hn : nd.length = n) (hm : n ≤ 2000000) (an : Option Addr) (cn : Nat) (w : World) (hG : SlG (hw w) an (iv nd)) : Calls Try.prog 33 #[.slice an n cn] w (PostR w fun v => v = .tuple #[.int .i64 (((ofL nd).1 : Nat) : Int), .bool (ofL nd).2]) := by
 have hS := St.start w
 subst hn
 refine c_enter Try.func33 rfl rfl rfl ?_
 refine wp_seq_k (fun K1 hK1 => ?_)
 refine wp_region_lit ?_
 refine l_q rfl rfl (q_assignI rfl) ?_
 refine l_q rfl rfl (q_assignB rfl) ?_
 refine l_nil ?_
 refine hK1 _ _ ?_
 refine wp_seq_k (fun K2 hK2 => ?_)
 refine wp_region_lit ?_
 refine l_q rfl rfl (q_assignI rfl) ?_
 refine l_nil ?_
 refine hK2 _ _ ?_
 refine wp_seq_k (fun K3 hK3 => ?_)
 refine wp_region_lit ?_
 refine l_q rfl rfl (q_assignI rfl) ?_
 refine l_nil ?_
 refine hK3 _ _ ?_
 refine wp_seq_k (fun K4 hK4 => ?_)
 refine wp_seq_k (fun K5 hK5 => ?_)
 refine wp_region_lit ?_
 refine l_q rfl rfl (q_moveS rfl) ?_
 refine l_q rfl rfl (q_lenSl (e := 3) rfl (by kernel_rfl)) ?_
 refine l_q rfl rfl (q_moveI rfl) ?_
 refine l_nil ?_
 refine hK5 _ _ ?_
 refine wp_block ?_
 refine c_loop (τ := Nat) [(2, 5), (7, 7), (10, 26)] (fun x => (fun (i : Nat) => [(4, .int .i64 (((bitsOf (nd.take i)) : Nat) : Int)), (5, .int .i64 (lastN nd i)), (10, .int .i64 (i : Int))]) x) (fun x w' => (fun (i : Nat) => St w (fun _ => False) [] w' ∧ i ≤ nd.length ∧ okTo nd i) x) (fun x => (fun (i : Nat) => nd.length - i) x) (0) ?_ (by refine ⟨by show _ = Value.int .i64 ((bitsOf [] : Nat) : Int); unfold bitsOf; rfl, ⟨by rw [lastN_zero]; rfl, ⟨rfl, trivial⟩⟩⟩) (fun i j6 w6 hJ6 K6 hK6 => ?_)
 exact ⟨hS, Nat.zero_le _, okTo.zero nd⟩
 obtain ⟨hS6, hi, hk⟩ := hJ6
 try dsimp only at hS6 hi hk ⊢
 refine wp_seq_k (fun K7 hK7 => ?_)
 refine wp_region_lit ?_
 refine l_q rfl rfl (q_lss rfl rfl) ?_
 refine l_nil ?_
 refine hK7 _ _ ?_
 refine wp_seq_k (fun K8 hK8 => ?_)
 refine c_cond rfl (fun hc9 => ?_) (fun hc9 => ?_)
 have hc9b := hc9
 try simp only [zbb] at hc9
 refine wp_skip ?_
 refine hK8 _ _ ?_
 refine wp_seq_k (fun K10 hK10 => ?_)
 refine wp_block ?_
 refine wp_seq_k (fun K11 hK11 => ?_)
 refine wp_region_lit ?_
 refine l_q rfl rfl (q_ixG (e := 3) (m := 1) (j := i) rfl rfl (by kernel_rfl) (by kernel_rfl) (by first | rfl | omega) (by omega) hG (by rw [iv_len]; first | omega | (simp only [zll] <;> omega))) ?_
 obtain ⟨x12, hx12⟩ : ∃ x, (nd)[i]? = some x := ⟨_, List.getElem?_eq_getElem (by first | omega | (simp only [zll] <;> omega) | (simp <;> omega))⟩
 refine l_q rfl rfl (q_load1 rfl (by kernel_rfl) (SlG.cell (hG.mono hS6.base) (Gle.refl _) (at1 (iv_at hx12)))) ?_
 refine l_q rfl rfl (q_assignI rfl) ?_
 refine l_nil ?_
 refine hK11 _ _ ?_
 refine wp_seq_k (fun K13 hK13 => ?_)
 refine wp_seq_k (fun K14 hK14 => ?_)
 refine wp_region_lit ?_
 refine l_q rfl rfl (q_moveI rfl) ?_
 refine l_q rfl rfl (q_moveI rfl) ?_
 refine l_q rfl rfl (q_leq rfl rfl) ?_
 refine l_q rfl rfl (q_moveB rfl) ?_
 refine g_splitL (t := 17) rfl (fun hg15 => ?_) (fun hg15 => ?_)
 have hg15b := hg15
 try simp only [zbb] at hg15
 refine l_off rfl rfl rfl hg15b ?_
 refine l_off rfl rfl rfl hg15b ?_
 refine l_q rfl rfl (q_pickT rfl hg15b rfl) ?_
 refine l_nil ?_
 refine hK14 _ _ ?_
 refine c_condT rfl rfl ?_
 refine wp_seq_k (fun K17 hK17 => ?_)
 refine wp_region_lit ?_
 refine l_q rfl rfl (q_assignI rfl) ?_
 refine l_q rfl rfl (q_assignB rfl) ?_
 refine l_nil ?_
 refine hK17 _ _ ?_
 refine wp_ret ?_
 refine c_ret2 rfl rfl rfl ?_
 have hno := ofL_no (okTo_bad hx12 (by omega))
 exact ⟨_, rfl, by rw [hno]; rfl, hS6.drop⟩
 have hg15b := hg15
 try simp only [zbb] at hg15
 refine l_on rfl rfl hg15b ?_
 refine l_q rfl rfl (q_moveI rfl) ?_
 refine l_on rfl rfl hg15b ?_
 refine l_q rfl rfl (q_geq rfl rfl) ?_
 refine l_q rfl rfl (q_pickF rfl hg15b rfl) ?_
 refine l_nil ?_
 refine hK14 _ _ ?_
 refine c_cond rfl (fun hc18 => ?_) (fun hc18 => ?_)
 have hc18b := hc18
 try simp only [zbb] at hc18
 refine wp_seq_k (fun K19 hK19 => ?_)
 refine wp_region_lit ?_
 refine l_q rfl rfl (q_assignI rfl) ?_
 refine l_q rfl rfl (q_assignB rfl) ?_
 refine l_nil ?_
 refine hK19 _ _ ?_
 refine wp_ret ?_
 refine c_ret2 rfl rfl rfl ?_
 have hno := ofL_no (okTo_bad hx12 (by omega))
 exact ⟨_, rfl, by rw [hno]; rfl, hS6.drop⟩
 have hc18b := hc18
 try simp only [zbb] at hc18
 refine wp_skip ?_
 refine hK13 _ _ ?_
 refine wp_seq_k (fun K20 hK20 => ?_)
 have hge := lastN_ge hk hi
 have hk' := hk.next hx12 ⟨by omega, by omega, by omega⟩
 obtain ⟨m12, rfl⟩ : ∃ m : Nat, x12 = (m : Int) := ⟨x12.toNat, by omega⟩
 have hst := bits_stepT hk' hx12
 refine wp_region_lit ?_
 refine l_q rfl rfl (q_moveI rfl) ?_
 refine l_q rfl rfl (q_moveI rfl) ?_
 refine l_q rfl rfl (q_shlN (k := .i64) (a := 1) (b := m12) rfl rfl (by show _ ≤ 64; omega) (wrap_fit_i64 (by omega))) ?_
 refine l_q rfl rfl (q_nvc hst.1 (q_orS 63 rfl rfl (by show _ < 9223372036854775808; omega) (by show _ < 9223372036854775808; omega) (.inr (by decide)))) ?_
 refine l_q rfl rfl (q_assignI rfl) ?_
 refine l_nil ?_
 refine hK20 _ _ ?_
 refine wp_region_lit ?_
 refine l_q rfl rfl (q_moveI rfl) ?_
 refine l_q rfl rfl (q_assignI rfl) ?_
 refine l_nil ?_
 refine hK10 _ _ ?_
 refine wp_region_lit ?_
 refine l_q rfl rfl (q_addx rfl rfl (by first | decide | omega) (by first | decide | omega)) ?_
 refine l_q rfl rfl (q_moveI rfl) ?_
 refine l_nil ?_
 refine hK6 _ _ (came ((i + 1)) (by repeat' (first | exact Agree.refl _ _ | refine Agree.up ?_ rfl | refine Agree.hav2 ?_ rfl | refine Agree.ups2 ?_ rfl)) (by refine ⟨rfl, ⟨by rw [lastN_succ hx12]; rfl, ⟨rfl, trivial⟩⟩⟩) ?_)
 exact ⟨⟨hS6, (by show i + 1 ≤ nd.length; omega), hk'⟩, by (show nd.length - (i + 1) < nd.length - i); omega⟩
 have hc9b := hc9
 try simp only [zbb] at hc9
 refine wp_exit ?_
 refine hK4 _ _ ?_
 refine wp_seq_k (fun K21 hK21 => ?_)
 refine wp_region_lit ?_
 refine l_q rfl rfl (q_moveI rfl) ?_
 refine l_q rfl rfl (q_moveI rfl) ?_
 refine l_q rfl rfl (q_gtr rfl rfl) ?_
 refine l_q rfl rfl (q_assignI rfl) ?_
 refine l_q rfl rfl (q_assignB rfl) ?_
 refine l_nil ?_
 refine hK21 _ _ ?_
 refine wp_ret ?_
 refine c_ret2 rfl rfl rfl ?_
 have hin : i = nd.length := by omega
 have hti : nd.take i = nd := List.take_of_length_le (by omega)
 rw [hin] at hk
 have hy := ofL_yes (okTo_ris.1 hk)
 exact ⟨_, rfl, (by rw [hy]; show Value.tuple #[.int .i64 ((bitsOf (nd.take i) : Nat) : Int), .bool (decide (((bitsOf (nd.take i) : Nat) : Int) > 0))] = _; rw [hti]; exact congrArg (fun b => Value.tuple #[.int .i64 ((bitsOf nd : Nat) : Int), .bool b]) (decide_eq_decide.2 (by omega))), hS6.drop⟩
end Go.Proofs.Yteojpdijmnpmgaa
namespace Go.Proofs.Yteojpdijmnpmgaa
def cs (c : Nat) : Nat := ((c * 2) % 65536) ^^^ (c / 32768 * 4129)
def cb (c bit : Nat) : Nat := if c / 32768 % 2 ≠ bit then (c * 2 % 65536) ^^^ 4129 else c * 2 % 65536
theorem xor_lt {a b : Nat} (ha : a < 65536) (hb : b < 65536) : a ^^^ b < 65536 := Nat.xor_lt_two_pow (n := 16) ha hb
theorem top_le {a : Nat} (ha : a < 65536) : a / 32768 = 0 ∨ a / 32768 = 1 := by omega
theorem cs_lt {a : Nat} (ha : a < 65536) : cs a < 65536 := by
  unfold cs
  refine xor_lt (Nat.mod_lt _ (by omega)) ?_
  rcases top_le ha with h | h <;> rw [h] <;> decide
def csN : Nat → Nat → Nat
  | 0, c => c
  | k + 1, c => cs (csN k c)
theorem csN_lt {a : Nat} (ha : a < 65536) : ∀ k, csN k a < 65536
  | 0 => ha
  | k + 1 => cs_lt (csN_lt ha k)
/-- One byte. -/
def by1 (c x : Nat) : Nat := csN 8 (c ^^^ (x * 256))
def crc (c : Nat) (l : List Nat) : Nat := l.foldl by1 c
theorem by1_lt {c x : Nat} (hc : c < 65536) (hx : x < 256) : by1 c x < 65536 := csN_lt (xor_lt hc (by omega)) 8
theorem crc_lt {l : List Nat} (hl : ∀ x ∈ l, x < 256) : ∀ {c : Nat}, c < 65536 → crc c l < 65536 := by
  induction l with
  | nil => exact fun h => h
  | cons x l ih => exact fun h => ih (fun y hy => hl y (.tail _ hy)) (by1_lt h (hl x (.head _)))
end Go.Proofs.Yteojpdijmnpmgaa
namespace Go.Proofs.Yteojpdijmnpmgaa
open Go.RowKit
/-- What a slice that is only read holds. -/
def SlR (S : Nat → Prop) (w : World) (ad : Option Addr) (cs : List Value) : Prop := cs = [] ∨ ∃ b off arr T fz, ad = some ⟨b, off, none⟩ ∧ S b ∧ w.heap[b]? = some (.cells arr T fz) ∧ ∀ j u, cs[j]? = some u → arr[off + j]? = some u
theorem SlR.mono {S S' : Nat → Prop} {w w' : World} (hs : ∀ k, S k → S' k ∧ w'.heap[k]? = w.heap[k]?) {ad : Option Addr} {cs : List Value} (h : SlR S w ad cs) : SlR S' w' ad cs := by
  rcases h with h | ⟨b, off, arr, T, fz, h1, h2, h3, h4⟩
  · exact .inl h
  · exact .inr ⟨b, off, arr, T, fz, h1, (hs b h2).1, (hs b h2).2.trans h3, h4⟩
theorem SlR.ro {w0 w : World} {D : Nat → Prop} {Γ : List Ch} {ad : Option Addr} {cs : List Value} (h : SlR (Ro w0 D) w0 ad cs) (hS : St w0 D Γ w) : SlR (Ro w0 D) w ad cs := h.mono fun _ hk => ⟨hk, hk.same hS⟩
/-- An element's cell. -/
theorem SlR.at {S : Nat → Prop} {w : World} {ad : Option Addr} {cs : List Value} (h : SlR S w ad cs) {i : Nat} {u : Value} (hu : cs[i]? = some u) : ∃ b off, ad = some ⟨b, off, none⟩ ∧ w.cell? ⟨b, off + i, none⟩ = some u := by
  rcases h with h | ⟨b, off, arr, T, fz, h1, h2, h3, h4⟩
  · rw [h] at hu; simp at hu
  · exact ⟨b, off, h1, cell_blk h3 (h4 i u hu)⟩
theorem crc_snoc {l : List Nat} {i x c : Nat} (h : l[i]? = some x) : crc c (l.take (i + 1)) = by1 (crc c (l.take i)) x := by
  rw [List.take_add_one, h]
  simp [crc, List.foldl_append]
theorem crc_take_lt {l : List Nat} (hl : Bytes l) (i : Nat) : crc 65535 (l.take i) < 65536 := crc_lt (fun x hx => hl x (List.mem_of_mem_take hx)) (by omega)
theorem cs_val {c : Nat} (hc : c < 65536) : (c * 2 ^ 1 % 65536) ^^^ (c / 2 ^ 15 * 4129 % 65536) = cs c := by
  unfold cs
  rw [show (2 : Nat) ^ 1 = 2 from rfl, show (2 : Nat) ^ 15 = 32768 from rfl]
  rcases top_le hc with h | h <;> rw [h]
theorem cell_i {w : World} {b off k : Nat} {v : Value} (h : w.cell? ⟨b, off + k, none⟩ = some v) : w.cell? ⟨b, off + (k : Int).toNat * 1, none⟩ = some v := by rw [Nat.mul_one]; exact h
theorem crc_nil {l : List Nat} {c : Nat} : crc c (l.take 0) = c := by rw [List.take_zero]; rfl
theorem csN_0 (c : Nat) : csN 0 c = c := rfl
theorem csN_s (k c : Nat) : csN (k + 1) c = cs (csN k c) := rfl
theorem by1_eq (c x : Nat) : csN 8 (c ^^^ x * 256) = by1 c x := rfl
attribute [local irreducible] Oper.wp Sem.run Code.wp wpList wpAnyO callFunc execOp Calls cs cb by1 crc csN
set_option maxRecDepth 100000 in
theorem wCheck_ok (l : List Nat) (hl : Bytes l) (hn : l.length ≤ 1000000000) (ad : Option Addr) (cap : Nat) (w : World) (hR : SlR (Ro w fun _ => False) w ad (bv l)) : Calls Try.prog 63 #[.slice ad l.length cap] w (PostR w fun v => v = .int .u16 ((crc 65535 l : Nat) : Int)) := by
 have hS := St.start w
 refine c_enter Try.func63 rfl rfl rfl ?_
 refine wp_seq_k (fun K1 hK1 => ?_)
 refine wp_region_lit ?_
 first | refine l_q rfl rfl (q_assignI rfl) ?_ | refine l_q rfl rfl (q_assign rfl) ?_
 refine l_nil ?_
 refine hK1 _ _ ?_
 refine wp_seq_k (fun K2 hK2 => ?_)
 refine wp_region_lit ?_
 first | refine l_q rfl rfl (q_assignI rfl) ?_ | refine l_q rfl rfl (q_assign rfl) ?_
 refine l_nil ?_
 refine hK2 _ _ ?_
 refine wp_seq_k (fun K3 hK3 => ?_)
 refine wp_seq_k (fun K4 hK4 => ?_)
 refine wp_region_lit ?_
 first | refine l_q rfl rfl (q_moveS rfl) ?_ | refine l_q rfl rfl (q_move rfl) ?_
 refine l_q rfl rfl (q_lenSl (e := 5) rfl (by kernel_rfl)) ?_
 first | refine l_q rfl rfl (q_moveI rfl) ?_ | refine l_q rfl rfl (q_move rfl) ?_
 refine l_nil ?_
 refine hK4 _ _ ?_
 refine wp_block ?_
 refine c_loop (τ := Nat × Nat) [(3, 3), (5, 6), (9, 28)] (fun x => [(3, .int .u16 ((x.2 : Nat) : Int)), (9, .int .i64 ((x.1 : Nat) : Int))]) (fun x w' => St w (fun _ => False) [] w' ∧ x.1 ≤ l.length ∧ x.2 = crc 65535 (l.take x.1)) (fun x => l.length - x.1) ((0, 65535)) ?_ (by repeat' (first | exact trivial | refine ⟨by first | rfl | exact int_succ _, ?_⟩)) (fun x5 j5 w5 hJ5 K5 hK5 => ?_)
 exact ⟨hS, Nat.zero_le _, crc_nil.symm⟩
 obtain ⟨i, c⟩ := x5; obtain ⟨hS5, hi, hc⟩ := hJ5; dsimp only at hi hc hS5 ⊢
 refine wp_seq_k (fun K6 hK6 => ?_)
 refine wp_region_lit ?_
 refine l_q rfl rfl (q_lss rfl rfl) ?_
 refine l_nil ?_
 refine hK6 _ _ ?_
 refine wp_seq_k (fun K7 hK7 => ?_)
 refine c_cond rfl (fun hc8 => ?_) (fun hc8 => ?_)
 have hc8b := hc8
 try simp only [zbb] at hc8
 have hlt := hc8
 obtain ⟨x, hx⟩ : ∃ x, l[i]? = some x := ⟨_, List.getElem?_eq_getElem (by omega)⟩
 have hx8 : x < 256 := hl x (List.mem_of_getElem? hx)
 have hc16 : c < 65536 := by rw [hc]; exact crc_take_lt hl i
 obtain ⟨rb, ro, re, rx⟩ := (hR.ro hS5).at (i := i) (u := _) (bv_at hx)
 subst re
 refine wp_skip ?_
 refine hK7 _ _ ?_
 refine wp_seq_k (fun K9 hK9 => ?_)
 refine wp_block ?_
 refine wp_seq_k (fun K10 hK10 => ?_)
 refine wp_region_lit ?_
 refine l_q rfl rfl (q_indexAddr (e := 5) (m := 1) rfl rfl (by kernel_rfl) (by kernel_rfl) (by first | decide | omega) (by first | decide | omega)) ?_
 refine l_q rfl rfl (q_load1 rfl (by kernel_rfl) (cell_i rx)) ?_
 first | refine l_q rfl rfl (q_assignI rfl) ?_ | refine l_q rfl rfl (q_assign rfl) ?_
 refine l_nil ?_
 refine hK10 _ _ ?_
 refine wp_seq_k (fun K11 hK11 => ?_)
 refine wp_region_lit ?_
 first | refine l_q rfl rfl (q_moveI rfl) ?_ | refine l_q rfl rfl (q_move rfl) ?_
 first | refine l_q rfl rfl (q_moveI rfl) ?_ | refine l_q rfl rfl (q_move rfl) ?_
 refine l_q rfl rfl (q_convN (a := x) rfl (by kernel_rfl) (by kernel_rfl) (wrap_nat .u16 (Nat.lt_trans hx8 (by decide)))) ?_
 refine l_q rfl rfl (q_shlU (a := x) (b := 8) rfl rfl rfl (by decide)) ?_
 refine l_q rfl rfl (q_xorN (a := c) (b := x * 2 ^ 8 % 2 ^ IntKind.u16.bits) 16 rfl rfl hc16 (Nat.mod_lt _ (by decide)) (.inl ⟨rfl, rfl⟩)) ?_
 first | refine l_q rfl rfl (q_assignI rfl) ?_ | refine l_q rfl rfl (q_assign rfl) ?_
 refine l_nil ?_
 refine hK11 _ _ ?_
 refine wp_seq_k (fun K12 hK12 => ?_)
 refine wp_region_lit ?_
 first | refine l_q rfl rfl (q_moveI rfl) ?_ | refine l_q rfl rfl (q_move rfl) ?_
 refine l_nil ?_
 refine hK12 _ _ ?_
 refine wp_block ?_
 refine c_loop (τ := Nat × Nat) [(3, 3), (6, 6), (18, 27)] (fun y => [(3, .int .u16 ((y.2 : Nat) : Int)), (18, .int .i64 ((y.1 : Nat) : Int))]) (fun y w' => St w (fun _ => False) [] w' ∧ y.1 ≤ 8 ∧ y.2 = csN y.1 (c ^^^ x * 256)) (fun y => 8 - y.1) ((0, c ^^^ (x * 2 ^ 8 % 2 ^ IntKind.u16.bits))) ?_ (by repeat' (first | exact trivial | refine ⟨by first | rfl | exact int_succ _, ?_⟩)) (fun x13 j13 w13 hJ13 K13 hK13 => ?_)
 exact ⟨hS5, Nat.zero_le _, by rw [csN_0]; exact congrArg (c ^^^ ·) (Nat.mod_eq_of_lt (by (show x * 256 < 65536); omega))⟩
 obtain ⟨k, e⟩ := x13; obtain ⟨hS13, hk, he⟩ := hJ13; dsimp only at hk he hS13 ⊢
 have hcx : c ^^^ x * 256 < 65536 := xor_lt hc16 (by omega)
 have he16 : e < 65536 := by rw [he]; exact csN_lt hcx k
 refine wp_seq_k (fun K14 hK14 => ?_)
 refine wp_region_lit ?_
 refine l_q rfl rfl (q_lss rfl rfl) ?_
 refine l_nil ?_
 refine hK14 _ _ ?_
 refine wp_seq_k (fun K15 hK15 => ?_)
 refine c_cond rfl (fun hc16 => ?_) (fun hc16 => ?_)
 have hc16b := hc16
 try simp only [zbb] at hc16
 have hlk := hc16
 refine wp_skip ?_
 refine hK15 _ _ ?_
 refine wp_seq_k (fun K17 hK17 => ?_)
 refine wp_block ?_
 refine wp_seq_k (fun K18 hK18 => ?_)
 refine wp_region_lit ?_
 first | refine l_q rfl rfl (q_moveI rfl) ?_ | refine l_q rfl rfl (q_move rfl) ?_
 refine l_q rfl rfl (q_shrN (a := e) (b := 15) rfl rfl (by decide)) ?_
 first | refine l_q rfl rfl (q_assignI rfl) ?_ | refine l_q rfl rfl (q_assign rfl) ?_
 refine l_nil ?_
 refine hK18 _ _ ?_
 refine wp_region_lit ?_
 first | refine l_q rfl rfl (q_moveI rfl) ?_ | refine l_q rfl rfl (q_move rfl) ?_
 refine l_q rfl rfl (q_shlU (a := e) (b := 1) rfl rfl rfl (by decide)) ?_
 first | refine l_q rfl rfl (q_moveI rfl) ?_ | refine l_q rfl rfl (q_move rfl) ?_
 refine l_q rfl rfl (q_mulU (a := e / 2 ^ 15) (b := 4129) rfl rfl rfl) ?_
 refine l_q rfl rfl (q_xorN (a := e * 2 ^ 1 % 2 ^ IntKind.u16.bits) (b := e / 2 ^ 15 * 4129 % 2 ^ IntKind.u16.bits) 16 rfl rfl (Nat.mod_lt _ (by decide)) (Nat.mod_lt _ (by decide)) (.inl ⟨rfl, rfl⟩)) ?_
 first | refine l_q rfl rfl (q_assignI rfl) ?_ | refine l_q rfl rfl (q_assign rfl) ?_
 refine l_nil ?_
 refine hK17 _ _ ?_
 refine wp_region_lit ?_
 first | refine l_q rfl rfl (q_addx rfl rfl (by first | decide | omega) (by first | decide | omega)) ?_ | refine l_q rfl rfl (q_add rfl rfl) ?_
 first | refine l_q rfl rfl (q_moveI rfl) ?_ | refine l_q rfl rfl (q_move rfl) ?_
 refine l_nil ?_
 refine hK13 _ _ (came ((k + 1, (e * 2 ^ 1 % 2 ^ IntKind.u16.bits) ^^^ (e / 2 ^ 15 * 4129 % 2 ^ IntKind.u16.bits))) (by repeat' (first | exact Agree.refl _ _ | refine Agree.up ?_ rfl | refine Agree.hav2 ?_ rfl | refine Agree.ups2 ?_ rfl)) (by repeat' (first | exact trivial | refine ⟨by first | rfl | exact int_succ _, ?_⟩)) ?_)
 exact ⟨⟨hS13, by (show k + 1 ≤ 8); omega, (cs_val he16).trans (by rw [csN_s, ← he])⟩, by (show 8 - (k + 1) < 8 - k); omega⟩
 have hc16b := hc16
 try simp only [zbb] at hc16
 have hlk := hc16
 obtain rfl : k = 8 := by omega
 subst he
 refine wp_exit ?_
 refine hK9 _ _ ?_
 refine wp_region_lit ?_
 first | refine l_q rfl rfl (q_addx rfl rfl (by first | decide | omega) (by first | decide | omega)) ?_ | refine l_q rfl rfl (q_add rfl rfl) ?_
 first | refine l_q rfl rfl (q_moveI rfl) ?_ | refine l_q rfl rfl (q_move rfl) ?_
 refine l_nil ?_
 refine hK5 _ _ (came ((i + 1, csN 8 (c ^^^ x * 256))) (by repeat' (first | exact Agree.refl _ _ | refine Agree.up ?_ rfl | refine Agree.hav2 ?_ rfl | refine Agree.ups2 ?_ rfl)) (by repeat' (first | exact trivial | refine ⟨by first | rfl | exact int_succ _, ?_⟩)) ?_)
 exact ⟨⟨hS13, by (show i + 1 ≤ l.length); omega, by (show csN 8 (c ^^^ x * 256) = crc 65535 (l.take (i + 1))); rw [crc_snoc hx, ← hc, by1_eq]⟩, by (show l.length - (i + 1) < l.length - i); omega⟩
 have hc8b := hc8
 try simp only [zbb] at hc8
 have hge := hc8
 have hall : l.take i = l := List.take_of_length_le (by omega)
 rw [hall] at hc
 subst hc
 refine wp_exit ?_
 refine hK3 _ _ ?_
 refine wp_seq_k (fun K19 hK19 => ?_)
 refine wp_region_lit ?_
 first | refine l_q rfl rfl (q_moveI rfl) ?_ | refine l_q rfl rfl (q_move rfl) ?_
 first | refine l_q rfl rfl (q_assignI rfl) ?_ | refine l_q rfl rfl (q_assign rfl) ?_
 refine l_nil ?_
 refine hK19 _ _ ?_
 refine wp_ret ?_
 refine c_ret1 rfl rfl ?_
 exact ⟨_, rfl, rfl, hS5.drop⟩
end Go.Proofs.Yteojpdijmnpmgaa
namespace Go.Proofs.Yteojpdijmnpmgaa
open Go.RowKit
attribute [local irreducible] Oper.wp Sem.run Code.wp wpList wpAnyO callFunc execOp Calls
attribute [local irreducible] toU short rencs renc rowE encRow rightB zig unzig decRw rightL risB lastN bitsOf nodesTo
set_option maxRecDepth 100000 in
theorem node_ok (x : Int) (w : World) : Calls Try.prog 56 #[.int .i64 x] w (PostR w fun v => v = .bool (decide (0 ≤ x ∧ x < 16))) := by
 have hS := St.start w
 refine c_enter Try.func56 rfl rfl rfl ?_
 refine wp_seq_k (fun K1 hK1 => ?_)
 refine wp_region_lit ?_
 refine l_q rfl rfl (q_assignB rfl) ?_
 refine l_nil ?_
 refine hK1 _ _ ?_
 refine wp_seq_k (fun K2 hK2 => ?_)
 refine wp_region_lit ?_
 refine l_q rfl rfl (q_moveI rfl) ?_
 refine l_q rfl rfl (q_geq rfl rfl) ?_
 refine l_q rfl rfl (q_moveB rfl) ?_
 refine g_splitL (t := 5) rfl (fun hg3 => ?_) (fun hg3 => ?_)
 have hg3b := hg3
 try simp only [zbb] at hg3
 refine l_on rfl rfl hg3b ?_
 refine l_q rfl rfl (q_moveI rfl) ?_
 refine l_on rfl rfl hg3b ?_
 refine l_q rfl rfl (q_lss rfl rfl) ?_
 refine l_q rfl rfl (q_pickT rfl hg3b rfl) ?_
 refine l_q rfl rfl (q_assignB rfl) ?_
 refine l_nil ?_
 refine hK2 _ _ ?_
 refine wp_ret ?_
 refine c_ret1 rfl rfl ?_
 exact ⟨_, rfl, congrArg Value.bool (by first | (symm; exact decide_eq_true (by omega)) | (symm; exact decide_eq_false (by omega)) | exact decide_eq_decide.2 (by omega)), hS.drop⟩
 have hg3b := hg3
 try simp only [zbb] at hg3
 refine l_off rfl rfl rfl hg3b ?_
 refine l_off rfl rfl rfl hg3b ?_
 refine l_q rfl rfl (q_pickF rfl hg3b rfl) ?_
 refine l_q rfl rfl (q_assignB rfl) ?_
 refine l_nil ?_
 refine hK2 _ _ ?_
 refine wp_ret ?_
 refine c_ret1 rfl rfl ?_
 exact ⟨_, rfl, congrArg Value.bool (by first | (symm; exact decide_eq_true (by omega)) | (symm; exact decide_eq_false (by omega)) | exact decide_eq_decide.2 (by omega)), hS.drop⟩
set_option maxRecDepth 100000 in
theorem lclos_ok (x a : Int) (bl : Nat) (w : World) (hS : St w (owns [.blk bl (.cells #[.int .i64 a] 3)]) [.blk bl (.cells #[.int .i64 a] 3)] w) : Calls Try.prog 58 #[.int .i64 x, .pointer (some ⟨bl, 0, none⟩)] w (Post w [.blk bl (.cells #[.int .i64 a] 3)] fun v G => v = .bool (decide (¬(a < x ∧ 0 ≤ x ∧ x < 16))) ∧ G = [.blk bl (.cells #[.int .i64 x] 3)]) := by
 refine c_enter Try.func58 rfl rfl rfl ?_
 refine wp_seq_k (fun K1 hK1 => ?_)
 refine wp_region_lit ?_
 refine l_q rfl rfl (q_assignB rfl) ?_
 refine l_nil ?_
 refine hK1 _ _ ?_
 refine wp_seq_k (fun K2 hK2 => ?_)
 refine wp_region_lit ?_
 refine l_q rfl rfl (q_moveI rfl) ?_
 refine l_e rfl (fun K hK => ?_)
 refine e_call (by kernel_rfl) (node_ok x _) rfl (after_R hS (fun v3 w3 hv3 hS3 => ?_))
 clear hS
 obtain rfl := hv3
 refine hK _ _ ?_; clear hK K
 refine l_q rfl rfl (q_not rfl) ?_
 refine l_q rfl rfl (q_moveB rfl) ?_
 refine g_splitL (t := 8) rfl (fun hg4 => ?_) (fun hg4 => ?_)
 have hg4b := hg4
 try simp only [zbb] at hg4
 refine l_off rfl rfl rfl hg4b ?_
 refine l_off rfl rfl rfl hg4b ?_
 refine l_off rfl rfl rfl hg4b ?_
 refine l_q rfl rfl (q_pickT rfl hg4b rfl) ?_
 refine l_q rfl rfl (q_assignB rfl) ?_
 refine l_nil ?_
 refine hK2 _ _ ?_
 refine wp_seq_k (fun K5 hK5 => ?_)
 refine wp_region_lit ?_
 refine l_q rfl rfl (q_moveI rfl) ?_
 refine l_e rfl (fun K hK => ?_)
 refine e_store1 hS3 rfl rfl (by kernel_rfl) (by first | rfl | assumption) (i := 0) rfl rfl (fun w6 (hS6 : St _ _ [.blk bl (.cells #[.int .i64 x] 3)] _) => ?_)
 clear hS3
 refine hK _ _ ?_; clear hK K
 refine l_nil ?_
 refine hK5 _ _ ?_
 refine wp_seq_k (fun K7 hK7 => ?_)
 refine wp_region_lit ?_
 refine l_q rfl rfl (q_moveB rfl) ?_
 refine l_q rfl rfl (q_assignB rfl) ?_
 refine l_nil ?_
 refine hK7 _ _ ?_
 refine wp_ret ?_
 refine c_ret1 rfl rfl ?_
 exact ⟨_, _, rfl, ⟨congrArg Value.bool (by first | (symm; exact decide_eq_true (by simp only [decide_eq_true_eq, decide_eq_false_iff_not, Bool.not_eq_true', Bool.not_eq_false'] at *; omega)) | (symm; exact decide_eq_false (by simp only [decide_eq_true_eq, decide_eq_false_iff_not, Bool.not_eq_true', Bool.not_eq_false'] at *; omega)) | exact decide_eq_decide.2 (by simp only [decide_eq_true_eq, decide_eq_false_iff_not, Bool.not_eq_true', Bool.not_eq_false'] at *; omega)), rfl⟩, hS6⟩
 have hg4b := hg4
 try simp only [zbb] at hg4
 refine l_on rfl rfl hg4b ?_
 refine l_q rfl rfl (q_moveI rfl) ?_
 refine l_on rfl rfl hg4b ?_
 refine l_q rfl rfl (q_load1 rfl (by kernel_rfl) (hS3.cell (i := 0) rfl rfl)) ?_
 refine l_on rfl rfl hg4b ?_
 refine l_q rfl rfl (q_leq rfl rfl) ?_
 refine l_q rfl rfl (q_pickF rfl hg4b rfl) ?_
 refine l_q rfl rfl (q_assignB rfl) ?_
 refine l_nil ?_
 refine hK2 _ _ ?_
 refine wp_seq_k (fun K8 hK8 => ?_)
 refine wp_region_lit ?_
 refine l_q rfl rfl (q_moveI rfl) ?_
 refine l_e rfl (fun K hK => ?_)
 refine e_store1 hS3 rfl rfl (by kernel_rfl) (by first | rfl | assumption) (i := 0) rfl rfl (fun w9 (hS9 : St _ _ [_] _) => ?_)
 clear hS3
 refine hK _ _ ?_; clear hK K
 refine l_nil ?_
 refine hK8 _ _ ?_
 refine wp_seq_k (fun K10 hK10 => ?_)
 refine wp_region_lit ?_
 refine l_q rfl rfl (q_moveB rfl) ?_
 refine l_q rfl rfl (q_assignB rfl) ?_
 refine l_nil ?_
 refine hK10 _ _ ?_
 refine wp_ret ?_
 refine c_ret1 rfl rfl ?_
 exact ⟨_, _, rfl, ⟨congrArg Value.bool (by first | (symm; exact decide_eq_true (by simp only [decide_eq_true_eq, decide_eq_false_iff_not, Bool.not_eq_true', Bool.not_eq_false'] at *; omega)) | (symm; exact decide_eq_false (by simp only [decide_eq_true_eq, decide_eq_false_iff_not, Bool.not_eq_true', Bool.not_eq_false'] at *; omega)) | exact decide_eq_decide.2 (by simp only [decide_eq_true_eq, decide_eq_false_iff_not, Bool.not_eq_true', Bool.not_eq_false'] at *; omega)), rfl⟩, hS9⟩
set_option maxRecDepth 100000 in
theorem lidx_ok (nd : List Int) (n : Nat) (hn : nd.length = n) (hm : n ≤ 2000000) (an : Option Addr) (cn : Nat) (bl : Nat) (w : World) (g : Gh) (hg : Rog [.blk bl (.cells #[.int .i64 (-1 : Int)] 3)] w g) (hG : SlG g an (iv nd)) (hS : St w (owns [.blk bl (.cells #[.int .i64 (-1 : Int)] 3)]) [.blk bl (.cells #[.int .i64 (-1 : Int)] 3)] w) : Calls Try.prog 73 #[.slice an n cn, .func (.func 58) #[] #[.pointer (some ⟨bl, 0, none⟩)]] w (Post w [.blk bl (.cells #[.int .i64 (-1 : Int)] 3)] fun v G => (∃ r : Int, v = .int .i64 r ∧ decide (0 ≤ r) = !risB (-1) nd) ∧ ∃ a, G = [.blk bl (.cells #[.int .i64 a] 3)]) := by
 subst hn
 refine c_enter Try.func73 rfl rfl rfl ?_
 refine wp_seq_k (fun K1 hK1 => ?_)
 refine wp_region_lit ?_
 refine l_q rfl rfl (q_assignI rfl) ?_
 refine l_nil ?_
 refine hK1 _ _ ?_
 refine wp_seq_k (fun K2 hK2 => ?_)
 refine wp_seq_k (fun K3 hK3 => ?_)
 refine wp_region_lit ?_
 refine l_q rfl rfl (q_moveS rfl) ?_
 refine l_q rfl rfl (q_lenSl (e := 3) rfl (by kernel_rfl)) ?_
 refine l_q rfl rfl (q_moveI rfl) ?_
 refine l_nil ?_
 refine hK3 _ _ ?_
 refine wp_block ?_
 refine c_loop (τ := Nat) [(4, 5), (8, 18)] (fun x => (fun (i : Nat) => [(8, .int .i64 (i : Int))]) x) (fun x w' => (fun (i : Nat) => St w (owns [.blk bl (.cells #[.int .i64 (-1 : Int)] 3)]) [.blk bl (.cells #[.int .i64 (lastN nd i)] 3)] w' ∧ i ≤ nd.length ∧ okTo nd i) x) (fun x => (fun (i : Nat) => nd.length - i) x) (0) ?_ (by repeat' (first | exact trivial | refine ⟨by first | rfl | exact int_succ _ | assumption, ?_⟩)) (fun i j4 w4 hJ4 K4 hK4 => ?_)
 exact ⟨hS.cast (by rw [lastN_zero]), Nat.zero_le _, okTo.zero nd⟩
 obtain ⟨hS4, hi, hk⟩ := hJ4
 try dsimp only at hS4 hi hk ⊢
 refine wp_seq_k (fun K5 hK5 => ?_)
 refine wp_region_lit ?_
 refine l_q rfl rfl (q_lss rfl rfl) ?_
 refine l_nil ?_
 refine hK5 _ _ ?_
 refine wp_seq_k (fun K6 hK6 => ?_)
 refine c_cond rfl (fun hc7 => ?_) (fun hc7 => ?_)
 have hc7b := hc7
 try simp only [zbb] at hc7
 refine wp_skip ?_
 refine hK6 _ _ ?_
 refine wp_seq_k (fun K8 hK8 => ?_)
 refine wp_block ?_
 refine wp_seq_k (fun K9 hK9 => ?_)
 refine wp_region_lit ?_
 refine l_q rfl rfl (q_moveI rfl) ?_
 refine l_q rfl rfl (q_assignI rfl) ?_
 refine l_nil ?_
 refine hK9 _ _ ?_
 refine wp_seq_k (fun K10 hK10 => ?_)
 refine wp_region_lit ?_
 refine l_q rfl rfl (q_move rfl) ?_
 refine l_q rfl rfl (q_moveS rfl) ?_
 refine l_q rfl rfl (q_moveI rfl) ?_
 refine l_q rfl rfl (q_ixG (e := 3) (m := 1) (j := i) rfl rfl (by kernel_rfl) (by kernel_rfl) (by first | rfl | omega) (by omega) hG (by rw [iv_len]; first | omega | (simp only [zll] <;> omega))) ?_
 obtain ⟨x11, hx11⟩ : ∃ x, (nd)[i]? = some x := ⟨_, List.getElem?_eq_getElem (by first | omega | (simp only [zll] <;> omega) | (simp <;> omega))⟩
 refine l_q rfl rfl (q_load1 rfl (by kernel_rfl) (SlG.cell (hG.mono (hg.le hS4)) (Gle.refl _) (at1 (iv_at hx11)))) ?_
 refine l_e rfl (fun K hK => ?_)
 refine e_callV (by kernel_rfl) rfl (lclos_ok x11 (lastN nd i) bl _ (St.begin (Γ := [_]) hS4)) rfl (after_M (Γ1 := [_]) hS4 (fun v12 G12 w12 hv12 hS12 => ?_))
 clear hS4
 obtain ⟨rfl, rfl⟩ := hv12
 have hS13 : St _ _ [.blk bl (.cells #[.int .i64 x11] 3)] _ := hS12; clear hS12
 refine hK _ _ ?_; clear hK K
 refine l_nil ?_
 refine hK10 _ _ ?_
 refine c_cond rfl (fun hc14 => ?_) (fun hc14 => ?_)
 have hc14b := hc14
 try simp only [zbb] at hc14
 refine wp_seq_k (fun K15 hK15 => ?_)
 refine wp_region_lit ?_
 refine l_q rfl rfl (q_moveI rfl) ?_
 refine l_q rfl rfl (q_assignI rfl) ?_
 refine l_nil ?_
 refine hK15 _ _ ?_
 refine wp_ret ?_
 refine c_ret1 rfl rfl ?_
 have hbad := okTo_bad hx11 (of_decide_eq_true hc14b)
 exact ⟨_, _, rfl, ⟨⟨_, rfl, by rw [hbad]; exact decide_eq_true (by omega)⟩, ⟨_, rfl⟩⟩, hS13⟩
 have hc14b := hc14
 try simp only [zbb] at hc14
 refine wp_skip ?_
 refine hK8 _ _ ?_
 refine wp_region_lit ?_
 refine l_q rfl rfl (q_addx rfl rfl (by first | decide | omega) (by first | decide | omega)) ?_
 refine l_q rfl rfl (q_moveI rfl) ?_
 refine l_nil ?_
 refine hK4 _ _ (came ((i + 1)) (by repeat' (first | exact Agree.refl _ _ | refine Agree.up ?_ rfl | refine Agree.hav2 ?_ rfl | refine Agree.ups2 ?_ rfl)) (by repeat' (first | exact trivial | refine ⟨by first | rfl | exact int_succ _ | assumption, ?_⟩)) ?_)
 have hnx := of_decide_eq_false hc14b
 exact ⟨⟨hS13.cast (by rw [lastN_succ hx11]), (by show i + 1 ≤ nd.length; omega), hk.next hx11 (Decidable.not_not.1 hnx)⟩, by (show nd.length - (i + 1) < nd.length - i); omega⟩
 have hc7b := hc7
 try simp only [zbb] at hc7
 refine wp_exit ?_
 refine hK2 _ _ ?_
 refine wp_seq_k (fun K16 hK16 => ?_)
 refine wp_region_lit ?_
 refine l_q rfl rfl (q_assignI rfl) ?_
 refine l_nil ?_
 refine hK16 _ _ ?_
 refine wp_ret ?_
 refine c_ret1 rfl rfl ?_
 have hii : i = nd.length := by omega
 rw [hii] at hk
 have hgood := okTo_ris.1 hk
 exact ⟨_, _, rfl, ⟨⟨_, rfl, by rw [hgood]; rfl⟩, ⟨_, rfl⟩⟩, hS4⟩
set_option maxRecDepth 100000 in
theorem lcon_ok (nd : List Int) (n : Nat) (hn : nd.length = n) (hm : n ≤ 2000000) (an : Option Addr) (cn : Nat) (bl : Nat) (w : World) (g : Gh) (hg : Rog [.blk bl (.cells #[.int .i64 (-1 : Int)] 3)] w g) (hG : SlG g an (iv nd)) (hS : St w (owns [.blk bl (.cells #[.int .i64 (-1 : Int)] 3)]) [.blk bl (.cells #[.int .i64 (-1 : Int)] 3)] w) : Calls Try.prog 57 #[.slice an n cn, .func (.func 58) #[] #[.pointer (some ⟨bl, 0, none⟩)]] w (Post w [.blk bl (.cells #[.int .i64 (-1 : Int)] 3)] fun v G => v = .bool (!risB (-1) nd) ∧ ∃ a, G = [.blk bl (.cells #[.int .i64 a] 3)]) := by
 subst hn
 refine c_enter Try.func57 rfl rfl rfl ?_
 refine wp_seq_k (fun K1 hK1 => ?_)
 refine wp_region_lit ?_
 refine l_q rfl rfl (q_assignB rfl) ?_
 refine l_nil ?_
 refine hK1 _ _ ?_
 refine wp_seq_k (fun K2 hK2 => ?_)
 refine wp_region_lit ?_
 refine l_q rfl rfl (q_moveS rfl) ?_
 refine l_q rfl rfl (q_move rfl) ?_
 refine l_e rfl (fun K hK => ?_)
 refine e_call (by kernel_rfl) (lidx_ok nd nd.length rfl hm _ _ bl _ _ (St.rogR (Γ1 := [_]) hS hg) hG (St.begin (Γ := [_]) hS)) rfl (after_M (Γ1 := [_]) hS (fun v3 G3 w3 hv3 hS3 => ?_))
 clear hS
 obtain ⟨⟨r3, rfl, hr3⟩, ⟨a3, rfl⟩⟩ := hv3
 have hS4 : St _ _ [.blk bl (.cells #[.int .i64 a3] 3)] _ := hS3; clear hS3
 refine hK _ _ ?_; clear hK K
 refine l_q rfl rfl (q_geq rfl rfl) ?_
 refine l_q rfl rfl (q_assignB rfl) ?_
 refine l_nil ?_
 refine hK2 _ _ ?_
 refine wp_ret ?_
 refine c_ret1 rfl rfl ?_
 exact ⟨_, _, rfl, ⟨congrArg Value.bool hr3, ⟨_, rfl⟩⟩, hS4⟩
theorem rl_no {l : Lr} (h : ¬(1 ≤ l.k ∧ l.k ≤ 8 ∧ 0 ≤ l.f ∧ l.f < 16 ∧ 0 ≤ l.t ∧ l.t < 16 ∧ 0 ≤ l.x ∧ l.x ≤ 1099511627776)) : false = rightL l := by
  unfold rightL; rw [decide_eq_false h]; rfl
theorem rl_2 {l : Lr} (h : 1 ≤ l.k ∧ l.k ≤ 8 ∧ 0 ≤ l.f ∧ l.f < 16 ∧ 0 ≤ l.t ∧ l.t < 16 ∧ 0 ≤ l.x ∧ l.x ≤ 1099511627776) (hk : ¬l.k = 1) : decide (((l.nd.length : Nat) : Int) = 0) = rightL l := by
  unfold rightL; rw [decide_eq_true h, if_neg hk, Bool.true_and]
  apply decide_eq_decide.2
  rw [← List.length_eq_zero_iff]; omega
theorem rl_1 {l : Lr} (h : 1 ≤ l.k ∧ l.k ≤ 8 ∧ 0 ≤ l.f ∧ l.f < 16 ∧ 0 ≤ l.t ∧ l.t < 16 ∧ 0 ≤ l.x ∧ l.x ≤ 1099511627776) (hk : l.k = 1) : (!!risB (-1) l.nd) = rightL l := by
  unfold rightL; rw [decide_eq_true h, if_pos hk, Bool.true_and, Bool.not_not]

set_option maxRecDepth 100000 in
theorem lright_ok (l : Lr) (n : Nat) (hn : l.nd.length = n) (hm : n ≤ 2000000) (an : Option Addr) (cn : Nat) (w : World) (hG : SlG (hw w) an (iv l.nd)) : Calls Try.prog 36 #[.agg #[.int .i64 l.k, .int .i64 l.f, .int .i64 l.t, .int .i64 l.x, .slice an n cn]] w (PostR w fun v => v = .bool (rightL l)) := by
 have hS := St.start w
 subst hn
 refine c_enter Try.func36 rfl rfl rfl ?_
 refine wp_seq_k (fun K1 hK1 => ?_)
 refine wp_region_lit ?_
 refine l_e rfl (fun K hK => ?_)
 refine e_boxA hS rfl (fun b2 w2 (hS2 : St _ _ [.blk b2 (.cells #[.int .i64 l.k, .int .i64 l.f, .int .i64 l.t, .int .i64 l.x, .slice an l.nd.length cn] 42)] _) => ?_)
 clear hS
 refine hK _ _ ?_; clear hK K
 refine l_q rfl rfl (q_assignB rfl) ?_
 refine l_nil ?_
 refine hK1 _ _ ?_
 refine wp_seq_k (fun K3 hK3 => ?_)
 refine wp_block ?_
 refine wp_seq_k (fun K4 hK4 => ?_)
 refine wp_region_lit ?_
 refine l_q rfl rfl (q_fieldAddr (ft := 40) (o := 0) rfl (by kernel_rfl)) ?_
 refine l_q rfl rfl (q_load1 rfl (by kernel_rfl) (hS2.cell (i := 0) rfl rfl)) ?_
 refine l_q rfl rfl (q_lss rfl rfl) ?_
 refine l_q rfl rfl (q_moveB rfl) ?_
 refine g_splitL (t := 8) rfl (fun hg5 => ?_) (fun hg5 => ?_)
 have hg5b := hg5
 try simp only [zbb] at hg5
 refine l_off rfl rfl rfl hg5b ?_
 refine l_off rfl rfl rfl hg5b ?_
 refine l_off rfl rfl rfl hg5b ?_
 refine l_q rfl rfl (q_pickT rfl hg5b rfl) ?_
 refine l_q rfl rfl (q_moveB rfl) ?_
 refine l_off rfl rfl rfl rfl ?_
 refine l_off rfl rfl rfl rfl ?_
 refine l_off rfl rfl rfl rfl ?_
 refine l_off rfl rfl rfl rfl ?_
 refine l_q rfl rfl (q_pickT rfl rfl rfl) ?_
 refine l_q rfl rfl (q_moveB rfl) ?_
 refine l_off rfl rfl rfl rfl ?_
 refine l_off rfl rfl rfl rfl ?_
 refine l_off rfl rfl rfl rfl ?_
 refine l_off rfl rfl rfl rfl ?_
 refine l_q rfl rfl (q_pickT rfl rfl rfl) ?_
 refine l_q rfl rfl (q_moveB rfl) ?_
 refine l_off rfl rfl rfl rfl ?_
 refine l_off rfl rfl rfl rfl ?_
 refine l_off rfl rfl rfl rfl ?_
 refine l_q rfl rfl (q_pickT rfl rfl rfl) ?_
 refine l_q rfl rfl (q_moveB rfl) ?_
 refine l_off rfl rfl rfl rfl ?_
 refine l_off rfl rfl rfl rfl ?_
 refine l_off rfl rfl rfl rfl ?_
 refine l_q rfl rfl (q_pickT rfl rfl rfl) ?_
 refine l_q rfl rfl (q_assignB rfl) ?_
 refine l_nil ?_
 refine hK4 _ _ ?_
 refine c_condT rfl rfl ?_
 refine wp_seq_k (fun K7 hK7 => ?_)
 refine wp_region_lit ?_
 refine l_q rfl rfl (q_assignB rfl) ?_
 refine l_nil ?_
 refine hK7 _ _ ?_
 refine wp_ret ?_
 refine c_ret1 rfl rfl ?_
 exact ⟨_, rfl, congrArg Value.bool (rl_no (by simp only [decide_eq_true_eq, decide_eq_false_iff_not, Bool.not_eq_true', Bool.not_eq_false'] at *; omega)), hS2.drop⟩
 have hg5b := hg5
 try simp only [zbb] at hg5
 refine l_on rfl rfl hg5b ?_
 refine l_q rfl rfl (q_fieldAddr (ft := 40) (o := 0) rfl (by kernel_rfl)) ?_
 refine l_on rfl rfl hg5b ?_
 refine l_q rfl rfl (q_load1 rfl (by kernel_rfl) (hS2.cell (i := 0) rfl rfl)) ?_
 refine l_on rfl rfl hg5b ?_
 refine l_q rfl rfl (q_gtr rfl rfl) ?_
 refine l_q rfl rfl (q_pickF rfl hg5b rfl) ?_
 refine l_q rfl rfl (q_moveB rfl) ?_
 refine g_splitL (t := 13) rfl (fun hg8 => ?_) (fun hg8 => ?_)
 have hg8b := hg8
 try simp only [zbb] at hg8
 refine l_off rfl rfl rfl hg8b ?_
 refine l_off rfl rfl rfl hg8b ?_
 refine l_off rfl rfl rfl hg8b ?_
 refine l_off rfl rfl rfl hg8b ?_
 refine l_q rfl rfl (q_pickT rfl hg8b rfl) ?_
 refine l_q rfl rfl (q_moveB rfl) ?_
 refine l_off rfl rfl rfl rfl ?_
 refine l_off rfl rfl rfl rfl ?_
 refine l_off rfl rfl rfl rfl ?_
 refine l_off rfl rfl rfl rfl ?_
 refine l_q rfl rfl (q_pickT rfl rfl rfl) ?_
 refine l_q rfl rfl (q_moveB rfl) ?_
 refine l_off rfl rfl rfl rfl ?_
 refine l_off rfl rfl rfl rfl ?_
 refine l_off rfl rfl rfl rfl ?_
 refine l_q rfl rfl (q_pickT rfl rfl rfl) ?_
 refine l_q rfl rfl (q_moveB rfl) ?_
 refine l_off rfl rfl rfl rfl ?_
 refine l_off rfl rfl rfl rfl ?_
 refine l_off rfl rfl rfl rfl ?_
 refine l_q rfl rfl (q_pickT rfl rfl rfl) ?_
 refine l_q rfl rfl (q_assignB rfl) ?_
 refine l_nil ?_
 refine hK4 _ _ ?_
 refine c_condT rfl rfl ?_
 refine wp_seq_k (fun K10 hK10 => ?_)
 refine wp_region_lit ?_
 refine l_q rfl rfl (q_assignB rfl) ?_
 refine l_nil ?_
 refine hK10 _ _ ?_
 refine wp_ret ?_
 refine c_ret1 rfl rfl ?_
 exact ⟨_, rfl, congrArg Value.bool (rl_no (by simp only [decide_eq_true_eq, decide_eq_false_iff_not, Bool.not_eq_true', Bool.not_eq_false'] at *; omega)), hS2.drop⟩
 have hg8b := hg8
 try simp only [zbb] at hg8
 refine l_on rfl rfl hg8b ?_
 refine l_q rfl rfl (q_fieldAddr (ft := 3) (o := 1) rfl (by kernel_rfl)) ?_
 refine l_on rfl rfl hg8b ?_
 refine l_q rfl rfl (q_load1 rfl (by kernel_rfl) (hS2.cell (i := 0) rfl rfl)) ?_
 refine l_on rfl rfl hg8b ?_
 refine l_e rfl (fun K hK => ?_)
 refine e_call (by kernel_rfl) (node_ok l.f _) rfl (after_R hS2 (fun v11 w11 hv11 hS11 => ?_))
 clear hS2
 obtain rfl := hv11
 refine hK _ _ ?_; clear hK K
 refine l_on rfl rfl hg8b ?_
 refine l_q rfl rfl (q_not rfl) ?_
 refine l_q rfl rfl (q_pickF rfl hg8b rfl) ?_
 refine l_q rfl rfl (q_moveB rfl) ?_
 refine g_splitL (t := 19) rfl (fun hg12 => ?_) (fun hg12 => ?_)
 have hg12b := hg12
 try simp only [zbb] at hg12
 refine l_off rfl rfl rfl hg12b ?_
 refine l_off rfl rfl rfl hg12b ?_
 refine l_off rfl rfl rfl hg12b ?_
 refine l_off rfl rfl rfl hg12b ?_
 refine l_q rfl rfl (q_pickT rfl hg12b rfl) ?_
 refine l_q rfl rfl (q_moveB rfl) ?_
 refine l_off rfl rfl rfl rfl ?_
 refine l_off rfl rfl rfl rfl ?_
 refine l_off rfl rfl rfl rfl ?_
 refine l_q rfl rfl (q_pickT rfl rfl rfl) ?_
 refine l_q rfl rfl (q_moveB rfl) ?_
 refine l_off rfl rfl rfl rfl ?_
 refine l_off rfl rfl rfl rfl ?_
 refine l_off rfl rfl rfl rfl ?_
 refine l_q rfl rfl (q_pickT rfl rfl rfl) ?_
 refine l_q rfl rfl (q_assignB rfl) ?_
 refine l_nil ?_
 refine hK4 _ _ ?_
 refine c_condT rfl rfl ?_
 refine wp_seq_k (fun K14 hK14 => ?_)
 refine wp_region_lit ?_
 refine l_q rfl rfl (q_assignB rfl) ?_
 refine l_nil ?_
 refine hK14 _ _ ?_
 refine wp_ret ?_
 refine c_ret1 rfl rfl ?_
 exact ⟨_, rfl, congrArg Value.bool (rl_no (by simp only [decide_eq_true_eq, decide_eq_false_iff_not, Bool.not_eq_true', Bool.not_eq_false'] at *; omega)), hS11.drop⟩
 have hg12b := hg12
 try simp only [zbb] at hg12
 refine l_on rfl rfl hg12b ?_
 refine l_q rfl rfl (q_fieldAddr (ft := 3) (o := 2) rfl (by kernel_rfl)) ?_
 refine l_on rfl rfl hg12b ?_
 refine l_q rfl rfl (q_load1 rfl (by kernel_rfl) (hS11.cell (i := 0) rfl rfl)) ?_
 refine l_on rfl rfl hg12b ?_
 refine l_e rfl (fun K hK => ?_)
 refine e_call (by kernel_rfl) (node_ok l.t _) rfl (after_R hS11 (fun v15 w15 hv15 hS15 => ?_))
 clear hS11
 obtain rfl := hv15
 refine hK _ _ ?_; clear hK K
 refine l_on rfl rfl hg12b ?_
 refine l_q rfl rfl (q_not rfl) ?_
 refine l_q rfl rfl (q_pickF rfl hg12b rfl) ?_
 refine l_q rfl rfl (q_moveB rfl) ?_
 refine g_splitL (t := 25) rfl (fun hg16 => ?_) (fun hg16 => ?_)
 have hg16b := hg16
 try simp only [zbb] at hg16
 refine l_off rfl rfl rfl hg16b ?_
 refine l_off rfl rfl rfl hg16b ?_
 refine l_off rfl rfl rfl hg16b ?_
 refine l_q rfl rfl (q_pickT rfl hg16b rfl) ?_
 refine l_q rfl rfl (q_moveB rfl) ?_
 refine l_off rfl rfl rfl rfl ?_
 refine l_off rfl rfl rfl rfl ?_
 refine l_off rfl rfl rfl rfl ?_
 refine l_q rfl rfl (q_pickT rfl rfl rfl) ?_
 refine l_q rfl rfl (q_assignB rfl) ?_
 refine l_nil ?_
 refine hK4 _ _ ?_
 refine c_condT rfl rfl ?_
 refine wp_seq_k (fun K18 hK18 => ?_)
 refine wp_region_lit ?_
 refine l_q rfl rfl (q_assignB rfl) ?_
 refine l_nil ?_
 refine hK18 _ _ ?_
 refine wp_ret ?_
 refine c_ret1 rfl rfl ?_
 exact ⟨_, rfl, congrArg Value.bool (rl_no (by simp only [decide_eq_true_eq, decide_eq_false_iff_not, Bool.not_eq_true', Bool.not_eq_false'] at *; omega)), hS15.drop⟩
 have hg16b := hg16
 try simp only [zbb] at hg16
 refine l_on rfl rfl hg16b ?_
 refine l_q rfl rfl (q_fieldAddr (ft := 3) (o := 3) rfl (by kernel_rfl)) ?_
 refine l_on rfl rfl hg16b ?_
 refine l_q rfl rfl (q_load1 rfl (by kernel_rfl) (hS15.cell (i := 0) rfl rfl)) ?_
 refine l_on rfl rfl hg16b ?_
 refine l_q rfl rfl (q_lss rfl rfl) ?_
 refine l_q rfl rfl (q_pickF rfl hg16b rfl) ?_
 refine l_q rfl rfl (q_moveB rfl) ?_
 refine g_splitL (t := 30) rfl (fun hg19 => ?_) (fun hg19 => ?_)
 have hg19b := hg19
 try simp only [zbb] at hg19
 refine l_off rfl rfl rfl hg19b ?_
 refine l_off rfl rfl rfl hg19b ?_
 refine l_off rfl rfl rfl hg19b ?_
 refine l_q rfl rfl (q_pickT rfl hg19b rfl) ?_
 refine l_q rfl rfl (q_assignB rfl) ?_
 refine l_nil ?_
 refine hK4 _ _ ?_
 refine c_condT rfl rfl ?_
 refine wp_seq_k (fun K21 hK21 => ?_)
 refine wp_region_lit ?_
 refine l_q rfl rfl (q_assignB rfl) ?_
 refine l_nil ?_
 refine hK21 _ _ ?_
 refine wp_ret ?_
 refine c_ret1 rfl rfl ?_
 exact ⟨_, rfl, congrArg Value.bool (rl_no (by simp only [decide_eq_true_eq, decide_eq_false_iff_not, Bool.not_eq_true', Bool.not_eq_false'] at *; omega)), hS15.drop⟩
 have hg19b := hg19
 try simp only [zbb] at hg19
 refine l_on rfl rfl hg19b ?_
 refine l_q rfl rfl (q_fieldAddr (ft := 3) (o := 3) rfl (by kernel_rfl)) ?_
 refine l_on rfl rfl hg19b ?_
 refine l_q rfl rfl (q_load1 rfl (by kernel_rfl) (hS15.cell (i := 0) rfl rfl)) ?_
 refine l_on rfl rfl hg19b ?_
 refine l_q rfl rfl (q_gtr rfl rfl) ?_
 refine l_q rfl rfl (q_pickF rfl hg19b rfl) ?_
 refine l_q rfl rfl (q_assignB rfl) ?_
 refine l_nil ?_
 refine hK4 _ _ ?_
 refine c_cond rfl (fun hc22 => ?_) (fun hc22 => ?_)
 have hc22b := hc22
 try simp only [zbb] at hc22
 refine wp_seq_k (fun K23 hK23 => ?_)
 refine wp_region_lit ?_
 refine l_q rfl rfl (q_assignB rfl) ?_
 refine l_nil ?_
 refine hK23 _ _ ?_
 refine wp_ret ?_
 refine c_ret1 rfl rfl ?_
 exact ⟨_, rfl, congrArg Value.bool (rl_no (by simp only [decide_eq_true_eq, decide_eq_false_iff_not, Bool.not_eq_true', Bool.not_eq_false'] at *; omega)), hS15.drop⟩
 have hc22b := hc22
 try simp only [zbb] at hc22
 refine wp_seq_k (fun K24 hK24 => ?_)
 refine wp_region_lit ?_
 refine l_q rfl rfl (q_fieldAddr (ft := 40) (o := 0) rfl (by kernel_rfl)) ?_
 refine l_q rfl rfl (q_load1 rfl (by kernel_rfl) (hS15.cell (i := 0) rfl rfl)) ?_
 refine l_q rfl rfl (q_neq rfl rfl) ?_
 refine l_q rfl rfl (q_assignB rfl) ?_
 refine l_nil ?_
 refine hK24 _ _ ?_
 refine c_cond rfl (fun hc25 => ?_) (fun hc25 => ?_)
 have hc25b := hc25
 try simp only [zbb] at hc25
 refine wp_seq_k (fun K26 hK26 => ?_)
 refine wp_region_lit ?_
 refine l_q rfl rfl (q_fieldAddr (ft := 22) (o := 4) rfl (by kernel_rfl)) ?_
 refine l_q rfl rfl (q_load1 rfl (by kernel_rfl) (hS15.cell (i := 0) rfl rfl)) ?_
 refine l_q rfl rfl (q_lenSl (e := 3) rfl (by kernel_rfl)) ?_
 refine l_q rfl rfl (q_eql rfl rfl) ?_
 refine l_q rfl rfl (q_assignB rfl) ?_
 refine l_nil ?_
 refine hK26 _ _ ?_
 refine wp_ret ?_
 refine c_ret1 rfl rfl ?_
 exact ⟨_, rfl, congrArg Value.bool (rl_2 (by simp only [decide_eq_true_eq, decide_eq_false_iff_not, Bool.not_eq_true', Bool.not_eq_false'] at *; omega) (by omega)), hS15.drop⟩
 have hc25b := hc25
 try simp only [zbb] at hc25
 refine wp_skip ?_
 refine hK3 _ _ ?_
 refine wp_seq_k (fun K27 hK27 => ?_)
 refine wp_region_lit ?_
 refine l_e rfl (fun K hK => ?_)
 refine e_alloc (zv := .int .i64 0) hS15 (by kernel_rfl) (fun b28 w28 (hS28 : St _ _ [.blk b28 (.cells #[.int .i64 (0 : Int)] 3), _] _) => ?_)
 clear hS15
 refine hK _ _ ?_; clear hK K
 refine l_e rfl (fun K hK => ?_)
 refine e_store1 hS28 rfl rfl (by kernel_rfl) (by first | rfl | assumption) (i := 0) rfl rfl (fun w29 (hS29 : St _ _ [.blk b28 (.cells #[.int .i64 (-1 : Int)] 3), _] _) => ?_)
 clear hS28
 refine hK _ _ ?_; clear hK K
 refine l_nil ?_
 refine hK27 _ _ ?_
 refine wp_seq_k (fun K30 hK30 => ?_)
 refine wp_region_lit ?_
 refine l_q rfl rfl (q_fieldAddr (ft := 22) (o := 4) rfl (by kernel_rfl)) ?_
 refine l_q rfl rfl (q_load1 rfl (by kernel_rfl) (hS29.cell (i := 1) rfl rfl)) ?_
 refine l_q rfl rfl (q_makeFunc) ?_
 refine l_e rfl (fun K hK => ?_)
 refine e_call (by kernel_rfl) (lcon_ok l.nd l.nd.length rfl hm _ _ b28 _ _ (St.rogB (Γ1 := [_]) hS29) hG (St.begin (Γ := [_]) hS29)) rfl (after_M (Γ1 := [_]) hS29 (fun v31 G31 w31 hv31 hS31 => ?_))
 clear hS29
 obtain ⟨rfl, ⟨a31, rfl⟩⟩ := hv31
 have hS32 : St _ _ [.blk b28 (.cells #[.int .i64 a31] 3), _] _ := hS31; clear hS31
 refine hK _ _ ?_; clear hK K
 refine l_q rfl rfl (q_not rfl) ?_
 refine l_q rfl rfl (q_assignB rfl) ?_
 refine l_nil ?_
 refine hK30 _ _ ?_
 refine wp_ret ?_
 refine c_ret1 rfl rfl ?_
 exact ⟨_, rfl, congrArg Value.bool (rl_1 (by simp only [decide_eq_true_eq, decide_eq_false_iff_not, Bool.not_eq_true', Bool.not_eq_false'] at *; omega) (by omega)), hS32.drop⟩
end Go.Proofs.Yteojpdijmnpmgaa
namespace Go.Proofs.Yteojpdijmnpmgaa
open Go.RowKit
theorem SlG.slr {w : World} {ad : Option Addr} {xs : List Value} (h : SlG (hw w) ad xs) : SlR (Ro w fun _ => False) w ad xs := by
  rcases h with h | ⟨b, off, arr, T, fz, ha, hb, hx⟩
  · exact .inl h
  · exact .inr ⟨b, off, arr, T, fz, ha, ⟨(Array.getElem?_eq_some_iff.1 hb).1, id⟩, hb, hx⟩
/-- A disk's struct; a disk. -/
abbrev dO (ad : Option Addr) (m cap b s : Nat) : Obj := .cells #[.slice ad m cap, .int .i64 ((b : Nat) : Int), .int .i64 ((s : Nat) : Int)] 76
def dk (k : Nat) (ad : Option Addr) (cap : Nat) (l : List Nat) (b s : Nat) : Ch := .pk [.blk k (dO ad l.length cap b s), .ow 5 1 ad l.length cap (bv l)]
/-- What D1's Append leaves and answers. -/
def apL (l m : List Nat) : List Nat := if l.length + m.length ≤ 1048576 then l ++ m else l
def apE (l m : List Nat) : Nat := if l.length + m.length ≤ 1048576 then 0 else 62
def apN (l m : List Nat) (b : Nat) : Nat := if l.length + m.length ≤ 1048576 then b + l.length else 0
section
variable {w0 w : World} {D : Nat → Prop} {Γ : List Ch} {k cap b s : Nat} {ad : Option Addr} {l : List Nat}
theorem dk_open (h : St w0 D (dk k ad cap l b s :: Γ) w) : St w0 D (.blk k (dO ad l.length cap b s) :: .ow 5 1 ad l.length cap (bv l) :: Γ) w := h.unpk
theorem dk_close (h : St w0 D (.blk k (dO ad l.length cap b s) :: .ow 5 1 ad l.length cap (bv l) :: Γ) w) : St w0 D (dk k ad cap l b s :: Γ) w := h.pk
end
attribute [local irreducible] Oper.wp Sem.run Code.wp wpList wpAnyO callFunc execOp Calls
set_option maxRecDepth 100000 in
theorem Clone_ok (l : List Nat) (ad : Option Addr) (cap m : Nat) (hm : l.length = m) (hn : m ≤ 4000000000) (w : World) (hG : SlG (hw w) ad (bv l)) : Calls Try.prog 41 #[.slice ad m cap] w (PostN w fun v G => ∃ ad' cap', v = .slice ad' m cap' ∧ G = [.ow 5 1 ad' m cap' (bv l)]) := by
 have hS := St.start w
 have hl : True := trivial
 refine c_enter Try.func41 rfl rfl rfl ?_
 refine wp_seq_k (fun K1 hK1 => ?_)
 refine wp_region_lit ?_
 refine l_q rfl rfl (q_assignS rfl) ?_
 refine l_nil ?_
 refine hK1 _ _ ?_
 refine wp_seq_k (fun K2 hK2 => ?_)
 refine wp_seq_k (fun K3 hK3 => ?_)
 refine wp_region_lit ?_
 refine l_q rfl rfl (q_moveS rfl) ?_
 refine l_q rfl rfl (q_slice_eql 5 rfl rfl (by kernel_rfl)) ?_
 refine l_nil ?_
 refine hK3 _ _ ?_
 refine c_cond rfl (fun hc4 => ?_) (fun hc4 => ?_)
 have hc4b := hc4
 try simp only [zbb] at hc4
 have ha := hc4
 obtain rfl : ad = none := by cases ad with | none => rfl | some a => cases ha
 obtain rfl : l = [] := List.map_eq_nil_iff.1 (SlG.ofNone hG)
 subst hm
 refine wp_seq_k (fun K5 hK5 => ?_)
 refine wp_region_lit ?_
 refine l_q rfl rfl (q_assignS rfl) ?_
 refine l_nil ?_
 refine hK5 _ _ ?_
 refine wp_ret ?_
 refine c_ret1 rfl rfl ?_
 exact ⟨_, _, rfl, ⟨_, _, rfl, rfl⟩, hS.ow_nil _ _⟩
 have hc4b := hc4
 try simp only [zbb] at hc4
 refine wp_skip ?_
 refine hK2 _ _ ?_
 refine wp_seq_k (fun K6 hK6 => ?_)
 refine wp_region_lit ?_
 refine l_e rfl (fun K hK => ?_)
 refine e_buildSlice1 (e := 5) (zv := .int .u8 0) (xs := []) hS (by kernel_rfl) (by kernel_rfl) (by kernel_rfl) rfl rfl rfl rfl ((by intro u hu; cases hu)) rfl (fun b7 w7 (hS7 : St _ _ [.blk b7 (.cells #[] 5)] _) => ?_)
 clear hS
 have hS7o : St _ _ [.ow 5 1 (some ⟨b7, 0, none⟩) 0 0 (bv [])] _ := hS7.blkOw' (i := 0) (m := 0) (size := 1) (xs := bv []) rfl rfl rfl (by decide); clear hS7
 refine hK _ _ ?_; clear hK K
 refine l_q rfl rfl (q_moveS rfl) ?_
 refine l_e rfl (fun K hK => ?_)
 refine e_app (e := 5) (size := 1) (bytes := 1) (i := 0) (m' := m) (by kernel_rfl) hS7o rfl rfl rfl (SlG.src (e := 5) (by kernel_rfl) (hG.mono hS7o.base) (by first | (simp only [zll, Nat.mul_one]; done) | (simp only [zll]; omega) | rfl | (simp; done)) (by decide) (bv_one _)) (by first | omega | (simp only [zll] <;> omega) | (simp; done)) rfl (by first | omega | (simp only [maxLen, zll] <;> omega) | (simp only [maxLen]; omega)) (by first | omega | (simp only [zll] <;> omega)) (fun ad8 cp8 w8 (hS8 : St _ _ [.ow 5 1 ad8 m cp8 (bv l)] _) => ?_)
 clear hS7o
 refine hK _ _ ?_; clear hK K
 refine l_q rfl rfl (q_assignS rfl) ?_
 refine l_nil ?_
 refine hK6 _ _ ?_
 refine wp_ret ?_
 refine c_ret1 rfl rfl ?_
 exact ⟨_, _, rfl, ⟨_, _, rfl, rfl⟩, hS8⟩
set_option maxRecDepth 100000 in
theorem dNew_ok (w : World) : Calls Try.prog 10 #[] w (PostN w fun v G => ∃ k, v = pV k ∧ G = [dk k none 0 [] 0 0]) := by
 have hS := St.start w
 refine c_enter Try.func10 rfl rfl rfl ?_
 refine wp_seq_k (fun K1 hK1 => ?_)
 refine wp_region_lit ?_
 refine l_q rfl rfl (q_assignP rfl) ?_
 refine l_nil ?_
 refine hK1 _ _ ?_
 refine wp_seq_k (fun K2 hK2 => ?_)
 refine wp_region_lit ?_
 refine l_q rfl rfl (q_build (ps := [(0, 1), (1, 1), (2, 1)]) (zv := .agg #[.slice none 0 0, .int .i64 0, .int .i64 0]) (by kernel_rfl) (by kernel_rfl) rfl (by repeat' (first | exact trivial | refine ⟨fun _ => by first | rfl | assumption | exact one_if (by assumption), ?_⟩ | refine ⟨fun ⟨_, h⟩ => by simp at h, ?_⟩)) rfl) ?_
 refine l_e rfl (fun K hK => ?_)
 refine e_boxA hS rfl (fun b3 w3 (hS3 : St _ _ [.blk b3 (.cells #[.slice none 0 0, .int .i64 (0 : Int), .int .i64 (0 : Int)] 76)] _) => ?_)
 clear hS
 refine hK _ _ ?_; clear hK K
 refine l_q rfl rfl (q_assignP rfl) ?_
 refine l_nil ?_
 refine hK2 _ _ ?_
 refine wp_ret ?_
 refine c_ret1 rfl rfl ?_
 have hSn := hS3.ow_nil 5 1
 exact ⟨_, _, rfl, ⟨_, rfl, rfl⟩, dk_close (l := []) (hSn.fr1)⟩
set_option maxRecDepth 100000 in
theorem dBegin_ok (k : Nat) (ad : Option Addr) (cap : Nat) (l : List Nat) (b s : Nat)  (w : World) (hS : St w (owns [dk k ad cap l b s]) [dk k ad cap l b s] w) : Calls Try.prog 45 #[pV k] w (Post w [dk k ad cap l b s] fun v G => v = .int .i64 (b : Int) ∧ G = [dk k ad cap l b s]) := by
 refine c_enter Try.func45 rfl rfl rfl ?_
 refine wp_seq_k (fun K1 hK1 => ?_)
 have hS2 := dk_open hS; clear hS
 refine wp_region_lit ?_
 refine l_q rfl rfl (q_assignI rfl) ?_
 refine l_nil ?_
 refine hK1 _ _ ?_
 refine wp_seq_k (fun K3 hK3 => ?_)
 refine wp_seq_k (fun K4 hK4 => ?_)
 refine wp_region_lit ?_
 refine l_q rfl rfl (q_moveP rfl) ?_
 refine l_q rfl rfl (q_peq rfl (by kernel_rfl)) ?_
 refine l_nil ?_
 refine hK4 _ _ ?_
 refine c_condF rfl rfl ?_
 refine wp_skip ?_
 refine hK3 _ _ ?_
 refine wp_seq_k (fun K6 hK6 => ?_)
 refine wp_region_lit ?_
 refine l_q rfl rfl (q_moveP rfl) ?_
 refine l_q rfl rfl (q_nilCheck rfl) ?_
 refine l_q rfl rfl (q_fieldAddr (ft := 3) (o := 1) rfl (by kernel_rfl)) ?_
 refine l_q rfl rfl (q_load1 rfl (by kernel_rfl) (hS2.cell (i := 0) rfl rfl)) ?_
 refine l_q rfl rfl (q_assignI rfl) ?_
 refine l_nil ?_
 refine hK6 _ _ ?_
 refine wp_ret ?_
 refine c_ret1 rfl rfl ?_
 have hS7 := dk_close hS2; clear hS2
 exact ⟨_, _, rfl, ⟨rfl, rfl⟩, hS7⟩
set_option maxRecDepth 100000 in
theorem dEnd_ok (k : Nat) (ad : Option Addr) (cap : Nat) (l : List Nat) (b s : Nat)  (hl : Bytes l) (hb : b + l.length ≤ 2000000000) (hs : s ≤ l.length) (w : World) (hS : St w (owns [dk k ad cap l b s]) [dk k ad cap l b s] w) : Calls Try.prog 46 #[pV k] w (Post w [dk k ad cap l b s] fun v G => v = .int .i64 (((b + l.length) : Nat) : Int) ∧ G = [dk k ad cap l b s]) := by
 refine c_enter Try.func46 rfl rfl rfl ?_
 refine wp_seq_k (fun K1 hK1 => ?_)
 have hS2 := dk_open hS; clear hS
 refine wp_region_lit ?_
 refine l_q rfl rfl (q_assignI rfl) ?_
 refine l_nil ?_
 refine hK1 _ _ ?_
 refine wp_seq_k (fun K3 hK3 => ?_)
 refine wp_seq_k (fun K4 hK4 => ?_)
 refine wp_region_lit ?_
 refine l_q rfl rfl (q_moveP rfl) ?_
 refine l_q rfl rfl (q_peq rfl (by kernel_rfl)) ?_
 refine l_nil ?_
 refine hK4 _ _ ?_
 refine c_condF rfl rfl ?_
 refine wp_skip ?_
 refine hK3 _ _ ?_
 refine wp_seq_k (fun K6 hK6 => ?_)
 refine r_any (by kernel_rfl) hS2 (fun w7 hS7 => ?_)
 clear hS2
 refine o_pure (i := 0) (fun _ _ => trivial) rfl rfl (by kernel_rfl) (goes0 rfl) (QOk.then QOk.body) (fun w => q_moveP rfl) ?_
 refine o_pure (i := 1) (fun _ _ => trivial) rfl rfl (by kernel_rfl) (goes0 rfl) (QOk.then QOk.body) (fun w => q_nilCheck rfl) ?_
 refine o_pure (i := 2) (fun _ _ => trivial) rfl rfl (by kernel_rfl) (goes0 rfl) (QOk.then QOk.body) (fun w => q_fieldAddr (ft := 3) (o := 1) rfl (by kernel_rfl)) ?_
 refine o_held (i := 3) [9, 10] (fun _ _ => trivial) rfl rfl (by kernel_rfl) (goes0 rfl) (QOk.then QOk.body) (q_load1 rfl (by kernel_rfl) (hS7.cell (i := 0) rfl rfl)) ?_
 refine o_pure (i := 4) (fun j w => ⟨(fun _ _ => trivial) j w, fun _ h => h⟩) rfl rfl (by kernel_rfl) (goes0 rfl) (QOk.then QOk.body) (fun w => q_moveP rfl) ?_
 refine o_pure (i := 5) (fun j w => ⟨(fun _ _ => trivial) j w, fun _ h => h⟩) rfl rfl (by kernel_rfl) (goes0 rfl) (QOk.then QOk.body) (fun w => q_nilCheck rfl) ?_
 refine o_pure (i := 6) (fun j w => ⟨(fun _ _ => trivial) j w, fun _ h => h⟩) rfl rfl (by kernel_rfl) (goes0 rfl) (QOk.then QOk.body) (fun w => q_fieldAddr (ft := 58) (o := 0) rfl (by kernel_rfl)) ?_
 refine o_held (i := 7) [8, 9, 10] (fun j w => ⟨(fun _ _ => trivial) j w, fun _ h => h⟩) rfl rfl (by kernel_rfl) (goes0 rfl) (QOk.then QOk.body) (q_load1 rfl (by kernel_rfl) (hS7.cell (i := 0) rfl rfl)) ?_
 refine o_pure (i := 8) (fun j w => ⟨(fun j w => ⟨(fun _ _ => trivial) j w, fun _ h => h⟩) j w, fun _ h => h⟩) rfl rfl (by kernel_rfl) (goes0 rfl) (QOk.then QOk.body) (fun w => q_lenSl (e := 5) rfl (by kernel_rfl)) ?_
 refine o_pure (i := 9) (fun j w => ⟨(fun j w => ⟨(fun _ _ => trivial) j w, fun _ h => h⟩) j w, fun _ h => h⟩) rfl rfl (by kernel_rfl) (goes0 rfl) (QOk.then QOk.body) (fun w => q_addx rfl rfl (by first | decide | omega) (by first | decide | omega)) ?_
 refine o_pure (i := 10) (fun j w => ⟨(fun j w => ⟨(fun _ _ => trivial) j w, fun _ h => h⟩) j w, fun _ h => h⟩) rfl rfl (by kernel_rfl) (goes0 rfl) (QOk.then QOk.body) (fun w => q_assignI rfl) ?_
 refine o_done (by kernel_rfl) ?_
 refine hK6 _ _ ?_
 refine wp_ret ?_
 refine c_ret1 rfl rfl ?_
 have hS8 := dk_close hS7; clear hS7
 exact ⟨_, _, rfl, ⟨rfl, rfl⟩, hS8⟩
set_option maxRecDepth 100000 in
theorem dSync_ok (k : Nat) (ad : Option Addr) (cap : Nat) (l : List Nat) (b s : Nat)  (w : World) (hS : St w (owns [dk k ad cap l b s]) [dk k ad cap l b s] w) : Calls Try.prog 49 #[pV k] w (Post w [dk k ad cap l b s] fun v G => v = .int .i64 0 ∧ G = [dk k ad cap l b l.length]) := by
 refine c_enter Try.func49 rfl rfl rfl ?_
 refine wp_seq_k (fun K1 hK1 => ?_)
 have hS2 := dk_open hS; clear hS
 refine wp_region_lit ?_
 refine l_q rfl rfl (q_assignI rfl) ?_
 refine l_nil ?_
 refine hK1 _ _ ?_
 refine wp_seq_k (fun K3 hK3 => ?_)
 refine wp_seq_k (fun K4 hK4 => ?_)
 refine wp_region_lit ?_
 refine l_q rfl rfl (q_moveP rfl) ?_
 refine l_q rfl rfl (q_peq rfl (by kernel_rfl)) ?_
 refine l_nil ?_
 refine hK4 _ _ ?_
 refine c_condF rfl rfl ?_
 refine wp_skip ?_
 refine hK3 _ _ ?_
 refine wp_seq_k (fun K6 hK6 => ?_)
 refine wp_region_lit ?_
 refine l_q rfl rfl (q_moveP rfl) ?_
 refine l_q rfl rfl (q_moveP rfl) ?_
 refine l_q rfl rfl (q_nilCheck rfl) ?_
 refine l_q rfl rfl (q_fieldAddr (ft := 58) (o := 0) rfl (by kernel_rfl)) ?_
 refine l_q rfl rfl (q_load1 rfl (by kernel_rfl) (hS2.cell (i := 0) rfl rfl)) ?_
 refine l_q rfl rfl (q_lenSl (e := 5) rfl (by kernel_rfl)) ?_
 refine l_q rfl rfl (q_nilCheck rfl) ?_
 refine l_q rfl rfl (q_fieldAddr (ft := 3) (o := 2) rfl (by kernel_rfl)) ?_
 refine l_e rfl (fun K hK => ?_)
 refine e_store1 hS2 rfl rfl (by kernel_rfl) (by first | rfl | assumption) (i := 0) rfl rfl (fun w7 (hS7 : St _ _ [.blk k (.cells #[.slice ad l.length cap, .int .i64 (b : Int), .int .i64 ((l.length : Nat) : Int)] 76), .ow 5 1 ad l.length cap (bv l)] _) => ?_)
 clear hS2
 refine hK _ _ ?_; clear hK K
 refine l_nil ?_
 refine hK6 _ _ ?_
 refine wp_seq_k (fun K8 hK8 => ?_)
 refine wp_region_lit ?_
 refine l_q rfl rfl (q_assignI rfl) ?_
 refine l_nil ?_
 refine hK8 _ _ ?_
 refine wp_ret ?_
 refine c_ret1 rfl rfl ?_
 have hS9 := dk_close hS7; clear hS7
 exact ⟨_, _, rfl, ⟨rfl, rfl⟩, hS9⟩
set_option maxRecDepth 100000 in
theorem dAppend_ok (k : Nat) (ad : Option Addr) (cap : Nat) (l : List Nat) (b s : Nat) (hl : Bytes l) (hb : b + l.length ≤ 2000000000) (hs : s ≤ l.length) (nm : Nat) (g : Gh) (m : List Nat) (hm : Bytes m) (am : Option Addr) (cm : Nat) (hM : SlG g am (bv m)) (w : World) (hg : Rog [dk k ad cap l b s] w g) (hnm : m.length = nm) (hbm : b + l.length + m.length ≤ 2000000000) (hS : St w (owns [dk k ad cap l b s]) [dk k ad cap l b s] w) : Calls Try.prog 52 #[pV k, .slice am nm cm] w (Post w [dk k ad cap l b s] fun v G => ∃ ad' cap', v = .tuple #[.int .i64 ((apN l m b : Nat) : Int), .int .i64 ((apE l m : Nat) : Int)] ∧ G = [dk k ad' cap' (apL l m) b s]) := by
 subst hnm
 refine c_enter Try.func52 rfl rfl rfl ?_
 refine wp_seq_k (fun K1 hK1 => ?_)
 have hS2 := dk_open hS; clear hS
 refine wp_region_lit ?_
 refine l_q rfl rfl (q_assignI rfl) ?_
 refine l_q rfl rfl (q_assignI rfl) ?_
 refine l_nil ?_
 refine hK1 _ _ ?_
 refine wp_seq_k (fun K3 hK3 => ?_)
 refine wp_block ?_
 refine wp_seq_k (fun K4 hK4 => ?_)
 refine wp_region_lit ?_
 refine l_q rfl rfl (q_moveP rfl) ?_
 refine l_q rfl rfl (q_peq rfl (by kernel_rfl)) ?_
 refine l_q rfl rfl (q_assignB rfl) ?_
 refine l_nil ?_
 refine hK4 _ _ ?_
 refine c_condF rfl rfl ?_
 refine wp_seq_k (fun K6 hK6 => ?_)
 refine wp_region_lit ?_
 refine l_q rfl rfl (q_moveS rfl) ?_
 refine l_q rfl rfl (q_lenSl (e := 5) rfl (by kernel_rfl)) ?_
 refine l_q rfl rfl (q_moveP rfl) ?_
 refine l_q rfl rfl (q_nilCheck rfl) ?_
 refine l_q rfl rfl (q_fieldAddr (ft := 58) (o := 0) rfl (by kernel_rfl)) ?_
 refine l_q rfl rfl (q_load1 rfl (by kernel_rfl) (hS2.cell (i := 0) rfl rfl)) ?_
 refine l_q rfl rfl (q_lenSl (e := 5) rfl (by kernel_rfl)) ?_
 refine l_q rfl rfl (q_subx rfl rfl (by first | decide | omega) (by first | decide | omega)) ?_
 refine l_q rfl rfl (q_gtr rfl rfl) ?_
 refine l_q rfl rfl (q_assignB rfl) ?_
 refine l_nil ?_
 refine hK6 _ _ ?_
 refine c_cond rfl (fun hc7 => ?_) (fun hc7 => ?_)
 have hc7b := hc7
 try simp only [zbb] at hc7
 have hx : ¬ (l.length + m.length ≤ 1048576) := by omega
 refine wp_seq_k (fun K8 hK8 => ?_)
 refine wp_region_lit ?_
 refine l_q rfl rfl (q_assignI rfl) ?_
 refine l_q rfl rfl (q_assignI rfl) ?_
 refine l_nil ?_
 refine hK8 _ _ ?_
 refine wp_ret ?_
 refine c_ret2 rfl rfl rfl ?_
 have hS9 := dk_close hS2; clear hS2
 exact ⟨_, _, rfl, ⟨ad, cap, by rw [apN, apE, if_neg hx, if_neg hx]; rfl, by rw [apL, if_neg hx]⟩, hS9⟩
 have hc7b := hc7
 try simp only [zbb] at hc7
 have hx : l.length + m.length ≤ 1048576 := by omega
 refine wp_skip ?_
 refine hK3 _ _ ?_
 refine wp_seq_k (fun K10 hK10 => ?_)
 refine wp_region_lit ?_
 refine l_q rfl rfl (q_moveP rfl) ?_
 refine l_e rfl (fun K hK => ?_)
 have hS12 := dk_close hS2; clear hS2
 refine e_call (by kernel_rfl) (dEnd_ok _ _ _ _ _ _ hl (by first | omega | (simp; omega)) (by first | omega | (simp; omega)) _ (St.begin (Γ := [_]) hS12)) rfl (after_M (Γ1 := [_]) hS12 (fun v11 G11 w11 hv11 hS11 => ?_))
 clear hS12
 obtain ⟨rfl, rfl⟩ := hv11
 have hS13 : St _ _ [dk k ad cap l b s] _ := hS11; clear hS11
 refine hK _ _ ?_; clear hK K
 refine l_q rfl rfl (q_assignI rfl) ?_
 refine l_nil ?_
 refine hK10 _ _ ?_
 refine wp_seq_k (fun K14 hK14 => ?_)
 refine wp_region_lit ?_
 refine l_q rfl rfl (q_moveP rfl) ?_
 refine l_q rfl rfl (q_moveP rfl) ?_
 refine l_q rfl rfl (q_nilCheck rfl) ?_
 refine l_q rfl rfl (q_fieldAddr (ft := 58) (o := 0) rfl (by kernel_rfl)) ?_
 have hS15 := dk_open hS13; clear hS13
 refine l_q rfl rfl (q_load1 rfl (by kernel_rfl) (hS15.cell (i := 0) rfl rfl)) ?_
 refine l_q rfl rfl (q_moveS rfl) ?_
 refine l_e rfl (fun K hK => ?_)
 have hB16 : Bytes (l ++ m) := Bytes.app hl hm
 refine e_app (e := 5) (size := 1) (bytes := 1) (i := 1) (m' := (l ++ m).length) (by kernel_rfl) hS15 rfl rfl rfl (SlG.src (e := 5) (by kernel_rfl) (hM.mono (hg.le hS15)) (by first | (simp only [zll, Nat.mul_one]; done) | (simp only [zll]; omega) | rfl | (simp; done)) (by decide) (bv_one _)) (by first | omega | (simp only [zll] <;> omega) | (simp; done)) bv_app (by first | omega | (simp only [maxLen, zll] <;> omega) | (simp only [maxLen]; omega)) (by first | omega | (simp only [zll] <;> omega)) (fun ad16 cp16 w16 (hS16 : St _ _ [.blk k (.cells #[.slice ad l.length cap, .int .i64 (b : Int), .int .i64 (s : Int)] 76), .ow 5 1 ad16 ((l ++ m).length) cp16 (bv (l ++ m))] _) => ?_)
 clear hS15
 refine hK _ _ ?_; clear hK K
 refine l_q rfl rfl (q_nilCheck rfl) ?_
 refine l_q rfl rfl (q_fieldAddr (ft := 58) (o := 0) rfl (by kernel_rfl)) ?_
 refine l_e rfl (fun K hK => ?_)
 refine e_store1 hS16 rfl rfl (by kernel_rfl) (by first | rfl | assumption) (i := 0) rfl rfl (fun w17 (hS17 : St _ _ [.blk k (.cells #[.slice ad16 ((l ++ m).length) cp16, .int .i64 (b : Int), .int .i64 (s : Int)] 76), _] _) => ?_)
 clear hS16
 refine hK _ _ ?_; clear hK K
 refine l_nil ?_
 refine hK14 _ _ ?_
 refine wp_seq_k (fun K18 hK18 => ?_)
 refine wp_region_lit ?_
 refine l_q rfl rfl (q_moveI rfl) ?_
 refine l_q rfl rfl (q_assignI rfl) ?_
 refine l_q rfl rfl (q_assignI rfl) ?_
 refine l_nil ?_
 refine hK18 _ _ ?_
 refine wp_ret ?_
 refine c_ret2 rfl rfl rfl ?_
 have hS19 := dk_close hS17; clear hS17
 exact ⟨_, _, rfl, ⟨_, _, by rw [apN, apE, if_pos hx, if_pos hx]; rfl, by rw [apL, if_pos hx]⟩, hS19⟩
theorem apL_bytes {l m : List Nat} (h : Bytes l) (h' : Bytes m) : Bytes (apL l m) := by
  unfold apL
  split
  · exact h.app h'
  · exact h
theorem apL_len (l m : List Nat) : l.length ≤ (apL l m).length ∧ (apL l m).length ≤ l.length + m.length := by unfold apL; split <;> simp


set_option maxRecDepth 100000 in
theorem dCut_ok (k : Nat) (ad : Option Addr) (cap : Nat) (l : List Nat) (b s : Nat)  (hl : Bytes l) (hb : b + l.length ≤ 2000000000) (hs : s ≤ l.length) (n : Int) (hn0 : -9223372036854775808 ≤ n) (hn1 : n ≤ 9223372036854775807) (w : World) (hS : St w (owns [dk k ad cap l b s]) [dk k ad cap l b s] w) : Calls Try.prog 48 #[pV k, .int .i64 n] w (Post w [dk k ad cap l b s] fun v G => (if (b : Int) ≤ n ∧ n ≤ ((b + l.length : Nat) : Int) then v = .int .i64 0 ∧ ∃ ad' cap', G = [dk k ad' cap' (l.take (n.toNat - b)) b (n.toNat - b)] else v = .int .i64 1 ∧ G = [dk k ad cap l b s])) := by
 refine c_enter Try.func48 rfl rfl rfl ?_
 refine wp_seq_k (fun K1 hK1 => ?_)
 have hS2 := dk_open hS; clear hS
 refine wp_region_lit ?_
 refine l_q rfl rfl (q_assignI rfl) ?_
 refine l_nil ?_
 refine hK1 _ _ ?_
 refine wp_seq_k (fun K3 hK3 => ?_)
 refine wp_seq_k (fun K4 hK4 => ?_)
 refine wp_region_lit ?_
 refine l_q rfl rfl (q_moveP rfl) ?_
 refine l_q rfl rfl (q_peq rfl (by kernel_rfl)) ?_
 refine l_q rfl rfl (q_moveB rfl) ?_
 refine l_on rfl rfl rfl ?_
 refine l_q rfl rfl (q_moveI rfl) ?_
 refine l_on rfl rfl rfl ?_
 refine l_q rfl rfl (q_moveP rfl) ?_
 refine l_on rfl rfl rfl ?_
 refine l_q rfl rfl (q_nilCheck rfl) ?_
 refine l_on rfl rfl rfl ?_
 refine l_q rfl rfl (q_fieldAddr (ft := 3) (o := 1) rfl (by kernel_rfl)) ?_
 refine l_on rfl rfl rfl ?_
 refine l_q rfl rfl (q_load1 rfl (by kernel_rfl) (hS2.cell (i := 0) rfl rfl)) ?_
 refine l_on rfl rfl rfl ?_
 refine l_q rfl rfl (q_lss rfl rfl) ?_
 refine l_q rfl rfl (q_pickF rfl rfl rfl) ?_
 refine l_q rfl rfl (q_moveB rfl) ?_
 refine g_splitL (t := 16) rfl (fun hg5 => ?_) (fun hg5 => ?_)
 have hg5b := hg5
 try simp only [zbb] at hg5
 have hx : ¬ ((b : Int) ≤ n ∧ n ≤ ((b + l.length : Nat) : Int)) := by omega
 refine l_off rfl rfl rfl hg5b ?_
 refine l_off rfl rfl rfl hg5b ?_
 refine l_off rfl rfl rfl hg5b ?_
 refine l_off rfl rfl rfl hg5b ?_
 refine l_q rfl rfl (q_pickT rfl hg5b rfl) ?_
 refine l_nil ?_
 refine hK4 _ _ ?_
 refine c_condT rfl rfl ?_
 refine wp_seq_k (fun K7 hK7 => ?_)
 refine wp_region_lit ?_
 refine l_q rfl rfl (q_assignI rfl) ?_
 refine l_nil ?_
 refine hK7 _ _ ?_
 refine wp_ret ?_
 refine c_ret1 rfl rfl ?_
 have hS8 := dk_close hS2; clear hS2
 exact ⟨_, _, rfl, ite_no hx ⟨rfl, rfl⟩, hS8⟩
 have hg5b := hg5
 try simp only [zbb] at hg5
 refine l_on rfl rfl hg5b ?_
 refine l_q rfl rfl (q_moveI rfl) ?_
 refine l_on rfl rfl hg5b ?_
 refine l_q rfl rfl (q_moveP rfl) ?_
 refine l_on rfl rfl hg5b ?_
 refine l_e rfl (fun K hK => ?_)
 have hS10 := dk_close hS2; clear hS2
 refine e_call (by kernel_rfl) (dEnd_ok _ _ _ _ _ _ hl (by first | omega | (simp; omega)) (by first | omega | (simp; omega)) _ (St.begin (Γ := [_]) hS10)) rfl (after_M (Γ1 := [_]) hS10 (fun v9 G9 w9 hv9 hS9 => ?_))
 clear hS10
 obtain ⟨rfl, rfl⟩ := hv9
 have hS11 : St _ _ [dk k ad cap l b s] _ := hS9; clear hS9
 refine hK _ _ ?_; clear hK K
 refine l_on rfl rfl hg5b ?_
 refine l_q rfl rfl (q_gtr rfl rfl) ?_
 refine l_q rfl rfl (q_pickF rfl hg5b rfl) ?_
 refine l_nil ?_
 refine hK4 _ _ ?_
 refine c_cond rfl (fun hc12 => ?_) (fun hc12 => ?_)
 have hc12b := hc12
 try simp only [zbb] at hc12
 have hx : ¬ ((b : Int) ≤ n ∧ n ≤ ((b + l.length : Nat) : Int)) := by omega
 refine wp_seq_k (fun K13 hK13 => ?_)
 refine wp_region_lit ?_
 refine l_q rfl rfl (q_assignI rfl) ?_
 refine l_nil ?_
 refine hK13 _ _ ?_
 refine wp_ret ?_
 refine c_ret1 rfl rfl ?_
 exact ⟨_, _, rfl, ite_no hx ⟨rfl, rfl⟩, hS11⟩
 have hc12b := hc12
 try simp only [zbb] at hc12
 have hx : ((b : Int) ≤ n ∧ n ≤ ((b + l.length : Nat) : Int)) := by omega
 refine wp_skip ?_
 refine hK3 _ _ ?_
 refine wp_seq_k (fun K14 hK14 => ?_)
 refine wp_region_lit ?_
 refine l_q rfl rfl (q_moveI rfl) ?_
 refine l_q rfl rfl (q_moveP rfl) ?_
 refine l_q rfl rfl (q_nilCheck rfl) ?_
 refine l_q rfl rfl (q_fieldAddr (ft := 3) (o := 1) rfl (by kernel_rfl)) ?_
 have hS15 := dk_open hS11; clear hS11
 refine l_q rfl rfl (q_load1 rfl (by kernel_rfl) (hS15.cell (i := 0) rfl rfl)) ?_
 refine l_q rfl rfl (q_subx rfl rfl (by first | decide | omega) (by first | decide | omega)) ?_
 refine l_q rfl rfl (q_assignI rfl) ?_
 refine l_nil ?_
 refine hK14 _ _ ?_
 refine wp_seq_k (fun K16 hK16 => ?_)
 refine wp_region_lit ?_
 refine l_q rfl rfl (q_moveP rfl) ?_
 refine l_q rfl rfl (q_moveP rfl) ?_
 refine l_q rfl rfl (q_moveP rfl) ?_
 refine l_q rfl rfl (q_nilCheck rfl) ?_
 refine l_q rfl rfl (q_fieldAddr (ft := 58) (o := 0) rfl (by kernel_rfl)) ?_
 refine l_q rfl rfl (q_load1 rfl (by kernel_rfl) (hS15.cell (i := 0) rfl rfl)) ?_
 refine l_q rfl rfl (q_moveI rfl) ?_
 refine l_q rfl rfl (q_moveI rfl) ?_
 have hcp17 := (hS15.owLen (i := 1) rfl).2.1
 refine l_q rfl rfl (q_sliceX (e := 5) (size := 1) (l := 0) (h := (n.toNat - b)) (m := (n.toNat - b)) (ad' := ad) (len' := (n.toNat - b)) (cap' := (n.toNat - b)) rfl (by kernel_rfl) (by kernel_rfl) ⟨_, int_nat (by first | rfl | omega) rfl⟩ ⟨_, int_nat (by first | rfl | omega) rfl⟩ rfl (by omega) (by first | omega | (simp only [zll] <;> omega)) (by first | omega | (simp only [zll] <;> omega)) rfl subS_zero (Nat.sub_zero _) (Nat.sub_zero _)) ?_
 refine l_q rfl rfl (q_moveI rfl) ?_
 refine l_q rfl rfl (q_nilCheck rfl) ?_
 refine l_q rfl rfl (q_fieldAddr (ft := 58) (o := 0) rfl (by kernel_rfl)) ?_
 refine l_e rfl (fun K hK => ?_)
 refine e_store1 hS15 rfl rfl (by kernel_rfl) (by first | rfl | assumption) (i := 0) rfl rfl (fun w18 (hS18 : St _ _ [.blk k (.cells #[.slice ad (n.toNat - b) (n.toNat - b), .int .i64 (b : Int), .int .i64 (s : Int)] 76), .ow 5 1 ad l.length cap (bv l)] _) => ?_)
 clear hS15
 refine hK _ _ ?_; clear hK K
 refine l_q rfl rfl (q_nilCheck rfl) ?_
 refine l_q rfl rfl (q_fieldAddr (ft := 3) (o := 2) rfl (by kernel_rfl)) ?_
 refine l_e rfl (fun K hK => ?_)
 refine e_store1 hS18 rfl rfl (by kernel_rfl) (by first | rfl | assumption) (i := 0) rfl rfl (fun w19 (hS19 : St _ _ [.blk k (.cells #[.slice ad (n.toNat - b) (n.toNat - b), .int .i64 (b : Int), .int .i64 (n - (b : Int))] 76), _] _) => ?_)
 clear hS18
 refine hK _ _ ?_; clear hK K
 refine l_nil ?_
 refine hK16 _ _ ?_
 refine wp_seq_k (fun K20 hK20 => ?_)
 refine wp_region_lit ?_
 refine l_q rfl rfl (q_assignI rfl) ?_
 refine l_nil ?_
 refine hK20 _ _ ?_
 refine wp_ret ?_
 refine c_ret1 rfl rfl ?_
 have hS21 : St _ _ [_, .ow 5 1 ad (n.toNat - b) (n.toNat - b) (bv (l.take (n.toNat - b)))] _ := hS19.owSubX (i := 1) (l := 0) (hh := (n.toNat - b)) (mx := (n.toNat - b)) rfl (by omega) (by first | omega | (simp only [zll] <;> omega)) (by first | omega | (simp only [zll] <;> omega)) (by first | omega | (simp only [zll] <;> omega)) subS_zero (Nat.sub_zero _) (Nat.sub_zero _) (bv_subxT); clear hS19
 have hS22 : St _ _ [.blk k (.cells #[.slice ad ((l.take (n.toNat - b)).length) (n.toNat - b), .int .i64 (b : Int), .int .i64 (n - (b : Int))] 76), .ow 5 1 ad ((l.take (n.toNat - b)).length) (n.toNat - b) (bv (l.take (n.toNat - b)))] _ := hS21.cast (by rw [show (l.take (n.toNat - b)).length = (n.toNat - b) from (by first | omega | (simp only [zll] <;> omega))]); clear hS21
 have hS23 : St _ _ [.blk k (.cells #[.slice ad ((l.take (n.toNat - b)).length) (n.toNat - b), .int .i64 (b : Int), .int .i64 (((n.toNat - b) : Nat) : Int)] 76), _] _ := hS22.cast (by rw [show (((n.toNat - b) : Nat) : Int) = (n - (b : Int)) from by omega]); clear hS22
 have hS24 := dk_close hS23; clear hS23
 exact ⟨_, _, rfl, ite_yes hx ⟨rfl, _, _, rfl⟩, hS24⟩
set_option maxRecDepth 100000 in
theorem dRead_ok (k : Nat) (ad : Option Addr) (cap : Nat) (l : List Nat) (b s : Nat)  (hl : Bytes l) (hb : b + l.length ≤ 2000000000) (hs : s ≤ l.length) (n : Int) (hn0 : -9223372036854775808 ≤ n) (hn1 : n ≤ 9223372036854775807) (m : Int) (hm0 : -9223372036854775808 ≤ m) (hm1 : m ≤ 9223372036854775807) (w : World) (hS : St w (owns [dk k ad cap l b s]) [dk k ad cap l b s] w) : Calls Try.prog 44 #[pV k, .int .i64 n, .int .i64 m] w (Post w [dk k ad cap l b s] fun v G => (if ((b : Int) ≤ n ∧ n ≤ m ∧ m ≤ ((b + l.length : Nat) : Int)) then ∃ ad' cap', v = .tuple #[.slice ad' ((m.toNat - b) - (n.toNat - b)) cap', .int .i64 0] ∧ G = [.ow 5 1 ad' ((m.toNat - b) - (n.toNat - b)) cap' (bv ((l.drop (n.toNat - b)).take ((m.toNat - b) - (n.toNat - b)))), dk k ad cap l b s] else v = .tuple #[.slice none 0 0, .int .i64 61] ∧ G = [dk k ad cap l b s])) := by
 refine c_enter Try.func44 rfl rfl rfl ?_
 refine wp_seq_k (fun K1 hK1 => ?_)
 have hS2 := dk_open hS; clear hS
 refine wp_region_lit ?_
 refine l_q rfl rfl (q_assignS rfl) ?_
 refine l_q rfl rfl (q_assignI rfl) ?_
 refine l_nil ?_
 refine hK1 _ _ ?_
 refine wp_seq_k (fun K3 hK3 => ?_)
 refine wp_block ?_
 refine wp_seq_k (fun K4 hK4 => ?_)
 refine wp_region_lit ?_
 refine l_q rfl rfl (q_moveP rfl) ?_
 refine l_q rfl rfl (q_peq rfl (by kernel_rfl)) ?_
 refine l_q rfl rfl (q_assignB rfl) ?_
 refine l_nil ?_
 refine hK4 _ _ ?_
 refine c_condF rfl rfl ?_
 refine wp_seq_k (fun K6 hK6 => ?_)
 refine wp_region_lit ?_
 refine l_q rfl rfl (q_moveI rfl) ?_
 refine l_q rfl rfl (q_moveP rfl) ?_
 refine l_q rfl rfl (q_nilCheck rfl) ?_
 refine l_q rfl rfl (q_fieldAddr (ft := 3) (o := 1) rfl (by kernel_rfl)) ?_
 refine l_q rfl rfl (q_load1 rfl (by kernel_rfl) (hS2.cell (i := 0) rfl rfl)) ?_
 refine l_q rfl rfl (q_lss rfl rfl) ?_
 refine l_q rfl rfl (q_moveB rfl) ?_
 refine g_splitL (t := 18) rfl (fun hg7 => ?_) (fun hg7 => ?_)
 have hg7b := hg7
 try simp only [zbb] at hg7
 have hx : ¬ ((b : Int) ≤ n ∧ n ≤ m ∧ m ≤ ((b + l.length : Nat) : Int)) := by omega
 refine l_off rfl rfl rfl hg7b ?_
 refine l_off rfl rfl rfl hg7b ?_
 refine l_off rfl rfl rfl hg7b ?_
 refine l_q rfl rfl (q_pickT rfl hg7b rfl) ?_
 refine l_q rfl rfl (q_moveB rfl) ?_
 refine l_off rfl rfl rfl rfl ?_
 refine l_off rfl rfl rfl rfl ?_
 refine l_off rfl rfl rfl rfl ?_
 refine l_off rfl rfl rfl rfl ?_
 refine l_q rfl rfl (q_pickT rfl rfl rfl) ?_
 refine l_q rfl rfl (q_assignB rfl) ?_
 refine l_nil ?_
 refine hK6 _ _ ?_
 refine c_condT rfl rfl ?_
 refine wp_seq_k (fun K9 hK9 => ?_)
 refine wp_region_lit ?_
 refine l_q rfl rfl (q_assignS rfl) ?_
 refine l_q rfl rfl (q_assignI rfl) ?_
 refine l_nil ?_
 refine hK9 _ _ ?_
 refine wp_ret ?_
 refine c_ret2 rfl rfl rfl ?_
 have hS10 := dk_close hS2; clear hS2
 exact ⟨_, _, rfl, ite_no hx ⟨rfl, rfl⟩, hS10⟩
 have hg7b := hg7
 try simp only [zbb] at hg7
 refine l_on rfl rfl hg7b ?_
 refine l_q rfl rfl (q_moveI rfl) ?_
 refine l_on rfl rfl hg7b ?_
 refine l_q rfl rfl (q_moveI rfl) ?_
 refine l_on rfl rfl hg7b ?_
 refine l_q rfl rfl (q_gtr rfl rfl) ?_
 refine l_q rfl rfl (q_pickF rfl hg7b rfl) ?_
 refine l_q rfl rfl (q_moveB rfl) ?_
 refine g_splitL (t := 23) rfl (fun hg11 => ?_) (fun hg11 => ?_)
 have hg11b := hg11
 try simp only [zbb] at hg11
 have hx : ¬ ((b : Int) ≤ n ∧ n ≤ m ∧ m ≤ ((b + l.length : Nat) : Int)) := by omega
 refine l_off rfl rfl rfl hg11b ?_
 refine l_off rfl rfl rfl hg11b ?_
 refine l_off rfl rfl rfl hg11b ?_
 refine l_off rfl rfl rfl hg11b ?_
 refine l_q rfl rfl (q_pickT rfl hg11b rfl) ?_
 refine l_q rfl rfl (q_assignB rfl) ?_
 refine l_nil ?_
 refine hK6 _ _ ?_
 refine c_condT rfl rfl ?_
 refine wp_seq_k (fun K13 hK13 => ?_)
 refine wp_region_lit ?_
 refine l_q rfl rfl (q_assignS rfl) ?_
 refine l_q rfl rfl (q_assignI rfl) ?_
 refine l_nil ?_
 refine hK13 _ _ ?_
 refine wp_ret ?_
 refine c_ret2 rfl rfl rfl ?_
 have hS14 := dk_close hS2; clear hS2
 exact ⟨_, _, rfl, ite_no hx ⟨rfl, rfl⟩, hS14⟩
 have hg11b := hg11
 try simp only [zbb] at hg11
 refine l_on rfl rfl hg11b ?_
 refine l_q rfl rfl (q_moveI rfl) ?_
 refine l_on rfl rfl hg11b ?_
 refine l_q rfl rfl (q_moveP rfl) ?_
 refine l_on rfl rfl hg11b ?_
 refine l_e rfl (fun K hK => ?_)
 have hS16 := dk_close hS2; clear hS2
 refine e_call (by kernel_rfl) (dEnd_ok _ _ _ _ _ _ hl (by first | omega | (simp; omega)) (by first | omega | (simp; omega)) _ (St.begin (Γ := [_]) hS16)) rfl (after_M (Γ1 := [_]) hS16 (fun v15 G15 w15 hv15 hS15 => ?_))
 clear hS16
 obtain ⟨rfl, rfl⟩ := hv15
 have hS17 : St _ _ [dk k ad cap l b s] _ := hS15; clear hS15
 refine hK _ _ ?_; clear hK K
 refine l_on rfl rfl hg11b ?_
 refine l_q rfl rfl (q_gtr rfl rfl) ?_
 refine l_q rfl rfl (q_pickF rfl hg11b rfl) ?_
 refine l_q rfl rfl (q_assignB rfl) ?_
 refine l_nil ?_
 refine hK6 _ _ ?_
 refine c_cond rfl (fun hc18 => ?_) (fun hc18 => ?_)
 have hc18b := hc18
 try simp only [zbb] at hc18
 have hx : ¬ ((b : Int) ≤ n ∧ n ≤ m ∧ m ≤ ((b + l.length : Nat) : Int)) := by omega
 refine wp_seq_k (fun K19 hK19 => ?_)
 refine wp_region_lit ?_
 refine l_q rfl rfl (q_assignS rfl) ?_
 refine l_q rfl rfl (q_assignI rfl) ?_
 refine l_nil ?_
 refine hK19 _ _ ?_
 refine wp_ret ?_
 refine c_ret2 rfl rfl rfl ?_
 exact ⟨_, _, rfl, ite_no hx ⟨rfl, rfl⟩, hS17⟩
 have hc18b := hc18
 try simp only [zbb] at hc18
 have hx : ((b : Int) ≤ n ∧ n ≤ m ∧ m ≤ ((b + l.length : Nat) : Int)) := by omega
 refine wp_skip ?_
 refine hK3 _ _ ?_
 refine wp_seq_k (fun K20 hK20 => ?_)
 refine r_any (by kernel_rfl) hS17 (fun w21 hS21 => ?_)
 clear hS17
 refine o_pure (i := 0) (fun _ _ => trivial) rfl rfl (by kernel_rfl) (goes0 rfl) (QOk.then QOk.body) (fun w => q_moveP rfl) ?_
 refine o_pure (i := 1) (fun _ _ => trivial) rfl rfl (by kernel_rfl) (goes0 rfl) (QOk.then QOk.body) (fun w => q_nilCheck rfl) ?_
 refine o_pure (i := 2) (fun _ _ => trivial) rfl rfl (by kernel_rfl) (goes0 rfl) (QOk.then QOk.body) (fun w => q_fieldAddr (ft := 58) (o := 0) rfl (by kernel_rfl)) ?_
 have hS22 := dk_open hS21; clear hS21
 refine o_held (i := 3) [16, 17, 18, 19] (fun _ _ => trivial) rfl rfl (by kernel_rfl) (goes0 rfl) (QOk.then QOk.body) (q_load1 rfl (by kernel_rfl) (hS22.cell (i := 0) rfl rfl)) ?_
 refine o_pure (i := 4) (fun j w => ⟨(fun _ _ => trivial) j w, fun _ h => h⟩) rfl rfl (by kernel_rfl) (goes0 rfl) (QOk.then QOk.body) (fun w => q_moveI rfl) ?_
 refine o_pure (i := 5) (fun j w => ⟨(fun _ _ => trivial) j w, fun _ h => h⟩) rfl rfl (by kernel_rfl) (goes0 rfl) (QOk.then QOk.body) (fun w => q_moveP rfl) ?_
 refine o_pure (i := 6) (fun j w => ⟨(fun _ _ => trivial) j w, fun _ h => h⟩) rfl rfl (by kernel_rfl) (goes0 rfl) (QOk.then QOk.body) (fun w => q_nilCheck rfl) ?_
 refine o_pure (i := 7) (fun j w => ⟨(fun _ _ => trivial) j w, fun _ h => h⟩) rfl rfl (by kernel_rfl) (goes0 rfl) (QOk.then QOk.body) (fun w => q_fieldAddr (ft := 3) (o := 1) rfl (by kernel_rfl)) ?_
 refine o_held (i := 8) [9, 16, 17, 18, 19] (fun j w => ⟨(fun _ _ => trivial) j w, fun _ h => h⟩) rfl rfl (by kernel_rfl) (goes0 rfl) (QOk.then QOk.body) (q_load1 rfl (by kernel_rfl) (hS22.cell (i := 0) rfl rfl)) ?_
 refine o_pure (i := 9) (fun j w => ⟨(fun j w => ⟨(fun _ _ => trivial) j w, fun _ h => h⟩) j w, fun _ h => h⟩) rfl rfl (by kernel_rfl) (goes0 rfl) (QOk.then QOk.body) (fun w => q_subx rfl rfl (by first | decide | omega) (by first | decide | omega)) ?_
 refine o_pure (i := 10) (fun j w => ⟨(fun j w => ⟨(fun _ _ => trivial) j w, fun _ h => h⟩) j w, fun _ h => h⟩) rfl rfl (by kernel_rfl) (goes0 rfl) (QOk.then QOk.body) (fun w => q_moveI rfl) ?_
 refine o_pure (i := 11) (fun j w => ⟨(fun j w => ⟨(fun _ _ => trivial) j w, fun _ h => h⟩) j w, fun _ h => h⟩) rfl rfl (by kernel_rfl) (goes0 rfl) (QOk.then QOk.body) (fun w => q_moveP rfl) ?_
 refine o_pure (i := 12) (fun j w => ⟨(fun j w => ⟨(fun _ _ => trivial) j w, fun _ h => h⟩) j w, fun _ h => h⟩) rfl rfl (by kernel_rfl) (goes0 rfl) (QOk.then QOk.body) (fun w => q_nilCheck rfl) ?_
 refine o_pure (i := 13) (fun j w => ⟨(fun j w => ⟨(fun _ _ => trivial) j w, fun _ h => h⟩) j w, fun _ h => h⟩) rfl rfl (by kernel_rfl) (goes0 rfl) (QOk.then QOk.body) (fun w => q_fieldAddr (ft := 3) (o := 1) rfl (by kernel_rfl)) ?_
 refine o_held (i := 14) [15, 16, 17, 18, 19] (fun j w => ⟨(fun j w => ⟨(fun _ _ => trivial) j w, fun _ h => h⟩) j w, fun _ h => h⟩) rfl rfl (by kernel_rfl) (goes0 rfl) (QOk.then QOk.body) (q_load1 rfl (by kernel_rfl) (hS22.cell (i := 0) rfl rfl)) ?_
 refine o_pure (i := 15) (fun j w => ⟨(fun j w => ⟨(fun j w => ⟨(fun _ _ => trivial) j w, fun _ h => h⟩) j w, fun _ h => h⟩) j w, fun _ h => h⟩) rfl rfl (by kernel_rfl) (goes0 rfl) (QOk.then QOk.body) (fun w => q_subx rfl rfl (by first | decide | omega) (by first | decide | omega)) ?_
 have hcp23 := (hS22.owLen (i := 1) rfl).2.1
 refine o_pure (i := 16) (fun j w => ⟨(fun j w => ⟨(fun j w => ⟨(fun _ _ => trivial) j w, fun _ h => h⟩) j w, fun _ h => h⟩) j w, fun _ h => h⟩) rfl rfl (by kernel_rfl) (goes0 rfl) (QOk.then QOk.body) (fun w => q_sliceX (e := 5) (size := 1) (l := (n.toNat - b)) (h := (m.toNat - b)) (m := cap) (ad' := (subS ad (n.toNat - b) 1 cap)) (len' := ((m.toNat - b) - (n.toNat - b))) (cap' := (cap - (n.toNat - b))) rfl (by kernel_rfl) (by kernel_rfl) rfl ⟨_, int_nat (by first | rfl | omega) rfl⟩ ⟨_, int_nat (by first | rfl | omega) rfl⟩ (by omega) (by first | omega | (simp only [zll] <;> omega)) (by first | omega | (simp only [zll] <;> omega)) rfl rfl rfl rfl) ?_
 refine o_eff (i := 17) (by kernel_rfl) rfl (goes0 rfl) (fun K hK => ?_)
 refine e_call (by kernel_rfl) (Clone_ok ((l.drop (n.toNat - b)).take ((m.toNat - b) - (n.toNat - b))) _ _ ((m.toNat - b) - (n.toNat - b)) (by first | omega | (simp only [zll] <;> omega)) (by first | omega | (simp only [zll] <;> omega)) _ ((fun q => (bv_sub (SlG.sub (l := (n.toNat - b)) (size := 1) (m := cap) (n := (m.toNat - b) - (n.toNat - b)) q (by first | omega | (simp only [zll] <;> omega)) (by decide)))) (hS22.owG (i := 1) rfl))) rfl (after_N hS22 (fun v24 G24 w24 hv24 hS24 => ?_))
 clear hS22
 obtain ⟨ad24, cp24, rfl, rfl⟩ := hv24
 have hS25 : St _ _ [.ow 5 1 ad24 ((m.toNat - b) - (n.toNat - b)) cp24 (bv ((l.drop (n.toNat - b)).take ((m.toNat - b) - (n.toNat - b)))), .blk k (.cells #[.slice ad l.length cap, .int .i64 (b : Int), .int .i64 (s : Int)] 76), .ow 5 1 ad l.length cap (bv l)] _ := hS24; clear hS24
 refine hK _ _ ⟨⟨⟨trivial, fun h => absurd h (by decide)⟩, fun h => absurd h (by decide)⟩, fun h => absurd h (by decide)⟩ ?_; clear hK K
 refine o_pure (i := 18) (fun j w => ⟨(fun j w => ⟨(fun j w => ⟨(fun _ _ => trivial) j w, fun _ h => h⟩) j w, fun _ h => h⟩) j w, fun _ h => h⟩) rfl rfl (by kernel_rfl) (goes0 rfl) (QOk.then QOk.body) (fun w => q_assignS rfl) ?_
 refine o_pure (i := 19) (fun j w => ⟨(fun j w => ⟨(fun j w => ⟨(fun _ _ => trivial) j w, fun _ h => h⟩) j w, fun _ h => h⟩) j w, fun _ h => h⟩) rfl rfl (by kernel_rfl) (goes0 rfl) (QOk.then QOk.body) (fun w => q_assignI rfl) ?_
 refine o_done (by kernel_rfl) ?_
 refine hK20 _ _ ?_
 refine wp_ret ?_
 refine c_ret2 rfl rfl rfl ?_
 have hS26 := hS25.fr2; clear hS25
 have hS27 := hS26.fr2; clear hS26
 have hS28 := dk_close hS27; clear hS27
 have hS29 := hS28.fr1; clear hS28
 exact ⟨_, _, rfl, ite_yes hx ⟨_, _, rfl, rfl⟩, hS29⟩
/-- What D1's Drop and Cut leave and answer. -/
def drOk (b s : Nat) (n : Int) : Prop := (b : Int) ≤ n ∧ n ≤ ((b + s : Nat) : Int)
instance (b s : Nat) (n : Int) : Decidable (drOk b s n) := inferInstanceAs (Decidable (_ ∧ _))
def drE (b s : Nat) (n : Int) : Nat := if drOk b s n then 0 else 1
def ctL (l : List Nat) (b : Nat) (n : Int) : List Nat := if drOk b l.length n then l.take (n.toNat - b) else l
def ctS (l : List Nat) (b s : Nat) (n : Int) : Nat := if drOk b l.length n then n.toNat - b else s
theorem ct_fit {l : List Nat} {b s : Nat} (n : Int) (hs : s ≤ l.length) : ctS l b s n ≤ (ctL l b n).length ∧ (ctL l b n).length ≤ l.length := by
  unfold ctS ctL
  by_cases h : drOk b l.length n
  · rw [if_pos h, if_pos h, List.length_take]
    unfold drOk at h; omega
  · rw [if_neg h, if_neg h]; exact ⟨hs, Nat.le_refl _⟩
theorem dCutF (k : Nat) (ad : Option Addr) (cap : Nat) (l : List Nat) (b s : Nat) (hl : Bytes l) (hb : b + l.length ≤ 2000000000) (hs : s ≤ l.length) (n : Int) (hn0 : -9223372036854775808 ≤ n) (hn1 : n ≤ 9223372036854775807) (w : World) (hS : St w (owns [dk k ad cap l b s]) [dk k ad cap l b s] w) :
    Calls Try.prog 48 #[pV k, .int .i64 n] w (Post w [dk k ad cap l b s] fun v G => ∃ ad' cap', v = .int .i64 ((drE b l.length n : Nat) : Int) ∧ G = [dk k ad' cap' (ctL l b n) b (ctS l b s n)]) :=
  (dCut_ok k ad cap l b s hl hb hs n hn0 hn1 w hS).mono fun e w' ⟨v, G, he, hp, hS'⟩ => ⟨v, G, he, by
    unfold drE ctL ctS
    by_cases h : drOk b l.length n
    · obtain ⟨rfl, ad', cap', rfl⟩ := (if_pos (c := drOk b l.length n) h) ▸ (show if drOk b l.length n then _ else _ from hp)
      rw [if_pos h, if_pos h, if_pos h]; exact ⟨ad', cap', rfl, rfl⟩
    · obtain ⟨rfl, rfl⟩ := (if_neg (c := drOk b l.length n) h) ▸ (show if drOk b l.length n then _ else _ from hp)
      rw [if_neg h, if_neg h, if_neg h]; exact ⟨ad, cap, rfl, rfl⟩, hS'⟩
theorem dReadAll (k : Nat) (ad : Option Addr) (cap : Nat) (l : List Nat) (b s : Nat) (hl : Bytes l) (hb : b + l.length ≤ 2000000000) (hs : s ≤ l.length) (w : World) (hS : St w (owns [dk k ad cap l b s]) [dk k ad cap l b s] w) :
    Calls Try.prog 44 #[pV k, .int .i64 ((b : Nat) : Int), .int .i64 ((b + l.length : Nat) : Int)] w (Post w [dk k ad cap l b s] fun v G => ∃ ad' cap', v = .tuple #[.slice ad' l.length cap', .int .i64 0] ∧ G = [.ow 5 1 ad' l.length cap' (bv l), dk k ad cap l b s]) :=
  (dRead_ok k ad cap l b s hl hb hs (b : Nat) (by omega) (by omega) ((b + l.length : Nat) : Int) (by omega) (by omega) w hS).mono fun e w' ⟨v, G, he, hp, hS'⟩ => ⟨v, G, he, by
    dsimp only at hp
    rw [if_pos (by omega)] at hp
    obtain ⟨ad', cap', h1, h2⟩ := hp
    have e1 : (((b + l.length : Nat) : Int).toNat - b) - (((b : Nat) : Int).toNat - b) = l.length := by omega
    have e2 : ((b : Nat) : Int).toNat - b = 0 := by omega
    rw [e1] at h1 h2
    rw [e2, List.drop_zero, List.take_length] at h2
    exact ⟨ad', cap', h1, h2⟩, hS'⟩

/-- A raw number counted round. -/
def pickN (c : Int) (n : Nat) : Nat := (if c < 0 then -(c + 1) else c).toNat % n
theorem pickN_lt (c : Int) {n : Nat} (h : 0 < n) : pickN c n < n := Nat.mod_lt _ h
theorem pickN_neg {c : Int} {n : Nat} (h0 : -9223372036854775808 ≤ c) (hc : c < 0) (hn : 0 < n) : (IntKind.i64.wrap (0 - (c + 1))).tmod (n : Int) = (pickN c n : Int) := by
  rw [wrap_in (by omega) (by omega), Int.tmod_eq_emod_of_nonneg (by omega), pickN, if_pos hc]
  have : (((-(c + 1)).toNat : Nat) : Int) = -(c + 1) := by omega
  rw [Int.natCast_emod, this]; congr 1; omega
theorem pickN_pos {c : Int} {n : Nat} (hc : 0 ≤ c) (hn : 0 < n) : c.tmod (n : Int) = (pickN c n : Int) := by
  rw [Int.tmod_eq_emod_of_nonneg hc, pickN, if_neg (by omega), Int.natCast_emod]
  have : ((c.toNat : Nat) : Int) = c := by omega
  rw [this]

set_option maxRecDepth 100000 in
theorem round_ok (c : Int) (n : Nat) (h0 : -9223372036854775808 ≤ c) (hn : 0 < n) (w : World) : Calls Try.prog 40 #[.int .i64 c, .int .i64 (n : Int)] w (PostR w fun v => v = .int .i64 ((pickN c n : Nat) : Int)) := by
 have hS := St.start w
 refine c_enter Try.func40 rfl rfl rfl ?_
 refine wp_seq_k (fun K1 hK1 => ?_)
 refine wp_region_lit ?_
 refine l_q rfl rfl (q_assignI rfl) ?_
 refine l_nil ?_
 refine hK1 _ _ ?_
 refine c_cut (τ := Int) [(0, 0), (5, 9)] (fun x => (fun (y : Int) => [(0, .int .i64 y)]) x) (fun x w' => (fun (y : Int) => St w (fun _ => False) [] w' ∧ y.tmod (n : Int) = ((pickN c n : Nat) : Int)) x) (fun K3 hK3 => ?_) (fun y j3 w3 hJ3 => ?_)
 refine wp_seq_k (fun K4 hK4 => ?_)
 refine wp_region_lit ?_
 refine l_q rfl rfl (q_moveI rfl) ?_
 refine l_q rfl rfl (q_lss rfl rfl) ?_
 refine l_nil ?_
 refine hK4 _ _ ?_
 refine c_cond rfl (fun hc5 => ?_) (fun hc5 => ?_)
 have hc5b := hc5
 try simp only [zbb] at hc5
 have hcc := hc5
 refine wp_region_lit ?_
 refine l_q rfl rfl (q_moveI rfl) ?_
 refine l_q rfl rfl (q_addx rfl rfl (by first | decide | omega) (by first | decide | omega)) ?_
 refine l_q rfl rfl (q_neg rfl) ?_
 refine l_q rfl rfl (q_assignI rfl) ?_
 refine l_nil ?_
 refine hK3 _ _ (came ((IntKind.i64.wrap (0 - (c + (1 : Int))))) (by repeat' (first | exact Agree.refl _ _ | refine Agree.up ?_ rfl | refine Agree.hav2 ?_ rfl | refine Agree.ups2 ?_ rfl)) (by repeat' (first | exact trivial | refine ⟨by first | rfl | exact int_succ _ | assumption, ?_⟩)) ?_)
 exact ⟨hS, by first | exact pickN_neg h0 hcc hn | exact pickN_pos hcc hn⟩
 have hc5b := hc5
 try simp only [zbb] at hc5
 have hcc := hc5
 refine wp_skip ?_
 refine hK3 _ _ (came (c) (by repeat' (first | exact Agree.refl _ _ | refine Agree.up ?_ rfl | refine Agree.hav2 ?_ rfl | refine Agree.ups2 ?_ rfl)) (by repeat' (first | exact trivial | refine ⟨by first | rfl | exact int_succ _ | assumption, ?_⟩)) ?_)
 exact ⟨hS, by first | exact pickN_neg h0 hcc hn | exact pickN_pos hcc hn⟩
 obtain ⟨hS3, hy⟩ := hJ3
 try dsimp only at hS3 hy ⊢
 refine wp_seq_k (fun K6 hK6 => ?_)
 refine wp_region_lit ?_
 refine l_q rfl rfl (q_moveI rfl) ?_
 refine l_q rfl rfl (q_moveI rfl) ?_
 refine l_q rfl rfl (q_rem rfl rfl (by omega)) ?_
 refine l_q rfl rfl (q_assignI rfl) ?_
 refine l_nil ?_
 refine hK6 _ _ ?_
 refine wp_ret ?_
 refine c_ret1 rfl rfl ?_
 exact ⟨_, rfl, congrArg (Value.int .i64) hy, hS3.drop⟩
set_option maxRecDepth 100000 in
theorem pickR_ok (c : Int) (n : Nat) (h0 : -9223372036854775808 ≤ c) (hn : 0 < n) (w : World) : Calls Try.prog 39 #[.int .i64 c, .int .i64 (n : Int)] w (PostR w fun v => v = .int .i64 ((pickN c n : Nat) : Int)) := by
 have hS := St.start w
 refine c_enter Try.func39 rfl rfl rfl ?_
 refine wp_seq_k (fun K1 hK1 => ?_)
 refine wp_region_lit ?_
 refine l_q rfl rfl (q_assignI rfl) ?_
 refine l_nil ?_
 refine hK1 _ _ ?_
 refine c_cut (τ := Int) [(0, 0), (5, 9)] (fun x => (fun (y : Int) => [(0, .int .i64 y)]) x) (fun x w' => (fun (y : Int) => St w (fun _ => False) [] w' ∧ y.tmod (n : Int) = ((pickN c n : Nat) : Int)) x) (fun K3 hK3 => ?_) (fun y j3 w3 hJ3 => ?_)
 refine wp_seq_k (fun K4 hK4 => ?_)
 refine wp_region_lit ?_
 refine l_q rfl rfl (q_moveI rfl) ?_
 refine l_q rfl rfl (q_lss rfl rfl) ?_
 refine l_nil ?_
 refine hK4 _ _ ?_
 refine c_cond rfl (fun hc5 => ?_) (fun hc5 => ?_)
 have hc5b := hc5
 try simp only [zbb] at hc5
 have hcc := hc5
 refine wp_region_lit ?_
 refine l_q rfl rfl (q_moveI rfl) ?_
 refine l_q rfl rfl (q_addx rfl rfl (by first | decide | omega) (by first | decide | omega)) ?_
 refine l_q rfl rfl (q_neg rfl) ?_
 refine l_q rfl rfl (q_assignI rfl) ?_
 refine l_nil ?_
 refine hK3 _ _ (came ((IntKind.i64.wrap (0 - (c + (1 : Int))))) (by repeat' (first | exact Agree.refl _ _ | refine Agree.up ?_ rfl | refine Agree.hav2 ?_ rfl | refine Agree.ups2 ?_ rfl)) (by repeat' (first | exact trivial | refine ⟨by first | rfl | exact int_succ _ | assumption, ?_⟩)) ?_)
 exact ⟨hS, by first | exact pickN_neg h0 hcc hn | exact pickN_pos hcc hn⟩
 have hc5b := hc5
 try simp only [zbb] at hc5
 have hcc := hc5
 refine wp_skip ?_
 refine hK3 _ _ (came (c) (by repeat' (first | exact Agree.refl _ _ | refine Agree.up ?_ rfl | refine Agree.hav2 ?_ rfl | refine Agree.ups2 ?_ rfl)) (by repeat' (first | exact trivial | refine ⟨by first | rfl | exact int_succ _ | assumption, ?_⟩)) ?_)
 exact ⟨hS, by first | exact pickN_neg h0 hcc hn | exact pickN_pos hcc hn⟩
 obtain ⟨hS3, hy⟩ := hJ3
 try dsimp only at hS3 hy ⊢
 refine wp_seq_k (fun K6 hK6 => ?_)
 refine wp_region_lit ?_
 refine l_q rfl rfl (q_moveI rfl) ?_
 refine l_q rfl rfl (q_moveI rfl) ?_
 refine l_q rfl rfl (q_rem rfl rfl (by omega)) ?_
 refine l_q rfl rfl (q_assignI rfl) ?_
 refine l_nil ?_
 refine hK6 _ _ ?_
 refine wp_ret ?_
 refine c_ret1 rfl rfl ?_
 exact ⟨_, rfl, congrArg (Value.int .i64) hy, hS3.drop⟩
/-- How many bytes are left when power goes. -/
def pwN (l : List Nat) (s : Nat) (c : Int) : Nat := s + pickN c (l.length - s + 1)
theorem pwN_le {l : List Nat} {s : Nat} (c : Int) (h : s ≤ l.length) : s ≤ pwN l s c ∧ pwN l s c ≤ l.length := by
  have := pickN_lt c (n := l.length - s + 1) (by omega)
  unfold pwN; omega

attribute [local irreducible] pickN
set_option maxRecDepth 100000 in
theorem dPower_ok (k : Nat) (ad : Option Addr) (cap : Nat) (l : List Nat) (b s : Nat)  (hl : Bytes l) (hb : b + l.length ≤ 2000000000) (hs : s ≤ l.length) (c : Int) (hc0 : -9223372036854775808 ≤ c) (w : World) (hS : St w (owns [dk k ad cap l b s]) [dk k ad cap l b s] w) : Calls Try.prog 22 #[pV k, .int .i64 c] w (Post w [dk k ad cap l b s] fun v G => ∃ k' ad' cap', v = pV k' ∧ G = [dk k' ad' cap' (l.take (pwN l s c)) b (pwN l s c), dk k ad cap l b s]) := by
 refine c_enter Try.func22 rfl rfl rfl ?_
 refine wp_seq_k (fun K1 hK1 => ?_)
 have hS2 := dk_open hS; clear hS
 refine wp_region_lit ?_
 refine l_q rfl rfl (q_assignP rfl) ?_
 refine l_nil ?_
 refine hK1 _ _ ?_
 refine wp_seq_k (fun K3 hK3 => ?_)
 refine wp_seq_k (fun K4 hK4 => ?_)
 refine wp_region_lit ?_
 refine l_q rfl rfl (q_moveP rfl) ?_
 refine l_q rfl rfl (q_peq rfl (by kernel_rfl)) ?_
 refine l_nil ?_
 refine hK4 _ _ ?_
 refine c_condF rfl rfl ?_
 refine wp_skip ?_
 refine hK3 _ _ ?_
 refine wp_seq_k (fun K6 hK6 => ?_)
 refine r_any (by kernel_rfl) hS2 (fun w7 hS7 => ?_)
 clear hS2
 refine o_pure (i := 0) (fun _ _ => trivial) rfl rfl (by kernel_rfl) (goes0 rfl) (QOk.then QOk.body) (fun w => q_moveP rfl) ?_
 refine o_pure (i := 1) (fun _ _ => trivial) rfl rfl (by kernel_rfl) (goes0 rfl) (QOk.then QOk.body) (fun w => q_nilCheck rfl) ?_
 refine o_pure (i := 2) (fun _ _ => trivial) rfl rfl (by kernel_rfl) (goes0 rfl) (QOk.then QOk.body) (fun w => q_fieldAddr (ft := 3) (o := 2) rfl (by kernel_rfl)) ?_
 refine o_held (i := 3) [17, 18] (fun _ _ => trivial) rfl rfl (by kernel_rfl) (goes0 rfl) (QOk.then QOk.body) (q_load1 rfl (by kernel_rfl) (hS7.cell (i := 0) rfl rfl)) ?_
 refine o_pure (i := 4) (fun j w => ⟨(fun _ _ => trivial) j w, fun _ h => h⟩) rfl rfl (by kernel_rfl) (goes0 rfl) (QOk.then QOk.body) (fun w => q_moveI rfl) ?_
 refine o_pure (i := 5) (fun j w => ⟨(fun _ _ => trivial) j w, fun _ h => h⟩) rfl rfl (by kernel_rfl) (goes0 rfl) (QOk.then QOk.body) (fun w => q_moveP rfl) ?_
 refine o_pure (i := 6) (fun j w => ⟨(fun _ _ => trivial) j w, fun _ h => h⟩) rfl rfl (by kernel_rfl) (goes0 rfl) (QOk.then QOk.body) (fun w => q_nilCheck rfl) ?_
 refine o_pure (i := 7) (fun j w => ⟨(fun _ _ => trivial) j w, fun _ h => h⟩) rfl rfl (by kernel_rfl) (goes0 rfl) (QOk.then QOk.body) (fun w => q_fieldAddr (ft := 58) (o := 0) rfl (by kernel_rfl)) ?_
 refine o_held (i := 8) [9, 14, 15, 16, 17, 18] (fun j w => ⟨(fun _ _ => trivial) j w, fun _ h => h⟩) rfl rfl (by kernel_rfl) (goes0 rfl) (QOk.then QOk.body) (q_load1 rfl (by kernel_rfl) (hS7.cell (i := 0) rfl rfl)) ?_
 refine o_pure (i := 9) (fun j w => ⟨(fun j w => ⟨(fun _ _ => trivial) j w, fun _ h => h⟩) j w, fun _ h => h⟩) rfl rfl (by kernel_rfl) (goes0 rfl) (QOk.then QOk.body) (fun w => q_lenSl (e := 5) rfl (by kernel_rfl)) ?_
 refine o_pure (i := 10) (fun j w => ⟨(fun j w => ⟨(fun _ _ => trivial) j w, fun _ h => h⟩) j w, fun _ h => h⟩) rfl rfl (by kernel_rfl) (goes0 rfl) (QOk.then QOk.body) (fun w => q_moveP rfl) ?_
 refine o_pure (i := 11) (fun j w => ⟨(fun j w => ⟨(fun _ _ => trivial) j w, fun _ h => h⟩) j w, fun _ h => h⟩) rfl rfl (by kernel_rfl) (goes0 rfl) (QOk.then QOk.body) (fun w => q_nilCheck rfl) ?_
 refine o_pure (i := 12) (fun j w => ⟨(fun j w => ⟨(fun _ _ => trivial) j w, fun _ h => h⟩) j w, fun _ h => h⟩) rfl rfl (by kernel_rfl) (goes0 rfl) (QOk.then QOk.body) (fun w => q_fieldAddr (ft := 3) (o := 2) rfl (by kernel_rfl)) ?_
 refine o_held (i := 13) [14, 15, 16, 17, 18] (fun j w => ⟨(fun j w => ⟨(fun _ _ => trivial) j w, fun _ h => h⟩) j w, fun _ h => h⟩) rfl rfl (by kernel_rfl) (goes0 rfl) (QOk.then QOk.body) (q_load1 rfl (by kernel_rfl) (hS7.cell (i := 0) rfl rfl)) ?_
 refine o_pure (i := 14) (fun j w => ⟨(fun j w => ⟨(fun j w => ⟨(fun _ _ => trivial) j w, fun _ h => h⟩) j w, fun _ h => h⟩) j w, fun _ h => h⟩) rfl rfl (by kernel_rfl) (goes0 rfl) (QOk.then QOk.body) (fun w => q_subx rfl rfl (by first | decide | omega) (by first | decide | omega)) ?_
 refine o_pure (i := 15) (fun j w => ⟨(fun j w => ⟨(fun j w => ⟨(fun _ _ => trivial) j w, fun _ h => h⟩) j w, fun _ h => h⟩) j w, fun _ h => h⟩) rfl rfl (by kernel_rfl) (goes0 rfl) (QOk.then QOk.body) (fun w => q_addx rfl rfl (by first | decide | omega) (by first | decide | omega)) ?_
 refine o_eff (i := 16) (by kernel_rfl) rfl (goes0 rfl) (fun K hK => ?_)
 refine e_callA (by kernel_rfl) (round_ok c ((l.length - s) + 1) (by omega) (by omega) _) (show _ = [.int .i64 c, .int .i64 ((((l.length : Nat) : Int) - (s : Int)) + (1 : Int))] from rfl) (by rw [show ((((l.length - s) + 1) : Nat) : Int) = ((((l.length : Nat) : Int) - (s : Int)) + (1 : Int)) from by omega]) (after_R hS7 (fun v8 w8 hv8 hS8 => ?_))
 clear hS7
 obtain rfl := hv8
 refine hK _ _ ⟨⟨⟨trivial, fun _ _ => by first | exact q_load1 rfl (by kernel_rfl) (hS8.cell (i := 0) rfl rfl)⟩, fun h => absurd h (by decide)⟩, fun h => absurd h (by decide)⟩ ?_; clear hK K
 have hpw := pwN_le (l := l) c hs
 have hpe : s + pickN c (l.length - s + 1) = pwN l s c := rfl
 refine o_pure (i := 17) (fun j w => ⟨(fun j w => ⟨(fun j w => ⟨(fun _ _ => trivial) j w, fun _ h => h⟩) j w, fun _ h => h⟩) j w, fun _ h => h⟩) rfl rfl (by kernel_rfl) (goes0 rfl) (QOk.then QOk.body) (fun w => q_addx rfl rfl (by first | decide | omega) (by first | decide | omega)) ?_
 refine o_pure (i := 18) (fun j w => ⟨(fun j w => ⟨(fun j w => ⟨(fun _ _ => trivial) j w, fun _ h => h⟩) j w, fun _ h => h⟩) j w, fun _ h => h⟩) rfl rfl (by kernel_rfl) (goes0 rfl) (QOk.then QOk.body) (fun w => q_assignI rfl) ?_
 refine o_done (by kernel_rfl) ?_
 refine hK6 _ _ ?_
 refine wp_seq_k (fun K9 hK9 => ?_)
 refine r_any (by kernel_rfl) hS8 (fun w10 hS10 => ?_)
 clear hS8
 refine o_pure (i := 0) (fun _ _ => trivial) rfl rfl (by kernel_rfl) (goes0 rfl) (QOk.then QOk.body) (fun w => q_moveP rfl) ?_
 refine o_pure (i := 1) (fun _ _ => trivial) rfl rfl (by kernel_rfl) (goes0 rfl) (QOk.then QOk.body) (fun w => q_nilCheck rfl) ?_
 refine o_pure (i := 2) (fun _ _ => trivial) rfl rfl (by kernel_rfl) (goes0 rfl) (QOk.then QOk.body) (fun w => q_fieldAddr (ft := 58) (o := 0) rfl (by kernel_rfl)) ?_
 refine o_held (i := 3) [5, 6, 12, 13, 14] (fun _ _ => trivial) rfl rfl (by kernel_rfl) (goes0 rfl) (QOk.then QOk.body) (q_load1 rfl (by kernel_rfl) (hS10.cell (i := 0) rfl rfl)) ?_
 refine o_pure (i := 4) (fun j w => ⟨(fun _ _ => trivial) j w, fun _ h => h⟩) rfl rfl (by kernel_rfl) (goes0 rfl) (QOk.then QOk.body) (fun w => q_moveI rfl) ?_
 have hcp11 := (hS10.owLen (i := 1) rfl).2.1
 refine o_pure (i := 5) (fun j w => ⟨(fun _ _ => trivial) j w, fun _ h => h⟩) rfl rfl (by kernel_rfl) (goes0 rfl) (QOk.then QOk.body) (fun w => q_sliceX (e := 5) (size := 1) (l := 0) (h := (pwN l s c)) (m := cap) (ad' := ad) (len' := (pwN l s c)) (cap' := cap) rfl (by kernel_rfl) (by kernel_rfl) rfl ⟨_, int_nat (by first | rfl | omega) rfl⟩ rfl (by omega) (by first | omega | (simp only [zll] <;> omega)) (by first | omega | (simp only [zll] <;> omega)) rfl subS_zero (Nat.sub_zero _) (Nat.sub_zero _)) ?_
 refine o_pure (i := 7) (fun j w => ⟨(fun _ _ => trivial) j w, fun _ h => h⟩) rfl rfl (by kernel_rfl) (goes0 rfl) (QOk.then QOk.body) (fun w => q_moveP rfl) ?_
 refine o_pure (i := 8) (fun j w => ⟨(fun _ _ => trivial) j w, fun _ h => h⟩) rfl rfl (by kernel_rfl) (goes0 rfl) (QOk.then QOk.body) (fun w => q_nilCheck rfl) ?_
 refine o_pure (i := 9) (fun j w => ⟨(fun _ _ => trivial) j w, fun _ h => h⟩) rfl rfl (by kernel_rfl) (goes0 rfl) (QOk.then QOk.body) (fun w => q_fieldAddr (ft := 3) (o := 1) rfl (by kernel_rfl)) ?_
 refine o_held (i := 10) [12, 13, 14] (fun j w => ⟨(fun _ _ => trivial) j w, fun _ h => h⟩) rfl rfl (by kernel_rfl) (goes0 rfl) (QOk.then QOk.body) (q_load1 rfl (by kernel_rfl) (hS10.cell (i := 0) rfl rfl)) ?_
 refine o_pure (i := 11) (fun j w => ⟨(fun j w => ⟨(fun _ _ => trivial) j w, fun _ h => h⟩) j w, fun _ h => h⟩) rfl rfl (by kernel_rfl) (goes0 rfl) (QOk.then QOk.body) (fun w => q_moveI rfl) ?_
 refine o_eff (i := 6) (by kernel_rfl) rfl (goes0 rfl) (fun K hK => ?_)
 refine e_call (by kernel_rfl) (Clone_ok (l.take (pwN l s c)) _ _ (pwN l s c) (by first | omega | (simp only [zll] <;> omega)) (by first | omega | (simp only [zll] <;> omega)) _ ((fun q => (bv_takeG (n := (pwN l s c)) q)) (hS10.owG (i := 1) rfl))) rfl (after_N hS10 (fun v12 G12 w12 hv12 hS12 => ?_))
 clear hS10
 obtain ⟨ad12, cp12, rfl, rfl⟩ := hv12
 have hS13 : St _ _ [.ow 5 1 ad12 (pwN l s c) cp12 (bv (l.take (pwN l s c))), .blk k (.cells #[.slice ad l.length cap, .int .i64 (b : Int), .int .i64 (s : Int)] 76), .ow 5 1 ad l.length cap (bv l)] _ := hS12; clear hS12
 refine hK _ _ ⟨⟨trivial, fun h => absurd h (by decide)⟩, fun _ _ => by first | exact q_load1 rfl (by kernel_rfl) (hS13.cell (i := 1) rfl rfl)⟩ ?_; clear hK K
 refine o_pure (i := 12) (fun j w => ⟨(fun j w => ⟨(fun _ _ => trivial) j w, fun _ h => h⟩) j w, fun _ h => h⟩) rfl rfl (by kernel_rfl) (goes0 rfl) (QOk.then QOk.body) (fun w => q_build (ps := [(0, 1), (1, 1), (2, 1)]) (zv := .agg #[.slice none 0 0, .int .i64 0, .int .i64 0]) (by kernel_rfl) (by kernel_rfl) rfl (by repeat' (first | exact trivial | refine ⟨fun _ => by first | rfl | assumption | exact one_if (by assumption), ?_⟩ | refine ⟨fun ⟨_, h⟩ => by simp at h, ?_⟩)) rfl) ?_
 refine o_eff (i := 13) (by kernel_rfl) rfl (goes0 rfl) (fun K hK => ?_)
 refine e_boxA hS13 rfl (fun b14 w14 (hS14 : St _ _ [.blk b14 (.cells #[.slice ad12 (pwN l s c) cp12, .int .i64 (b : Int), .int .i64 (((pwN l s c) : Nat) : Int)] 76), _, _, _] _) => ?_)
 clear hS13
 refine hK _ _ ⟨⟨trivial, fun h => absurd h (by decide)⟩, fun h => absurd h (by decide)⟩ ?_; clear hK K
 refine o_pure (i := 14) (fun j w => ⟨(fun j w => ⟨(fun _ _ => trivial) j w, fun _ h => h⟩) j w, fun _ h => h⟩) rfl rfl (by kernel_rfl) (goes0 rfl) (QOk.then QOk.body) (fun w => q_assignP rfl) ?_
 refine o_done (by kernel_rfl) ?_
 refine hK9 _ _ ?_
 refine wp_ret ?_
 refine c_ret1 rfl rfl ?_
 have hS15 := hS14.fr3; clear hS14
 have hS16 := hS15.fr3; clear hS15
 have hS17 := dk_close hS16; clear hS16
 have hS18 : St _ _ [dk k ad cap l b s, .blk b14 (.cells #[.slice ad12 ((l.take (pwN l s c)).length) cp12, .int .i64 (b : Int), .int .i64 (((pwN l s c) : Nat) : Int)] 76), .ow 5 1 ad12 ((l.take (pwN l s c)).length) cp12 (bv (l.take (pwN l s c)))] _ := hS17.cast (by rw [show (l.take (pwN l s c)).length = (pwN l s c) from (by first | omega | (simp only [zll] <;> omega))]); clear hS17
 have hS19 := hS18.fr2; clear hS18
 have hS20 := hS19.fr2; clear hS19
 have hS21 := dk_close hS20; clear hS20
 exact ⟨_, _, rfl, ⟨_, _, _, rfl, rfl⟩, hS21⟩
end Go.Proofs.Yteojpdijmnpmgaa
namespace Go.Proofs.Yteojpdijmnpmgaa
open Go.RowKit
theorem ow_ov {w0 w : World} {Γ Γ1 : List Ch} {e size n cap i l mx : Nat} {ad : Option Addr} {xs : List Value} {g : Gh} (hs : 0 < size) (h : St w0 (owns Γ1) Γ w) (hi : Γ[i]? = some (.ow e size ad n cap xs)) (hg : Rog Γ1 w0 g) (hn : 0 < n) :
    subS ad l size mx = none ∨ ∃ gb off cur T, subS ad l size mx = some ⟨gb, off, none⟩ ∧ w.heap[gb]? = some (.cells cur T (0, 0)) ∧ cur.size ≠ 0 ∧ ∀ o, g gb ≠ some o := by
  obtain ⟨h1, h2, h3, h4⟩ := (h.sat.get hi).1
  rcases h4 with ⟨rfl, h0⟩ | ⟨gb, off, cur, rfl, hgb, hle, hx⟩
  · left; unfold subS; split <;> rfl
  · right
    have hcs : cur.size ≠ 0 := by
      have : 0 < cap * size := Nat.mul_pos (by omega) hs
      omega
    have hno : ∀ o, g gb ≠ some o := fun o e => by
      have h5 := hg gb o e
      rcases ((h.sat.get hi).2 gb ⟨_, rfl, rfl⟩).1 with h6 | h6
      · exact h5.2 h6
      · have := (Array.getElem?_eq_some_iff.1 h5.1).1; omega
    by_cases hm : mx = l
    · exact ⟨gb, off, cur, _, by simp [subS, hm], hgb, hcs, hno⟩
    · exact ⟨gb, off + l * size, cur, _, by simp [subS, hm, addr_add], hgb, hcs, hno⟩
attribute [local irreducible] Oper.wp Sem.run Code.wp wpList wpAnyO callFunc execOp Calls
theorem x_insB (args : Array Value) (w : World) : (callFunc 78 args).run Try.prog w = ((Extern.SlicesOverlaps.overlaps #[58, 58] #[4] args).run Try.prog w).andThen fun v w' => .ok (.value v) w' :=
  run_callFunc_extern (e := Extern.SlicesOverlaps.overlaps #[58, 58] #[4]) Try.func78 (by kernel_rfl) (by kernel_rfl) (by kernel_rfl) (by kernel_rfl) args w
set_option maxHeartbeats 1000000 in
set_option maxRecDepth 100000 in
theorem insB (n i m cap c2 : Nat) (ad ad2 : Option Addr) (xs zs : List Value) (hx1 : ∀ u ∈ xs, u.oneCell' = true) (hz1 : ∀ u ∈ zs, u.oneCell' = true) (hi : i ≤ n) (hzl : zs.length = m * 1) (hnm : n + m ≤ 100000000) (g : Gh) (hZ : SlP g ad2 zs) (w : World) (hg : Rog [.ow 5 1 ad n cap xs] w g) (hS : St w (owns [.ow 5 1 ad n cap xs]) [.ow 5 1 ad n cap xs] w) : Calls Try.prog 70 #[.slice ad n cap, .int .i64 (i : Int), .slice ad2 m c2] w (Post w [.ow 5 1 ad n cap xs] fun v G => ∃ ad' cap', v = .slice ad' (n + m) cap' ∧ G = [.ow 5 1 ad' (n + m) cap' (xs.take (i * 1) ++ zs ++ xs.drop (i * 1))]) := by
 have hxl := (hS.owLen (i := 0) rfl).1
 have hcl := (hS.owLen (i := 0) rfl).2.1
 have hmi : i * 1 + m * 1 = (i + m) * 1 := by omega
 have hni : n * 1 - i * 1 = (n - i) * 1 := by omega
 refine c_enter Try.func70 rfl rfl rfl ?_
 refine wp_seq_k (fun K1 hK1 => ?_)
 refine wp_region_lit ?_
 refine l_q rfl rfl (q_assignS rfl) ?_
 refine l_nil ?_
 refine hK1 _ _ ?_
 refine wp_seq_k (fun K2 hK2 => ?_)
 refine wp_region_lit ?_
 refine l_q rfl rfl (q_moveS rfl) ?_
 refine l_q rfl rfl (q_moveI rfl) ?_
 have hcp3 := (hS.owLen (i := 0) rfl).2.1
 refine l_q rfl rfl (q_sliceX (e := 5) (size := 1) (l := i) (h := n) (m := cap) (ad' := (subS ad i 1 cap)) (len' := (n - i)) (cap' := (cap - i)) rfl (by kernel_rfl) (by kernel_rfl) rfl rfl ⟨_, int_nat (by first | rfl | omega) rfl⟩ (by omega) (by first | omega | (simp only [zll] <;> omega)) (by first | omega | (simp only [zll] <;> omega)) rfl rfl rfl rfl) ?_
 refine l_nil ?_
 refine hK2 _ _ ?_
 refine wp_seq_k (fun K4 hK4 => ?_)
 refine wp_region_lit ?_
 refine l_q rfl rfl (q_moveS rfl) ?_
 refine l_q rfl rfl (q_lenSl (e := 5) rfl (by kernel_rfl)) ?_
 refine l_q rfl rfl (q_assignI rfl) ?_
 refine l_nil ?_
 refine hK4 _ _ ?_
 refine wp_seq_k (fun K5 hK5 => ?_)
 refine wp_seq_k (fun K6 hK6 => ?_)
 refine wp_region_lit ?_
 refine l_q rfl rfl (q_moveI rfl) ?_
 refine l_q rfl rfl (q_eql rfl rfl) ?_
 refine l_nil ?_
 refine hK6 _ _ ?_
 refine c_cond rfl (fun hc7 => ?_) (fun hc7 => ?_)
 have hc7b := hc7
 try simp only [zbb] at hc7
 have hm0 : m = 0 := by omega
 subst hm0
 obtain rfl : zs = [] := List.eq_nil_of_length_eq_zero (by omega)
 refine wp_seq_k (fun K8 hK8 => ?_)
 refine wp_region_lit ?_
 refine l_q rfl rfl (q_moveS rfl) ?_
 refine l_q rfl rfl (q_assignS rfl) ?_
 refine l_nil ?_
 refine hK8 _ _ ?_
 refine wp_ret ?_
 refine c_ret1 rfl rfl ?_
 have e1 : xs.take (i * 1) ++ [] ++ xs.drop (i * 1) = xs := by rw [List.append_nil, List.take_append_drop]
 exact ⟨_, _, rfl, ⟨ad, cap, rfl, by rw [e1] <;> rfl⟩, hS⟩
 have hc7b := hc7
 try simp only [zbb] at hc7
 refine wp_skip ?_
 refine hK5 _ _ ?_
 refine wp_seq_k (fun K9 hK9 => ?_)
 refine wp_region_lit ?_
 refine l_q rfl rfl (q_moveS rfl) ?_
 refine l_q rfl rfl (q_lenSl (e := 5) rfl (by kernel_rfl)) ?_
 refine l_q rfl rfl (q_assignI rfl) ?_
 refine l_nil ?_
 refine hK9 _ _ ?_
 refine wp_seq_k (fun K10 hK10 => ?_)
 refine wp_seq_k (fun K11 hK11 => ?_)
 refine wp_region_lit ?_
 refine l_q rfl rfl (q_moveI rfl) ?_
 refine l_q rfl rfl (q_moveI rfl) ?_
 refine l_q rfl rfl (q_eql rfl rfl) ?_
 refine l_nil ?_
 refine hK11 _ _ ?_
 refine c_cond rfl (fun hc12 => ?_) (fun hc12 => ?_)
 have hc12b := hc12
 try simp only [zbb] at hc12
 have hin : i = n := by omega
 refine wp_seq_k (fun K13 hK13 => ?_)
 refine wp_region_lit ?_
 refine l_q rfl rfl (q_moveS rfl) ?_
 refine l_q rfl rfl (q_moveS rfl) ?_
 refine l_e rfl (fun K hK => ?_)
 refine e_app (e := 5) (size := 1) (bytes := 1) (i := 0) (m' := (n + m)) (by kernel_rfl) hS rfl rfl rfl (SlG.src (e := 5) (by kernel_rfl) ((SlP.slg hZ).mono (hg.le hS)) (by first | assumption | omega | (simp only [zll] <;> omega)) (by decide) hz1) (by first | omega | (simp only [zll] <;> omega) | (simp; done)) rfl (by first | omega | (simp only [maxLen, zll] <;> omega) | (simp only [maxLen]; omega)) (by first | omega | (simp only [zll] <;> omega)) (fun ad14 cp14 w14 (hS14 : St _ _ [.ow 5 1 ad14 (n + m) cp14 (xs ++ zs)] _) => ?_)
 clear hS
 refine hK _ _ ?_; clear hK K
 refine l_q rfl rfl (q_assignS rfl) ?_
 refine l_nil ?_
 refine hK13 _ _ ?_
 refine wp_ret ?_
 refine c_ret1 rfl rfl ?_
 have e1 : xs.take (i * 1) ++ zs ++ xs.drop (i * 1) = xs ++ zs := by rw [List.take_of_length_le (by omega), List.drop_eq_nil_of_le (by omega), List.append_nil]
 exact ⟨_, _, rfl, ⟨_, _, rfl, by rw [e1]⟩, hS14⟩
 have hc12b := hc12
 try simp only [zbb] at hc12
 refine wp_skip ?_
 refine hK10 _ _ ?_
 refine wp_seq_k (fun K15 hK15 => ?_)
 refine wp_seq_k (fun K16 hK16 => ?_)
 refine wp_region_lit ?_
 refine l_q rfl rfl (q_moveI rfl) ?_
 refine l_q rfl rfl (q_moveI rfl) ?_
 refine l_q rfl rfl (q_addx rfl rfl (by first | decide | omega) (by first | decide | omega)) ?_
 refine l_q rfl rfl (q_moveS rfl) ?_
 refine l_q rfl rfl (q_capSl (e := 5) rfl (by kernel_rfl)) ?_
 refine l_q rfl rfl (q_gtr rfl rfl) ?_
 refine l_nil ?_
 refine hK16 _ _ ?_
 refine c_cond rfl (fun hc17 => ?_) (fun hc17 => ?_)
 have hc17b := hc17
 try simp only [zbb] at hc17
 refine wp_seq_k (fun K18 hK18 => ?_)
 refine wp_region_lit ?_
 refine l_q rfl rfl (q_moveS rfl) ?_
 refine l_q rfl rfl (q_moveI rfl) ?_
 refine l_q rfl rfl (q_sliceX (e := 5) (size := 1) (l := 0) (h := i) (m := cap) (ad' := ad) (len' := i) (cap' := cap) rfl (by kernel_rfl) (by kernel_rfl) rfl ⟨_, int_nat (by first | rfl | omega) rfl⟩ rfl (by omega) (by first | omega | (simp only [zll] <;> omega)) (by first | omega | (simp only [zll] <;> omega)) rfl subS_zero (Nat.sub_zero _) (Nat.sub_zero _)) ?_
 refine l_q rfl rfl (q_moveI rfl) ?_
 refine l_q rfl rfl (q_moveI rfl) ?_
 refine l_q rfl rfl (q_addx rfl rfl (by first | decide | omega) (by first | decide | omega)) ?_
 refine l_q rfl rfl (q_moveI rfl) ?_
 refine l_q rfl rfl (q_subx rfl rfl (by first | decide | omega) (by first | decide | omega)) ?_
 refine l_e rfl (fun K hK => ?_)
 refine e_appZ (e := 5) (size := 1) (bytes := 1) (m := i) (l := n + m - i) (m' := n + m) (kn := .i64) (by kernel_rfl) (by kernel_rfl) hS rfl (SlG.takeN (hS.owG (i := 0) rfl) (i * 1)) (by rw [List.length_take, hxl]; exact Nat.min_eq_left (Nat.mul_le_mul_right _ hi)) rfl (by omega) (by omega) (by omega) (by simp only [maxLen]; omega) (by omega) (fun b19 cq19 w19 yz19 hyl19 (hS19 : St _ _ [.ow 5 1 (some ⟨b19, 0, none⟩) (n + m) cq19 (xs.take (i * 1) ++ yz19), .ow 5 1 ad n cap xs] _) => ?_)
 clear hS
 have hyl := hyl19
 refine hK _ _ ?_; clear hK K
 refine l_q rfl rfl (q_assignS rfl) ?_
 refine l_nil ?_
 refine hK18 _ _ ?_
 refine wp_seq_k (fun K20 hK20 => ?_)
 refine wp_region_lit ?_
 refine l_q rfl rfl (q_moveS rfl) ?_
 refine l_q rfl rfl (q_moveI rfl) ?_
 have hcp21 := (hS19.owLen (i := 0) rfl).2.1
 refine l_q rfl rfl (q_sliceX (e := 5) (size := 1) (l := i) (h := (n + m)) (m := cq19) (ad' := (subS (some ⟨b19, 0, none⟩) i 1 cq19)) (len' := ((n + m) - i)) (cap' := (cq19 - i)) rfl (by kernel_rfl) (by kernel_rfl) rfl rfl ⟨_, int_nat (by first | rfl | omega) rfl⟩ (by omega) (by first | omega | (simp only [zll] <;> omega)) (by first | omega | (simp only [zll] <;> omega)) rfl rfl rfl rfl) ?_
 refine l_q rfl rfl (q_moveS rfl) ?_
 refine l_e rfl (fun K hK => ?_)
 refine e_cpyX (e := 5) (size := 1) (i := 0) (lo := i) (mx := cq19) (N := m) hS19 (by kernel_rfl) (by kernel_rfl) (by decide) rfl rfl rfl (by first | omega | (simp only [zll] <;> omega)) (by first | omega | (simp only [zll] <;> omega)) rfl ((SlP.slg hZ).mono (hg.le hS19)) (by simp only [hxl, hzl, hyl, zll] <;> omega) (by omega) (fun u hu => hz1 u (List.mem_of_mem_take hu)) rfl (fun w22 (hS22 : St _ _ [.ow 5 1 (some ⟨b19, 0, none⟩) (n + m) cq19 ((xs.take (i * 1) ++ yz19).take (i * 1) ++ zs.take (m * 1) ++ (xs.take (i * 1) ++ yz19).drop (i * 1 + m * 1)), _] _) => ?_)
 clear hS19
 refine hK _ _ ?_; clear hK K
 refine l_nil ?_
 refine hK20 _ _ ?_
 refine wp_seq_k (fun K23 hK23 => ?_)
 refine r_any (by kernel_rfl) hS22 (fun w24 hS24 => ?_)
 clear hS22
 refine o_pure (i := 0) (fun _ _ => trivial) rfl rfl (by kernel_rfl) (goes0 rfl) (QOk.then (QOk.then QOk.body)) (fun w => q_moveS rfl) ?_
 refine o_pure (i := 1) (fun _ _ => trivial) rfl rfl (by kernel_rfl) (goes0 rfl) (QOk.then (QOk.then QOk.body)) (fun w => q_moveI rfl) ?_
 refine o_pure (i := 2) (fun _ _ => trivial) rfl rfl (by kernel_rfl) (goes0 rfl) (QOk.then (QOk.then QOk.body)) (fun w => q_moveI rfl) ?_
 refine o_pure (i := 3) (fun _ _ => trivial) rfl rfl (by kernel_rfl) (goes0 rfl) (QOk.then (QOk.then QOk.body)) (fun w => q_addx rfl rfl (by first | decide | omega) (by first | decide | omega)) ?_
 refine o_pure (i := 4) (fun _ _ => trivial) rfl rfl (by kernel_rfl) (goes0 rfl) (QOk.then (QOk.then QOk.body)) (fun w => q_sliceX (e := 5) (size := 1) (l := (i + m)) (h := (n + m)) (m := cq19) (ad' := (subS (some ⟨b19, 0, none⟩) (i + m) 1 cq19)) (len' := ((n + m) - (i + m))) (cap' := (cq19 - (i + m))) rfl (by kernel_rfl) (by kernel_rfl) rfl rfl ⟨_, int_nat (by first | rfl | omega) rfl⟩ (by omega) (by first | omega | (simp only [zll] <;> omega)) (by first | omega | (simp only [zll] <;> omega)) rfl rfl rfl rfl) ?_
 refine o_pure (i := 5) (fun _ _ => trivial) rfl rfl (by kernel_rfl) (goes0 rfl) (QOk.then (QOk.then QOk.body)) (fun w => q_moveS rfl) ?_
 refine o_pure (i := 6) (fun _ _ => trivial) rfl rfl (by kernel_rfl) (goes0 rfl) (QOk.then (QOk.then QOk.body)) (fun w => q_moveI rfl) ?_
 refine o_pure (i := 7) (fun _ _ => trivial) rfl rfl (by kernel_rfl) (goes0 rfl) (QOk.then (QOk.then QOk.body)) (fun w => q_sliceX (e := 5) (size := 1) (l := i) (h := n) (m := cap) (ad' := (subS ad i 1 cap)) (len' := (n - i)) (cap' := (cap - i)) rfl (by kernel_rfl) (by kernel_rfl) rfl rfl ⟨_, int_nat (by first | rfl | omega) rfl⟩ (by omega) (by first | omega | (simp only [zll] <;> omega)) (by first | omega | (simp only [zll] <;> omega)) rfl rfl rfl rfl) ?_
 refine o_eff (i := 8) (by kernel_rfl) rfl (goes0 rfl) (fun K hK => ?_)
 refine e_cpyX (e := 5) (size := 1) (i := 0) (lo := (i + m)) (mx := cq19) (N := (n - i)) hS24 (by kernel_rfl) (by kernel_rfl) (by decide) rfl rfl rfl (by first | omega | (simp only [zll] <;> omega)) (by first | omega | (simp only [zll] <;> omega)) rfl (SlG.sub (l := i) (size := 1) (m := cap) (n := n - i) (hS24.owG (i := 1) rfl) (by omega) (by decide)) (by simp only [hxl, hzl, hyl, zll] <;> omega) (by omega) (fun u hu => (fun u hu => hx1 u (List.mem_of_mem_drop (List.mem_of_mem_take hu))) u (List.mem_of_mem_take hu)) (by have := ins_cells2 (xs := xs) (ys := yz19) (zs := zs) (I := i * 1) (M := m * 1) (N := n * 1) (L := (n + m - i) * 1) (by omega) hxl hyl (by omega) hzl; simp only at this; rw [← this]; simp only [hmi, hni, ← Nat.add_mul, List.take_take, Nat.min_self]) (fun w25 (hS25 : St _ _ [.ow 5 1 (some ⟨b19, 0, none⟩) (n + m) cq19 (xs.take (i * 1) ++ zs ++ xs.drop (i * 1)), _] _) => ?_)
 clear hS24
 refine hK _ _ trivial ?_; clear hK K
 refine o_done (by kernel_rfl) ?_
 refine hK23 _ _ ?_
 refine wp_seq_k (fun K26 hK26 => ?_)
 refine wp_region_lit ?_
 refine l_q rfl rfl (q_moveS rfl) ?_
 refine l_q rfl rfl (q_assignS rfl) ?_
 refine l_nil ?_
 refine hK26 _ _ ?_
 refine wp_ret ?_
 refine c_ret1 rfl rfl ?_
 have hS27 : St _ _ [_] _ := hS25.only 1; clear hS25
 exact ⟨_, _, rfl, ⟨_, _, rfl, rfl⟩, hS27⟩
 have hc17b := hc17
 try simp only [zbb] at hc17
 refine wp_skip ?_
 refine hK15 _ _ ?_
 refine wp_seq_k (fun K28 hK28 => ?_)
 refine wp_region_lit ?_
 refine l_q rfl rfl (q_moveS rfl) ?_
 refine l_q rfl rfl (q_moveI rfl) ?_
 refine l_q rfl rfl (q_moveI rfl) ?_
 refine l_q rfl rfl (q_addx rfl rfl (by first | decide | omega) (by first | decide | omega)) ?_
 have hcap : n + m ≤ cap := by omega
 obtain ⟨ys, hyl0, hS29⟩ := hS.owExt (i := 0) (hh := n + m) rfl (by omega) hcap; clear hS
 have hS30 : St _ _ [.ow 5 1 ad (n + m) cap (xs ++ ys)] _ := hS29; clear hS29
 have hyl : ys.length = m * 1 := by rw [hyl0]; congr 1; omega
 refine l_q rfl rfl (q_sliceX (e := 5) (size := 1) (l := 0) (h := (n + m)) (m := cap) (ad' := ad) (len' := (n + m)) (cap' := cap) rfl (by kernel_rfl) (by kernel_rfl) rfl ⟨_, int_nat (by first | rfl | omega) rfl⟩ rfl (by omega) (by first | omega | (simp only [zll] <;> omega)) (by first | omega | (simp only [zll] <;> omega)) rfl subS_zero (Nat.sub_zero _) (Nat.sub_zero _)) ?_
 refine l_q rfl rfl (q_assignS rfl) ?_
 refine l_nil ?_
 refine hK28 _ _ ?_
 refine wp_seq_k (fun K31 hK31 => ?_)
 refine wp_seq_k (fun K32 hK32 => ?_)
 refine wp_region_lit ?_
 refine l_q rfl rfl (q_moveS rfl) ?_
 refine l_q rfl rfl (q_moveS rfl) ?_
 refine l_q rfl rfl (q_moveI rfl) ?_
 refine l_q rfl rfl (q_moveI rfl) ?_
 refine l_q rfl rfl (q_addx rfl rfl (by first | decide | omega) (by first | decide | omega)) ?_
 refine l_q rfl rfl (q_sliceX (e := 5) (size := 1) (l := (i + m)) (h := (n + m)) (m := cap) (ad' := (subS ad (i + m) 1 cap)) (len' := ((n + m) - (i + m))) (cap' := (cap - (i + m))) rfl (by kernel_rfl) (by kernel_rfl) rfl rfl ⟨_, int_nat (by first | rfl | omega) rfl⟩ (by omega) (by first | omega | (simp only [zll] <;> omega)) (by first | omega | (simp only [zll] <;> omega)) rfl rfl rfl rfl) ?_
 have hA : subS ad (i + m) 1 cap = none ∨ ∃ gb off cur T, subS ad (i + m) 1 cap = some ⟨gb, off, none⟩ ∧ w.heap[gb]? = some (.cells cur T (0, 0)) ∧ cur.size ≠ 0 ∧ ∀ o, g gb ≠ some o := ow_ov (by decide) hS30 (i := 0) rfl hg (by omega)
 refine l_q rfl rfl (q_ext rfl (ov_apart (e := 5) (size := 1) x_insB (by kernel_rfl) (by kernel_rfl) (by decide) hZ (hg.le hS30) hzl hA)) ?_
 refine l_q rfl rfl (q_not rfl) ?_
 refine l_nil ?_
 refine hK32 _ _ ?_
 refine c_condT rfl rfl ?_
 refine wp_seq_k (fun K34 hK34 => ?_)
 refine r_any (by kernel_rfl) hS30 (fun w35 hS35 => ?_)
 clear hS30
 refine o_pure (i := 0) (fun _ _ => trivial) rfl rfl (by kernel_rfl) (goes0 rfl) (QOk.then (QOk.then QOk.body)) (fun w => q_moveS rfl) ?_
 refine o_pure (i := 1) (fun _ _ => trivial) rfl rfl (by kernel_rfl) (goes0 rfl) (QOk.then (QOk.then QOk.body)) (fun w => q_moveI rfl) ?_
 refine o_pure (i := 2) (fun _ _ => trivial) rfl rfl (by kernel_rfl) (goes0 rfl) (QOk.then (QOk.then QOk.body)) (fun w => q_moveI rfl) ?_
 refine o_pure (i := 3) (fun _ _ => trivial) rfl rfl (by kernel_rfl) (goes0 rfl) (QOk.then (QOk.then QOk.body)) (fun w => q_addx rfl rfl (by first | decide | omega) (by first | decide | omega)) ?_
 refine o_pure (i := 4) (fun _ _ => trivial) rfl rfl (by kernel_rfl) (goes0 rfl) (QOk.then (QOk.then QOk.body)) (fun w => q_sliceX (e := 5) (size := 1) (l := (i + m)) (h := (n + m)) (m := cap) (ad' := (subS ad (i + m) 1 cap)) (len' := ((n + m) - (i + m))) (cap' := (cap - (i + m))) rfl (by kernel_rfl) (by kernel_rfl) rfl rfl ⟨_, int_nat (by first | rfl | omega) rfl⟩ (by omega) (by first | omega | (simp only [zll] <;> omega)) (by first | omega | (simp only [zll] <;> omega)) rfl rfl rfl rfl) ?_
 refine o_pure (i := 5) (fun _ _ => trivial) rfl rfl (by kernel_rfl) (goes0 rfl) (QOk.then (QOk.then QOk.body)) (fun w => q_moveS rfl) ?_
 refine o_pure (i := 6) (fun _ _ => trivial) rfl rfl (by kernel_rfl) (goes0 rfl) (QOk.then (QOk.then QOk.body)) (fun w => q_moveI rfl) ?_
 refine o_pure (i := 7) (fun _ _ => trivial) rfl rfl (by kernel_rfl) (goes0 rfl) (QOk.then (QOk.then QOk.body)) (fun w => q_sliceX (e := 5) (size := 1) (l := i) (h := (n + m)) (m := cap) (ad' := (subS ad i 1 cap)) (len' := ((n + m) - i)) (cap' := (cap - i)) rfl (by kernel_rfl) (by kernel_rfl) rfl rfl ⟨_, int_nat (by first | rfl | omega) rfl⟩ (by omega) (by first | omega | (simp only [zll] <;> omega)) (by first | omega | (simp only [zll] <;> omega)) rfl rfl rfl rfl) ?_
 refine o_eff (i := 8) (by kernel_rfl) rfl (goes0 rfl) (fun K hK => ?_)
 refine e_cpyX (e := 5) (size := 1) (i := 0) (lo := (i + m)) (mx := cap) (N := (n - i)) hS35 (by kernel_rfl) (by kernel_rfl) (by decide) rfl rfl rfl (by first | omega | (simp only [zll] <;> omega)) (by first | omega | (simp only [zll] <;> omega)) rfl (SlG.sub (l := i) (size := 1) (m := cap) (n := n + m - i) (hS35.owG (i := 0) rfl) (by omega) (by decide)) (by simp only [hxl, hzl, hyl, zll] <;> omega) (by omega) (fun u hu => by rw [List.take_take, Nat.min_eq_left (show (n - i) * 1 ≤ (n + m - i) * 1 by omega), List.drop_append_of_le_length (by omega), List.take_append_of_le_length (by rw [List.length_drop]; omega)] at hu; exact hx1 u (List.mem_of_mem_drop (List.mem_of_mem_take hu))) rfl (fun w36 (hS36 : St _ _ [.ow 5 1 ad (n + m) cap ((xs ++ ys).take ((i + m) * 1) ++ (((xs ++ ys).drop (i * 1)).take ((n + m - i) * 1)).take ((n - i) * 1) ++ (xs ++ ys).drop ((i + m) * 1 + (n - i) * 1))] _) => ?_)
 clear hS35
 refine hK _ _ trivial ?_; clear hK K
 refine o_done (by kernel_rfl) ?_
 refine hK34 _ _ ?_
 refine wp_seq_k (fun K37 hK37 => ?_)
 refine wp_region_lit ?_
 refine l_q rfl rfl (q_moveS rfl) ?_
 refine l_q rfl rfl (q_moveI rfl) ?_
 refine l_q rfl rfl (q_sliceX (e := 5) (size := 1) (l := i) (h := (n + m)) (m := cap) (ad' := (subS ad i 1 cap)) (len' := ((n + m) - i)) (cap' := (cap - i)) rfl (by kernel_rfl) (by kernel_rfl) rfl rfl ⟨_, int_nat (by first | rfl | omega) rfl⟩ (by omega) (by first | omega | (simp only [zll] <;> omega)) (by first | omega | (simp only [zll] <;> omega)) rfl rfl rfl rfl) ?_
 refine l_q rfl rfl (q_moveS rfl) ?_
 refine l_e rfl (fun K hK => ?_)
 refine e_cpyX (e := 5) (size := 1) (i := 0) (lo := i) (mx := cap) (N := m) hS36 (by kernel_rfl) (by kernel_rfl) (by decide) rfl rfl rfl (by first | omega | (simp only [zll] <;> omega)) (by first | omega | (simp only [zll] <;> omega)) rfl ((SlP.slg hZ).mono (hg.le hS36)) (by simp only [hxl, hzl, hyl, zll] <;> omega) (by omega) (fun u hu => hz1 u (List.mem_of_mem_take hu)) (by have := ins_cells (xs := xs) (ys := ys) (zs := zs) (I := i * 1) (M := m * 1) (N := n * 1) (by omega) hxl hyl hzl; simp only at this; rw [← this]; simp only [hmi, hni, List.take_take]; rw [Nat.min_eq_left (show (n - i) * 1 ≤ (n + m - i) * 1 by omega)]) (fun w38 (hS38 : St _ _ [.ow 5 1 ad (n + m) cap (xs.take (i * 1) ++ zs ++ xs.drop (i * 1))] _) => ?_)
 clear hS36
 refine hK _ _ ?_; clear hK K
 refine l_nil ?_
 refine hK37 _ _ ?_
 refine wp_seq_k (fun K39 hK39 => ?_)
 refine wp_region_lit ?_
 refine l_q rfl rfl (q_moveS rfl) ?_
 refine l_q rfl rfl (q_assignS rfl) ?_
 refine l_nil ?_
 refine hK39 _ _ ?_
 refine wp_ret ?_
 refine c_ret1 rfl rfl ?_
 exact ⟨_, _, rfl, ⟨_, _, rfl, rfl⟩, hS38⟩
end Go.Proofs.Yteojpdijmnpmgaa
namespace Go.Proofs.Yteojpdijmnpmgaa
open Go.RowKit
theorem chk_ok (l : List Nat) (hl : Bytes l) (m : Nat) (hm : l.length = m) (hn : m ≤ 1000000000) (ad : Option Addr) (cap : Nat) (w : World) (hG : SlG (hw w) ad (bv l)) : Calls Try.prog 63 #[.slice ad m cap] w (PostR w fun v => v = .int .u16 ((crc 65535 l : Nat) : Int)) := by
  subst hm; exact wCheck_ok l hl hn ad cap w hG.slr
theorem ins_bv {l m : List Nat} {i : Nat} : (bv l).take (i * 1) ++ bv m ++ (bv l).drop (i * 1) = bv (l.take i ++ m ++ l.drop i) := by
  rw [Nat.mul_one]; unfold bv; rw [List.map_append, List.map_append, List.map_take, List.map_drop]
/-- A record's frame (W1). -/
def fb (l : List Nat) : List Nat := (l.length - 1) / 2 ^ 8 % 256 :: (l.length - 1) % 256 :: l
def fr (l : List Nat) : List Nat := 76 :: (l.length - 1) / 2 ^ 8 % 256 :: (l.length - 1) % 256 :: crc 65535 (fb l) / 2 ^ 8 % 256 :: crc 65535 (fb l) % 256 :: l
theorem fr_len (l : List Nat) : (fr l).length = l.length + 5 := rfl
theorem fr_bytes {l : List Nat} (h : Bytes l) : Bytes (fr l) := .cons (by decide) (.cons (Nat.mod_lt _ (by decide)) (.cons (Nat.mod_lt _ (by decide)) (.cons (Nat.mod_lt _ (by decide)) (.cons (Nat.mod_lt _ (by decide)) h))))
/-- The record that bytes begin with: how many bytes it has. -/
def tkN (l : List Nat) : Option Nat :=
  if l.length ≤ 5 ∨ l.getD 0 0 ≠ 76 then none
  else if 4096 < l.getD 1 0 * 2 ^ 8 + l.getD 2 0 + 1 ∨ l.length < 5 + (l.getD 1 0 * 2 ^ 8 + l.getD 2 0 + 1) then none
  else if crc 65535 (l.getD 1 0 :: l.getD 2 0 :: (l.drop 5).take (l.getD 1 0 * 2 ^ 8 + l.getD 2 0 + 1)) / 2 ^ 8 % 256 = l.getD 3 0 ∧ crc 65535 (l.getD 1 0 :: l.getD 2 0 :: (l.drop 5).take (l.getD 1 0 * 2 ^ 8 + l.getD 2 0 + 1)) % 256 = l.getD 4 0 then some (l.getD 1 0 * 2 ^ 8 + l.getD 2 0 + 1)
  else none
def tkA (ad : Option Addr) (cap : Nat) (l : List Nat) : Option Addr := if (tkN l).isSome then subS ad 5 1 cap else none
def tkM (l : List Nat) : Nat := (tkN l).getD 0
def tkC (cap : Nat) (l : List Nat) : Nat := if (tkN l).isSome then cap - 5 else 0
theorem tk_none {ad : Option Addr} {cap : Nat} {l : List Nat} (h : tkN l = none) : Value.slice none 0 0 = .slice (tkA ad cap l) (tkM l) (tkC cap l) := by simp [tkA, tkM, tkC, h]
theorem tk_some {ad : Option Addr} {cap n : Nat} {l : List Nat} (h : tkN l = some n) : Value.slice (subS ad 5 1 cap) (5 + n - 5) (cap - 5) = .slice (tkA ad cap l) (tkM l) (tkC cap l) := by simp [tkA, tkM, tkC, h]
theorem getD_of {l : List Nat} {i x : Nat} (h : l[i]? = some x) : l.getD i 0 = x := by rw [List.getD_eq_getElem?_getD, h]; rfl
attribute [local irreducible] crc
attribute [local irreducible] Oper.wp Sem.run Code.wp wpList wpAnyO callFunc execOp Calls
set_option maxRecDepth 100000 in
theorem frame_ok (l : List Nat) (hl : Bytes l) (m : Nat) (hm : l.length = m) (h1 : 1 ≤ m) (hn : m ≤ 65536) (ad : Option Addr) (cap : Nat) (w : World) (hG : SlG (hw w) ad (bv l)) : Calls Try.prog 53 #[.slice ad m cap] w (PostN w fun v G => ∃ ad' cap', v = .slice ad' (fr l).length cap' ∧ G = [.ow 5 1 ad' (fr l).length cap' (bv (fr l))]) := by
 have hS := St.start w
 refine c_enter Try.func53 rfl rfl rfl ?_
 refine wp_seq_k (fun K1 hK1 => ?_)
 refine wp_region_lit ?_
 refine l_q rfl rfl (q_assignS rfl) ?_
 refine l_nil ?_
 refine hK1 _ _ ?_
 refine wp_seq_k (fun K2 hK2 => ?_)
 refine wp_region_lit ?_
 refine l_q rfl rfl (q_moveS rfl) ?_
 refine l_q rfl rfl (q_lenSl (e := 5) rfl (by kernel_rfl)) ?_
 refine l_q rfl rfl (q_subx rfl rfl (by first | decide | omega) (by first | decide | omega)) ?_
 refine l_q rfl rfl (q_assignI rfl) ?_
 refine l_nil ?_
 refine hK2 _ _ ?_
 refine wp_seq_k (fun K3 hK3 => ?_)
 refine wp_region_lit ?_
 refine l_q rfl rfl (q_moveI rfl) ?_
 refine l_q rfl rfl (q_shrN (k := .i64) (a := (l.length - 1)) (b := 8) (int_nat (by omega) rfl) rfl (by decide)) ?_
 refine l_q rfl rfl (u_conv (a := ((l.length - 1) / 2 ^ 8)) (k' := .u8) (M := 256) rfl (by kernel_rfl) (by kernel_rfl) rfl (by decide)) ?_
 refine l_q rfl rfl (q_moveI rfl) ?_
 refine l_q rfl rfl (u_conv (a := (l.length - 1)) (k' := .u8) (M := 256) (int_nat (by omega) rfl) (by kernel_rfl) (by kernel_rfl) rfl (by decide)) ?_
 refine l_e rfl (fun K hK => ?_)
 refine e_buildSlice1 (e := 5) (zv := .int .u8 0) (xs := [.tmp 11, .tmp 13]) hS (by kernel_rfl) (by kernel_rfl) (by kernel_rfl) rfl rfl rfl rfl (allone (by repeat' (first | exact trivial | refine ⟨by first | rfl | assumption, ?_⟩))) rfl (fun b4 w4 (hS4 : St _ _ [.blk b4 (.cells #[.int .u8 (((((l.length - 1) / 2 ^ 8) % 256) : Nat) : Int), .int .u8 ((((l.length - 1) % 256) : Nat) : Int)] 5)] _) => ?_)
 clear hS
 have hB4 : Bytes [(((l.length - 1) / 2 ^ 8) % 256), ((l.length - 1) % 256)] := by intro q hq; simp only [List.mem_cons, List.not_mem_nil, or_false] at hq; omega
 have hS4o : St _ _ [.ow 5 1 (some ⟨b4, 0, none⟩) 2 2 (bv [(((l.length - 1) / 2 ^ 8) % 256), ((l.length - 1) % 256)])] _ := hS4.blkOw' (i := 0) (m := 2) (size := 1) (xs := bv [(((l.length - 1) / 2 ^ 8) % 256), ((l.length - 1) % 256)]) rfl rfl rfl (by decide); clear hS4
 refine hK _ _ ?_; clear hK K
 refine l_q rfl rfl (q_moveS rfl) ?_
 refine l_e rfl (fun K hK => ?_)
 have hB5 : Bytes ([(((l.length - 1) / 2 ^ 8) % 256), ((l.length - 1) % 256)] ++ l) := Bytes.app hB4 hl
 refine e_app (e := 5) (size := 1) (bytes := 1) (i := 0) (m' := (2 + m)) (by kernel_rfl) hS4o rfl rfl rfl (SlG.src (e := 5) (by kernel_rfl) (hG.mono hS4o.base) (by first | (simp only [zll, Nat.mul_one]; done) | (simp only [zll]; omega) | rfl | (simp; done)) (by decide) (bv_one _)) (by first | omega | (simp only [zll] <;> omega) | (simp; done)) bv_app (by first | omega | (simp only [maxLen, zll] <;> omega) | (simp only [maxLen]; omega)) (by first | omega | (simp only [zll] <;> omega)) (fun ad5 cp5 w5 (hS5 : St _ _ [.ow 5 1 ad5 (2 + m) cp5 (bv ([(((l.length - 1) / 2 ^ 8) % 256), ((l.length - 1) % 256)] ++ l))] _) => ?_)
 clear hS4o
 refine hK _ _ ?_; clear hK K
 refine l_q rfl rfl (q_assignS rfl) ?_
 refine l_nil ?_
 refine hK3 _ _ ?_
 refine wp_seq_k (fun K6 hK6 => ?_)
 refine wp_region_lit ?_
 refine l_q rfl rfl (q_moveS rfl) ?_
 refine l_e rfl (fun K hK => ?_)
 refine e_call (by kernel_rfl) (chk_ok ([(((l.length - 1) / 2 ^ 8) % 256), ((l.length - 1) % 256)] ++ l) hB5 (2 + m) (by first | omega | (simp only [zll] <;> omega)) (by first | omega | (simp only [zll] <;> omega)) _ _ _ (hS5.owG (i := 0) rfl)) rfl (after_R hS5 (fun v7 w7 hv7 hS7 => ?_))
 clear hS5
 obtain rfl := hv7
 refine hK _ _ ?_; clear hK K
 refine l_q rfl rfl (q_assignI rfl) ?_
 refine l_nil ?_
 refine hK6 _ _ ?_
 refine wp_seq_k (fun K8 hK8 => ?_)
 refine wp_region_lit ?_
 refine l_q rfl rfl (q_moveS rfl) ?_
 refine l_q rfl rfl (q_moveI rfl) ?_
 refine l_q rfl rfl (q_shrN (k := .u16) (a := (crc 65535 ([(((l.length - 1) / 2 ^ 8) % 256), ((l.length - 1) % 256)] ++ l))) (b := 8) rfl rfl (by decide)) ?_
 refine l_q rfl rfl (u_conv (a := ((crc 65535 ([(((l.length - 1) / 2 ^ 8) % 256), ((l.length - 1) % 256)] ++ l)) / 2 ^ 8)) (k' := .u8) (M := 256) rfl (by kernel_rfl) (by kernel_rfl) rfl (by decide)) ?_
 refine l_q rfl rfl (q_moveI rfl) ?_
 refine l_q rfl rfl (u_conv (a := (crc 65535 ([(((l.length - 1) / 2 ^ 8) % 256), ((l.length - 1) % 256)] ++ l))) (k' := .u8) (M := 256) rfl (by kernel_rfl) (by kernel_rfl) rfl (by decide)) ?_
 refine l_e rfl (fun K hK => ?_)
 refine e_buildSlice1 (e := 5) (zv := .int .u8 0) (xs := [.tmp 22, .tmp 24]) hS7 (by kernel_rfl) (by kernel_rfl) (by kernel_rfl) rfl rfl rfl rfl (allone (by repeat' (first | exact trivial | refine ⟨by first | rfl | assumption, ?_⟩))) rfl (fun b9 w9 (hS9 : St _ _ [.blk b9 (.cells #[.int .u8 (((((crc 65535 ([(((l.length - 1) / 2 ^ 8) % 256), ((l.length - 1) % 256)] ++ l)) / 2 ^ 8) % 256) : Nat) : Int), .int .u8 ((((crc 65535 ([(((l.length - 1) / 2 ^ 8) % 256), ((l.length - 1) % 256)] ++ l)) % 256) : Nat) : Int)] 5), _] _) => ?_)
 clear hS7
 have hB9 : Bytes [(((crc 65535 ([(((l.length - 1) / 2 ^ 8) % 256), ((l.length - 1) % 256)] ++ l)) / 2 ^ 8) % 256), ((crc 65535 ([(((l.length - 1) / 2 ^ 8) % 256), ((l.length - 1) % 256)] ++ l)) % 256)] := by intro q hq; simp only [List.mem_cons, List.not_mem_nil, or_false] at hq; omega
 have hS9o : St _ _ [.ow 5 1 (some ⟨b9, 0, none⟩) 2 2 (bv [(((crc 65535 ([(((l.length - 1) / 2 ^ 8) % 256), ((l.length - 1) % 256)] ++ l)) / 2 ^ 8) % 256), ((crc 65535 ([(((l.length - 1) / 2 ^ 8) % 256), ((l.length - 1) % 256)] ++ l)) % 256)]), _] _ := hS9.blkOw' (i := 0) (m := 2) (size := 1) (xs := bv [(((crc 65535 ([(((l.length - 1) / 2 ^ 8) % 256), ((l.length - 1) % 256)] ++ l)) / 2 ^ 8) % 256), ((crc 65535 ([(((l.length - 1) / 2 ^ 8) % 256), ((l.length - 1) % 256)] ++ l)) % 256)]) rfl rfl rfl (by decide); clear hS9
 refine hK _ _ ?_; clear hK K
 refine l_e rfl (fun K hK => ?_)
 have hS11 := hS9o.fr1; clear hS9o
 obtain ⟨g10, hg10, hZ10⟩ := St.rogP (Γ1 := [_]) (i := 0) hS11 rfl
 have hB10 : Bytes (([(((l.length - 1) / 2 ^ 8) % 256), ((l.length - 1) % 256)] ++ l).take 2 ++ [(((crc 65535 ([(((l.length - 1) / 2 ^ 8) % 256), ((l.length - 1) % 256)] ++ l)) / 2 ^ 8) % 256), ((crc 65535 ([(((l.length - 1) / 2 ^ 8) % 256), ((l.length - 1) % 256)] ++ l)) % 256)] ++ ([(((l.length - 1) / 2 ^ 8) % 256), ((l.length - 1) % 256)] ++ l).drop 2) := ((Bytes.take hB5).app hB9).app (Bytes.drop hB5)
 refine e_call (by kernel_rfl) (insB (2 + m) 2 2 cp5 _ _ _ _ _ (bv_one _) (bv_one _) (by first | omega | (simp only [zll] <;> omega)) (by first | (simp only [zll, Nat.mul_one]; done) | (simp only [zll]; omega) | rfl | (simp; done)) (by first | omega | (simp only [zll] <;> omega)) g10 hZ10 _ hg10 (St.begin (Γ := [_]) hS11)) rfl (after_M (Γ1 := [_]) hS11 (fun v10 G10 w10 hv10 hS10 => ?_))
 clear hS11
 obtain ⟨ad10, cp10, rfl, rfl⟩ := hv10
 have hS12 : St _ _ [.ow 5 1 ad10 ((2 + m) + 2) cp10 ((bv ([(((l.length - 1) / 2 ^ 8) % 256), ((l.length - 1) % 256)] ++ l)).take (2 * 1) ++ (bv [(((crc 65535 ([(((l.length - 1) / 2 ^ 8) % 256), ((l.length - 1) % 256)] ++ l)) / 2 ^ 8) % 256), ((crc 65535 ([(((l.length - 1) / 2 ^ 8) % 256), ((l.length - 1) % 256)] ++ l)) % 256)]) ++ (bv ([(((l.length - 1) / 2 ^ 8) % 256), ((l.length - 1) % 256)] ++ l)).drop (2 * 1)), _] _ := hS10; clear hS10
 have hS13 : St _ _ [.ow 5 1 ad10 ((2 + m) + 2) cp10 (bv (([(((l.length - 1) / 2 ^ 8) % 256), ((l.length - 1) % 256)] ++ l).take 2 ++ [(((crc 65535 ([(((l.length - 1) / 2 ^ 8) % 256), ((l.length - 1) % 256)] ++ l)) / 2 ^ 8) % 256), ((crc 65535 ([(((l.length - 1) / 2 ^ 8) % 256), ((l.length - 1) % 256)] ++ l)) % 256)] ++ ([(((l.length - 1) / 2 ^ 8) % 256), ((l.length - 1) % 256)] ++ l).drop 2)), _] _ := hS12.cast (by rw [ins_bv]); clear hS12
 refine hK _ _ ?_; clear hK K
 refine l_e rfl (fun K hK => ?_)
 refine e_buildSlice1 (e := 5) (zv := .int .u8 0) (xs := [_]) hS13 (by kernel_rfl) (by kernel_rfl) (by kernel_rfl) rfl rfl rfl rfl (allone (by repeat' (first | exact trivial | refine ⟨by first | rfl | assumption, ?_⟩))) rfl (fun b14 w14 (hS14 : St _ _ [.blk b14 (.cells #[.int .u8 (76 : Int)] 5), _, _] _) => ?_)
 clear hS13
 have hB14 : Bytes [76] := by intro q hq; simp only [List.mem_cons, List.not_mem_nil, or_false] at hq; omega
 have hS14o : St _ _ [.ow 5 1 (some ⟨b14, 0, none⟩) 1 1 (bv [76]), _, _] _ := hS14.blkOw' (i := 0) (m := 1) (size := 1) (xs := bv [76]) rfl rfl rfl (by decide); clear hS14
 refine hK _ _ ?_; clear hK K
 refine l_e rfl (fun K hK => ?_)
 have hS16 := hS14o.fr1; clear hS14o
 obtain ⟨g15, hg15, hZ15⟩ := St.rogP (Γ1 := [_]) (i := 0) hS16 rfl
 have hB15 : Bytes ((([(((l.length - 1) / 2 ^ 8) % 256), ((l.length - 1) % 256)] ++ l).take 2 ++ [(((crc 65535 ([(((l.length - 1) / 2 ^ 8) % 256), ((l.length - 1) % 256)] ++ l)) / 2 ^ 8) % 256), ((crc 65535 ([(((l.length - 1) / 2 ^ 8) % 256), ((l.length - 1) % 256)] ++ l)) % 256)] ++ ([(((l.length - 1) / 2 ^ 8) % 256), ((l.length - 1) % 256)] ++ l).drop 2).take 0 ++ [76] ++ (([(((l.length - 1) / 2 ^ 8) % 256), ((l.length - 1) % 256)] ++ l).take 2 ++ [(((crc 65535 ([(((l.length - 1) / 2 ^ 8) % 256), ((l.length - 1) % 256)] ++ l)) / 2 ^ 8) % 256), ((crc 65535 ([(((l.length - 1) / 2 ^ 8) % 256), ((l.length - 1) % 256)] ++ l)) % 256)] ++ ([(((l.length - 1) / 2 ^ 8) % 256), ((l.length - 1) % 256)] ++ l).drop 2).drop 0) := ((Bytes.take hB10).app hB14).app (Bytes.drop hB10)
 refine e_call (by kernel_rfl) (insB ((2 + m) + 2) 0 1 cp10 _ _ _ _ _ (bv_one _) (bv_one _) (by first | omega | (simp only [zll] <;> omega)) (by first | (simp only [zll, Nat.mul_one]; done) | (simp only [zll]; omega) | rfl | (simp; done)) (by first | omega | (simp only [zll] <;> omega)) g15 hZ15 _ hg15 (St.begin (Γ := [_]) hS16)) rfl (after_M (Γ1 := [_]) hS16 (fun v15 G15 w15 hv15 hS15 => ?_))
 clear hS16
 obtain ⟨ad15, cp15, rfl, rfl⟩ := hv15
 have hS17 : St _ _ [.ow 5 1 ad15 (((2 + m) + 2) + 1) cp15 ((bv (([(((l.length - 1) / 2 ^ 8) % 256), ((l.length - 1) % 256)] ++ l).take 2 ++ [(((crc 65535 ([(((l.length - 1) / 2 ^ 8) % 256), ((l.length - 1) % 256)] ++ l)) / 2 ^ 8) % 256), ((crc 65535 ([(((l.length - 1) / 2 ^ 8) % 256), ((l.length - 1) % 256)] ++ l)) % 256)] ++ ([(((l.length - 1) / 2 ^ 8) % 256), ((l.length - 1) % 256)] ++ l).drop 2)).take (0 * 1) ++ (bv [76]) ++ (bv (([(((l.length - 1) / 2 ^ 8) % 256), ((l.length - 1) % 256)] ++ l).take 2 ++ [(((crc 65535 ([(((l.length - 1) / 2 ^ 8) % 256), ((l.length - 1) % 256)] ++ l)) / 2 ^ 8) % 256), ((crc 65535 ([(((l.length - 1) / 2 ^ 8) % 256), ((l.length - 1) % 256)] ++ l)) % 256)] ++ ([(((l.length - 1) / 2 ^ 8) % 256), ((l.length - 1) % 256)] ++ l).drop 2)).drop (0 * 1)), _, _] _ := hS15; clear hS15
 have hS18 : St _ _ [.ow 5 1 ad15 (((2 + m) + 2) + 1) cp15 (bv ((([(((l.length - 1) / 2 ^ 8) % 256), ((l.length - 1) % 256)] ++ l).take 2 ++ [(((crc 65535 ([(((l.length - 1) / 2 ^ 8) % 256), ((l.length - 1) % 256)] ++ l)) / 2 ^ 8) % 256), ((crc 65535 ([(((l.length - 1) / 2 ^ 8) % 256), ((l.length - 1) % 256)] ++ l)) % 256)] ++ ([(((l.length - 1) / 2 ^ 8) % 256), ((l.length - 1) % 256)] ++ l).drop 2).take 0 ++ [76] ++ (([(((l.length - 1) / 2 ^ 8) % 256), ((l.length - 1) % 256)] ++ l).take 2 ++ [(((crc 65535 ([(((l.length - 1) / 2 ^ 8) % 256), ((l.length - 1) % 256)] ++ l)) / 2 ^ 8) % 256), ((crc 65535 ([(((l.length - 1) / 2 ^ 8) % 256), ((l.length - 1) % 256)] ++ l)) % 256)] ++ ([(((l.length - 1) / 2 ^ 8) % 256), ((l.length - 1) % 256)] ++ l).drop 2).drop 0)), _, _] _ := hS17.cast (by rw [ins_bv]); clear hS17
 refine hK _ _ ?_; clear hK K
 refine l_q rfl rfl (q_assignS rfl) ?_
 refine l_nil ?_
 refine hK8 _ _ ?_
 refine wp_ret ?_
 refine c_ret1 rfl rfl ?_
 have hS19 : St _ _ [_] _ := hS18.only 1; clear hS18
 have e1 : ((([(((l.length - 1) / 2 ^ 8) % 256), ((l.length - 1) % 256)] ++ l).take 2 ++ [(((crc 65535 ([(((l.length - 1) / 2 ^ 8) % 256), ((l.length - 1) % 256)] ++ l)) / 2 ^ 8) % 256), ((crc 65535 ([(((l.length - 1) / 2 ^ 8) % 256), ((l.length - 1) % 256)] ++ l)) % 256)] ++ ([(((l.length - 1) / 2 ^ 8) % 256), ((l.length - 1) % 256)] ++ l).drop 2).take 0 ++ [76] ++ (([(((l.length - 1) / 2 ^ 8) % 256), ((l.length - 1) % 256)] ++ l).take 2 ++ [(((crc 65535 ([(((l.length - 1) / 2 ^ 8) % 256), ((l.length - 1) % 256)] ++ l)) / 2 ^ 8) % 256), ((crc 65535 ([(((l.length - 1) / 2 ^ 8) % 256), ((l.length - 1) % 256)] ++ l)) % 256)] ++ ([(((l.length - 1) / 2 ^ 8) % 256), ((l.length - 1) % 256)] ++ l).drop 2).drop 0) = fr l := by simp only [List.take_zero, List.nil_append, List.drop_zero]; rfl
 have e2 : (((2 + m) + 2) + 1) = (fr l).length := by rw [fr_len]; omega
 exact ⟨_, _, rfl, ⟨_, _, congrArg (fun z => Value.slice _ z _) e2, by rw [e1, e2]⟩, hS19⟩
set_option maxRecDepth 100000 in
theorem taken_ok (l : List Nat) (hl : Bytes l) (m : Nat) (hm : l.length = m) (hn : m ≤ 2000000) (ad : Option Addr) (cap : Nat) (hcap : m ≤ cap) (w : World) (hG : SlG (hw w) ad (bv l)) : Calls Try.prog 47 #[.slice ad m cap] w (PostR w fun v => v = .slice (tkA ad cap l) (tkM l) (tkC cap l)) := by
 have hS := St.start w
 subst hm
 refine c_enter Try.func47 rfl rfl rfl ?_
 refine wp_seq_k (fun K1 hK1 => ?_)
 refine wp_region_lit ?_
 refine l_q rfl rfl (q_assignS rfl) ?_
 refine l_nil ?_
 refine hK1 _ _ ?_
 refine wp_seq_k (fun K2 hK2 => ?_)
 refine wp_seq_k (fun K3 hK3 => ?_)
 refine wp_region_lit ?_
 refine l_q rfl rfl (q_moveS rfl) ?_
 refine l_q rfl rfl (q_lenSl (e := 5) rfl (by kernel_rfl)) ?_
 refine l_q rfl rfl (q_leq rfl rfl) ?_
 refine l_q rfl rfl (q_moveB rfl) ?_
 refine g_splitL (t := 9) rfl (fun hg4 => ?_) (fun hg4 => ?_)
 have hg4b := hg4
 try simp only [zbb] at hg4
 have htk : tkN l = none := by unfold tkN; exact if_pos (.inl (by omega))
 refine l_off rfl rfl rfl hg4b ?_
 refine l_off rfl rfl rfl hg4b ?_
 refine l_off rfl rfl rfl hg4b ?_
 refine l_off rfl rfl rfl hg4b ?_
 refine l_q rfl rfl (q_pickT rfl hg4b rfl) ?_
 refine l_nil ?_
 refine hK3 _ _ ?_
 refine c_condT rfl rfl ?_
 refine wp_seq_k (fun K6 hK6 => ?_)
 refine wp_region_lit ?_
 refine l_q rfl rfl (q_assignS rfl) ?_
 refine l_nil ?_
 refine hK6 _ _ ?_
 refine wp_ret ?_
 refine c_ret1 rfl rfl ?_
 exact ⟨_, rfl, tk_none htk, hS.drop⟩
 have hg4b := hg4
 try simp only [zbb] at hg4
 refine l_on rfl rfl hg4b ?_
 refine l_q rfl rfl (q_moveS rfl) ?_
 refine l_on rfl rfl hg4b ?_
 refine l_q rfl rfl (q_ixG (e := 5) (m := 1) (j := 0) rfl rfl (by kernel_rfl) (by kernel_rfl) (by first | rfl | omega) (by omega) hG (by rw [bv_len]; first | omega | (simp only [zll] <;> omega))) ?_
 refine l_on rfl rfl hg4b ?_
 obtain ⟨x0, hx0⟩ : ∃ x, (l)[0]? = some x := ⟨_, List.getElem?_eq_getElem (by first | omega | (simp only [zll] <;> omega) | (simp <;> omega))⟩
 have hb0 : x0 < 256 := hl x0 (List.mem_of_getElem? hx0)
 refine l_q rfl rfl (q_load1 rfl (by kernel_rfl) (SlG.cell (hG.mono hS.base) (Gle.refl _) (at1 (bv_at hx0)))) ?_
 refine l_on rfl rfl hg4b ?_
 refine l_q rfl rfl (q_neq rfl rfl) ?_
 refine l_q rfl rfl (q_pickF rfl hg4b rfl) ?_
 refine l_nil ?_
 refine hK3 _ _ ?_
 refine c_cond rfl (fun hc8 => ?_) (fun hc8 => ?_)
 have hc8b := hc8
 try simp only [zbb] at hc8
 have htk : tkN l = none := by unfold tkN; exact if_pos (.inr (by rw [getD_of hx0]; omega))
 refine wp_seq_k (fun K9 hK9 => ?_)
 refine wp_region_lit ?_
 refine l_q rfl rfl (q_assignS rfl) ?_
 refine l_nil ?_
 refine hK9 _ _ ?_
 refine wp_ret ?_
 refine c_ret1 rfl rfl ?_
 exact ⟨_, rfl, tk_none htk, hS.drop⟩
 have hc8b := hc8
 try simp only [zbb] at hc8
 have hk0 : ¬ (l.length ≤ 5 ∨ l.getD 0 0 ≠ 76) := by rw [getD_of hx0]; omega
 refine wp_skip ?_
 refine hK2 _ _ ?_
 refine wp_seq_k (fun K10 hK10 => ?_)
 refine r_any (by kernel_rfl) hS (fun w11 hS11 => ?_)
 clear hS
 refine o_pure (i := 0) (fun _ _ => trivial) rfl rfl (by kernel_rfl) (goes0 rfl) (QOk.then QOk.body) (fun w => q_moveS rfl) ?_
 refine o_pure (i := 1) (fun _ _ => trivial) rfl rfl (by kernel_rfl) (goes0 rfl) (QOk.then QOk.body) (fun w => q_ixG (e := 5) (m := 1) (j := 1) rfl rfl (by kernel_rfl) (by kernel_rfl) (by first | rfl | omega) (by omega) hG (by rw [bv_len]; first | omega | (simp only [zll] <;> omega))) ?_
 obtain ⟨x1, hx1⟩ : ∃ x, (l)[1]? = some x := ⟨_, List.getElem?_eq_getElem (by first | omega | (simp only [zll] <;> omega) | (simp <;> omega))⟩
 have hb1 : x1 < 256 := hl x1 (List.mem_of_getElem? hx1)
 refine o_held (i := 2) [3, 4, 9, 10, 11] (fun _ _ => trivial) rfl rfl (by kernel_rfl) (goes0 rfl) (QOk.then QOk.body) (q_load1 rfl (by kernel_rfl) (SlG.cell (hG.mono hS11.base) (Gle.refl _) (at1 (bv_at hx1)))) ?_
 refine o_pure (i := 3) (fun j w => ⟨(fun _ _ => trivial) j w, fun _ h => h⟩) rfl rfl (by kernel_rfl) (goes0 rfl) (QOk.then QOk.body) (fun w => q_convN (a := x1) rfl (by kernel_rfl) (by kernel_rfl) (wrap_fit_i64 (by omega))) ?_
 refine o_pure (i := 4) (fun j w => ⟨(fun _ _ => trivial) j w, fun _ h => h⟩) rfl rfl (by kernel_rfl) (goes0 rfl) (QOk.then QOk.body) (fun w => q_shlN (k := .i64) (a := x1) (b := 8) rfl rfl (by decide) (wrap_fit_i64 (by omega))) ?_
 refine o_pure (i := 5) (fun j w => ⟨(fun _ _ => trivial) j w, fun _ h => h⟩) rfl rfl (by kernel_rfl) (goes0 rfl) (QOk.then QOk.body) (fun w => q_moveS rfl) ?_
 refine o_pure (i := 6) (fun j w => ⟨(fun _ _ => trivial) j w, fun _ h => h⟩) rfl rfl (by kernel_rfl) (goes0 rfl) (QOk.then QOk.body) (fun w => q_ixG (e := 5) (m := 1) (j := 2) rfl rfl (by kernel_rfl) (by kernel_rfl) (by first | rfl | omega) (by omega) hG (by rw [bv_len]; first | omega | (simp only [zll] <;> omega))) ?_
 obtain ⟨x2, hx2⟩ : ∃ x, (l)[2]? = some x := ⟨_, List.getElem?_eq_getElem (by first | omega | (simp only [zll] <;> omega) | (simp <;> omega))⟩
 have hb2 : x2 < 256 := hl x2 (List.mem_of_getElem? hx2)
 refine o_held (i := 7) [8, 9, 10, 11] (fun j w => ⟨(fun _ _ => trivial) j w, fun _ h => h⟩) rfl rfl (by kernel_rfl) (goes0 rfl) (QOk.then QOk.body) (q_load1 rfl (by kernel_rfl) (SlG.cell (hG.mono hS11.base) (Gle.refl _) (at1 (bv_at hx2)))) ?_
 refine o_pure (i := 8) (fun j w => ⟨(fun j w => ⟨(fun _ _ => trivial) j w, fun _ h => h⟩) j w, fun _ h => h⟩) rfl rfl (by kernel_rfl) (goes0 rfl) (QOk.then QOk.body) (fun w => q_convN (a := x2) rfl (by kernel_rfl) (by kernel_rfl) (wrap_fit_i64 (by omega))) ?_
 refine o_pure (i := 9) (fun j w => ⟨(fun j w => ⟨(fun _ _ => trivial) j w, fun _ h => h⟩) j w, fun _ h => h⟩) rfl rfl (by kernel_rfl) (goes0 rfl) (QOk.then QOk.body) (fun w => q_addx rfl rfl (by first | decide | omega) (by first | decide | omega)) ?_
 refine o_pure (i := 10) (fun j w => ⟨(fun j w => ⟨(fun _ _ => trivial) j w, fun _ h => h⟩) j w, fun _ h => h⟩) rfl rfl (by kernel_rfl) (goes0 rfl) (QOk.then QOk.body) (fun w => q_addx rfl rfl (by first | decide | omega) (by first | decide | omega)) ?_
 have hn1 : l.getD 1 0 * 2 ^ 8 + l.getD 2 0 + 1 = x1 * 2 ^ 8 + x2 + 1 := by rw [getD_of hx1, getD_of hx2]
 refine o_pure (i := 11) (fun j w => ⟨(fun j w => ⟨(fun _ _ => trivial) j w, fun _ h => h⟩) j w, fun _ h => h⟩) rfl rfl (by kernel_rfl) (goes0 rfl) (QOk.then QOk.body) (fun w => q_assignI rfl) ?_
 refine o_done (by kernel_rfl) ?_
 refine hK10 _ _ ?_
 refine wp_seq_k (fun K14 hK14 => ?_)
 refine wp_seq_k (fun K15 hK15 => ?_)
 refine wp_region_lit ?_
 refine l_q rfl rfl (q_moveI rfl) ?_
 refine l_q rfl rfl (q_gtr rfl rfl) ?_
 refine l_q rfl rfl (q_moveB rfl) ?_
 refine g_splitL (t := 28) rfl (fun hg16 => ?_) (fun hg16 => ?_)
 have hg16b := hg16
 try simp only [zbb] at hg16
 have htk : tkN l = none := by unfold tkN; rw [if_neg hk0, hn1]; exact if_pos (.inl (by omega))
 refine l_off rfl rfl rfl hg16b ?_
 refine l_off rfl rfl rfl hg16b ?_
 refine l_off rfl rfl rfl hg16b ?_
 refine l_off rfl rfl rfl hg16b ?_
 refine l_off rfl rfl rfl hg16b ?_
 refine l_q rfl rfl (q_pickT rfl hg16b rfl) ?_
 refine l_nil ?_
 refine hK15 _ _ ?_
 refine c_condT rfl rfl ?_
 refine wp_seq_k (fun K18 hK18 => ?_)
 refine wp_region_lit ?_
 refine l_q rfl rfl (q_assignS rfl) ?_
 refine l_nil ?_
 refine hK18 _ _ ?_
 refine wp_ret ?_
 refine c_ret1 rfl rfl ?_
 exact ⟨_, rfl, tk_none htk, hS11.drop⟩
 have hg16b := hg16
 try simp only [zbb] at hg16
 refine l_on rfl rfl hg16b ?_
 refine l_q rfl rfl (q_moveS rfl) ?_
 refine l_on rfl rfl hg16b ?_
 refine l_q rfl rfl (q_lenSl (e := 5) rfl (by kernel_rfl)) ?_
 refine l_on rfl rfl hg16b ?_
 refine l_q rfl rfl (q_moveI rfl) ?_
 refine l_on rfl rfl hg16b ?_
 refine l_q rfl rfl (q_addx rfl rfl (by first | decide | omega) (by first | decide | omega)) ?_
 refine l_on rfl rfl hg16b ?_
 refine l_q rfl rfl (q_lss rfl rfl) ?_
 refine l_q rfl rfl (q_pickF rfl hg16b rfl) ?_
 refine l_nil ?_
 refine hK15 _ _ ?_
 refine c_cond rfl (fun hc19 => ?_) (fun hc19 => ?_)
 have hc19b := hc19
 try simp only [zbb] at hc19
 have htk : tkN l = none := by unfold tkN; rw [if_neg hk0, hn1]; exact if_pos (.inr (by omega))
 refine wp_seq_k (fun K20 hK20 => ?_)
 refine wp_region_lit ?_
 refine l_q rfl rfl (q_assignS rfl) ?_
 refine l_nil ?_
 refine hK20 _ _ ?_
 refine wp_ret ?_
 refine c_ret1 rfl rfl ?_
 exact ⟨_, rfl, tk_none htk, hS11.drop⟩
 have hc19b := hc19
 try simp only [zbb] at hc19
 have hk1 : ¬ (4096 < x1 * 2 ^ 8 + x2 + 1 ∨ l.length < 5 + (x1 * 2 ^ 8 + x2 + 1)) := by omega
 refine wp_skip ?_
 refine hK14 _ _ ?_
 refine wp_seq_k (fun K21 hK21 => ?_)
 refine wp_region_lit ?_
 refine l_q rfl rfl (q_moveS rfl) ?_
 refine l_q rfl rfl (q_moveI rfl) ?_
 refine l_q rfl rfl (q_addx rfl rfl (by first | decide | omega) (by first | decide | omega)) ?_
 refine l_q rfl rfl (q_sliceX (e := 5) (size := 1) (l := 5) (h := (5 + (((x1 * 2 ^ 8) + x2) + 1))) (m := cap) (ad' := (subS ad 5 1 cap)) (len' := ((5 + (((x1 * 2 ^ 8) + x2) + 1)) - 5)) (cap' := (cap - 5)) rfl (by kernel_rfl) (by kernel_rfl) rfl ⟨_, int_nat (by first | rfl | omega) rfl⟩ ⟨_, int_nat (by first | rfl | omega) rfl⟩ (by omega) (by first | omega | (simp only [zll] <;> omega)) (by first | omega | (simp only [zll] <;> omega)) rfl rfl rfl rfl) ?_
 refine l_q rfl rfl (q_assignS rfl) ?_
 refine l_nil ?_
 refine hK21 _ _ ?_
 refine wp_seq_k (fun K22 hK22 => ?_)
 refine wp_seq_k (fun K23 hK23 => ?_)
 refine r_any (by kernel_rfl) hS11 (fun w24 hS24 => ?_)
 clear hS11
 refine o_pure (i := 0) (fun _ _ => trivial) rfl rfl (by kernel_rfl) (goes0 rfl) (QOk.then (QOk.then QOk.body)) (fun w => q_moveS rfl) ?_
 refine o_pure (i := 1) (fun _ _ => trivial) rfl rfl (by kernel_rfl) (goes0 rfl) (QOk.then (QOk.then QOk.body)) (fun w => q_ixG (e := 5) (m := 1) (j := 1) rfl rfl (by kernel_rfl) (by kernel_rfl) (by first | rfl | omega) (by omega) hG (by rw [bv_len]; first | omega | (simp only [zll] <;> omega))) ?_
 refine o_held (i := 2) [6, 8, 9, 10] (fun _ _ => trivial) rfl rfl (by kernel_rfl) (goes0 rfl) (QOk.then (QOk.then QOk.body)) (q_load1 rfl (by kernel_rfl) (SlG.cell (hG.mono hS24.base) (Gle.refl _) (at1 (bv_at hx1)))) ?_
 refine o_pure (i := 3) (fun j w => ⟨(fun _ _ => trivial) j w, fun _ h => h⟩) rfl rfl (by kernel_rfl) (goes0 rfl) (QOk.then (QOk.then QOk.body)) (fun w => q_moveS rfl) ?_
 refine o_pure (i := 4) (fun j w => ⟨(fun _ _ => trivial) j w, fun _ h => h⟩) rfl rfl (by kernel_rfl) (goes0 rfl) (QOk.then (QOk.then QOk.body)) (fun w => q_ixG (e := 5) (m := 1) (j := 2) rfl rfl (by kernel_rfl) (by kernel_rfl) (by first | rfl | omega) (by omega) hG (by rw [bv_len]; first | omega | (simp only [zll] <;> omega))) ?_
 refine o_held (i := 5) [6, 8, 9, 10] (fun j w => ⟨(fun _ _ => trivial) j w, fun _ h => h⟩) rfl rfl (by kernel_rfl) (goes0 rfl) (QOk.then (QOk.then QOk.body)) (q_load1 rfl (by kernel_rfl) (SlG.cell (hG.mono hS24.base) (Gle.refl _) (at1 (bv_at hx2)))) ?_
 refine o_pure (i := 7) (fun j w => ⟨(fun j w => ⟨(fun _ _ => trivial) j w, fun _ h => h⟩) j w, fun _ h => h⟩) rfl rfl (by kernel_rfl) (goes0 rfl) (QOk.then (QOk.then QOk.body)) (fun w => q_moveS rfl) ?_
 refine o_eff (i := 6) (by kernel_rfl) rfl (goes0 rfl) (fun K hK => ?_)
 refine e_buildSlice1 (e := 5) (zv := .int .u8 0) (xs := [.tmp 41, .tmp 44]) hS24 (by kernel_rfl) (by kernel_rfl) (by kernel_rfl) rfl rfl rfl rfl (allone (by repeat' (first | exact trivial | refine ⟨by first | rfl | assumption, ?_⟩))) rfl (fun b25 w25 (hS25 : St _ _ [.blk b25 (.cells #[.int .u8 (x1 : Int), .int .u8 (x2 : Int)] 5)] _) => ?_)
 clear hS24
 have hB25 : Bytes [x1, x2] := by intro q hq; simp only [List.mem_cons, List.not_mem_nil, or_false] at hq; omega
 have hS25o : St _ _ [.ow 5 1 (some ⟨b25, 0, none⟩) 2 2 (bv [x1, x2])] _ := hS25.blkOw' (i := 0) (m := 2) (size := 1) (xs := bv [x1, x2]) rfl rfl rfl (by decide); clear hS25
 refine hK _ _ ⟨⟨trivial, fun h => absurd h (by decide)⟩, fun h => absurd h (by decide)⟩ ?_; clear hK K
 refine o_eff (i := 8) (by kernel_rfl) rfl (goes0 rfl) (fun K hK => ?_)
 have hB26 : Bytes ([x1, x2] ++ ((l.drop 5).take ((5 + (((x1 * 2 ^ 8) + x2) + 1)) - 5))) := Bytes.app hB25 (Bytes.sub hl)
 refine e_app (e := 5) (size := 1) (bytes := 1) (i := 0) (m' := (2 + ((5 + (((x1 * 2 ^ 8) + x2) + 1)) - 5))) (by kernel_rfl) hS25o rfl rfl rfl (SlG.src (e := 5) (by kernel_rfl) ((bv_sub (SlG.sub (l := 5) (size := 1) (m := cap) (n := (5 + (((x1 * 2 ^ 8) + x2) + 1)) - 5) hG (by first | omega | (simp only [zll] <;> omega)) (by decide))).mono hS25o.base) (by first | (simp only [zll, Nat.mul_one]; done) | (simp only [zll]; omega) | rfl | (simp; done)) (by decide) (bv_one _)) (by first | omega | (simp only [zll] <;> omega) | (simp; done)) bv_app (by first | omega | (simp only [maxLen, zll] <;> omega) | (simp only [maxLen]; omega)) (by first | omega | (simp only [zll] <;> omega)) (fun ad26 cp26 w26 (hS26 : St _ _ [.ow 5 1 ad26 (2 + ((5 + (((x1 * 2 ^ 8) + x2) + 1)) - 5)) cp26 (bv ([x1, x2] ++ ((l.drop 5).take ((5 + (((x1 * 2 ^ 8) + x2) + 1)) - 5))))] _) => ?_)
 clear hS25o
 refine hK _ _ ⟨⟨trivial, fun h => absurd h (by decide)⟩, fun h => absurd h (by decide)⟩ ?_; clear hK K
 refine o_eff (i := 9) (by kernel_rfl) rfl (goes0 rfl) (fun K hK => ?_)
 refine e_call (by kernel_rfl) (chk_ok ([x1, x2] ++ ((l.drop 5).take ((5 + (((x1 * 2 ^ 8) + x2) + 1)) - 5))) hB26 (2 + ((5 + (((x1 * 2 ^ 8) + x2) + 1)) - 5)) (by first | omega | (simp only [zll] <;> omega)) (by first | omega | (simp only [zll] <;> omega)) _ _ _ (hS26.owG (i := 0) rfl)) rfl (after_R hS26 (fun v27 w27 hv27 hS27 => ?_))
 clear hS26
 obtain rfl := hv27
 refine hK _ _ ⟨⟨trivial, fun h => absurd h (by decide)⟩, fun h => absurd h (by decide)⟩ ?_; clear hK K
 have hcr : crc 65535 (l.getD 1 0 :: l.getD 2 0 :: (l.drop 5).take (x1 * 2 ^ 8 + x2 + 1)) = (crc 65535 ([x1, x2] ++ ((l.drop 5).take ((5 + (((x1 * 2 ^ 8) + x2) + 1)) - 5)))) := by rw [getD_of hx1, getD_of hx2, show 5 + (x1 * 2 ^ 8 + x2 + 1) - 5 = x1 * 2 ^ 8 + x2 + 1 from by omega]; rfl
 refine o_pure (i := 10) (fun j w => ⟨(fun j w => ⟨(fun _ _ => trivial) j w, fun _ h => h⟩) j w, fun _ h => h⟩) rfl rfl (by kernel_rfl) (goes0 rfl) (QOk.then (QOk.then QOk.body)) (fun w => q_assignI rfl) ?_
 refine o_done (by kernel_rfl) ?_
 refine hK23 _ _ ?_
 refine wp_seq_k (fun K28 hK28 => ?_)
 refine wp_region_lit ?_
 refine l_q rfl rfl (q_moveI rfl) ?_
 refine l_q rfl rfl (q_shrN (k := .u16) (a := (crc 65535 ([x1, x2] ++ ((l.drop 5).take ((5 + (((x1 * 2 ^ 8) + x2) + 1)) - 5))))) (b := 8) rfl rfl (by decide)) ?_
 refine l_q rfl rfl (u_conv (a := ((crc 65535 ([x1, x2] ++ ((l.drop 5).take ((5 + (((x1 * 2 ^ 8) + x2) + 1)) - 5)))) / 2 ^ 8)) (k' := .u8) (M := 256) rfl (by kernel_rfl) (by kernel_rfl) rfl (by decide)) ?_
 refine l_q rfl rfl (q_moveS rfl) ?_
 refine l_q rfl rfl (q_ixG (e := 5) (m := 1) (j := 3) rfl rfl (by kernel_rfl) (by kernel_rfl) (by first | rfl | omega) (by omega) hG (by rw [bv_len]; first | omega | (simp only [zll] <;> omega))) ?_
 obtain ⟨x3, hx3⟩ : ∃ x, (l)[3]? = some x := ⟨_, List.getElem?_eq_getElem (by first | omega | (simp only [zll] <;> omega) | (simp <;> omega))⟩
 have hb3 : x3 < 256 := hl x3 (List.mem_of_getElem? hx3)
 refine l_q rfl rfl (q_load1 rfl (by kernel_rfl) (SlG.cell (hG.mono hS27.base) (Gle.refl _) (at1 (bv_at hx3)))) ?_
 refine l_q rfl rfl (q_neq rfl rfl) ?_
 refine l_q rfl rfl (q_moveB rfl) ?_
 refine g_splitL (t := 56) rfl (fun hg30 => ?_) (fun hg30 => ?_)
 have hg30b := hg30
 try simp only [zbb] at hg30
 have htk : tkN l = none := by unfold tkN; rw [if_neg hk0, hn1, if_neg hk1, hcr]; exact if_neg (by rw [getD_of hx3]; omega)
 refine l_off rfl rfl rfl hg30b ?_
 refine l_off rfl rfl rfl hg30b ?_
 refine l_off rfl rfl rfl hg30b ?_
 refine l_off rfl rfl rfl hg30b ?_
 refine l_off rfl rfl rfl hg30b ?_
 refine l_off rfl rfl rfl hg30b ?_
 refine l_q rfl rfl (q_pickT rfl hg30b rfl) ?_
 refine l_nil ?_
 refine hK28 _ _ ?_
 refine c_condT rfl rfl ?_
 refine wp_seq_k (fun K32 hK32 => ?_)
 refine wp_region_lit ?_
 refine l_q rfl rfl (q_assignS rfl) ?_
 refine l_nil ?_
 refine hK32 _ _ ?_
 refine wp_ret ?_
 refine c_ret1 rfl rfl ?_
 exact ⟨_, rfl, tk_none htk, hS27.drop⟩
 have hg30b := hg30
 try simp only [zbb] at hg30
 refine l_on rfl rfl hg30b ?_
 refine l_q rfl rfl (q_moveI rfl) ?_
 refine l_on rfl rfl hg30b ?_
 refine l_q rfl rfl (u_conv (a := (crc 65535 ([x1, x2] ++ ((l.drop 5).take ((5 + (((x1 * 2 ^ 8) + x2) + 1)) - 5))))) (k' := .u8) (M := 256) rfl (by kernel_rfl) (by kernel_rfl) rfl (by decide)) ?_
 refine l_on rfl rfl hg30b ?_
 refine l_q rfl rfl (q_moveS rfl) ?_
 refine l_on rfl rfl hg30b ?_
 refine l_q rfl rfl (q_ixG (e := 5) (m := 1) (j := 4) rfl rfl (by kernel_rfl) (by kernel_rfl) (by first | rfl | omega) (by omega) hG (by rw [bv_len]; first | omega | (simp only [zll] <;> omega))) ?_
 refine l_on rfl rfl hg30b ?_
 obtain ⟨x4, hx4⟩ : ∃ x, (l)[4]? = some x := ⟨_, List.getElem?_eq_getElem (by first | omega | (simp only [zll] <;> omega) | (simp <;> omega))⟩
 have hb4 : x4 < 256 := hl x4 (List.mem_of_getElem? hx4)
 refine l_q rfl rfl (q_load1 rfl (by kernel_rfl) (SlG.cell (hG.mono hS27.base) (Gle.refl _) (at1 (bv_at hx4)))) ?_
 refine l_on rfl rfl hg30b ?_
 refine l_q rfl rfl (q_neq rfl rfl) ?_
 refine l_q rfl rfl (q_pickF rfl hg30b rfl) ?_
 refine l_nil ?_
 refine hK28 _ _ ?_
 refine c_cond rfl (fun hc34 => ?_) (fun hc34 => ?_)
 have hc34b := hc34
 try simp only [zbb] at hc34
 have htk : tkN l = none := by unfold tkN; rw [if_neg hk0, hn1, if_neg hk1, hcr]; exact if_neg (by rw [getD_of hx4]; omega)
 refine wp_seq_k (fun K35 hK35 => ?_)
 refine wp_region_lit ?_
 refine l_q rfl rfl (q_assignS rfl) ?_
 refine l_nil ?_
 refine hK35 _ _ ?_
 refine wp_ret ?_
 refine c_ret1 rfl rfl ?_
 exact ⟨_, rfl, tk_none htk, hS27.drop⟩
 have hc34b := hc34
 try simp only [zbb] at hc34
 have htk : tkN l = some (x1 * 2 ^ 8 + x2 + 1) := by unfold tkN; rw [if_neg hk0, hn1, if_neg hk1, hcr]; exact if_pos (by rw [getD_of hx3, getD_of hx4]; omega)
 refine wp_skip ?_
 refine hK22 _ _ ?_
 refine wp_seq_k (fun K36 hK36 => ?_)
 refine wp_region_lit ?_
 refine l_q rfl rfl (q_moveS rfl) ?_
 refine l_q rfl rfl (q_assignS rfl) ?_
 refine l_nil ?_
 refine hK36 _ _ ?_
 refine wp_ret ?_
 refine c_ret1 rfl rfl ?_
 exact ⟨_, rfl, tk_some htk, hS27.drop⟩
end Go.Proofs.Yteojpdijmnpmgaa
namespace Go.Proofs.Yteojpdijmnpmgaa
open Go.RowKit
/-- A record in memory. -/
structure Rc where
  n : Nat
  ad : Option Addr
  cap : Nat
  b : List Nat
def rc (r : Rc) : List Value := [.int .i64 ((r.n : Nat) : Int), .slice r.ad r.b.length r.cap]
theorem rc_ones : ∀ r : Rc, AllOne (rc r) := fun r => ⟨rfl, rfl, trivial⟩
def Rc.abs (r : Rc) : Nat × List Nat := (r.n, r.b)
/-- The records' bytes are there; numbers and bytes are no more than these. -/
def RsOk (g : Gh) (rs : List Rc) : Prop := ∀ r ∈ rs, SlG g r.ad (bv r.b) ∧ Bytes r.b ∧ r.b.length ≤ 4096 ∧ r.n ≤ 2000000000 ∧ 1 ≤ r.b.length
theorem RsOk.mono {g h : Gh} {rs : List Rc} (hr : RsOk g rs) (hg : Gle g h) : RsOk h rs := fun r hm => ⟨(hr r hm).1.mono hg, (hr r hm).2⟩
theorem RsOk.nil {g : Gh} : RsOk g [] := fun r h => by cases h
theorem RsOk.app {g : Gh} {rs rs' : List Rc} (h : RsOk g rs) (h' : RsOk g rs') : RsOk g (rs ++ rs') := fun r hm => (List.mem_append.1 hm).elim (h r) (h' r)
theorem RsOk.one {g : Gh} {r : Rc} (h : SlG g r.ad (bv r.b) ∧ Bytes r.b ∧ r.b.length ≤ 4096 ∧ r.n ≤ 2000000000 ∧ 1 ≤ r.b.length) : RsOk g [r] := fun x hm => by
  rw [List.mem_singleton] at hm; subst hm; exact h
theorem RsOk.drop {g : Gh} {rs : List Rc} (h : RsOk g rs) {k : Nat} : RsOk g (rs.drop k) := fun r hm => h r (List.mem_of_mem_drop hm)
abbrev wO (kd : Nat) (ad : Option Addr) (m cap : Nat) : Obj := .cells #[.pointer (some ⟨kd, 0, none⟩), .slice ad m cap] 98
def wk (k kd : Nat) (ad : Option Addr) (cap : Nat) (rs : List Rc) : Ch := .pk [.blk k (wO kd ad rs.length cap), .ow 100 2 ad rs.length cap (List.flatMap rc rs)]
section
variable {w0 w : World} {D : Nat → Prop} {Γ : List Ch} {k kd cap : Nat} {ad : Option Addr} {rs : List Rc}
theorem wk_open (h : St w0 D (wk k kd ad cap rs :: Γ) w) : St w0 D (.blk k (wO kd ad rs.length cap) :: .ow 100 2 ad rs.length cap (List.flatMap rc rs) :: Γ) w := h.unpk
theorem wk_close (h : St w0 D (.blk k (wO kd ad rs.length cap) :: .ow 100 2 ad rs.length cap (List.flatMap rc rs) :: Γ) w) : St w0 D (wk k kd ad cap rs :: Γ) w := h.pk
end
/-- The place of a record; -1: there is none. -/
def fIdx (rs : List Rc) (z : Int) : Int := match rs.findIdx? (fun r => decide (((r.n : Nat) : Int) = z)) with | some i => (i : Int) | none => -1
theorem fIdx_at {rs : List Rc} {z : Int} {i : Nat} {r : Rc} (hr : rs[i]? = some r) (hz : ((r.n : Nat) : Int) = z) (hb : ∀ j, j < i → ∀ q, rs[j]? = some q → ((q.n : Nat) : Int) ≠ z) : fIdx rs z = (i : Int) := by
  obtain ⟨hi, hri⟩ := List.getElem?_eq_some_iff.1 hr
  have : rs.findIdx? (fun r => decide (((r.n : Nat) : Int) = z)) = some i := by
    rw [List.findIdx?_eq_some_iff_getElem]
    refine ⟨hi, by rw [hri]; exact decide_eq_true hz, fun j hj => ?_⟩
    rw [Bool.not_eq_true, decide_eq_false_iff_not]
    exact hb j hj _ (List.getElem?_eq_getElem (by omega))
  unfold fIdx; rw [this]
theorem fIdx_no {rs : List Rc} {z : Int} (hb : ∀ j, j < rs.length → ∀ q, rs[j]? = some q → ((q.n : Nat) : Int) ≠ z) : fIdx rs z = -1 := by
  have : rs.findIdx? (fun r => decide (((r.n : Nat) : Int) = z)) = none := by
    rw [List.findIdx?_eq_none_iff]
    intro r hr
    obtain ⟨j, hj, rfl⟩ := List.getElem_of_mem hr
    exact decide_eq_false (hb j hj _ (List.getElem?_eq_getElem hj))
  unfold fIdx; rw [this]
theorem fIdx_lt {rs : List Rc} {z : Int} : -1 ≤ fIdx rs z ∧ fIdx rs z < rs.length := by
  unfold fIdx
  split
  · rename_i i h
    have := (List.findIdx?_eq_some_iff_getElem.1 h).1
    omega
  · omega
attribute [local irreducible] fIdx
attribute [local irreducible] Oper.wp Sem.run Code.wp wpList wpAnyO callFunc execOp Calls
set_option maxRecDepth 100000 in
theorem fc_ok (n m cap kn : Nat) (ad : Option Addr) (z : Int) (w : World) (hk : w.heap[kn]? = some (.cells #[.int .i64 z] 3)) : Calls Try.prog 65 #[.agg #[.int .i64 (n : Int), .slice ad m cap], .pointer (some ⟨kn, 0, none⟩)] w (PostR w fun v => v = .bool (decide ((n : Int) = z))) := by
 have hS := St.start w
 refine c_enter Try.func65 rfl rfl rfl ?_
 refine wp_seq_k (fun K1 hK1 => ?_)
 refine wp_region_lit ?_
 refine l_e rfl (fun K hK => ?_)
 refine e_boxA hS rfl (fun b2 w2 (hS2 : St _ _ [.blk b2 (.cells #[.int .i64 (n : Int), .slice ad m cap] 100)] _) => ?_)
 clear hS
 refine hK _ _ ?_; clear hK K
 refine l_q rfl rfl (q_assignB rfl) ?_
 refine l_nil ?_
 refine hK1 _ _ ?_
 refine wp_seq_k (fun K3 hK3 => ?_)
 refine wp_region_lit ?_
 refine l_q rfl rfl (q_fieldAddr (ft := 3) (o := 0) rfl (by kernel_rfl)) ?_
 refine l_q rfl rfl (q_load1 rfl (by kernel_rfl) (hS2.cell (i := 0) rfl rfl)) ?_
 refine l_q rfl rfl (q_load1 rfl (by kernel_rfl) (cell_blk (hS2.base _ _ hk) rfl)) ?_
 refine l_q rfl rfl (q_eql rfl rfl) ?_
 refine l_q rfl rfl (q_assignB rfl) ?_
 refine l_nil ?_
 refine hK3 _ _ ?_
 refine wp_ret ?_
 refine c_ret1 rfl rfl ?_
 exact ⟨_, rfl, rfl, hS2.drop⟩
set_option maxRecDepth 100000 in
theorem idx_ok (rs : List Rc) (m : Nat) (hm : rs.length = m) (hn : m ≤ 2000000000) (ad : Option Addr) (cap kn : Nat) (z : Int) (w : World) (hG : SlG (hw w) ad (List.flatMap rc rs)) (hk : w.heap[kn]? = some (.cells #[.int .i64 z] 3)) : Calls Try.prog 64 #[.slice ad m cap, .func (.func 65) #[] #[.pointer (some ⟨kn, 0, none⟩)]] w (PostR w fun v => v = .int .i64 (fIdx rs z)) := by
 have hS := St.start w
 subst hm
 refine c_enter Try.func64 rfl rfl rfl ?_
 refine wp_seq_k (fun K1 hK1 => ?_)
 refine wp_region_lit ?_
 refine l_q rfl rfl (q_assignI rfl) ?_
 refine l_nil ?_
 refine hK1 _ _ ?_
 refine wp_seq_k (fun K2 hK2 => ?_)
 refine wp_seq_k (fun K3 hK3 => ?_)
 refine wp_region_lit ?_
 refine l_q rfl rfl (q_moveS rfl) ?_
 refine l_q rfl rfl (q_lenSl (e := 100) rfl (by kernel_rfl)) ?_
 refine l_q rfl rfl (q_moveI rfl) ?_
 refine l_nil ?_
 refine hK3 _ _ ?_
 refine wp_block ?_
 refine c_loop (τ := Nat) [(4, 5), (8, 18)] (fun x => (fun (i : Nat) => [(8, .int .i64 (i : Int))]) x) (fun x w' => (fun (i : Nat) => St w (fun _ => False) [] w' ∧ i ≤ rs.length ∧ ∀ j, j < i → ∀ q, rs[j]? = some q → ((q.n : Nat) : Int) ≠ z) x) (fun x => (fun (i : Nat) => rs.length - i) x) (0) ?_ (by repeat' (first | exact trivial | refine ⟨by first | rfl | exact int_succ _ | assumption, ?_⟩)) (fun i j4 w4 hJ4 K4 hK4 => ?_)
 exact ⟨hS, Nat.zero_le _, fun j hj => by omega⟩
 obtain ⟨hS4, hi, hj⟩ := hJ4
 try dsimp only at hS4 hi hj ⊢
 refine wp_seq_k (fun K5 hK5 => ?_)
 refine wp_region_lit ?_
 refine l_q rfl rfl (q_lss rfl rfl) ?_
 refine l_nil ?_
 refine hK5 _ _ ?_
 refine wp_seq_k (fun K6 hK6 => ?_)
 refine c_cond rfl (fun hc7 => ?_) (fun hc7 => ?_)
 have hc7b := hc7
 try simp only [zbb] at hc7
 refine wp_skip ?_
 refine hK6 _ _ ?_
 refine wp_seq_k (fun K8 hK8 => ?_)
 refine wp_block ?_
 refine wp_seq_k (fun K9 hK9 => ?_)
 refine wp_region_lit ?_
 refine l_q rfl rfl (q_moveI rfl) ?_
 refine l_q rfl rfl (q_assignI rfl) ?_
 refine l_nil ?_
 refine hK9 _ _ ?_
 refine wp_seq_k (fun K10 hK10 => ?_)
 refine wp_region_lit ?_
 refine l_q rfl rfl (q_move rfl) ?_
 refine l_q rfl rfl (q_moveS rfl) ?_
 refine l_q rfl rfl (q_moveI rfl) ?_
 refine l_q rfl rfl (q_ixG (e := 100) (m := 2) (j := i) rfl rfl (by kernel_rfl) (by kernel_rfl) (by first | rfl | omega) (by omega) hG (by rw [rows_len (c := rc) (m := 2) (fun _ => rfl)]; first | omega | (simp only [zll] <;> omega))) ?_
 obtain ⟨x11, hx11⟩ : ∃ x, (rs)[i]? = some x := ⟨_, List.getElem?_eq_getElem (by first | omega | (simp only [zll] <;> omega) | (simp <;> omega))⟩
 refine l_q rfl rfl (q_loadGA (m := 2) rfl (by kernel_rfl) (by kernel_rfl) (hG.mono hS4.base) (row_take hx11 (c := rc) (m := 2) (fun _ => rfl)) rfl (by decide)) ?_
 refine l_e rfl (fun K hK => ?_)
 refine e_callV (by kernel_rfl) rfl (fc_ok _ _ _ kn _ z _ (hS4.base _ _ hk)) rfl (after_R hS4 (fun v12 w12 hv12 hS12 => ?_))
 clear hS4
 obtain rfl := hv12
 refine hK _ _ ?_; clear hK K
 refine l_nil ?_
 refine hK10 _ _ ?_
 refine c_cond rfl (fun hc13 => ?_) (fun hc13 => ?_)
 have hc13b := hc13
 try simp only [zbb] at hc13
 refine wp_seq_k (fun K14 hK14 => ?_)
 refine wp_region_lit ?_
 refine l_q rfl rfl (q_moveI rfl) ?_
 refine l_q rfl rfl (q_assignI rfl) ?_
 refine l_nil ?_
 refine hK14 _ _ ?_
 refine wp_ret ?_
 refine c_ret1 rfl rfl ?_
 exact ⟨_, rfl, congrArg (Value.int .i64) (fIdx_at hx11 (by omega) hj).symm, hS12.drop⟩
 have hc13b := hc13
 try simp only [zbb] at hc13
 refine wp_skip ?_
 refine hK8 _ _ ?_
 refine wp_region_lit ?_
 refine l_q rfl rfl (q_addx rfl rfl (by first | decide | omega) (by first | decide | omega)) ?_
 refine l_q rfl rfl (q_moveI rfl) ?_
 refine l_nil ?_
 refine hK4 _ _ (came ((i + 1)) (by repeat' (first | exact Agree.refl _ _ | refine Agree.up ?_ rfl | refine Agree.hav2 ?_ rfl | refine Agree.ups2 ?_ rfl)) (by repeat' (first | exact trivial | refine ⟨by first | rfl | exact int_succ _ | assumption, ?_⟩)) ?_)
 exact ⟨⟨hS12, by (show i + 1 ≤ rs.length); omega, fun j hj' q hq => by
       have hj' : j < i + 1 := hj'
       by_cases hji : j = i
       · subst hji; rw [hx11] at hq; injection hq with hq; subst hq; omega
       · exact hj j (by omega) q hq⟩, by (show rs.length - (i + 1) < rs.length - i); omega⟩
 have hc7b := hc7
 try simp only [zbb] at hc7
 refine wp_exit ?_
 refine hK2 _ _ ?_
 refine wp_seq_k (fun K15 hK15 => ?_)
 refine wp_region_lit ?_
 refine l_q rfl rfl (q_assignI rfl) ?_
 refine l_nil ?_
 refine hK15 _ _ ?_
 refine wp_ret ?_
 refine c_ret1 rfl rfl ?_
 exact ⟨_, rfl, congrArg (Value.int .i64) (fIdx_no (fun j hj' q hq => hj j (by omega) q hq)).symm, hS4.drop⟩
set_option maxRecDepth 100000 in
theorem find_ok (k kd : Nat) (ad : Option Addr) (cap : Nat) (rs : List Rc) (z : Int) (hn : rs.length ≤ 2000000000) (w : World) (hS : St w (owns [wk k kd ad cap rs]) [wk k kd ad cap rs] w) : Calls Try.prog 50 #[pV k, .int .i64 z] w (Post w [wk k kd ad cap rs] fun v G => v = .int .i64 (fIdx rs z) ∧ G = [wk k kd ad cap rs]) := by
 refine c_enter Try.func50 rfl rfl rfl ?_
 refine wp_seq_k (fun K1 hK1 => ?_)
 refine wp_region_lit ?_
 refine l_e rfl (fun K hK => ?_)
 refine e_box hS rfl (fun b2 w2 (hS2 : St _ _ [.blk b2 (.cells #[.int .i64 z] 3), wk k kd ad cap rs] _) => ?_)
 clear hS
 refine hK _ _ ?_; clear hK K
 refine l_q rfl rfl (q_assignI rfl) ?_
 refine l_nil ?_
 refine hK1 _ _ ?_
 refine wp_seq_k (fun K3 hK3 => ?_)
 have hS4 := hS2.fr1; clear hS2
 have hS5 := wk_open hS4; clear hS4
 refine wp_region_lit ?_
 refine l_q rfl rfl (q_moveP rfl) ?_
 refine l_q rfl rfl (q_nilCheck rfl) ?_
 refine l_q rfl rfl (q_fieldAddr (ft := 96) (o := 1) rfl (by kernel_rfl)) ?_
 refine l_q rfl rfl (q_load1 rfl (by kernel_rfl) (hS5.cell (i := 0) rfl rfl)) ?_
 refine l_q rfl rfl (q_makeFunc) ?_
 refine l_e rfl (fun K hK => ?_)
 refine e_call (by kernel_rfl) (idx_ok rs rs.length rfl hn _ _ _ z _ (hS5.owG (i := 1) rfl) (hS5.blk (i := 2) rfl)) rfl (after_R hS5 (fun v6 w6 hv6 hS6 => ?_))
 clear hS5
 obtain rfl := hv6
 refine hK _ _ ?_; clear hK K
 refine l_q rfl rfl (q_assignI rfl) ?_
 refine l_nil ?_
 refine hK3 _ _ ?_
 refine wp_ret ?_
 refine c_ret1 rfl rfl ?_
 have hS7 := wk_close hS6; clear hS6
 have hS8 : St _ _ [_] _ := hS7.only 1; clear hS7
 exact ⟨_, _, rfl, ⟨rfl, rfl⟩, hS8⟩
end Go.Proofs.Yteojpdijmnpmgaa
namespace Go.Proofs.Yteojpdijmnpmgaa
open Go.RowKit
def nums (rs : List Rc) : List Int := rs.map fun r => ((r.n : Nat) : Int)
theorem nums_snoc {rs : List Rc} {i : Nat} {r : Rc} (h : rs[i]? = some r) : nums (rs.take i) ++ [((r.n : Nat) : Int)] = nums (rs.take (i + 1)) := by
  rw [List.take_add_one, h]; simp [nums]
theorem nums_len (rs : List Rc) : (nums rs).length = rs.length := List.length_map ..
/-- How many records end at or ahead of an offset. -/
def cnt (lim : Nat) (rs : List Rc) : Nat := rs.countP fun r => decide (r.n + 5 + r.b.length ≤ lim)
/-- What a number's record is. -/
def rdO (R : List (Nat × List Nat)) (z : Int) : Option (List Nat) := (R.find? fun r => decide (((r.1 : Nat) : Int) = z)).map (·.2)
def rdB (R : List (Nat × List Nat)) (z : Int) : List Nat := (rdO R z).getD []
def rdE (R : List (Nat × List Nat)) (z : Int) : Nat := if (rdO R z).isSome then 0 else 71
theorem fIdx_rd {rs : List Rc} {z : Int} {i : Nat} {r : Rc} (h : fIdx rs z = (i : Int)) (hr : rs[i]? = some r) : ((r.n : Nat) : Int) = z ∧ rdO (rs.map Rc.abs) z = some r.b := by
  unfold fIdx at h
  split at h
  · rename_i j hj
    obtain rfl : j = i := by omega
    obtain ⟨hlt, h1, h2⟩ := List.findIdx?_eq_some_iff_getElem.1 hj
    have hrr : rs[j] = r := (List.getElem?_eq_some_iff.1 hr).2
    rw [hrr] at h1
    refine ⟨of_decide_eq_true h1, ?_⟩
    have : (rs.map Rc.abs).find? (fun r => decide (((r.1 : Nat) : Int) = z)) = some r.abs := by
      have hf : rs.find? ((fun r : Nat × List Nat => decide (((r.1 : Nat) : Int) = z)) ∘ Rc.abs) = some r := List.find?_eq_some_iff_getElem.2 ⟨h1, j, hlt, hrr, fun q hq => by
        have h3 := h2 q hq
        rw [Bool.not_eq_true] at h3
        exact congrArg (fun b => !b) h3⟩
      rw [List.find?_map, hf]; rfl
    unfold rdO; rw [this]; rfl
  · omega
theorem fIdx_no_rd {rs : List Rc} {z : Int} (h : fIdx rs z < 0) : rdO (rs.map Rc.abs) z = none := by
  unfold fIdx at h
  split at h
  · omega
  · rename_i hj
    rw [List.findIdx?_eq_none_iff] at hj
    have : (rs.map Rc.abs).find? (fun r => decide (((r.1 : Nat) : Int) = z)) = none := by
      have hf : rs.find? ((fun r : Nat × List Nat => decide (((r.1 : Nat) : Int) = z)) ∘ Rc.abs) = none := List.find?_eq_none.2 (fun x hx h => Bool.noConfusion ((hj x hx).symm.trans h))
      rw [List.find?_map, hf]; rfl
    unfold rdO; rw [this]; rfl
attribute [local irreducible] Oper.wp Sem.run Code.wp wpList wpAnyO callFunc execOp Calls
set_option maxRecDepth 100000 in
theorem wSync_ok (k kd : Nat) (ad : Option Addr) (cap : Nat) (rs : List Rc) (da : Option Addr) (dc : Nat) (l : List Nat) (b s : Nat) (w : World) (hS : St w (owns [wk k kd ad cap rs, dk kd da dc l b s]) [wk k kd ad cap rs, dk kd da dc l b s] w) : Calls Try.prog 32 #[pV k] w (Post w [wk k kd ad cap rs, dk kd da dc l b s] fun v G => v = .int .i64 0 ∧ G = [wk k kd ad cap rs, dk kd da dc l b l.length]) := by
 refine c_enter Try.func32 rfl rfl rfl ?_
 refine wp_seq_k (fun K1 hK1 => ?_)
 have hS2 := wk_open hS; clear hS
 refine wp_region_lit ?_
 refine l_q rfl rfl (q_assignI rfl) ?_
 refine l_nil ?_
 refine hK1 _ _ ?_
 refine wp_seq_k (fun K3 hK3 => ?_)
 refine wp_seq_k (fun K4 hK4 => ?_)
 refine wp_region_lit ?_
 refine l_q rfl rfl (q_moveP rfl) ?_
 refine l_q rfl rfl (q_peq rfl (by kernel_rfl)) ?_
 refine l_nil ?_
 refine hK4 _ _ ?_
 refine c_condF rfl rfl ?_
 refine wp_skip ?_
 refine hK3 _ _ ?_
 refine wp_seq_k (fun K6 hK6 => ?_)
 refine wp_region_lit ?_
 refine l_q rfl rfl (q_moveP rfl) ?_
 refine l_q rfl rfl (q_nilCheck rfl) ?_
 refine l_q rfl rfl (q_fieldAddr (ft := 30) (o := 0) rfl (by kernel_rfl)) ?_
 refine l_q rfl rfl (q_load1 rfl (by kernel_rfl) (hS2.cell (i := 0) rfl rfl)) ?_
 refine l_e rfl (fun K hK => ?_)
 have hS8 := hS2.fr2; clear hS2
 refine e_call (by kernel_rfl) (dSync_ok _ _ _ _ _ _  _ (St.begin (Γ := [_]) hS8)) rfl (after_M (Γ1 := [_]) hS8 (fun v7 G7 w7 hv7 hS7 => ?_))
 clear hS8
 obtain ⟨rfl, rfl⟩ := hv7
 have hS9 : St _ _ [dk kd da dc l b l.length, .blk k (.cells #[.pointer (some ⟨kd, 0, none⟩), .slice ad rs.length cap] 98), .ow 100 2 ad rs.length cap (List.flatMap rc rs)] _ := hS7; clear hS7
 refine hK _ _ ?_; clear hK K
 refine l_q rfl rfl (q_assignI rfl) ?_
 refine l_nil ?_
 refine hK6 _ _ ?_
 refine wp_ret ?_
 refine c_ret1 rfl rfl ?_
 have hS10 := hS9.fr2; clear hS9
 have hS11 := hS10.fr2; clear hS10
 have hS12 := wk_close hS11; clear hS11
 exact ⟨_, _, rfl, ⟨rfl, rfl⟩, hS12⟩
set_option maxRecDepth 100000 in
theorem wNumbers_ok (k kd : Nat) (ad : Option Addr) (cap : Nat) (rs : List Rc) (hn : rs.length ≤ 2000000000) (w : World) (hS : St w (owns [wk k kd ad cap rs]) [wk k kd ad cap rs] w) : Calls Try.prog 26 #[pV k] w (Post w [wk k kd ad cap rs] fun v G => ∃ ad' cap', v = .slice ad' rs.length cap' ∧ G = [.ow 3 1 ad' rs.length cap' (iv (nums rs)), wk k kd ad cap rs]) := by
 refine c_enter Try.func26 rfl rfl rfl ?_
 refine wp_seq_k (fun K1 hK1 => ?_)
 have hS2 := wk_open hS; clear hS
 refine wp_region_lit ?_
 refine l_q rfl rfl (q_assignS rfl) ?_
 refine l_nil ?_
 refine hK1 _ _ ?_
 refine wp_seq_k (fun K3 hK3 => ?_)
 refine wp_seq_k (fun K4 hK4 => ?_)
 refine wp_region_lit ?_
 refine l_q rfl rfl (q_moveP rfl) ?_
 refine l_q rfl rfl (q_peq rfl (by kernel_rfl)) ?_
 refine l_nil ?_
 refine hK4 _ _ ?_
 refine c_condF rfl rfl ?_
 refine wp_skip ?_
 refine hK3 _ _ ?_
 refine wp_seq_k (fun K6 hK6 => ?_)
 refine wp_region_lit ?_
 refine l_q rfl rfl (q_assignS rfl) ?_
 refine l_nil ?_
 refine hK6 _ _ ?_
 refine wp_seq_k (fun K7 hK7 => ?_)
 refine wp_seq_k (fun K8 hK8 => ?_)
 refine wp_region_lit ?_
 refine l_q rfl rfl (q_moveP rfl) ?_
 refine l_q rfl rfl (q_nilCheck rfl) ?_
 refine l_q rfl rfl (q_fieldAddr (ft := 96) (o := 1) rfl (by kernel_rfl)) ?_
 refine l_q rfl rfl (q_load1 rfl (by kernel_rfl) (hS2.cell (i := 0) rfl rfl)) ?_
 refine l_q rfl rfl (q_lenSl (e := 100) rfl (by kernel_rfl)) ?_
 refine l_q rfl rfl (q_moveI rfl) ?_
 refine l_nil ?_
 refine hK8 _ _ ?_
 refine wp_block ?_
 have hS9 : St _ _ [.ow 3 1 none 0 0 (iv (nums (rs.take 0))), .blk k (.cells #[.pointer (some ⟨kd, 0, none⟩), .slice ad rs.length cap] 98), .ow 100 2 ad rs.length cap (List.flatMap rc rs)] _ := hS2.ow_nil 3 1; clear hS2
 have hS10 := hS9.fr2; clear hS9
 have hS11 := hS10.fr2; clear hS10
 refine c_loop (τ := Nat × (Option Addr) × Nat) [(3, 3), (5, 5), (13, 22)] (fun x => (fun (i : Nat) (oa : Option Addr) (oc : Nat) => [(3, .slice oa i oc), (13, .int .i64 (i : Int))]) x.1 x.2.1 x.2.2) (fun x w' => (fun (i : Nat) (oa : Option Addr) (oc : Nat) => St w (owns [wk k kd ad cap rs]) [.blk k (.cells #[.pointer (some ⟨kd, 0, none⟩), .slice ad rs.length cap] 98), .ow 100 2 ad rs.length cap (List.flatMap rc rs), .ow 3 1 oa i oc (iv (nums (rs.take i)))] w' ∧ i ≤ rs.length) x.1 x.2.1 x.2.2) (fun x => (fun (i : Nat) (oa : Option Addr) (oc : Nat) => rs.length - i) x.1 x.2.1 x.2.2) (⟨0, none, 0⟩) ?_ (by repeat' (first | exact trivial | refine ⟨by first | rfl | exact int_succ _ | assumption, ?_⟩)) (fun x12 j12 w12 hJ12 K12 hK12 => ?_)
 exact ⟨hS11, Nat.zero_le _⟩
 obtain ⟨i, oa, oc⟩ := x12
 obtain ⟨hS12, hi⟩ := hJ12
 try dsimp only at hS12 hi ⊢
 refine wp_seq_k (fun K13 hK13 => ?_)
 refine wp_region_lit ?_
 refine l_q rfl rfl (q_lss rfl rfl) ?_
 refine l_nil ?_
 refine hK13 _ _ ?_
 refine wp_seq_k (fun K14 hK14 => ?_)
 refine c_cond rfl (fun hc15 => ?_) (fun hc15 => ?_)
 have hc15b := hc15
 try simp only [zbb] at hc15
 refine wp_skip ?_
 refine hK14 _ _ ?_
 refine wp_seq_k (fun K16 hK16 => ?_)
 refine wp_block ?_
 refine wp_seq_k (fun K17 hK17 => ?_)
 refine wp_region_lit ?_
 refine l_q rfl rfl (q_ixG (e := 100) (m := 2) (j := i) rfl rfl (by kernel_rfl) (by kernel_rfl) (by first | rfl | omega) (by omega) (hS12.owG (i := 1) rfl) (by rw [rows_len (c := rc) (m := 2) (fun _ => rfl)]; first | omega | (simp only [zll] <;> omega))) ?_
 obtain ⟨x18, hx18⟩ : ∃ x, (rs)[i]? = some x := ⟨_, List.getElem?_eq_getElem (by first | omega | (simp only [zll] <;> omega) | (simp <;> omega))⟩
 refine l_q rfl rfl (q_loadGA (m := 2) rfl (by kernel_rfl) (by kernel_rfl) (hS12.owG (i := 1) rfl) (row_take hx18 (c := rc) (m := 2) (fun _ => rfl)) rfl (by decide)) ?_
 refine l_e rfl (fun K hK => ?_)
 refine e_alloc (zv := .agg #[.int .i64 0, .slice none 0 0]) hS12 (by kernel_rfl) (fun b19 w19 (hS19 : St _ _ [.blk b19 (.cells #[.int .i64 (0 : Int), .slice none 0 0] 100), _, _, .ow 3 1 oa i oc (iv (nums (rs.take i)))] _) => ?_)
 clear hS12
 refine hK _ _ ?_; clear hK K
 refine l_e rfl (fun K hK => ?_)
 refine e_storeA hS19 rfl rfl (by kernel_rfl) (by repeat' (first | exact trivial | refine ⟨by first | rfl | assumption | exact one_if (by assumption), ?_⟩)) (i := 0) rfl rfl (fun w20 (hS20 : St _ _ [.blk b19 (.cells #[.int .i64 ((x18.n : Nat) : Int), .slice x18.ad x18.b.length x18.cap] 100), _, _, _] _) => ?_)
 clear hS19
 refine hK _ _ ?_; clear hK K
 refine l_nil ?_
 refine hK17 _ _ ?_
 refine wp_region_lit ?_
 refine l_q rfl rfl (q_moveS rfl) ?_
 refine l_q rfl rfl (q_fieldAddr (ft := 3) (o := 0) rfl (by kernel_rfl)) ?_
 refine l_q rfl rfl (q_load1 rfl (by kernel_rfl) (hS20.cell (i := 0) rfl rfl)) ?_
 refine l_e rfl (fun K hK => ?_)
 refine e_buildSlice1 (e := 3) (zv := .int .i64 0) (xs := [.tmp 19]) hS20 (by kernel_rfl) (by kernel_rfl) (by kernel_rfl) rfl rfl rfl rfl (allone (by repeat' (first | exact trivial | refine ⟨by first | rfl | assumption, ?_⟩))) rfl (fun b21 w21 (hS21 : St _ _ [.blk b21 (.cells #[.int .i64 ((x18.n : Nat) : Int)] 3), _, _, _, _] _) => ?_)
 clear hS20
 have hS21o : St _ _ [.ow 3 1 (some ⟨b21, 0, none⟩) 1 1 (iv [((x18.n : Nat) : Int)]), _, _, _, _] _ := hS21.blkOw' (i := 0) (m := 1) (size := 1) (xs := iv [((x18.n : Nat) : Int)]) rfl rfl rfl (by decide); clear hS21
 refine hK _ _ ?_; clear hK K
 refine l_e rfl (fun K hK => ?_)
 refine e_app (e := 3) (size := 1) (bytes := 8) (i := 4) (m' := (i + 1)) (by kernel_rfl) hS21o rfl rfl rfl (SlG.src (e := 3) (by kernel_rfl) (hS21o.owG (i := 0) rfl) (by first | (simp only [zll, Nat.mul_one]; done) | (simp only [zll]; omega) | rfl | (simp; done)) (by decide) (iv_one _)) (by first | omega | (simp only [zll] <;> omega) | (simp; done)) iv_app (by first | omega | (simp only [maxLen, zll] <;> omega) | (simp only [maxLen]; omega)) (by first | omega | (simp only [zll] <;> omega)) (fun ad22 cp22 w22 (hS22 : St _ _ [_, _, _, _, .ow 3 1 ad22 (i + 1) cp22 (iv ((nums (rs.take i)) ++ [((x18.n : Nat) : Int)]))] _) => ?_)
 clear hS21o
 refine hK _ _ ?_; clear hK K
 refine l_q rfl rfl (q_assignS rfl) ?_
 refine l_nil ?_
 refine hK16 _ _ ?_
 refine wp_region_lit ?_
 refine l_q rfl rfl (q_addx rfl rfl (by first | decide | omega) (by first | decide | omega)) ?_
 refine l_q rfl rfl (q_moveI rfl) ?_
 refine l_nil ?_
 have hS23 := hS22.fr4; clear hS22
 have hS24 := hS23.fr4; clear hS23
 have hS25 := hS24.fr4; clear hS24
 have hS26 : St _ _ [_, _, _] _ := hS25.only 3; clear hS25
 refine hK12 _ _ (came (⟨(i + 1), ad22, cp22⟩) (by repeat' (first | exact Agree.refl _ _ | refine Agree.up ?_ rfl | refine Agree.hav2 ?_ rfl | refine Agree.ups2 ?_ rfl)) (by repeat' (first | exact trivial | refine ⟨by first | rfl | exact int_succ _ | assumption, ?_⟩)) ?_)
 exact ⟨⟨hS26.cast (by rw [nums_snoc hx18]), by (show i + 1 ≤ rs.length); omega⟩, by (show rs.length - (i + 1) < rs.length - i); omega⟩
 have hc15b := hc15
 try simp only [zbb] at hc15
 obtain rfl : i = rs.length := by omega
 refine wp_exit ?_
 refine hK7 _ _ ?_
 refine wp_seq_k (fun K27 hK27 => ?_)
 refine wp_region_lit ?_
 refine l_q rfl rfl (q_moveS rfl) ?_
 refine l_q rfl rfl (q_assignS rfl) ?_
 refine l_nil ?_
 refine hK27 _ _ ?_
 refine wp_ret ?_
 refine c_ret1 rfl rfl ?_
 have hS28 := wk_close hS12; clear hS12
 have hS29 := hS28.fr1; clear hS28
 exact ⟨_, _, rfl, ⟨_, _, rfl, by rw [List.take_length]⟩, hS29⟩
set_option maxRecDepth 100000 in
theorem wRead_ok (k kd : Nat) (ad : Option Addr) (cap : Nat) (rs : List Rc) (g : Gh) (hn : rs.length ≤ 2000000000) (hR : RsOk g rs) (z : Int) (w : World) (hS : St w (owns [wk k kd ad cap rs, .fz g]) [wk k kd ad cap rs, .fz g] w) : Calls Try.prog 27 #[pV k, .int .i64 z] w (Post w [wk k kd ad cap rs, .fz g] fun v G => ∃ ad' cap', v = .tuple #[.slice ad' (rdB (rs.map Rc.abs) z).length cap', .int .i64 ((rdE (rs.map Rc.abs) z : Nat) : Int)] ∧ G = [.ow 5 1 ad' (rdB (rs.map Rc.abs) z).length cap' (bv (rdB (rs.map Rc.abs) z)), wk k kd ad cap rs, .fz g]) := by
 refine c_enter Try.func27 rfl rfl rfl ?_
 refine wp_seq_k (fun K1 hK1 => ?_)
 refine wp_region_lit ?_
 refine l_q rfl rfl (q_assignS rfl) ?_
 refine l_q rfl rfl (q_assignI rfl) ?_
 refine l_nil ?_
 refine hK1 _ _ ?_
 refine wp_seq_k (fun K2 hK2 => ?_)
 refine wp_seq_k (fun K3 hK3 => ?_)
 refine wp_region_lit ?_
 refine l_q rfl rfl (q_moveP rfl) ?_
 refine l_q rfl rfl (q_peq rfl (by kernel_rfl)) ?_
 refine l_nil ?_
 refine hK3 _ _ ?_
 refine c_condF rfl rfl ?_
 refine wp_skip ?_
 refine hK2 _ _ ?_
 refine wp_seq_k (fun K5 hK5 => ?_)
 refine wp_region_lit ?_
 refine l_q rfl rfl (q_moveP rfl) ?_
 refine l_q rfl rfl (q_moveI rfl) ?_
 refine l_e rfl (fun K hK => ?_)
 refine e_call (by kernel_rfl) (find_ok _ _ _ _ rs z (by first | omega | (simp only [zll] <;> omega)) _ (St.begin (Γ := [_]) hS)) rfl (after_M (Γ1 := [_]) hS (fun v6 G6 w6 hv6 hS6 => ?_))
 clear hS
 obtain ⟨rfl, rfl⟩ := hv6
 have hS7 : St _ _ [wk k kd ad cap rs, .fz g] _ := hS6; clear hS6
 refine hK _ _ ?_; clear hK K
 refine l_q rfl rfl (q_assignI rfl) ?_
 refine l_nil ?_
 refine hK5 _ _ ?_
 refine wp_seq_k (fun K8 hK8 => ?_)
 refine wp_seq_k (fun K9 hK9 => ?_)
 refine wp_region_lit ?_
 refine l_q rfl rfl (q_moveI rfl) ?_
 refine l_q rfl rfl (q_lss rfl rfl) ?_
 refine l_nil ?_
 refine hK9 _ _ ?_
 refine c_cond rfl (fun hc10 => ?_) (fun hc10 => ?_)
 have hc10b := hc10
 try simp only [zbb] at hc10
 have hrd := fIdx_no_rd (rs := rs) (z := z) (by omega)
 refine wp_seq_k (fun K11 hK11 => ?_)
 refine wp_region_lit ?_
 refine l_q rfl rfl (q_assignS rfl) ?_
 refine l_q rfl rfl (q_assignI rfl) ?_
 refine l_nil ?_
 refine hK11 _ _ ?_
 refine wp_ret ?_
 refine c_ret2 rfl rfl rfl ?_
 have hS12 : St _ _ [.ow 5 1 none 0 0 (bv []), _, .fz g] _ := hS7.ow_nil 5 1; clear hS7
 exact ⟨_, _, rfl, ⟨none, 0, by rw [rdB, rdE, hrd]; rfl, by rw [rdB, hrd]; rfl⟩, hS12⟩
 have hc10b := hc10
 try simp only [zbb] at hc10
 obtain ⟨q, hq⟩ : ∃ q : Nat, fIdx rs z = (q : Int) := ⟨(fIdx rs z).toNat, by omega⟩
 have hql := fIdx_lt (rs := rs) (z := z)
 refine wp_skip ?_
 refine hK8 _ _ ?_
 refine wp_seq_k (fun K13 hK13 => ?_)
 refine wp_region_lit ?_
 refine l_q rfl rfl (q_moveP rfl) ?_
 refine l_q rfl rfl (q_nilCheck rfl) ?_
 refine l_q rfl rfl (q_fieldAddr (ft := 96) (o := 1) rfl (by kernel_rfl)) ?_
 have hS14 := wk_open hS7; clear hS7
 refine l_q rfl rfl (q_load1 rfl (by kernel_rfl) (hS14.cell (i := 0) rfl rfl)) ?_
 refine l_q rfl rfl (q_moveI rfl) ?_
 refine l_q rfl rfl (q_ixG (e := 100) (m := 2) (j := q) rfl rfl (by kernel_rfl) (by kernel_rfl) (by first | rfl | omega) (by omega) (hS14.owG (i := 1) rfl) (by rw [rows_len (c := rc) (m := 2) (fun _ => rfl)]; first | omega | (simp only [zll] <;> omega))) ?_
 refine l_q rfl rfl (q_fieldG (ft := 58) (o := 1) rfl (by kernel_rfl)) ?_
 obtain ⟨x15, hx15⟩ : ∃ x, (rs)[q]? = some x := ⟨_, List.getElem?_eq_getElem (by first | omega | (simp only [zll] <;> omega) | (simp <;> omega))⟩
 have hr_x15 := hR x15 (List.mem_of_getElem? hx15)
 refine l_q rfl rfl (q_load1 rfl (by kernel_rfl) (SlG.cell (hS14.owG (i := 1) rfl) (Gle.refl _) (row_at hx15 (c := rc) (m := 2) (fun _ => rfl) (j := 1) rfl))) ?_
 have hrd := (fIdx_rd hq hx15).2
 refine l_e rfl (fun K hK => ?_)
 refine e_call (by kernel_rfl) (Clone_ok x15.b _ _ x15.b.length (by first | omega | (simp only [zll] <;> omega)) (by first | omega | (simp only [zll] <;> omega)) _ ((hR x15 (List.mem_of_getElem? hx15)).1.mono (hS14.fz (i := 2) rfl))) rfl (after_N hS14 (fun v16 G16 w16 hv16 hS16 => ?_))
 clear hS14
 obtain ⟨ad16, cp16, rfl, rfl⟩ := hv16
 have hS17 : St _ _ [.ow 5 1 ad16 x15.b.length cp16 (bv x15.b), .blk k (.cells #[.pointer (some ⟨kd, 0, none⟩), .slice ad rs.length cap] 98), .ow 100 2 ad rs.length cap (List.flatMap rc rs), .fz g] _ := hS16; clear hS16
 refine hK _ _ ?_; clear hK K
 refine l_q rfl rfl (q_assignS rfl) ?_
 refine l_q rfl rfl (q_assignI rfl) ?_
 refine l_nil ?_
 refine hK13 _ _ ?_
 refine wp_ret ?_
 refine c_ret2 rfl rfl rfl ?_
 have hS18 := hS17.fr2; clear hS17
 have hS19 := hS18.fr2; clear hS18
 have hS20 := wk_close hS19; clear hS19
 have hS21 := hS20.fr2; clear hS20
 have hS22 := hS21.fr1; clear hS21
 have hS23 := hS22.fr2; clear hS22
 exact ⟨_, _, rfl, ⟨_, _, by rw [rdB, rdE, hrd]; rfl, by rw [rdB, hrd]; rfl⟩, hS23⟩
end Go.Proofs.Yteojpdijmnpmgaa
namespace Go.Proofs.Yteojpdijmnpmgaa
open Go.RowKit
/-- What W1's Append leaves and answers. -/
def waOk (m : List Nat) : Prop := 1 ≤ m.length ∧ m.length ≤ 4096
instance (m : List Nat) : Decidable (waOk m) := inferInstanceAs (Decidable (_ ∧ _))
def waE (l m : List Nat) : Nat := if waOk m then apE l (fr m) else 1
def waN (l m : List Nat) (b : Nat) : Nat := if waOk m then apN l (fr m) b else 0
def waL (l m : List Nat) : List Nat := if waOk m then apL l (fr m) else l
def waR (R : List (Nat × List Nat)) (l m : List Nat) (b : Nat) : List (Nat × List Nat) := if waOk m ∧ apE l (fr m) = 0 then R ++ [(b + l.length, m)] else R
theorem apE_0 {l m : List Nat} {b : Nat} (h : apE l m = 0) : apN l m b = b + l.length ∧ l.length + m.length ≤ 1048576 := by
  unfold apE at h
  unfold apN
  split at h
  · rename_i hh; exact ⟨if_pos hh, hh⟩
  · cases h
theorem apN_no {l m : List Nat} {b : Nat} (h : apE l m ≠ 0) : apN l m b = 0 := by
  unfold apE at h
  unfold apN
  split at h
  · exact absurd rfl h
  · rename_i hh; exact if_neg hh
attribute [local irreducible] Oper.wp Sem.run Code.wp wpList wpAnyO callFunc execOp Calls
attribute [local irreducible] fIdx drE apE apN apL fr
set_option maxHeartbeats 1000000 in
set_option maxRecDepth 100000 in
theorem wAppend_ok (k kd : Nat) (ad : Option Addr) (cap : Nat) (rs : List Rc) (da : Option Addr) (dc : Nat) (l : List Nat) (b s : Nat) (g : Gh) (hn : rs.length ≤ 1000000) (hl : Bytes l) (hb : b + l.length ≤ 1000000000) (hs : s ≤ l.length) (hR : RsOk g rs) (g2 : Gh) (m : List Nat) (hm : Bytes m) (am : Option Addr) (cm : Nat) (hml : m.length ≤ 1000000) (hM : SlG g2 am (bv m)) (w : World) (hg : Rog [wk k kd ad cap rs, dk kd da dc l b s, .fz g] w g2) (hS : St w (owns [wk k kd ad cap rs, dk kd da dc l b s, .fz g]) [wk k kd ad cap rs, dk kd da dc l b s, .fz g] w) : Calls Try.prog 30 #[pV k, .slice am m.length cm] w (Post w [wk k kd ad cap rs, dk kd da dc l b s, .fz g] fun v G => ∃ ad' cap' rs' da' dc' g', v = .tuple #[.int .i64 ((waN l m b : Nat) : Int), .int .i64 ((waE l m : Nat) : Int)] ∧ G = [wk k kd ad' cap' rs', dk kd da' dc' (waL l m) b s, .fz g'] ∧ Gle g g' ∧ RsOk g' rs' ∧ rs'.map Rc.abs = waR (rs.map Rc.abs) l m b) := by
 refine c_enter Try.func30 rfl rfl rfl ?_
 refine wp_seq_k (fun K1 hK1 => ?_)
 have hS2 := wk_open hS; clear hS
 refine wp_region_lit ?_
 refine l_q rfl rfl (q_assignI rfl) ?_
 refine l_q rfl rfl (q_assignI rfl) ?_
 refine l_nil ?_
 refine hK1 _ _ ?_
 refine wp_seq_k (fun K3 hK3 => ?_)
 refine wp_seq_k (fun K4 hK4 => ?_)
 refine wp_region_lit ?_
 refine l_q rfl rfl (q_moveP rfl) ?_
 refine l_q rfl rfl (q_peq rfl (by kernel_rfl)) ?_
 refine l_q rfl rfl (q_moveB rfl) ?_
 refine l_on rfl rfl rfl ?_
 refine l_q rfl rfl (q_moveS rfl) ?_
 refine l_on rfl rfl rfl ?_
 refine l_q rfl rfl (q_lenSl (e := 5) rfl (by kernel_rfl)) ?_
 refine l_on rfl rfl rfl ?_
 refine l_q rfl rfl (q_eql rfl rfl) ?_
 refine l_q rfl rfl (q_pickF rfl rfl rfl) ?_
 refine l_q rfl rfl (q_moveB rfl) ?_
 refine g_splitL (t := 15) rfl (fun hg5 => ?_) (fun hg5 => ?_)
 have hg5b := hg5
 try simp only [zbb] at hg5
 have hx : ¬ waOk m := by unfold waOk; omega
 refine l_off rfl rfl rfl hg5b ?_
 refine l_off rfl rfl rfl hg5b ?_
 refine l_off rfl rfl rfl hg5b ?_
 refine l_q rfl rfl (q_pickT rfl hg5b rfl) ?_
 refine l_nil ?_
 refine hK4 _ _ ?_
 refine c_condT rfl rfl ?_
 refine wp_seq_k (fun K7 hK7 => ?_)
 refine wp_region_lit ?_
 refine l_q rfl rfl (q_assignI rfl) ?_
 refine l_q rfl rfl (q_assignI rfl) ?_
 refine l_nil ?_
 refine hK7 _ _ ?_
 refine wp_ret ?_
 refine c_ret2 rfl rfl rfl ?_
 have hS8 := wk_close hS2; clear hS2
 exact ⟨_, _, rfl, ⟨ad, cap, rs, _, _, g, by rw [waE, waN, if_neg hx, if_neg hx]; rfl, by rw [waL, if_neg hx], Gle.refl g, hR, by rw [waR, if_neg (fun h => hx h.1)]⟩, hS8⟩
 have hg5b := hg5
 try simp only [zbb] at hg5
 refine l_on rfl rfl hg5b ?_
 refine l_q rfl rfl (q_moveS rfl) ?_
 refine l_on rfl rfl hg5b ?_
 refine l_q rfl rfl (q_lenSl (e := 5) rfl (by kernel_rfl)) ?_
 refine l_on rfl rfl hg5b ?_
 refine l_q rfl rfl (q_gtr rfl rfl) ?_
 refine l_q rfl rfl (q_pickF rfl hg5b rfl) ?_
 refine l_nil ?_
 refine hK4 _ _ ?_
 refine c_cond rfl (fun hc9 => ?_) (fun hc9 => ?_)
 have hc9b := hc9
 try simp only [zbb] at hc9
 have hx : ¬ waOk m := by unfold waOk; omega
 refine wp_seq_k (fun K10 hK10 => ?_)
 refine wp_region_lit ?_
 refine l_q rfl rfl (q_assignI rfl) ?_
 refine l_q rfl rfl (q_assignI rfl) ?_
 refine l_nil ?_
 refine hK10 _ _ ?_
 refine wp_ret ?_
 refine c_ret2 rfl rfl rfl ?_
 have hS11 := wk_close hS2; clear hS2
 exact ⟨_, _, rfl, ⟨ad, cap, rs, _, _, g, by rw [waE, waN, if_neg hx, if_neg hx]; rfl, by rw [waL, if_neg hx], Gle.refl g, hR, by rw [waR, if_neg (fun h => hx h.1)]⟩, hS11⟩
 have hc9b := hc9
 try simp only [zbb] at hc9
 have hx : waOk m := by unfold waOk; omega
 have hx' := hx
 unfold waOk at hx'
 have hfl := fr_len m
 refine wp_skip ?_
 refine hK3 _ _ ?_
 refine wp_seq_k (fun K12 hK12 => ?_)
 refine r_any (by kernel_rfl) hS2 (fun w13 hS13 => ?_)
 clear hS2
 refine o_pure (i := 0) (fun _ _ => trivial) rfl rfl (by kernel_rfl) (goes0 rfl) (QOk.then QOk.body) (fun w => q_moveP rfl) ?_
 refine o_pure (i := 1) (fun _ _ => trivial) rfl rfl (by kernel_rfl) (goes0 rfl) (QOk.then QOk.body) (fun w => q_nilCheck rfl) ?_
 refine o_pure (i := 2) (fun _ _ => trivial) rfl rfl (by kernel_rfl) (goes0 rfl) (QOk.then QOk.body) (fun w => q_fieldAddr (ft := 30) (o := 0) rfl (by kernel_rfl)) ?_
 refine o_held (i := 3) [6, 7, 8, 9, 10, 11] (fun _ _ => trivial) rfl rfl (by kernel_rfl) (goes0 rfl) (QOk.then QOk.body) (q_load1 rfl (by kernel_rfl) (hS13.cell (i := 0) rfl rfl)) ?_
 refine o_pure (i := 4) (fun j w => ⟨(fun _ _ => trivial) j w, fun _ h => h⟩) rfl rfl (by kernel_rfl) (goes0 rfl) (QOk.then QOk.body) (fun w => q_moveS rfl) ?_
 refine o_eff (i := 5) (by kernel_rfl) rfl (goes0 rfl) (fun K hK => ?_)
 have hB14 : Bytes (fr m) := fr_bytes hm
 refine e_call (by kernel_rfl) (frame_ok m hm m.length (by first | omega | (simp only [zll] <;> omega)) (by first | omega | (simp only [zll] <;> omega)) (by first | omega | (simp only [zll] <;> omega)) _ _ _ (hM.mono (hg.le hS13))) rfl (after_N hS13 (fun v14 G14 w14 hv14 hS14 => ?_))
 clear hS13
 obtain ⟨ad14, cp14, rfl, rfl⟩ := hv14
 have hS15 : St _ _ [.ow 5 1 ad14 ((fr m).length) cp14 (bv (fr m)), .blk k (.cells #[.pointer (some ⟨kd, 0, none⟩), .slice ad rs.length cap] 98), .ow 100 2 ad rs.length cap (List.flatMap rc rs), dk kd da dc l b s, .fz g] _ := hS14; clear hS14
 refine hK _ _ ⟨trivial, fun _ _ => by first | exact q_load1 rfl (by kernel_rfl) (hS15.cell (i := 1) rfl rfl)⟩ ?_; clear hK K
 refine o_eff (i := 6) (by kernel_rfl) rfl (goes0 rfl) (fun K hK => ?_)
 have hS17 := hS15.fr3; clear hS15
 obtain ⟨g18, hg18, hG18⟩ := St.rogO (Γ1 := [_]) (i := 0) hS17 rfl
 refine e_call (by kernel_rfl) (dAppend_ok _ _ _ _ _ _ hl (by first | omega | (simp only [zll] <;> omega)) (by first | omega | (simp only [zll] <;> omega)) _ _ (fr m) hB14 _ _ hG18 _ hg18 (by first | omega | (simp only [zll] <;> omega)) (by first | omega | (simp only [zll] <;> omega)) (St.begin (Γ := [_]) hS17)) rfl (after_M (Γ1 := [_]) hS17 (fun v16 G16 w16 hv16 hS16 => ?_))
 clear hS17
 obtain ⟨ad16, cp16, rfl, rfl⟩ := hv16
 have hS19 : St _ _ [dk kd ad16 cp16 (apL l (fr m)) b s, _, _, _, .fz g] _ := hS16; clear hS16
 have hB16 : Bytes (apL l (fr m)) := apL_bytes hl hB14
 have hL16 := apL_len l (fr m)
 refine hK _ _ ⟨trivial, fun h => absurd h (by decide)⟩ ?_; clear hK K
 refine o_pure (i := 7) (fun j w => ⟨(fun _ _ => trivial) j w, fun _ h => h⟩) rfl rfl (by kernel_rfl) (goes0 rfl) (QOk.then QOk.body) (fun w => q_move rfl) ?_
 refine o_pure (i := 8) (fun j w => ⟨(fun _ _ => trivial) j w, fun _ h => h⟩) rfl rfl (by kernel_rfl) (goes0 rfl) (QOk.then QOk.body) (fun w => q_extract rfl rfl) ?_
 refine o_pure (i := 9) (fun j w => ⟨(fun _ _ => trivial) j w, fun _ h => h⟩) rfl rfl (by kernel_rfl) (goes0 rfl) (QOk.then QOk.body) (fun w => q_extract rfl rfl) ?_
 refine o_pure (i := 10) (fun j w => ⟨(fun _ _ => trivial) j w, fun _ h => h⟩) rfl rfl (by kernel_rfl) (goes0 rfl) (QOk.then QOk.body) (fun w => q_assignI rfl) ?_
 refine o_pure (i := 11) (fun j w => ⟨(fun _ _ => trivial) j w, fun _ h => h⟩) rfl rfl (by kernel_rfl) (goes0 rfl) (QOk.then QOk.body) (fun w => q_assignI rfl) ?_
 refine o_done (by kernel_rfl) ?_
 refine hK12 _ _ ?_
 refine wp_seq_k (fun K20 hK20 => ?_)
 refine wp_seq_k (fun K21 hK21 => ?_)
 refine wp_region_lit ?_
 refine l_q rfl rfl (q_moveI rfl) ?_
 refine l_q rfl rfl (q_neq rfl rfl) ?_
 refine l_nil ?_
 refine hK21 _ _ ?_
 refine c_cond rfl (fun hc22 => ?_) (fun hc22 => ?_)
 have hc22b := hc22
 try simp only [zbb] at hc22
 have he : apE l (fr m) ≠ 0 := by omega
 refine wp_seq_k (fun K23 hK23 => ?_)
 refine wp_region_lit ?_
 refine l_q rfl rfl (q_moveI rfl) ?_
 refine l_q rfl rfl (q_assignI rfl) ?_
 refine l_q rfl rfl (q_assignI rfl) ?_
 refine l_nil ?_
 refine hK23 _ _ ?_
 refine wp_ret ?_
 refine c_ret2 rfl rfl rfl ?_
 have hS24 := hS19.fr3; clear hS19
 have hS25 := hS24.fr3; clear hS24
 have hS26 := wk_close hS25; clear hS25
 have hS27 := hS26.fr3; clear hS26
 have hS28 := hS27.fr2; clear hS27
 have hS29 := hS28.fr2; clear hS28
 have hS30 : St _ _ [wk k kd ad cap rs, _, .fz g] _ := hS29.only 3; clear hS29
 exact ⟨_, _, rfl, ⟨ad, cap, rs, _, _, g, by rw [waE, waN, if_pos hx, if_pos hx, apN_no he]; rfl, by rw [waL, if_pos hx], Gle.refl g, hR, by rw [waR, if_neg (fun h => he h.2)]⟩, hS30⟩
 have hc22b := hc22
 try simp only [zbb] at hc22
 have he : apE l (fr m) = 0 := by omega
 obtain ⟨hN, hroom⟩ := apE_0 (b := b) he
 refine wp_skip ?_
 refine hK20 _ _ ?_
 refine wp_seq_k (fun K31 hK31 => ?_)
 refine r_any (by kernel_rfl) hS19 (fun w32 hS32 => ?_)
 clear hS19
 refine o_pure (i := 0) (fun _ _ => trivial) rfl rfl (by kernel_rfl) (goes0 rfl) (QOk.then QOk.body) (fun w => q_moveP rfl) ?_
 refine o_pure (i := 1) (fun _ _ => trivial) rfl rfl (by kernel_rfl) (goes0 rfl) (QOk.then QOk.body) (fun w => q_moveP rfl) ?_
 refine o_pure (i := 2) (fun _ _ => trivial) rfl rfl (by kernel_rfl) (goes0 rfl) (QOk.then QOk.body) (fun w => q_nilCheck rfl) ?_
 refine o_pure (i := 3) (fun _ _ => trivial) rfl rfl (by kernel_rfl) (goes0 rfl) (QOk.then QOk.body) (fun w => q_fieldAddr (ft := 96) (o := 1) rfl (by kernel_rfl)) ?_
 refine o_held (i := 4) [10, 11, 12, 13] (fun _ _ => trivial) rfl rfl (by kernel_rfl) (goes0 rfl) (QOk.then QOk.body) (q_load1 rfl (by kernel_rfl) (hS32.cell (i := 2) rfl rfl)) ?_
 refine o_pure (i := 5) (fun j w => ⟨(fun _ _ => trivial) j w, fun _ h => h⟩) rfl rfl (by kernel_rfl) (goes0 rfl) (QOk.then QOk.body) (fun w => q_moveI rfl) ?_
 refine o_pure (i := 6) (fun j w => ⟨(fun _ _ => trivial) j w, fun _ h => h⟩) rfl rfl (by kernel_rfl) (goes0 rfl) (QOk.then QOk.body) (fun w => q_moveS rfl) ?_
 refine o_eff (i := 7) (by kernel_rfl) rfl (goes0 rfl) (fun K hK => ?_)
 refine e_call (by kernel_rfl) (Clone_ok m _ _ m.length (by first | omega | (simp only [zll] <;> omega)) (by first | omega | (simp only [zll] <;> omega)) _ (hM.mono (hg.le hS32))) rfl (after_N hS32 (fun v33 G33 w33 hv33 hS33 => ?_))
 clear hS32
 obtain ⟨ad33, cp33, rfl, rfl⟩ := hv33
 have hS34 : St _ _ [.ow 5 1 ad33 m.length cp33 (bv m), _, _, _, _, .fz g] _ := hS33; clear hS33
 refine hK _ _ ⟨trivial, fun _ _ => by first | exact q_load1 rfl (by kernel_rfl) (hS34.cell (i := 3) rfl rfl)⟩ ?_; clear hK K
 refine o_pure (i := 8) (fun j w => ⟨(fun _ _ => trivial) j w, fun _ h => h⟩) rfl rfl (by kernel_rfl) (goes0 rfl) (QOk.then QOk.body) (fun w => q_build (ps := [(0, 1), (1, 1)]) (zv := .agg #[.int .i64 0, .slice none 0 0]) (by kernel_rfl) (by kernel_rfl) rfl (by repeat' (first | exact trivial | refine ⟨fun _ => by first | rfl | assumption | exact one_if (by assumption), ?_⟩ | refine ⟨fun ⟨_, h⟩ => by simp at h, ?_⟩)) rfl) ?_
 refine o_eff (i := 9) (by kernel_rfl) rfl (goes0 rfl) (fun K hK => ?_)
 have hS35 := hS34.fr5; clear hS34
 have hS36 := hS35.fr1; clear hS35
 obtain ⟨g37, hle37, hfz37, hS37⟩ := hS36.freezeOw; clear hS36
 refine e_buildSliceA (e := 100) (m := 2) (zv := .agg #[.int .i64 0, .slice none 0 0]) hS37 (by kernel_rfl) (by kernel_rfl) (by kernel_rfl) rfl rfl rfl rfl (fun b38 w38 (hS38 : St _ _ [.blk b38 (.cells #[.int .i64 (((apN l (fr m) b) : Nat) : Int), .slice ad33 m.length cp33] 100), .fz g37, _, _, _, _] _) => ?_)
 clear hS37
 have hS38o : St _ _ [.ow 100 2 (some ⟨b38, 0, none⟩) 1 1 (List.flatMap rc [Rc.mk (apN l (fr m) b) ad33 cp33 m]), .fz g37, _, _, _, _] _ := hS38.blkOw' (i := 0) (m := 1) (size := 2) (xs := List.flatMap rc [Rc.mk (apN l (fr m) b) ad33 cp33 m]) rfl rfl rfl (by decide); clear hS38
 refine hK _ _ ⟨trivial, fun _ _ => by first | exact q_load1 rfl (by kernel_rfl) (hS38o.cell (i := 4) rfl rfl)⟩ ?_; clear hK K
 refine o_eff (i := 10) (by kernel_rfl) rfl (goes0 rfl) (fun K hK => ?_)
 refine e_app (e := 100) (size := 2) (bytes := 32) (i := 5) (m' := (rs ++ [Rc.mk (apN l (fr m) b) ad33 cp33 m]).length) (by kernel_rfl) hS38o rfl rfl rfl (SlG.src (e := 100) (by kernel_rfl) (hS38o.owG (i := 0) rfl) ((rows_len (c := rc) (m := 2) (fun _ => rfl) _).trans (by first | rfl | (simp only [zll]; done) | (simp only [zll]; omega) | omega)) (by decide) (rows_one rc_ones)) (by first | omega | (simp only [zll] <;> omega) | (simp; done)) rows_app (by first | omega | (simp only [maxLen, zll] <;> omega) | (simp only [maxLen]; omega)) (by first | omega | (simp only [zll] <;> omega)) (fun ad39 cp39 w39 (hS39 : St _ _ [_, .fz g37, _, _, _, .ow 100 2 ad39 ((rs ++ [Rc.mk (apN l (fr m) b) ad33 cp33 m]).length) cp39 (List.flatMap rc (rs ++ [Rc.mk (apN l (fr m) b) ad33 cp33 m]))] _) => ?_)
 clear hS38o
 refine hK _ _ ⟨trivial, fun h => absurd h (by decide)⟩ ?_; clear hK K
 refine o_pure (i := 11) (fun j w => ⟨(fun _ _ => trivial) j w, fun _ h => h⟩) rfl rfl (by kernel_rfl) (goes0 rfl) (QOk.then QOk.body) (fun w => q_nilCheck rfl) ?_
 refine o_pure (i := 12) (fun j w => ⟨(fun _ _ => trivial) j w, fun _ h => h⟩) rfl rfl (by kernel_rfl) (goes0 rfl) (QOk.then QOk.body) (fun w => q_fieldAddr (ft := 96) (o := 1) rfl (by kernel_rfl)) ?_
 refine o_eff (i := 13) (by kernel_rfl) rfl (goes0 rfl) (fun K hK => ?_)
 refine e_store1 hS39 rfl rfl (by kernel_rfl) (by first | rfl | assumption) (i := 4) rfl rfl (fun w40 (hS40 : St _ _ [_, .fz g37, _, _, .blk k (.cells #[.pointer (some ⟨kd, 0, none⟩), .slice ad39 ((rs ++ [Rc.mk (apN l (fr m) b) ad33 cp33 m]).length) cp39] 98), _] _) => ?_)
 clear hS39
 refine hK _ _ ⟨trivial, fun h => absurd h (by decide)⟩ ?_; clear hK K
 refine o_done (by kernel_rfl) ?_
 refine hK31 _ _ ?_
 refine wp_seq_k (fun K41 hK41 => ?_)
 refine wp_region_lit ?_
 refine l_q rfl rfl (q_moveI rfl) ?_
 refine l_q rfl rfl (q_assignI rfl) ?_
 refine l_q rfl rfl (q_assignI rfl) ?_
 refine l_nil ?_
 refine hK41 _ _ ?_
 refine wp_ret ?_
 refine c_ret2 rfl rfl rfl ?_
 have hS42 := hS40.fr5; clear hS40
 have hS43 := hS42.fr5; clear hS42
 have hS44 := wk_close hS43; clear hS43
 have hS45 := hS44.fr2; clear hS44
 have hS46 := hS45.fr3; clear hS45
 have hS47 := hS46.fr2; clear hS46
 have hS48 : St _ _ [wk k kd ad39 cp39 (rs ++ [Rc.mk (apN l (fr m) b) ad33 cp33 m]), _, .fz g37] _ := hS47.only 3; clear hS47
 exact ⟨_, _, rfl, ⟨_, _, _, _, _, g37, by rw [waE, waN, if_pos hx, if_pos hx, he]; rfl, by rw [waL, if_pos hx], hle37, (hR.mono hle37).app (RsOk.one ⟨hfz37, hm, hx'.2, (show apN l (fr m) b ≤ 2000000000 by omega), hx'.1⟩), by rw [waR, if_pos ⟨hx, he⟩, List.map_append, hN]; rfl⟩, hS48⟩
end Go.Proofs.Yteojpdijmnpmgaa
namespace Go.Proofs.Yteojpdijmnpmgaa
open Go.RowKit
/-- The records at the beginning of bytes, and how many bytes they have (W1). -/
def scanF : Nat → List Nat → Nat → List (Nat × List Nat) × Nat
  | 0, _, _ => ([], 0)
  | f + 1, l, at' => match tkN l with
    | none => ([], 0)
    | some n => ((at', (l.drop 5).take n) :: (scanF f (l.drop (5 + n)) (at' + (5 + n))).1, 5 + n + (scanF f (l.drop (5 + n)) (at' + (5 + n))).2)
theorem tkN_le {l : List Nat} {n : Nat} (h : tkN l = some n) : 1 ≤ n ∧ n ≤ 4096 ∧ 5 + n ≤ l.length := by
  unfold tkN at h
  split at h
  · cases h
  · split at h
    · cases h
    · split at h
      · injection h with h; subst h; omega
      · cases h
theorem scanF_fuel : ∀ (f g : Nat) (l : List Nat) (a : Nat), l.length ≤ f → l.length ≤ g → scanF f l a = scanF g l a
  | 0, 0, l, a, _, _ => rfl
  | 0, g + 1, l, a, h, _ => by
    have hl : l = [] := List.eq_nil_of_length_eq_zero (by omega)
    subst hl; rfl
  | f + 1, 0, l, a, _, h => by
    have hl : l = [] := List.eq_nil_of_length_eq_zero (by omega)
    subst hl; rfl
  | f + 1, g + 1, l, a, hf, hg => by
    unfold scanF
    cases h : tkN l with
    | none => rfl
    | some n =>
      have := tkN_le h
      have ih := scanF_fuel f g (l.drop (5 + n)) (a + (5 + n)) (by rw [List.length_drop]; omega) (by rw [List.length_drop]; omega)
      simp only [ih]
def scan (l : List Nat) (a : Nat) : List (Nat × List Nat) × Nat := scanF l.length l a
theorem scan_none {l : List Nat} {a : Nat} (h : tkN l = none) : scan l a = ([], 0) := by
  unfold scan
  cases hl : l.length with
  | zero => rfl
  | succ f => unfold scanF; rw [h]
theorem scan_some {l : List Nat} {a n : Nat} (h : tkN l = some n) : scan l a = ((a, (l.drop 5).take n) :: (scan (l.drop (5 + n)) (a + (5 + n))).1, 5 + n + (scan (l.drop (5 + n)) (a + (5 + n))).2) := by
  have hle := tkN_le h
  have hl : l.length = (l.length - 1) + 1 := by omega
  have key : ∀ f : Nat, scanF (f + 1) l a = match tkN l with
      | none => ([], 0)
      | some n => ((a, (l.drop 5).take n) :: (scanF f (l.drop (5 + n)) (a + (5 + n))).1, 5 + n + (scanF f (l.drop (5 + n)) (a + (5 + n))).2) := fun f => rfl
  unfold scan
  rw [hl, key, h]
  simp only
  rw [scanF_fuel (l.length - 1) (l.drop (5 + n)).length _ _ (by rw [List.length_drop]; omega) (Nat.le_refl _)]
theorem scan_le : ∀ (f : Nat) (l : List Nat) (a : Nat), l.length ≤ f → (scan l a).2 ≤ l.length
  | f, l, a, hf => by
    cases h : tkN l with
    | none => rw [scan_none h]; exact Nat.zero_le _
    | some n =>
      have hle := tkN_le h
      rw [scan_some h]
      cases f with
      | zero => omega
      | succ f =>
        have := scan_le f (l.drop (5 + n)) (a + (5 + n)) (by rw [List.length_drop]; omega)
        rw [List.length_drop] at this
        show 5 + n + _ ≤ _
        omega
theorem tk_isnone {ad : Option Addr} {cap : Nat} {l : List Nat} (hc : l.length ≤ cap) {g : Gh} (hG : SlG g ad (bv l)) : (tkA ad cap l).isNone = (tkN l).isNone := by
  unfold tkA
  cases h : tkN l with
  | none => rfl
  | some n =>
    have hle := tkN_le h
    obtain ⟨b, off, rfl⟩ := hG.place (by rw [bv_len]; omega)
    simp [subS]
    split <;> rfl
theorem ct_at {l : List Nat} {b s o : Nat} {z : Int} (hz : z = ((b + o : Nat) : Int)) (ho : o ≤ l.length) : drE b l.length z = 0 ∧ ctL l b z = l.take o ∧ ctS l b s z = o := by
  subst hz
  have h : drOk b l.length ((b + o : Nat) : Int) := by unfold drOk; omega
  unfold drE ctL ctS
  rw [if_pos h, if_pos h, if_pos h]
  have : ((b + o : Nat) : Int).toNat - b = o := by omega
  rw [this]; exact ⟨rfl, rfl, rfl⟩
attribute [local irreducible] Oper.wp Sem.run Code.wp wpList wpAnyO callFunc execOp Calls
attribute [local irreducible] fIdx drE apE apN apL fr tkN tkA tkM tkC scan
set_option maxHeartbeats 2000000 in
set_option maxRecDepth 100000 in
theorem wOpen_ok (kd : Nat) (da : Option Addr) (dc : Nat) (l : List Nat) (b s : Nat) (g : Gh) (hl : Bytes l) (hb : b + l.length ≤ 1000000000) (hs : s ≤ l.length) (hlm : l.length ≤ 1048576) (w : World) (hS : St w (owns [dk kd da dc l b s, .fz g]) [dk kd da dc l b s, .fz g] w) : Calls Try.prog 25 #[pV kd] w (Post w [dk kd da dc l b s, .fz g] fun v G => ∃ k ad' cap' rs da' dc' g', v = .tuple #[pV k, .int .i64 0] ∧ G = [wk k kd ad' cap' rs, dk kd da' dc' (l.take (scan l b).2) b (scan l b).2, .fz g'] ∧ Gle g g' ∧ RsOk g' rs ∧ rs.map Rc.abs = (scan l b).1) := by
 refine c_enter Try.func25 rfl rfl rfl ?_
 refine wp_seq_k (fun K1 hK1 => ?_)
 refine wp_region_lit ?_
 refine l_q rfl rfl (q_assignP rfl) ?_
 refine l_q rfl rfl (q_assignI rfl) ?_
 refine l_nil ?_
 refine hK1 _ _ ?_
 refine wp_seq_k (fun K2 hK2 => ?_)
 refine wp_seq_k (fun K3 hK3 => ?_)
 refine wp_region_lit ?_
 refine l_q rfl rfl (q_moveP rfl) ?_
 refine l_q rfl rfl (q_peq rfl (by kernel_rfl)) ?_
 refine l_nil ?_
 refine hK3 _ _ ?_
 refine c_condF rfl rfl ?_
 refine wp_skip ?_
 refine hK2 _ _ ?_
 refine wp_seq_k (fun K5 hK5 => ?_)
 refine wp_region_lit ?_
 refine l_q rfl rfl (q_moveP rfl) ?_
 refine l_q rfl rfl (q_moveP rfl) ?_
 refine l_e rfl (fun K hK => ?_)
 refine e_call (by kernel_rfl) (dBegin_ok _ _ _ _ _ _  _ (St.begin (Γ := [_]) hS)) rfl (after_M (Γ1 := [_]) hS (fun v6 G6 w6 hv6 hS6 => ?_))
 clear hS
 obtain ⟨rfl, rfl⟩ := hv6
 have hS7 : St _ _ [dk kd da dc l b s, .fz g] _ := hS6; clear hS6
 refine hK _ _ ?_; clear hK K
 refine l_q rfl rfl (q_moveP rfl) ?_
 refine l_e rfl (fun K hK => ?_)
 refine e_call (by kernel_rfl) (dEnd_ok _ _ _ _ _ _ hl (by first | omega | (simp; omega)) (by first | omega | (simp; omega)) _ (St.begin (Γ := [_]) hS7)) rfl (after_M (Γ1 := [_]) hS7 (fun v8 G8 w8 hv8 hS8 => ?_))
 clear hS7
 obtain ⟨rfl, rfl⟩ := hv8
 have hS9 : St _ _ [_, .fz g] _ := hS8; clear hS8
 refine hK _ _ ?_; clear hK K
 refine l_e rfl (fun K hK => ?_)
 refine e_call (by kernel_rfl) (dReadAll _ _ _ _ _ _ hl (by first | omega | (simp only [zll] <;> omega)) (by first | omega | (simp only [zll] <;> omega)) _ (St.begin (Γ := [_]) hS9)) rfl (after_M (Γ1 := [_]) hS9 (fun v10 G10 w10 hv10 hS10 => ?_))
 clear hS9
 obtain ⟨ad10, cp10, rfl, rfl⟩ := hv10
 have hS11 : St _ _ [.ow 5 1 ad10 l.length cp10 (bv l), _, .fz g] _ := hS10; clear hS10
 refine hK _ _ ?_; clear hK K
 refine l_q rfl rfl (q_move rfl) ?_
 refine l_q rfl rfl (q_extract rfl rfl) ?_
 refine l_q rfl rfl (q_extract rfl rfl) ?_
 refine l_q rfl rfl (q_assignS rfl) ?_
 refine l_q rfl rfl (q_assignI rfl) ?_
 refine l_nil ?_
 refine hK5 _ _ ?_
 refine wp_seq_k (fun K12 hK12 => ?_)
 refine wp_seq_k (fun K13 hK13 => ?_)
 refine wp_region_lit ?_
 refine l_q rfl rfl (q_moveI rfl) ?_
 refine l_q rfl rfl (q_neq rfl rfl) ?_
 refine l_nil ?_
 refine hK13 _ _ ?_
 refine c_condF rfl (by decide) ?_
 refine wp_skip ?_
 refine hK12 _ _ ?_
 refine wp_seq_k (fun K15 hK15 => ?_)
 refine wp_region_lit ?_
 refine l_q rfl rfl (q_moveP rfl) ?_
 refine l_q rfl rfl (q_build (ps := [(0, 1), (1, 1)]) (zv := .agg #[.pointer none, .slice none 0 0]) (by kernel_rfl) (by kernel_rfl) rfl (by repeat' (first | exact trivial | refine ⟨fun _ => by first | rfl | assumption | exact one_if (by assumption), ?_⟩ | refine ⟨fun ⟨_, h⟩ => by simp at h, ?_⟩)) rfl) ?_
 refine l_e rfl (fun K hK => ?_)
 refine e_boxA hS11 rfl (fun b16 w16 (hS16 : St _ _ [.blk b16 (.cells #[.pointer (some ⟨kd, 0, none⟩), .slice none 0 0] 98), _, _, .fz g] _) => ?_)
 clear hS11
 refine hK _ _ ?_; clear hK K
 refine l_q rfl rfl (q_assignP rfl) ?_
 refine l_nil ?_
 refine hK15 _ _ ?_
 refine wp_seq_k (fun K17 hK17 => ?_)
 refine wp_region_lit ?_
 refine l_q rfl rfl (q_moveP rfl) ?_
 refine l_e rfl (fun K hK => ?_)
 have hS19 := hS16.fr2; clear hS16
 refine e_call (by kernel_rfl) (dBegin_ok _ _ _ _ _ _  _ (St.begin (Γ := [_]) hS19)) rfl (after_M (Γ1 := [_]) hS19 (fun v18 G18 w18 hv18 hS18 => ?_))
 clear hS19
 obtain ⟨rfl, rfl⟩ := hv18
 have hS20 : St _ _ [_, _, _, .fz g] _ := hS18; clear hS18
 refine hK _ _ ?_; clear hK K
 refine l_q rfl rfl (q_assignI rfl) ?_
 refine l_nil ?_
 refine hK17 _ _ ?_
 refine wp_seq_k (fun K21 hK21 => ?_)
 refine wp_seq_k (fun K22 hK22 => ?_)
 refine wp_region_lit ?_
 refine l_q rfl rfl (q_moveS rfl) ?_
 have hlc := (hS20.owLen (i := 2) rfl).2.1
 refine l_e rfl (fun K hK => ?_)
 refine e_call (by kernel_rfl) (taken_ok l hl l.length (by first | omega | (simp only [zll] <;> omega)) (by first | omega | (simp only [zll] <;> omega)) _ _ (by first | omega | (simp only [zll] <;> omega)) _ (hS20.owG (i := 2) rfl)) rfl (after_R hS20 (fun v23 w23 hv23 hS23 => ?_))
 clear hS20
 obtain rfl := hv23
 refine hK _ _ ?_; clear hK K
 refine l_q rfl rfl (q_assignS rfl) ?_
 refine l_nil ?_
 refine hK22 _ _ ?_
 refine wp_block ?_
 have hS24 := hS23.fr3; clear hS23
 have hS25 := hS24.fr3; clear hS24
 obtain ⟨g26, hle26, hfz26, hS26⟩ := hS25.freezeOw; clear hS25
 have hS27 : St _ _ [.ow 100 2 none 0 0 (List.flatMap rc []), .fz g26, _, _] _ := hS26.ow_nil 100 2; clear hS26
 have hS28 := hS27.fr1; clear hS27
 have hS29 := hS28.fr2; clear hS28
 have hS30 := hS29.fr2; clear hS29
 have hS31 := hS30.fr3; clear hS30
 refine c_loop (τ := Gh × Nat × (List Rc) × (Option Addr) × Nat × (Option Addr) × Nat) [(4, 4), (7, 8), (30, 56)] (fun x => (fun (g1 : Gh) (o : Nat) (rs : List Rc) (rad : Option Addr) (rcap : Nat) (ba : Option Addr) (bc : Nat) => [(7, .int .i64 (((b + o) : Nat) : Int)), (4, .slice ba (l.length - o) bc), (8, .slice (tkA ba bc (l.drop o)) (tkM (l.drop o)) (tkC bc (l.drop o)))]) x.1 x.2.1 x.2.2.1 x.2.2.2.1 x.2.2.2.2.1 x.2.2.2.2.2.1 x.2.2.2.2.2.2) (fun x w' => (fun (g1 : Gh) (o : Nat) (rs : List Rc) (rad : Option Addr) (rcap : Nat) (ba : Option Addr) (bc : Nat) => St w (owns [dk kd da dc l b s, .fz g]) [.blk b16 (.cells #[.pointer (some ⟨kd, 0, none⟩), .slice rad rs.length rcap] 98), .ow 100 2 rad rs.length rcap (List.flatMap rc rs), dk kd da dc l b s, .fz g1] w' ∧ Gle g g1 ∧ RsOk g1 rs ∧ SlG g1 ba (bv (l.drop o)) ∧ o ≤ l.length ∧ l.length - o ≤ bc ∧ rs.map Rc.abs ++ (scan (l.drop o) (b + o)).1 = (scan l b).1 ∧ o + (scan (l.drop o) (b + o)).2 = (scan l b).2 ∧ rs.length ≤ o) x.1 x.2.1 x.2.2.1 x.2.2.2.1 x.2.2.2.2.1 x.2.2.2.2.2.1 x.2.2.2.2.2.2) (fun x => (fun (g1 : Gh) (o : Nat) (rs : List Rc) (rad : Option Addr) (rcap : Nat) (ba : Option Addr) (bc : Nat) => l.length - o) x.1 x.2.1 x.2.2.1 x.2.2.2.1 x.2.2.2.2.1 x.2.2.2.2.2.1 x.2.2.2.2.2.2) (⟨g26, 0, [], none, 0, ad10, cp10⟩) ?_ (by repeat' (first | exact trivial | refine ⟨by first | rfl | exact int_succ _ | assumption, ?_⟩)) (fun x32 j32 w32 hJ32 K32 hK32 => ?_)
 exact ⟨hS31, hle26, RsOk.nil, hfz26, Nat.zero_le _, hlc, rfl, Nat.zero_add _, Nat.zero_le _⟩
 obtain ⟨g1, o, rs, rad, rcap, ba, bc⟩ := x32
 obtain ⟨hS32, hg1, hrs, hba, ho, hbc, hsc, hsn, hro⟩ := hJ32
 try dsimp only at hS32 hg1 hrs hba ho hbc hsc hsn hro ⊢
 refine wp_seq_k (fun K33 hK33 => ?_)
 refine wp_seq_k (fun K34 hK34 => ?_)
 refine wp_region_lit ?_
 refine l_q rfl rfl (q_moveS rfl) ?_
 refine l_q rfl rfl (q_slice_neq 5 rfl rfl (by kernel_rfl)) ?_
 refine l_nil ?_
 refine hK34 _ _ ?_
 refine c_cond rfl (fun hc35 => ?_) (fun hc35 => ?_)
 have hc35b := hc35
 try simp only [zbb] at hc35
 obtain ⟨n, hn⟩ : ∃ n, tkN (l.drop o) = some n := by
   cases h : tkN (l.drop o) with
   | some n => exact ⟨n, rfl⟩
   | none => exfalso; have h1 := tk_isnone (cap := bc) (by rw [List.length_drop]; omega) hba; rw [h] at h1; rw [h1] at hc35; simp at hc35
 have hnl := tkN_le hn
 rw [List.length_drop] at hnl
 have hkA : tkA ba bc (l.drop o) = subS ba 5 1 bc := by unfold tkA; rw [hn]; rfl
 have hkM : tkM (l.drop o) = n := by unfold tkM; rw [hn]; rfl
 have hkL : tkM (l.drop o) = (((l.drop o).drop 5).take n).length := by rw [hkM, List.length_take, List.length_drop, List.length_drop]; omega
 have hxG : SlG g1 (tkA ba bc (l.drop o)) (bv (((l.drop o).drop 5).take n)) := by rw [hkA]; exact bv_sub (SlG.sub (l := 5) (size := 1) (m := bc) (n := n) hba (by omega) (by decide))
 refine wp_skip ?_
 refine hK33 _ _ ?_
 refine wp_seq_k (fun K37 hK37 => ?_)
 refine wp_block ?_
 refine wp_seq_k (fun K38 hK38 => ?_)
 refine r_any (by kernel_rfl) hS32 (fun w39 hS39 => ?_)
 clear hS32
 refine o_pure (i := 0) (fun _ _ => trivial) rfl rfl (by kernel_rfl) (goes0 rfl) (QOk.then (QOk.inBlock (QOk.then (QOk.then (QOk.inBlock (QOk.then QOk.body)))))) (fun w => q_moveP rfl) ?_
 refine o_pure (i := 1) (fun _ _ => trivial) rfl rfl (by kernel_rfl) (goes0 rfl) (QOk.then (QOk.inBlock (QOk.then (QOk.then (QOk.inBlock (QOk.then QOk.body)))))) (fun w => q_moveP rfl) ?_
 refine o_pure (i := 2) (fun _ _ => trivial) rfl rfl (by kernel_rfl) (goes0 rfl) (QOk.then (QOk.inBlock (QOk.then (QOk.then (QOk.inBlock (QOk.then QOk.body)))))) (fun w => q_nilCheck rfl) ?_
 refine o_pure (i := 3) (fun _ _ => trivial) rfl rfl (by kernel_rfl) (goes0 rfl) (QOk.then (QOk.inBlock (QOk.then (QOk.then (QOk.inBlock (QOk.then QOk.body)))))) (fun w => q_fieldAddr (ft := 96) (o := 1) rfl (by kernel_rfl)) ?_
 refine o_held (i := 4) [10, 11, 12, 13] (fun _ _ => trivial) rfl rfl (by kernel_rfl) (goes0 rfl) (QOk.then (QOk.inBlock (QOk.then (QOk.then (QOk.inBlock (QOk.then QOk.body)))))) (q_load1 rfl (by kernel_rfl) (hS39.cell (i := 0) rfl rfl)) ?_
 refine o_pure (i := 5) (fun j w => ⟨(fun _ _ => trivial) j w, fun _ h => h⟩) rfl rfl (by kernel_rfl) (goes0 rfl) (QOk.then (QOk.inBlock (QOk.then (QOk.then (QOk.inBlock (QOk.then QOk.body)))))) (fun w => q_moveI rfl) ?_
 refine o_pure (i := 6) (fun j w => ⟨(fun _ _ => trivial) j w, fun _ h => h⟩) rfl rfl (by kernel_rfl) (goes0 rfl) (QOk.then (QOk.inBlock (QOk.then (QOk.then (QOk.inBlock (QOk.then QOk.body)))))) (fun w => q_moveS rfl) ?_
 refine o_eff (i := 7) (by kernel_rfl) rfl (goes0 rfl) (fun K hK => ?_)
 refine e_call (by kernel_rfl) (Clone_ok (((l.drop o).drop 5).take n) _ _ (tkM (l.drop o)) (by first | omega | (simp only [zll] <;> omega)) (by first | omega | (simp only [zll] <;> omega)) _ (hxG.mono (hS39.fz (i := 3) rfl))) rfl (after_N hS39 (fun v40 G40 w40 hv40 hS40 => ?_))
 clear hS39
 obtain ⟨ad40, cp40, rfl, rfl⟩ := hv40
 have hS41 : St _ _ [.ow 5 1 ad40 (tkM (l.drop o)) cp40 (bv (((l.drop o).drop 5).take n)), .blk b16 (.cells #[.pointer (some ⟨kd, 0, none⟩), .slice rad rs.length rcap] 98), .ow 100 2 rad rs.length rcap (List.flatMap rc rs), _, .fz g1] _ := hS40; clear hS40
 refine hK _ _ ⟨trivial, fun _ _ => by first | exact q_load1 rfl (by kernel_rfl) (hS41.cell (i := 1) rfl rfl)⟩ ?_; clear hK K
 refine o_pure (i := 8) (fun j w => ⟨(fun _ _ => trivial) j w, fun _ h => h⟩) rfl rfl (by kernel_rfl) (goes0 rfl) (QOk.then (QOk.inBlock (QOk.then (QOk.then (QOk.inBlock (QOk.then QOk.body)))))) (fun w => q_build (ps := [(0, 1), (1, 1)]) (zv := .agg #[.int .i64 0, .slice none 0 0]) (by kernel_rfl) (by kernel_rfl) rfl (by repeat' (first | exact trivial | refine ⟨fun _ => by first | rfl | assumption | exact one_if (by assumption), ?_⟩ | refine ⟨fun ⟨_, h⟩ => by simp at h, ?_⟩)) rfl) ?_
 refine o_eff (i := 9) (by kernel_rfl) rfl (goes0 rfl) (fun K hK => ?_)
 have hS42 := hS41.fr4; clear hS41
 have hS43 := hS42.fr1; clear hS42
 obtain ⟨g44, hle44, hfz44, hS44⟩ := hS43.freezeOw; clear hS43
 refine e_buildSliceA (e := 100) (m := 2) (zv := .agg #[.int .i64 0, .slice none 0 0]) hS44 (by kernel_rfl) (by kernel_rfl) (by kernel_rfl) rfl rfl rfl rfl (fun b45 w45 (hS45 : St _ _ [.blk b45 (.cells #[.int .i64 (((b + o) : Nat) : Int), .slice ad40 (tkM (l.drop o)) cp40] 100), .fz g44, _, _, _] _) => ?_)
 clear hS44
 have hS45o : St _ _ [.ow 100 2 (some ⟨b45, 0, none⟩) 1 1 (List.flatMap rc [Rc.mk (b + o) ad40 cp40 (((l.drop o).drop 5).take n)]), .fz g44, _, _, _] _ := hS45.blkOw' (i := 0) (m := 1) (size := 2) (xs := List.flatMap rc [Rc.mk (b + o) ad40 cp40 (((l.drop o).drop 5).take n)]) rfl (by rw [hkL]; rfl) rfl (by decide); clear hS45
 refine hK _ _ ⟨trivial, fun _ _ => by first | exact q_load1 rfl (by kernel_rfl) (hS45o.cell (i := 2) rfl rfl)⟩ ?_; clear hK K
 refine o_eff (i := 10) (by kernel_rfl) rfl (goes0 rfl) (fun K hK => ?_)
 refine e_app (e := 100) (size := 2) (bytes := 32) (i := 3) (m' := (rs ++ [Rc.mk (b + o) ad40 cp40 (((l.drop o).drop 5).take n)]).length) (by kernel_rfl) hS45o rfl rfl rfl (SlG.src (e := 100) (by kernel_rfl) (hS45o.owG (i := 0) rfl) ((rows_len (c := rc) (m := 2) (fun _ => rfl) _).trans (by first | rfl | (simp only [zll]; done) | (simp only [zll]; omega) | omega)) (by decide) (rows_one rc_ones)) (by first | omega | (simp only [zll] <;> omega) | (simp; done)) rows_app (by first | omega | (simp only [maxLen, zll] <;> omega) | (simp only [maxLen]; omega)) (by first | omega | (simp only [zll] <;> omega)) (fun ad46 cp46 w46 (hS46 : St _ _ [_, .fz g44, _, .ow 100 2 ad46 ((rs ++ [Rc.mk (b + o) ad40 cp40 (((l.drop o).drop 5).take n)]).length) cp46 (List.flatMap rc (rs ++ [Rc.mk (b + o) ad40 cp40 (((l.drop o).drop 5).take n)])), _] _) => ?_)
 clear hS45o
 refine hK _ _ ⟨trivial, fun h => absurd h (by decide)⟩ ?_; clear hK K
 refine o_pure (i := 11) (fun j w => ⟨(fun _ _ => trivial) j w, fun _ h => h⟩) rfl rfl (by kernel_rfl) (goes0 rfl) (QOk.then (QOk.inBlock (QOk.then (QOk.then (QOk.inBlock (QOk.then QOk.body)))))) (fun w => q_nilCheck rfl) ?_
 refine o_pure (i := 12) (fun j w => ⟨(fun _ _ => trivial) j w, fun _ h => h⟩) rfl rfl (by kernel_rfl) (goes0 rfl) (QOk.then (QOk.inBlock (QOk.then (QOk.then (QOk.inBlock (QOk.then QOk.body)))))) (fun w => q_fieldAddr (ft := 96) (o := 1) rfl (by kernel_rfl)) ?_
 refine o_eff (i := 13) (by kernel_rfl) rfl (goes0 rfl) (fun K hK => ?_)
 refine e_store1 hS46 rfl rfl (by kernel_rfl) (by first | rfl | assumption) (i := 2) rfl rfl (fun w47 (hS47 : St _ _ [_, .fz g44, .blk b16 (.cells #[.pointer (some ⟨kd, 0, none⟩), .slice ad46 ((rs ++ [Rc.mk (b + o) ad40 cp40 (((l.drop o).drop 5).take n)]).length) cp46] 98), _, _] _) => ?_)
 clear hS46
 refine hK _ _ ⟨trivial, fun h => absurd h (by decide)⟩ ?_; clear hK K
 refine o_done (by kernel_rfl) ?_
 refine hK38 _ _ ?_
 refine wp_seq_k (fun K48 hK48 => ?_)
 refine wp_region_lit ?_
 refine l_q rfl rfl (q_moveI rfl) ?_
 refine l_q rfl rfl (q_moveS rfl) ?_
 refine l_q rfl rfl (q_lenSl (e := 5) rfl (by kernel_rfl)) ?_
 refine l_q rfl rfl (q_addx rfl rfl (by first | decide | omega) (by first | decide | omega)) ?_
 refine l_q rfl rfl (q_addx rfl rfl (by first | decide | omega) (by first | decide | omega)) ?_
 refine l_q rfl rfl (q_assignI rfl) ?_
 refine l_nil ?_
 refine hK48 _ _ ?_
 refine wp_region_lit ?_
 refine l_q rfl rfl (q_moveS rfl) ?_
 refine l_q rfl rfl (q_moveS rfl) ?_
 refine l_q rfl rfl (q_lenSl (e := 5) rfl (by kernel_rfl)) ?_
 refine l_q rfl rfl (q_addx rfl rfl (by first | decide | omega) (by first | decide | omega)) ?_
 refine l_q rfl rfl (q_sliceX (e := 5) (size := 1) (l := (5 + (tkM (l.drop o)))) (h := (l.length - o)) (m := bc) (ad' := (subS ba (5 + (tkM (l.drop o))) 1 bc)) (len' := ((l.length - o) - (5 + (tkM (l.drop o))))) (cap' := (bc - (5 + (tkM (l.drop o))))) rfl (by kernel_rfl) (by kernel_rfl) rfl rfl ⟨_, int_nat (by first | rfl | omega) rfl⟩ (by omega) (by first | omega | (simp only [zll] <;> omega)) (by first | omega | (simp only [zll] <;> omega)) rfl rfl rfl rfl) ?_
 refine l_q rfl rfl (q_assignS rfl) ?_
 refine l_nil ?_
 refine hK37 _ _ ?_
 refine wp_region_lit ?_
 refine l_q rfl rfl (q_moveS rfl) ?_
 refine l_e rfl (fun K hK => ?_)
 refine e_call (by kernel_rfl) (taken_ok ((l.drop o).drop (5 + (tkM (l.drop o)))) (Bytes.drop (Bytes.drop hl)) ((l.length - o) - (5 + (tkM (l.drop o)))) (by first | omega | (simp only [zll] <;> omega)) (by first | omega | (simp only [zll] <;> omega)) _ _ (by first | omega | (simp only [zll] <;> omega)) _ ((bv_subD (by first | omega | (simp only [zll] <;> omega)) (SlG.sub (l := (5 + (tkM (l.drop o)))) (size := 1) (m := bc) (n := (l.length - o) - (5 + (tkM (l.drop o)))) (SlG.mono hba hle44) (by first | omega | (simp only [zll] <;> omega)) (by decide))).mono (hS47.fz (i := 1) rfl))) rfl (after_R hS47 (fun v49 w49 hv49 hS49 => ?_))
 clear hS47
 obtain rfl := hv49
 refine hK _ _ ?_; clear hK K
 refine l_q rfl rfl (q_assignS rfl) ?_
 refine l_nil ?_
 have hsl4 : Value.slice (subS ba (5 + (tkM (l.drop o))) 1 bc) ((l.length - o) - (5 + (tkM (l.drop o)))) (bc - (5 + (tkM (l.drop o)))) = .slice (subS ba (5 + (tkM (l.drop o))) 1 bc) (l.length - (o + (5 + n))) (bc - (5 + (tkM (l.drop o)))) := congrArg (fun z => Value.slice (subS ba (5 + (tkM (l.drop o))) 1 bc) z (bc - (5 + (tkM (l.drop o))))) (by omega)
 have hL : (l.drop o).drop (5 + (tkM (l.drop o))) = l.drop (o + (5 + n)) := by rw [hkM, List.drop_drop]
 have hS50 := hS49.fr1; clear hS49
 have hS51 := hS50.fr4; clear hS50
 have hS52 := hS51.fr4; clear hS51
 have hS53 := hS52.fr4; clear hS52
 have hS54 : St _ _ [_, _, _, .fz g44] _ := hS53.only 4; clear hS53
 refine hK32 _ _ (came (⟨g44, (o + (5 + n)), (rs ++ [Rc.mk (b + o) ad40 cp40 (((l.drop o).drop 5).take n)]), ad46, cp46, (subS ba (5 + (tkM (l.drop o))) 1 bc), (bc - (5 + (tkM (l.drop o))))⟩) (by repeat' (first | exact Agree.refl _ _ | refine Agree.up ?_ rfl | refine Agree.hav2 ?_ rfl | refine Agree.ups2 ?_ rfl)) (by repeat' (first | exact trivial | refine ⟨by first | rfl | exact congrArg (Value.int .i64) (by first | omega | (dsimp only; omega)) | exact hsl4 | (rw [hL] <;> rfl), ?_⟩)) ?_)
 have hdd : (l.drop o).drop (5 + n) = l.drop (o + (5 + n)) := List.drop_drop
 have hsc2 : List.map Rc.abs ((rs ++ [Rc.mk (b + o) ad40 cp40 (((l.drop o).drop 5).take n)])) ++ (scan (l.drop (o + (5 + n))) (b + (o + (5 + n)))).1 = (scan l b).1 := by rw [← hsc, scan_some hn, List.map_append, List.append_assoc, hdd, Nat.add_assoc]; rfl
 have hsn2 : o + (5 + n) + (scan (l.drop (o + (5 + n))) (b + (o + (5 + n)))).2 = (scan l b).2 := by rw [← hsn, scan_some hn, hdd, ← Nat.add_assoc b o (5 + n)]; exact Nat.add_assoc _ _ _
 have hbN : SlG g44 (subS ba (5 + (tkM (l.drop o))) 1 bc) (bv (l.drop (o + (5 + n)))) := hL ▸ (bv_subD (by first | omega | (simp only [zll] <;> omega)) (SlG.sub (l := (5 + (tkM (l.drop o)))) (size := 1) (m := bc) (n := (l.length - o) - (5 + (tkM (l.drop o)))) (SlG.mono hba hle44) (by first | omega | (simp only [zll] <;> omega)) (by decide)))
 exact ⟨⟨hS54, hg1.trans hle44, (hrs.mono hle44).app (RsOk.one ⟨hfz44, Bytes.sub (Bytes.drop hl), (show (((l.drop o).drop 5).take n).length ≤ 4096 by omega), (show b + o ≤ 2000000000 by omega), (show 1 ≤ (((l.drop o).drop 5).take n).length by omega)⟩), hbN, (show o + (5 + n) ≤ l.length by omega), (show l.length - (o + (5 + n)) ≤ (bc - (5 + (tkM (l.drop o)))) by omega), hsc2, hsn2, (by show (rs ++ [_]).length ≤ o + (5 + n); rw [List.length_append]; simp only [List.length_cons, List.length_nil]; omega)⟩, by (show l.length - (o + (5 + n)) < l.length - o); omega⟩
 have hc35b := hc35
 try simp only [zbb] at hc35
 have hn : tkN (l.drop o) = none := by
   cases h : tkN (l.drop o) with
   | none => rfl
   | some n => exfalso; have h1 := tk_isnone (cap := bc) (by rw [List.length_drop]; omega) hba; rw [h] at h1; rw [h1] at hc35; simp at hc35
 rw [scan_none hn] at hsc hsn
 rw [List.append_nil] at hsc
 dsimp only at hsn
 refine wp_exit ?_
 refine hK21 _ _ ?_
 refine wp_seq_k (fun K55 hK55 => ?_)
 refine wp_seq_k (fun K56 hK56 => ?_)
 refine wp_region_lit ?_
 refine l_q rfl rfl (q_moveS rfl) ?_
 refine l_q rfl rfl (q_lenSl (e := 5) rfl (by kernel_rfl)) ?_
 refine l_q rfl rfl (q_gtr rfl rfl) ?_
 refine l_nil ?_
 refine hK56 _ _ ?_
 refine c_cond rfl (fun hc57 => ?_) (fun hc57 => ?_)
 have hc57b := hc57
 try simp only [zbb] at hc57
 have hct := ct_at (l := l) (b := b) (s := s) (o := o) rfl ho
 refine wp_seq_k (fun K58 hK58 => ?_)
 refine wp_region_lit ?_
 refine l_q rfl rfl (q_moveP rfl) ?_
 refine l_q rfl rfl (q_moveP rfl) ?_
 refine l_q rfl rfl (q_moveI rfl) ?_
 refine l_e rfl (fun K hK => ?_)
 have hS60 := hS32.fr2; clear hS32
 have hF59 := ct_fit (l := l) (b := b) (s := s) (((b + o) : Nat) : Int) (by first | omega | (simp only [zll] <;> omega))
 refine e_call (by kernel_rfl) (dCutF _ _ _ _ _ _ hl (by first | omega | (simp only [zll] <;> omega)) (by first | omega | (simp only [zll] <;> omega)) _ (by first | omega | (simp only [zll] <;> omega)) (by first | omega | (simp only [zll] <;> omega)) _ (St.begin (Γ := [_]) hS60)) rfl (after_M (Γ1 := [_]) hS60 (fun v59 G59 w59 hv59 hS59 => ?_))
 clear hS60
 obtain ⟨ad59, cp59, rfl, rfl⟩ := hv59
 have hS61 : St _ _ [dk kd ad59 cp59 (ctL l b (((b + o) : Nat) : Int)) b (ctS l b s (((b + o) : Nat) : Int)), _, _, .fz g1] _ := hS59; clear hS59
 refine hK _ _ ?_; clear hK K
 refine l_q rfl rfl (q_assignP rfl) ?_
 refine l_q rfl rfl (q_assignI rfl) ?_
 refine l_nil ?_
 refine hK58 _ _ ?_
 refine wp_ret ?_
 refine c_ret2 rfl rfl rfl ?_
 have hS62 := hS61.fr2; clear hS61
 have hS63 := hS62.fr2; clear hS62
 have hS64 := wk_close hS63; clear hS63
 exact ⟨_, _, rfl, ⟨_, _, _, _, _, _, g1, by rw [hct.1]; rfl, by rw [hct.2.1, hct.2.2, ← hsn]; rfl, hg1, hrs, hsc⟩, hS64⟩
 have hc57b := hc57
 try simp only [zbb] at hc57
 refine wp_skip ?_
 refine hK55 _ _ ?_
 refine wp_seq_k (fun K65 hK65 => ?_)
 refine wp_region_lit ?_
 refine l_q rfl rfl (q_moveP rfl) ?_
 refine l_q rfl rfl (q_moveP rfl) ?_
 refine l_e rfl (fun K hK => ?_)
 have hS67 := hS32.fr2; clear hS32
 refine e_call (by kernel_rfl) (dSync_ok _ _ _ _ _ _  _ (St.begin (Γ := [_]) hS67)) rfl (after_M (Γ1 := [_]) hS67 (fun v66 G66 w66 hv66 hS66 => ?_))
 clear hS67
 obtain ⟨rfl, rfl⟩ := hv66
 have hS68 : St _ _ [dk kd da dc l b l.length, _, _, .fz g1] _ := hS66; clear hS66
 refine hK _ _ ?_; clear hK K
 refine l_q rfl rfl (q_assignP rfl) ?_
 refine l_q rfl rfl (q_assignI rfl) ?_
 refine l_nil ?_
 refine hK65 _ _ ?_
 refine wp_ret ?_
 refine c_ret2 rfl rfl rfl ?_
 have hS69 := hS68.fr2; clear hS68
 have hS70 := hS69.fr2; clear hS69
 have hS71 := wk_close hS70; clear hS70
 have hol : o = l.length := by omega
 exact ⟨_, _, rfl, ⟨_, _, _, _, _, _, g1, rfl, by rw [← hsn, Nat.add_zero, hol, List.take_length], hg1, hrs, hsc⟩, hS71⟩
end Go.Proofs.Yteojpdijmnpmgaa
namespace Go.Proofs.Yteojpdijmnpmgaa
open Go.RowKit
/-- A transaction. -/
structure Tx where
  nodes : Nat
  yes : Nat
  read : Nat
  asked : Bool
  com : Bool
  tell : Nat
  ticks : Nat
/-- A letter to be sent: its nodes' place, the letter. -/
structure Lo where
  ad : Option Addr
  cap : Nat
  l : Lr
def lo (x : Lo) : List Value := LV x.l x.ad x.cap
theorem lo_ones : ∀ x : Lo, AllOne (lo x) := fun x => ⟨rfl, rfl, rfl, rfl, rfl, trivial⟩
def LOk (g : Gh) (O : List Lo) : Prop := ∀ x ∈ O, SlG g x.ad (iv x.l.nd) ∧ x.l.nd.length ≤ 16
theorem LOk.mono {g h : Gh} {O : List Lo} (hO : LOk g O) (hg : Gle g h) : LOk h O := fun x hx => ⟨(hO x hx).1.mono hg, (hO x hx).2⟩
theorem LOk.nil {g : Gh} : LOk g [] := fun x h => by cases h
theorem LOk.add {g : Gh} {O : List Lo} (h : LOk g O) {x : Lo} (hx : SlG g x.ad (iv x.l.nd)) (hl : x.l.nd.length ≤ 16) : LOk g (O ++ [x]) := fun y hy => by
  rcases List.mem_append.1 hy with hy | hy
  · exact h y hy
  · rw [List.mem_singleton] at hy; subst hy; exact ⟨hx, hl⟩
/-- The letters of send. -/
def sends (k nd n : Int) (N : List Int) (al : Nat) : List Lr := N.map fun x => Lr.mk k nd x n (if k = 1 then nodesTo al 16 else [])
theorem sends_next {k nd n x : Int} {N : List Int} {al i : Nat} (h : N[i]? = some x) : sends k nd n (N.take (i + 1)) al = sends k nd n (N.take i) al ++ [Lr.mk k nd x n (if k = 1 then nodesTo al 16 else [])] := by
  unfold sends; rw [List.take_add_one, h, List.map_append]; rfl
theorem sends_len {k nd n : Int} {to al : Nat} {O O' : List Lo} (h : O'.map Lo.l = O.map Lo.l ++ sends k nd n (nodesTo to 16) al) : O'.length ≤ O.length + 16 := by
  have := congrArg List.length h
  have h2 := nodesTo_len to 16
  unfold sends at this
  rw [List.length_map, List.length_append, List.length_map, List.length_map] at this; omega
def tc (q : Int × Nat × Tx) : Value × Value := (.int .i64 q.1, pV q.2.1)
abbrev tO (t : Tx) : Obj := .cells #[.int .i64 ((t.nodes : Nat) : Int), .int .i64 ((t.yes : Nat) : Int), .int .i64 ((t.read : Nat) : Int), .bool t.asked, .bool t.com, .int .i64 ((t.tell : Nat) : Int), .int .i64 ((t.ticks : Nat) : Int)] 80
def tb (q : Int × Nat × Tx) : Ch := .blk q.2.1 (tO q.2.2)
abbrev cO (kw : Nat) (nd : Int) (inc cnt mb : Nat) (oa : Option Addr) (m oc : Nat) : Obj := .cells #[pV kw, .int .i64 nd, .int .i64 ((inc : Nat) : Int), .int .i64 ((cnt : Nat) : Int), .map (some mb), .slice oa m oc] 68
attribute [local irreducible] Oper.wp Sem.run Code.wp wpList wpAnyO callFunc execOp Calls
attribute [local irreducible] toU short rencs renc rowE encRow rightB zig unzig decRw rightL risB lastN bitsOf nodesTo readL recB ofL sends
set_option maxHeartbeats 2000000 in
set_option maxRecDepth 100000 in
theorem send_ok (k kw : Nat) (nd : Int) (inc cnt mb : Nat) (oa : Option Addr) (O : List Lo) (oc : Nat) (g : Gh) (hO : LOk g O) (hol0 : O.length ≤ 1000000) (kd n : Int) (to al : Nat) (hto : to < 65536) (hal : al < 65536)  (w : World) (hS : St w (owns [.blk k (.cells #[pV kw, .int .i64 nd, .int .i64 (inc : Int), .int .i64 (cnt : Int), .map (some mb), .slice oa O.length oc] 68), .ow 42 5 oa O.length oc (List.flatMap lo O), .fz g]) [.blk k (.cells #[pV kw, .int .i64 nd, .int .i64 (inc : Int), .int .i64 (cnt : Int), .map (some mb), .slice oa O.length oc] 68), .ow 42 5 oa O.length oc (List.flatMap lo O), .fz g] w) : Calls Try.prog 34 #[pV k, .int .i64 kd, .int .i64 n, .int .i64 (to : Int), .int .i64 (al : Int)] w (Post w [.blk k (.cells #[pV kw, .int .i64 nd, .int .i64 (inc : Int), .int .i64 (cnt : Int), .map (some mb), .slice oa O.length oc] 68), .ow 42 5 oa O.length oc (List.flatMap lo O), .fz g] fun v G => ∃ oa' oc' O' g', G = [.blk k (cO kw nd inc cnt mb oa' O'.length oc'), .ow 42 5 oa' O'.length oc' (List.flatMap lo O'), .fz g'] ∧ Gle g g' ∧ LOk g' O' ∧ O'.map Lo.l = O.map Lo.l ++ sends kd nd n (nodesTo to 16) al) := by
 have hnl16 := nodesTo_len to 16
 refine c_enter Try.func34 rfl rfl rfl ?_
 refine wp_seq_k (fun K1 hK1 => ?_)
 refine wp_region_lit ?_
 refine l_q rfl rfl (q_moveI rfl) ?_
 refine l_e rfl (fun K hK => ?_)
 refine e_call (by kernel_rfl) (nodes_ok to (by first | omega | (simp only [zll] <;> omega)) _) rfl (after_N hS (fun v2 G2 w2 hv2 hS2 => ?_))
 clear hS
 obtain ⟨na2, nc2, rfl, rfl⟩ := hv2
 have hS3 : St _ _ [.ow 3 1 na2 ((nodesTo to 16).length) nc2 (iv (nodesTo to 16)), .blk k (.cells #[.pointer (some ⟨kw, 0, none⟩), .int .i64 nd, .int .i64 (inc : Int), .int .i64 (cnt : Int), .map (some mb), .slice oa O.length oc] 68), .ow 42 5 oa O.length oc (List.flatMap lo O), .fz g] _ := hS2; clear hS2
 have hnl2 := nodesTo_len to 16
 refine hK _ _ ?_; clear hK K
 refine l_q rfl rfl (q_lenSl (e := 3) rfl (by kernel_rfl)) ?_
 refine l_q rfl rfl (q_moveI rfl) ?_
 refine l_nil ?_
 refine hK1 _ _ ?_
 refine wp_block ?_
 have hS4 := hS3.fr3; clear hS3
 have hS5 := hS4.fr3; clear hS4
 have hS6 := hS5.fr3; clear hS5
 refine c_loop (τ := Nat × (Option Addr) × Nat × (List Lo) × Gh) [(11, 12), (16, 43)] (fun x => (fun (i : Nat) (oa' : Option Addr) (oc' : Nat) (O' : List Lo) (g' : Gh) => [(16, .int .i64 (i : Int))]) x.1 x.2.1 x.2.2.1 x.2.2.2.1 x.2.2.2.2) (fun x w' => (fun (i : Nat) (oa' : Option Addr) (oc' : Nat) (O' : List Lo) (g' : Gh) => St w (owns [.blk k (.cells #[pV kw, .int .i64 nd, .int .i64 (inc : Int), .int .i64 (cnt : Int), .map (some mb), .slice oa O.length oc] 68), .ow 42 5 oa O.length oc (List.flatMap lo O), .fz g]) [.blk k (.cells #[.pointer (some ⟨kw, 0, none⟩), .int .i64 nd, .int .i64 (inc : Int), .int .i64 (cnt : Int), .map (some mb), .slice oa' O'.length oc'] 68), .ow 42 5 oa' O'.length oc' (List.flatMap lo O'), .fz g', .ow 3 1 na2 ((nodesTo to 16).length) nc2 (iv (nodesTo to 16))] w' ∧ i ≤ (nodesTo to 16).length ∧ Gle g g' ∧ LOk g' O' ∧ (O'.map Lo.l = O.map Lo.l ++ sends kd nd n ((nodesTo to 16).take i) al)) x.1 x.2.1 x.2.2.1 x.2.2.2.1 x.2.2.2.2) (fun x => (fun (i : Nat) (oa' : Option Addr) (oc' : Nat) (O' : List Lo) (g' : Gh) => (nodesTo to 16).length - i) x.1 x.2.1 x.2.2.1 x.2.2.2.1 x.2.2.2.2) (⟨0, oa, oc, O, g⟩) ?_ (by repeat' (first | exact trivial | refine ⟨by first | rfl | exact int_succ _ | assumption, ?_⟩)) (fun x7 j7 w7 hJ7 K7 hK7 => ?_)
 exact ⟨hS6, Nat.zero_le _, Gle.refl _, hO, (by rw [show sends kd nd n ((nodesTo to 16).take 0) al = [] from by unfold sends; rfl, List.append_nil])⟩
 obtain ⟨i, oa', oc', O', g'⟩ := x7
 obtain ⟨hS7, hi, hg', hO', hOe⟩ := hJ7
 try dsimp only at hS7 hi hg' hO' hOe ⊢
 have hol : O'.length = O.length + i := by
   have := congrArg List.length hOe
   unfold sends at this
   rw [List.length_map, List.length_append, List.length_map, List.length_map, List.length_take] at this
   omega
 refine wp_seq_k (fun K8 hK8 => ?_)
 refine wp_region_lit ?_
 refine l_q rfl rfl (q_lss rfl rfl) ?_
 refine l_nil ?_
 refine hK8 _ _ ?_
 refine wp_seq_k (fun K9 hK9 => ?_)
 refine c_cond rfl (fun hc10 => ?_) (fun hc10 => ?_)
 have hc10b := hc10
 try simp only [zbb] at hc10
 refine wp_skip ?_
 refine hK9 _ _ ?_
 refine wp_seq_k (fun K11 hK11 => ?_)
 refine wp_block ?_
 refine wp_seq_k (fun K12 hK12 => ?_)
 refine wp_region_lit ?_
 refine l_q rfl rfl (q_ixG (e := 3) (m := 1) (j := i) rfl rfl (by kernel_rfl) (by kernel_rfl) (by first | rfl | omega) (by omega) (hS7.owG (i := 3) rfl) (by rw [iv_len]; first | omega | (simp only [zll] <;> omega))) ?_
 obtain ⟨x13, hx13⟩ : ∃ x, ((nodesTo to 16))[i]? = some x := ⟨_, List.getElem?_eq_getElem (by first | omega | (simp only [zll] <;> omega) | (simp <;> omega))⟩
 refine l_q rfl rfl (q_load1 rfl (by kernel_rfl) (SlG.cell (hS7.owG (i := 3) rfl) (Gle.refl _) (at1 (iv_at hx13)))) ?_
 refine l_q rfl rfl (q_assignI rfl) ?_
 refine l_nil ?_
 refine hK12 _ _ ?_
 refine wp_seq_k (fun K14 hK14 => ?_)
 refine wp_region_lit ?_
 refine l_q rfl rfl (q_moveI rfl) ?_
 refine l_q rfl rfl (q_moveP rfl) ?_
 refine l_q rfl rfl (q_nilCheck rfl) ?_
 refine l_q rfl rfl (q_fieldAddr (ft := 3) (o := 1) rfl (by kernel_rfl)) ?_
 refine l_q rfl rfl (q_load1 rfl (by kernel_rfl) (hS7.cell (i := 0) rfl rfl)) ?_
 refine l_q rfl rfl (q_moveI rfl) ?_
 refine l_q rfl rfl (q_moveI rfl) ?_
 refine l_q rfl rfl (q_build (ps := [(0, 1), (1, 1), (2, 1), (3, 1), (4, 1)]) (zv := .agg #[.int .i64 0, .int .i64 0, .int .i64 0, .int .i64 0, .slice none 0 0]) (by kernel_rfl) (by kernel_rfl) rfl (by repeat' (first | exact trivial | refine ⟨fun _ => by first | rfl | assumption | exact one_if (by assumption), ?_⟩ | refine ⟨fun ⟨_, h⟩ => by simp at h, ?_⟩)) rfl) ?_
 refine l_e rfl (fun K hK => ?_)
 refine e_alloc (zv := .agg #[.int .i64 0, .int .i64 0, .int .i64 0, .int .i64 0, .slice none 0 0]) hS7 (by kernel_rfl) (fun b15 w15 (hS15 : St _ _ [.blk b15 (.cells #[.int .i64 (0 : Int), .int .i64 (0 : Int), .int .i64 (0 : Int), .int .i64 (0 : Int), .slice none 0 0] 42), .blk k (.cells #[.pointer (some ⟨kw, 0, none⟩), .int .i64 nd, .int .i64 (inc : Int), .int .i64 (cnt : Int), .map (some mb), .slice oa' O'.length oc'] 68), .ow 42 5 oa' O'.length oc' (List.flatMap lo O'), .fz g', _] _) => ?_)
 clear hS7
 refine hK _ _ ?_; clear hK K
 refine l_e rfl (fun K hK => ?_)
 refine e_storeA hS15 rfl rfl (by kernel_rfl) (by repeat' (first | exact trivial | refine ⟨by first | rfl | assumption | exact one_if (by assumption), ?_⟩)) (i := 0) rfl rfl (fun w16 (hS16 : St _ _ [.blk b15 (.cells #[.int .i64 kd, .int .i64 nd, .int .i64 x13, .int .i64 n, .slice none 0 0] 42), _, _, .fz g', _] _) => ?_)
 clear hS15
 refine hK _ _ ?_; clear hK K
 refine l_nil ?_
 refine hK14 _ _ ?_
 refine wp_seq_k (fun K17 hK17 => ?_)
 refine wp_seq_k (fun K18 hK18 => ?_)
 refine wp_region_lit ?_
 refine l_q rfl rfl (q_moveI rfl) ?_
 refine l_q rfl rfl (q_eql rfl rfl) ?_
 refine l_nil ?_
 refine hK18 _ _ ?_
 refine c_cond rfl (fun hc19 => ?_) (fun hc19 => ?_)
 have hc19b := hc19
 try simp only [zbb] at hc19
 refine wp_region_lit ?_
 refine l_q rfl rfl (q_moveI rfl) ?_
 refine l_e rfl (fun K hK => ?_)
 refine e_call (by kernel_rfl) (nodes_ok al (by first | omega | (simp only [zll] <;> omega)) _) rfl (after_N hS16 (fun v20 G20 w20 hv20 hS20 => ?_))
 clear hS16
 obtain ⟨na20, nc20, rfl, rfl⟩ := hv20
 have hS21 : St _ _ [.ow 3 1 na20 ((nodesTo al 16).length) nc20 (iv (nodesTo al 16)), _, _, _, .fz g', _] _ := hS20; clear hS20
 have hnl20 := nodesTo_len al 16
 refine hK _ _ ?_; clear hK K
 refine l_q rfl rfl (q_fieldAddr (ft := 22) (o := 4) rfl (by kernel_rfl)) ?_
 refine l_e rfl (fun K hK => ?_)
 refine e_store1 hS21 rfl rfl (by kernel_rfl) (by first | rfl | assumption) (i := 1) rfl rfl (fun w22 (hS22 : St _ _ [_, .blk b15 (.cells #[.int .i64 kd, .int .i64 nd, .int .i64 x13, .int .i64 n, .slice na20 ((nodesTo al 16).length) nc20] 42), _, _, .fz g', _] _) => ?_)
 clear hS21
 refine hK _ _ ?_; clear hK K
 refine l_nil ?_
 refine hK17 _ _ ?_
 have hS23 := hS22.fr4; clear hS22
 have hS24 := hS23.fr1; clear hS23
 obtain ⟨g25, hle25, hfz25, hS25⟩ := hS24.freezeOw; clear hS24
 refine r_any (by kernel_rfl) hS25 (fun w26 hS26 => ?_)
 clear hS25
 refine o_pure (i := 0) (fun _ _ => trivial) rfl rfl (by kernel_rfl) (goes0 rfl) (QOk.inBlock (QOk.then (QOk.then (QOk.inBlock QOk.body)))) (fun w => q_moveP rfl) ?_
 refine o_pure (i := 1) (fun _ _ => trivial) rfl rfl (by kernel_rfl) (goes0 rfl) (QOk.inBlock (QOk.then (QOk.then (QOk.inBlock QOk.body)))) (fun w => q_moveP rfl) ?_
 refine o_pure (i := 2) (fun _ _ => trivial) rfl rfl (by kernel_rfl) (goes0 rfl) (QOk.inBlock (QOk.then (QOk.then (QOk.inBlock QOk.body)))) (fun w => q_nilCheck rfl) ?_
 refine o_pure (i := 3) (fun _ _ => trivial) rfl rfl (by kernel_rfl) (goes0 rfl) (QOk.inBlock (QOk.then (QOk.then (QOk.inBlock QOk.body)))) (fun w => q_fieldAddr (ft := 36) (o := 5) rfl (by kernel_rfl)) ?_
 refine o_held (i := 4) [7, 8, 9, 10] (fun _ _ => trivial) rfl rfl (by kernel_rfl) (goes0 rfl) (QOk.inBlock (QOk.then (QOk.then (QOk.inBlock QOk.body)))) (q_load1 rfl (by kernel_rfl) (hS26.cell (i := 2) rfl rfl)) ?_
 refine o_held (i := 5) [6, 7, 8, 9, 10] (fun j w => ⟨(fun _ _ => trivial) j w, fun _ h => h⟩) rfl rfl (by kernel_rfl) (goes0 rfl) (QOk.inBlock (QOk.then (QOk.then (QOk.inBlock QOk.body)))) (q_loadA (m := 5) rfl (by kernel_rfl) (by kernel_rfl) (hS26.blk (i := 1) rfl) rfl rfl) ?_
 refine o_eff (i := 6) (by kernel_rfl) rfl (goes0 rfl) (fun K hK => ?_)
 refine e_buildSliceA (e := 42) (m := 5) (zv := .agg #[.int .i64 0, .int .i64 0, .int .i64 0, .int .i64 0, .slice none 0 0]) hS26 (by kernel_rfl) (by kernel_rfl) (by kernel_rfl) rfl rfl rfl rfl (fun b27 w27 (hS27 : St _ _ [.blk b27 (.cells #[.int .i64 kd, .int .i64 nd, .int .i64 x13, .int .i64 n, .slice na20 ((nodesTo al 16).length) nc20] 42), .fz g25, _, _, _, _] _) => ?_)
 clear hS26
 have hS27o : St _ _ [.ow 42 5 (some ⟨b27, 0, none⟩) 1 1 (List.flatMap lo [Lo.mk na20 nc20 (Lr.mk kd nd x13 n (nodesTo al 16))]), .fz g25, _, _, _, _] _ := hS27.blkOw' (i := 0) (m := 1) (size := 5) (xs := List.flatMap lo [Lo.mk na20 nc20 (Lr.mk kd nd x13 n (nodesTo al 16))]) rfl rfl rfl (by decide); clear hS27
 refine hK _ _ ⟨⟨trivial, fun _ _ => by first | exact q_load1 rfl (by kernel_rfl) (hS27o.cell (i := 3) rfl rfl)⟩, fun h => absurd h (by decide)⟩ ?_; clear hK K
 refine o_eff (i := 7) (by kernel_rfl) rfl (goes0 rfl) (fun K hK => ?_)
 refine e_app (e := 42) (size := 5) (bytes := 56) (i := 4) (m' := (O' ++ [Lo.mk na20 nc20 (Lr.mk kd nd x13 n (nodesTo al 16))]).length) (by kernel_rfl) hS27o rfl rfl rfl (SlG.src (e := 42) (by kernel_rfl) (hS27o.owG (i := 0) rfl) ((rows_len (c := lo) (m := 5) (fun _ => rfl) _).trans (by first | rfl | (simp only [zll]; done) | (simp only [zll]; omega) | omega)) (by decide) (rows_one lo_ones)) (by first | omega | (simp only [zll] <;> omega) | (simp; done)) rows_app (by first | omega | (simp only [maxLen, zll] <;> omega) | (simp only [maxLen]; omega)) (by first | omega | (simp only [zll] <;> omega)) (fun ad28 cp28 w28 (hS28 : St _ _ [_, .fz g25, _, _, .ow 42 5 ad28 ((O' ++ [Lo.mk na20 nc20 (Lr.mk kd nd x13 n (nodesTo al 16))]).length) cp28 (List.flatMap lo (O' ++ [Lo.mk na20 nc20 (Lr.mk kd nd x13 n (nodesTo al 16))])), _] _) => ?_)
 clear hS27o
 refine hK _ _ ⟨⟨trivial, fun h => absurd h (by decide)⟩, fun h => absurd h (by decide)⟩ ?_; clear hK K
 refine o_pure (i := 8) (fun j w => ⟨(fun j w => ⟨(fun _ _ => trivial) j w, fun _ h => h⟩) j w, fun _ h => h⟩) rfl rfl (by kernel_rfl) (goes0 rfl) (QOk.inBlock (QOk.then (QOk.then (QOk.inBlock QOk.body)))) (fun w => q_nilCheck rfl) ?_
 refine o_pure (i := 9) (fun j w => ⟨(fun j w => ⟨(fun _ _ => trivial) j w, fun _ h => h⟩) j w, fun _ h => h⟩) rfl rfl (by kernel_rfl) (goes0 rfl) (QOk.inBlock (QOk.then (QOk.then (QOk.inBlock QOk.body)))) (fun w => q_fieldAddr (ft := 36) (o := 5) rfl (by kernel_rfl)) ?_
 refine o_eff (i := 10) (by kernel_rfl) rfl (goes0 rfl) (fun K hK => ?_)
 refine e_store1 hS28 rfl rfl (by kernel_rfl) (by first | rfl | assumption) (i := 3) rfl rfl (fun w29 (hS29 : St _ _ [_, .fz g25, _, .blk k (.cells #[.pointer (some ⟨kw, 0, none⟩), .int .i64 nd, .int .i64 (inc : Int), .int .i64 (cnt : Int), .map (some mb), .slice ad28 ((O' ++ [Lo.mk na20 nc20 (Lr.mk kd nd x13 n (nodesTo al 16))]).length) cp28] 68), _, _] _) => ?_)
 clear hS28
 refine hK _ _ ⟨⟨trivial, fun h => absurd h (by decide)⟩, fun h => absurd h (by decide)⟩ ?_; clear hK K
 refine o_done (by kernel_rfl) ?_
 refine hK11 _ _ ?_
 refine wp_region_lit ?_
 refine l_q rfl rfl (q_addx rfl rfl (by first | decide | omega) (by first | decide | omega)) ?_
 refine l_q rfl rfl (q_moveI rfl) ?_
 refine l_nil ?_
 have hS30 := hS29.fr5; clear hS29
 have hS31 := hS30.fr2; clear hS30
 have hS32 := hS31.fr5; clear hS31
 have hS33 := hS32.fr5; clear hS32
 have hS34 : St _ _ [_, _, .fz g25, _] _ := hS33.only 4; clear hS33
 refine hK7 _ _ (came (⟨(i + 1), ad28, cp28, (O' ++ [Lo.mk na20 nc20 (Lr.mk kd nd x13 n (nodesTo al 16))]), g25⟩) (by repeat' (first | exact Agree.refl _ _ | refine Agree.up ?_ rfl | refine Agree.hav2 ?_ rfl | refine Agree.ups2 ?_ rfl)) (by repeat' (first | exact trivial | refine ⟨by first | rfl | exact int_succ _ | assumption, ?_⟩)) ?_)
 have hkd : kd = 1 := by omega
 exact ⟨⟨hS34, (by show i + 1 ≤ (nodesTo to 16).length; omega), hg'.trans hle25, (hO'.mono hle25).add hfz25 (nodesTo_len al 16), (by rw [List.map_append, hOe, List.append_assoc, sends_next hx13, if_pos hkd]; rfl)⟩, by (show (nodesTo to 16).length - (i + 1) < (nodesTo to 16).length - i); omega⟩
 have hc19b := hc19
 try simp only [zbb] at hc19
 refine wp_skip ?_
 refine hK17 _ _ ?_
 refine r_any (by kernel_rfl) hS16 (fun w35 hS35 => ?_)
 clear hS16
 refine o_pure (i := 0) (fun _ _ => trivial) rfl rfl (by kernel_rfl) (goes0 rfl) (QOk.inBlock (QOk.then (QOk.then (QOk.inBlock QOk.body)))) (fun w => q_moveP rfl) ?_
 refine o_pure (i := 1) (fun _ _ => trivial) rfl rfl (by kernel_rfl) (goes0 rfl) (QOk.inBlock (QOk.then (QOk.then (QOk.inBlock QOk.body)))) (fun w => q_moveP rfl) ?_
 refine o_pure (i := 2) (fun _ _ => trivial) rfl rfl (by kernel_rfl) (goes0 rfl) (QOk.inBlock (QOk.then (QOk.then (QOk.inBlock QOk.body)))) (fun w => q_nilCheck rfl) ?_
 refine o_pure (i := 3) (fun _ _ => trivial) rfl rfl (by kernel_rfl) (goes0 rfl) (QOk.inBlock (QOk.then (QOk.then (QOk.inBlock QOk.body)))) (fun w => q_fieldAddr (ft := 36) (o := 5) rfl (by kernel_rfl)) ?_
 refine o_held (i := 4) [7, 8, 9, 10] (fun _ _ => trivial) rfl rfl (by kernel_rfl) (goes0 rfl) (QOk.inBlock (QOk.then (QOk.then (QOk.inBlock QOk.body)))) (q_load1 rfl (by kernel_rfl) (hS35.cell (i := 1) rfl rfl)) ?_
 refine o_held (i := 5) [6, 7, 8, 9, 10] (fun j w => ⟨(fun _ _ => trivial) j w, fun _ h => h⟩) rfl rfl (by kernel_rfl) (goes0 rfl) (QOk.inBlock (QOk.then (QOk.then (QOk.inBlock QOk.body)))) (q_loadA (m := 5) rfl (by kernel_rfl) (by kernel_rfl) (hS35.blk (i := 0) rfl) rfl rfl) ?_
 refine o_eff (i := 6) (by kernel_rfl) rfl (goes0 rfl) (fun K hK => ?_)
 refine e_buildSliceA (e := 42) (m := 5) (zv := .agg #[.int .i64 0, .int .i64 0, .int .i64 0, .int .i64 0, .slice none 0 0]) hS35 (by kernel_rfl) (by kernel_rfl) (by kernel_rfl) rfl rfl rfl rfl (fun b36 w36 (hS36 : St _ _ [.blk b36 (.cells #[.int .i64 kd, .int .i64 nd, .int .i64 x13, .int .i64 n, .slice none 0 0] 42), _, _, _, .fz g', _] _) => ?_)
 clear hS35
 have hS36o : St _ _ [.ow 42 5 (some ⟨b36, 0, none⟩) 1 1 (List.flatMap lo [Lo.mk none 0 (Lr.mk kd nd x13 n [])]), _, _, _, .fz g', _] _ := hS36.blkOw' (i := 0) (m := 1) (size := 5) (xs := List.flatMap lo [Lo.mk none 0 (Lr.mk kd nd x13 n [])]) rfl rfl rfl (by decide); clear hS36
 refine hK _ _ ⟨⟨trivial, fun _ _ => by first | exact q_load1 rfl (by kernel_rfl) (hS36o.cell (i := 2) rfl rfl)⟩, fun h => absurd h (by decide)⟩ ?_; clear hK K
 refine o_eff (i := 7) (by kernel_rfl) rfl (goes0 rfl) (fun K hK => ?_)
 refine e_app (e := 42) (size := 5) (bytes := 56) (i := 3) (m' := (O' ++ [Lo.mk none 0 (Lr.mk kd nd x13 n [])]).length) (by kernel_rfl) hS36o rfl rfl rfl (SlG.src (e := 42) (by kernel_rfl) (hS36o.owG (i := 0) rfl) ((rows_len (c := lo) (m := 5) (fun _ => rfl) _).trans (by first | rfl | (simp only [zll]; done) | (simp only [zll]; omega) | omega)) (by decide) (rows_one lo_ones)) (by first | omega | (simp only [zll] <;> omega) | (simp; done)) rows_app (by first | omega | (simp only [maxLen, zll] <;> omega) | (simp only [maxLen]; omega)) (by first | omega | (simp only [zll] <;> omega)) (fun ad37 cp37 w37 (hS37 : St _ _ [_, _, _, .ow 42 5 ad37 ((O' ++ [Lo.mk none 0 (Lr.mk kd nd x13 n [])]).length) cp37 (List.flatMap lo (O' ++ [Lo.mk none 0 (Lr.mk kd nd x13 n [])])), .fz g', _] _) => ?_)
 clear hS36o
 refine hK _ _ ⟨⟨trivial, fun h => absurd h (by decide)⟩, fun h => absurd h (by decide)⟩ ?_; clear hK K
 refine o_pure (i := 8) (fun j w => ⟨(fun j w => ⟨(fun _ _ => trivial) j w, fun _ h => h⟩) j w, fun _ h => h⟩) rfl rfl (by kernel_rfl) (goes0 rfl) (QOk.inBlock (QOk.then (QOk.then (QOk.inBlock QOk.body)))) (fun w => q_nilCheck rfl) ?_
 refine o_pure (i := 9) (fun j w => ⟨(fun j w => ⟨(fun _ _ => trivial) j w, fun _ h => h⟩) j w, fun _ h => h⟩) rfl rfl (by kernel_rfl) (goes0 rfl) (QOk.inBlock (QOk.then (QOk.then (QOk.inBlock QOk.body)))) (fun w => q_fieldAddr (ft := 36) (o := 5) rfl (by kernel_rfl)) ?_
 refine o_eff (i := 10) (by kernel_rfl) rfl (goes0 rfl) (fun K hK => ?_)
 refine e_store1 hS37 rfl rfl (by kernel_rfl) (by first | rfl | assumption) (i := 2) rfl rfl (fun w38 (hS38 : St _ _ [_, _, .blk k (.cells #[.pointer (some ⟨kw, 0, none⟩), .int .i64 nd, .int .i64 (inc : Int), .int .i64 (cnt : Int), .map (some mb), .slice ad37 ((O' ++ [Lo.mk none 0 (Lr.mk kd nd x13 n [])]).length) cp37] 68), _, .fz g', _] _) => ?_)
 clear hS37
 refine hK _ _ ⟨⟨trivial, fun h => absurd h (by decide)⟩, fun h => absurd h (by decide)⟩ ?_; clear hK K
 refine o_done (by kernel_rfl) ?_
 refine hK11 _ _ ?_
 refine wp_region_lit ?_
 refine l_q rfl rfl (q_addx rfl rfl (by first | decide | omega) (by first | decide | omega)) ?_
 refine l_q rfl rfl (q_moveI rfl) ?_
 refine l_nil ?_
 have hS39 := hS38.fr5; clear hS38
 have hS40 := hS39.fr5; clear hS39
 have hS41 := hS40.fr5; clear hS40
 have hS42 := hS41.fr5; clear hS41
 have hS43 : St _ _ [_, _, .fz g', _] _ := hS42.only 4; clear hS42
 refine hK7 _ _ (came (⟨(i + 1), ad37, cp37, (O' ++ [Lo.mk none 0 (Lr.mk kd nd x13 n [])]), g'⟩) (by repeat' (first | exact Agree.refl _ _ | refine Agree.up ?_ rfl | refine Agree.hav2 ?_ rfl | refine Agree.ups2 ?_ rfl)) (by repeat' (first | exact trivial | refine ⟨by first | rfl | exact int_succ _ | assumption, ?_⟩)) ?_)
 have hkd : ¬kd = 1 := by omega
 exact ⟨⟨hS43, (by show i + 1 ≤ (nodesTo to 16).length; omega), hg', hO'.add SlG.nil (Nat.zero_le _), (by rw [List.map_append, hOe, List.append_assoc, sends_next hx13, if_neg hkd]; rfl)⟩, by (show (nodesTo to 16).length - (i + 1) < (nodesTo to 16).length - i); omega⟩
 have hc10b := hc10
 try simp only [zbb] at hc10
 refine wp_exit ?_
 refine c_end0 (fn := Try.f34) rfl ?_
 have hS44 : St _ _ [_, _, .fz g'] _ := hS7.only 3; clear hS7
 have hiN : i = (nodesTo to 16).length := by omega
 rw [hiN, List.take_length] at hOe
 exact ⟨_, _, rfl, ⟨_, _, O', g', rfl, hg', hO', hOe⟩, hS44⟩
end Go.Proofs.Yteojpdijmnpmgaa
namespace Go.Proofs.Yteojpdijmnpmgaa
open Go Go.RowKit Go.MapKept
/-- Block b is a map whose entries are l's, in whatever order; its keys are of the kind d. -/
def MapSat (d : TypeDesc) (b : Nat) (l : List (Value × Value)) (w : World) : Prop :=
  ∃ es clk, w.heap[b]? = some (.map es clk) ∧ Stamped es clk ∧ (es.toList.map fun e => (e.key, e.val)).Perm l ∧ ∀ q ∈ l, IsKey d q.1
def Ch.mp (d : TypeDesc) (b : Nat) (l : List (Value × Value)) : Ch := .gen (fun k => k = b) (MapSat d b l) (fun w w' hk ⟨es, clk, h1, h2⟩ => ⟨es, clk, (hk b rfl).trans h1, h2⟩)
/-- l' is l with v at k. -/
def MUp (l : List (Value × Value)) (k v : Value) (l' : List (Value × Value)) : Prop := ∃ r, (∀ q ∈ r, q.1 ≠ k) ∧ (l.Perm r ∨ ∃ v0, l.Perm ((k, v0) :: r)) ∧ l'.Perm ((k, v) :: r)
/-- l' is l without k. -/
def MDel (l : List (Value × Value)) (k : Value) (l' : List (Value × Value)) : Prop := (∀ q ∈ l', q.1 ≠ k) ∧ (l.Perm l' ∨ ∃ v0, l.Perm ((k, v0) :: l'))
section
variable {d : TypeDesc} {b : Nat} {l l' : List (Value × Value)} {w : World} {k v : Value}
theorem MapSat.perm (h : MapSat d b l w) (p : l.Perm l') : MapSat d b l' w := by
  obtain ⟨es, clk, h1, h2, h3, h4⟩ := h
  exact ⟨es, clk, h1, h2, h3.trans p, fun q hq => h4 q (p.mem_iff.2 hq)⟩
theorem keys_of {es : List MapEntry} (hp : (es.map fun e => (e.key, e.val)).Perm l) (hk : ∀ q ∈ l, IsKey d q.1) : ∀ x ∈ es, IsKey d x.key := fun x hx => hk (x.key, x.val) (hp.mem_iff.1 (List.mem_map.2 ⟨x, hx, rfl⟩))
theorem pw_of {es : List MapEntry} (hs : es.Pairwise (fun x y => x.key ≠ y.key)) (hp : (es.map fun e => (e.key, e.val)).Perm l) : l.Pairwise (fun x y => x.1 ≠ y.1) :=
  (hp.pairwise_iff (fun {a b} (h : a.1 ≠ b.1) => h.symm)).1 (by rw [List.pairwise_map]; exact hs)
theorem MapSat.apart (h : MapSat d b l w) : l.Pairwise (fun x y => x.1 ≠ y.1) := by
  obtain ⟨es, clk, h1, h2, h3, h4⟩ := h
  exact pw_of ((stamped_iff es clk).1 h2).2.2 h3
theorem St.map {w0 : World} {D : Nat → Prop} {Γ : List Ch} {i : Nat} (h : St w0 D Γ w) (hi : Γ[i]? = some (.mp d b l)) : MapSat d b l w := (h.sat.get hi).1
theorem MapSat.mono {w' : World} (h : MapSat d b l w) (hg : Gle (hw w) (hw w')) : MapSat d b l w' := by
  obtain ⟨es, clk, h1, h2⟩ := h
  exact ⟨es, clk, hg b _ h1, h2⟩
theorem pw_one {v0 v1 : Value} (hl : l.Pairwise (fun x y => x.1 ≠ y.1)) (h1 : (k, v0) ∈ l) (h2 : (k, v1) ∈ l) : v0 = v1 := by
  induction hl with
  | nil => cases h1
  | cons h _ ih =>
    cases h1 with
    | head =>
      cases h2 with
      | head => rfl
      | tail _ h2 => exact (h _ h2 rfl).elim
    | tail _ h1 =>
      cases h2 with
      | head => exact (h _ h1 rfl).elim
      | tail _ h2 => exact ih h1 h2
/-- The entry that is found. -/
theorem found {es : List MapEntry} {e : MapEntry} {j : Nat} (hs : es.Pairwise (fun x y => x.key ≠ y.key)) (hp : (es.map fun e => (e.key, e.val)).Perm l) (h2 : es[j]? = some e) (h3 : e.key = k) (hm : (k, v) ∈ l) : e.val = v := by
  have h1 : (k, e.val) ∈ l := hp.mem_iff.1 (List.mem_map.2 ⟨e, List.mem_of_getElem? h2, by rw [h3]⟩)
  exact pw_one (pw_of hs hp) h1 hm
end
section
variable {P : Program} {n : Nat} {f : Nat → Value} {w w0 : World} {D : Nat → Prop} {Γ : List Ch} {K : Act → World → Prop} {Q : Exit → Act → World → Prop}
variable {d : Option Tmp} {dd : Nat} {x y z : Operand} {ty T T' : TypeId} {pos : String} {aft : Array Edge} {g : Option (Nat × Bool)} {i b : Nat} {l l' : List (Value × Value)} {k v zv : Value} {kd : TypeDesc}
/-- The type is a map's, its keys of the kind kd; the elements' zero is zv. -/
def mapB (P : Program) (T : TypeId) : Option (TypeDesc × Value) := match P.underlying T with
  | some (.map kt et) => (match P.underlying kt, zeroB P et with | some dd, some zv => some (dd, zv) | _, _ => none)
  | _ => none
theorem mapB_facts (h : mapB P T = some (kd, zv)) : ∃ kt et, P.underlying T = some (.map kt et) ∧ P.underlying kt = some kd ∧ zeroB P et = some zv := by
  unfold mapB at h
  split at h
  · rename_i kt et hu
    split at h
    · rename_i d z h1 h2
      simp only [Option.some.injEq, Prod.mk.injEq] at h
      obtain ⟨rfl, rfl⟩ := h
      exact ⟨_, _, hu, h1, h2⟩
    · cases h
  · cases h
/-- make(map[..]..). -/
theorem e_makeMap (hS : St w0 D Γ w) (kd : TypeDesc) (h : ∀ b w', St w0 D (.mp kd b [] :: Γ) w' → K (E n (up f dd (.map (some b)))) w') : Oper.wp P ⟨some dd, .makeMap T none, ty, pos, aft, g⟩ (E n f) w K Q :=
  e_new hS rfl (by simp [execOp, Instr.makeMap, newObj, Sem.run]) (fun w' hw => h _ w' (St.recast (i := 0) (c := .blk w.heap.size (.map #[] 0)) hw rfl (fun _ hk => hk) fun hs => ⟨#[], 0, hs, stamped_empty 0, .nil, fun q hq => by cases hq⟩))
theorem q_lookHit {v : Value} (hx : ev n f x = .map (some b)) (hy : ev n f y = k) (ht : mapB P T = some (kd, zv)) (hk : IsKey kd k) (hM : MapSat kd b l w) (hm : (k, v) ∈ l) :
    Run P n f ⟨d, .lookup T x y true, ty, pos, aft, g⟩ w (.tuple #[v, .bool true]) := by
  obtain ⟨kt, et, h1, h2, h3⟩ := mapB_facts ht
  obtain ⟨es, clk, m1, m2, m3, m4⟩ := hM
  subst hy
  rcases findNow_spec hk es.toList 0 (keys_of m3 m4) with ⟨f1, f2⟩ | ⟨j, e, f1, f2, f3⟩
  · obtain ⟨e, he, hq⟩ := List.mem_map.1 (m3.mem_iff.2 hm)
    exact absurd (congrArg Prod.fst hq) (f2 e he)
  · have hv := found ((stamped_iff es clk).1 m2).2.2 m3 f2 f3 hm
    simp only [Run, execOp, hx, Instr.lookup, Sem.run_bind, run_underlying h1, MapKept.run_getObj_map m1, Result.andThen, Sem.run_pure, run_checkKey h2 hk _ 9999, run_findKey h2 f1, hv]; simp
theorem q_lookMiss (hx : ev n f x = .map (some b)) (hy : ev n f y = k) (ht : mapB P T = some (kd, zv)) (hk : IsKey kd k) (hM : MapSat kd b l w) (hm : ∀ q ∈ l, q.1 ≠ k) :
    Run P n f ⟨d, .lookup T x y true, ty, pos, aft, g⟩ w (.tuple #[zv, .bool false]) := by
  obtain ⟨kt, et, h1, h2, h3⟩ := mapB_facts ht
  obtain ⟨es, clk, m1, m2, m3, m4⟩ := hM
  subst hy
  rcases findNow_spec hk es.toList 0 (keys_of m3 m4) with ⟨f1, f2⟩ | ⟨j, e, f1, f2, f3⟩
  · simp only [Run, execOp, hx, Instr.lookup, Sem.run_bind, run_underlying h1, MapKept.run_getObj_map m1, Result.andThen, Sem.run_pure, run_checkKey h2 hk _ 9999, run_findKey h2 f1, run_zero h3]; simp
  · exact absurd f3 (hm (e.key, e.val) (m3.mem_iff.1 (List.mem_map.2 ⟨e, List.mem_of_getElem? f2, rfl⟩)))
theorem St.setMap {o : Obj} {w' : World} (hS : St w0 D Γ w) (hi : Γ[i]? = some (.mp kd b l)) (ho : w'.os = w.os) (ht : w'.tape = w.tape) (hu : w'.output = w.output) (hh : w'.heap = w.heap.setIfInBounds b o) (hs : MapSat kd b l' w') : St w0 D (Γ.set i (.mp kd b l')) w' := by
  have hg := hS.sat.get hi
  have hz : w'.heap.size = w.heap.size := by rw [hh]; simp
  have hk : ∀ k, k ≠ b → w'.heap[k]? = w.heap[k]? := fun k hk => by rw [hh]; simp [Ne.symm hk]
  have hb := (hg.2 b rfl)
  refine ⟨ho.trans hS.os, ht.trans hS.tape, hu.trans hS.output, by rw [hz]; exact hS.size, fun k hk' hD => ?_, hS.sat.put (by rw [hz]; exact Nat.le_refl _) hi (fun k hk' _ => hk k hk') hs fun k hk' => ⟨.inl hk', by rw [hz]; exact (hg.2 k hk').2⟩⟩
  have hne : k ≠ b := fun e => by
    subst e
    rcases hb.1 with h | h
    · exact hD h
    · omega
  rw [hk k hne]; exact hS.keep k hk' hD
theorem modify_mid {α : Type} (f : α → α) : ∀ (A : List α) (x : α) (B : List α), (A ++ x :: B).modify A.length f = A ++ f x :: B
  | [], x, B => rfl
  | a :: A, x, B => by
    have := modify_mid f A x B
    simpa using this
theorem perm_modify {es : Array MapEntry} {j : Nat} {e : MapEntry} (hj : es[j]? = some e) (h3 : e.key = k) {r : List (Value × Value)} {v0 : Value} (hs : es.toList.Pairwise (fun x y => x.key ≠ y.key)) (hp : (es.toList.map fun e => (e.key, e.val)).Perm ((k, v0) :: r)) :
    ((es.modify j fun e => { e with key := k, val := v }).toList.map fun e => (e.key, e.val)).Perm ((k, v) :: r) := by
  have hlt : j < es.size := (Array.getElem?_eq_some_iff.1 hj).1
  have he : es.toList = es.toList.take j ++ e :: es.toList.drop (j + 1) := by
    have := (List.take_append_drop j es.toList).symm
    rw [List.drop_eq_getElem_cons (by simpa using hlt)] at this
    have h5 : es.toList[j]'(by simpa using hlt) = e := by
      have := Array.getElem?_eq_some_iff.1 hj
      simpa using this.2
    rw [h5] at this; exact this
  have hm : (es.modify j fun e => { e with key := k, val := v }).toList = es.toList.take j ++ { e with key := k, val := v } :: es.toList.drop (j + 1) := by
    rw [Array.toList_modify]
    have h6 : (es.toList.take j).length = j := by rw [List.length_take]; simp; omega
    conv => lhs; rw [he]
    have h8 := modify_mid (fun e : MapEntry => { e with key := k, val := v }) (es.toList.take j) e (es.toList.drop (j + 1))
    rwa [h6] at h8
  have h7 : (k, e.val) ∈ (k, v0) :: r := hp.mem_iff.1 (List.mem_map.2 ⟨e, Array.mem_toList_iff.2 (Array.mem_of_getElem? hj), by rw [h3]⟩)
  have h8 : e.val = v0 := pw_one (pw_of hs hp) h7 (.head _)
  rw [hm]
  rw [he] at hp
  simp only [List.map_append, List.map_cons] at hp ⊢
  rw [h3, h8] at hp
  have h9 := (List.perm_middle.symm.trans hp).cons_inv
  exact List.perm_middle.trans (h9.cons _)
theorem perm_erase {es : Array MapEntry} {j : Nat} {e : MapEntry} (hj : es[j]? = some e) (h3 : e.key = k) {r : List (Value × Value)} {v0 : Value} (hs : es.toList.Pairwise (fun x y => x.key ≠ y.key)) (hp : (es.toList.map fun e => (e.key, e.val)).Perm ((k, v0) :: r)) :
    ((es.eraseIdxIfInBounds j).toList.map fun e => (e.key, e.val)).Perm r := by
  have hlt : j < es.size := (Array.getElem?_eq_some_iff.1 hj).1
  have he : es.toList = es.toList.take j ++ e :: es.toList.drop (j + 1) := by
    have := (List.take_append_drop j es.toList).symm
    rw [List.drop_eq_getElem_cons (by simpa using hlt)] at this
    have h5 : es.toList[j]'(by simpa using hlt) = e := by
      have := Array.getElem?_eq_some_iff.1 hj
      simpa using this.2
    rw [h5] at this; exact this
  have hm : (es.eraseIdxIfInBounds j).toList = es.toList.take j ++ es.toList.drop (j + 1) := by
    unfold Array.eraseIdxIfInBounds
    rw [dif_pos hlt, Array.toList_eraseIdx, List.eraseIdx_eq_take_drop_succ]
  have h7 : (k, e.val) ∈ (k, v0) :: r := hp.mem_iff.1 (List.mem_map.2 ⟨e, Array.mem_toList_iff.2 (Array.mem_of_getElem? hj), by rw [h3]⟩)
  have h8 : e.val = v0 := pw_one (pw_of hs hp) h7 (.head _)
  rw [hm]
  rw [he] at hp
  simp only [List.map_append, List.map_cons] at hp ⊢
  rw [h3, h8] at hp
  exact (List.perm_middle.symm.trans hp).cons_inv
theorem no_key {es : List MapEntry} (h2 : ∀ x ∈ es, x.key ≠ k) (hp : (es.map fun e => (e.key, e.val)).Perm l) {r : List (Value × Value)} {v0 : Value} (h : l.Perm ((k, v0) :: r)) : False := by
  obtain ⟨e, he, hq⟩ := List.mem_map.1 ((hp.trans h).mem_iff.2 (.head _))
  exact h2 e he (congrArg Prod.fst hq)
/-- m[k] = v. -/
theorem e_mapUp (hS : St w0 D Γ w) (hx : ev n f x = .map (some b)) (hy : ev n f y = k) (hz : ev n f z = v) (ht : mapB P T = some (kd, zv)) (hk : IsKey kd k) (hi : Γ[i]? = some (.mp kd b l)) (hu : MUp l k v l')
    (h : ∀ w', St w0 D (Γ.set i (.mp kd b l')) w' → K (E n f) w') : Oper.wp P ⟨none, .mapUpdate T x y z, ty, pos, aft, g⟩ (E n f) w K Q := by
  obtain ⟨kt, et, h1, h2, h3⟩ := mapB_facts ht
  obtain ⟨es, clk, m1, m2, m3, m4⟩ := (hS.sat.get hi).1
  obtain ⟨r, r1, r2, r3⟩ := hu
  have hr : ∀ q ∈ r, q ∈ l := fun q hq => by
    rcases r2 with r2 | ⟨v0, r2⟩
    · exact r2.mem_iff.2 hq
    · exact r2.mem_iff.2 (.tail _ hq)
  have hl' : ∀ q ∈ l', IsKey kd q.1 := fun q hq => by
    cases r3.mem_iff.1 hq with
    | head => exact hk
    | tail _ hq => exact m4 q (hr q hq)
  subst hy hz
  unfold Oper.wp
  rw [E_eval]
  rcases findNow_spec hk es.toList 0 (keys_of m3 m4) with ⟨f1, f2⟩ | ⟨j, e, f1, f2, f3⟩
  · have hrun : (Instr.mapUpdate T (.map (some b)) (ev n f y) (ev n f z)).run P w = .ok () { w with heap := w.heap.setIfInBounds b (.map (es.push { key := ev n f y, val := ev n f z, born := clk }) (clk + 1)) } := by
      simp [Instr.mapUpdate, run_underlying h1, MapKept.run_getObj_map m1, run_checkKey h2 hk, run_findKey h2 f1, MapKept.run_setObj_map _ m1, Result.andThen]
    simp only [execOp, hx, Sem.run_bind, hrun, Result.andThen_ok, Sem.run_pure, Oper.upon]
    refine h _ (hS.setMap hi rfl rfl rfl rfl ⟨_, _, (heap_set m1).1, stamped_push m2 f2, ?_, hl'⟩)
    rcases r2 with r2 | ⟨v0, r2⟩
    · rw [Array.toList_push, List.map_append]
      exact (List.perm_append_comm.trans ((m3.trans r2).cons _)).trans r3.symm
    · exact (no_key f2 m3 r2).elim
  · have hj : es[j]? = some e := by simpa using f2
    have hrun : (Instr.mapUpdate T (.map (some b)) (ev n f y) (ev n f z)).run P w = .ok () { w with heap := w.heap.setIfInBounds b (.map (es.modify j fun e => { e with key := ev n f y, val := ev n f z }) clk) } := by
      simp [Instr.mapUpdate, run_underlying h1, MapKept.run_getObj_map m1, run_checkKey h2 hk, run_findKey h2 f1, hj, f3, run_keyThatStays hk, MapKept.run_setObj_map _ m1, Result.andThen]
    simp only [execOp, hx, Sem.run_bind, hrun, Result.andThen_ok, Sem.run_pure, Oper.upon]
    refine h _ (hS.setMap hi rfl rfl rfl rfl ⟨_, _, (heap_set m1).1, stamped_modify m2 _ _ (fun _ _ => rfl) (fun e' _ he' => by rw [hj] at he'; cases he'; exact f3.symm), ?_, hl'⟩)
    rcases r2 with r2 | ⟨v0, r2⟩
    · have : (e.key, e.val) ∈ r := (m3.trans r2).mem_iff.1 (List.mem_map.2 ⟨e, List.mem_of_getElem? f2, rfl⟩)
      exact absurd f3 (r1 _ this)
    · exact (perm_modify hj f3 ((stamped_iff es clk).1 m2).2.2 (m3.trans r2)).trans r3.symm
/-- delete(m, k). -/
theorem e_mapDel {kt' : TypeId} (hS : St w0 D Γ w) (hx : ev n f x = .map (some b)) (hy : ev n f y = k) (ht : mapB P T = some (kd, zv)) (hk : IsKey kd k) (hi : Γ[i]? = some (.mp kd b l)) (hu : MDel l k l')
    (h : ∀ w', St w0 D (Γ.set i (.mp kd b l')) w' → K (E n f) w') : Oper.wp P ⟨none, .call ⟨.builtin .delete, List.toArray [x, y], List.toArray [T, kt']⟩, ty, pos, aft, g⟩ (E n f) w K Q := by
  obtain ⟨kt, et, h1, h2, h3⟩ := mapB_facts ht
  obtain ⟨es, clk, m1, m2, m3, m4⟩ := (hS.sat.get hi).1
  obtain ⟨r1, r2⟩ := hu
  have hl' : ∀ q ∈ l', IsKey kd q.1 := fun q hq => by
    rcases r2 with r2 | ⟨v0, r2⟩
    · exact m4 q (r2.mem_iff.2 hq)
    · exact m4 q (r2.mem_iff.2 (.tail _ hq))
  subst hy
  unfold Oper.wp
  rw [E_eval]
  rcases findNow_spec hk es.toList 0 (keys_of m3 m4) with ⟨f1, f2⟩ | ⟨j, e, f1, f2, f3⟩
  · have hrun : (Builtin.delete_ #[T, kt'] ty #[.map (some b), ev n f y]).run P w = .ok (.tuple #[]) { w with heap := w.heap.setIfInBounds b (.map es clk) } := by
      simp [Builtin.delete_, run_underlying h1, MapKept.run_getObj_map m1, run_checkKey h2 hk, run_findKey h2 f1, MapKept.run_setObj_map _ m1, Result.andThen]
    simp only [execOp, resolve, invoke, builtin, Sem.run_bind, Sem.run_pure, Result.andThen_ok, List.map_toArray, List.map_cons, List.map_nil, hx, hrun, Oper.upon]
    refine h _ (hS.setMap hi rfl rfl rfl rfl ⟨_, _, (heap_set m1).1, m2, ?_, hl'⟩)
    rcases r2 with r2 | ⟨v0, r2⟩
    · exact m3.trans r2
    · exact (no_key f2 m3 r2).elim
  · have hj : es[j]? = some e := by simpa using f2
    have hrun : (Builtin.delete_ #[T, kt'] ty #[.map (some b), ev n f y]).run P w = .ok (.tuple #[]) { w with heap := w.heap.setIfInBounds b (.map (es.eraseIdxIfInBounds j) clk) } := by
      simp [Builtin.delete_, run_underlying h1, MapKept.run_getObj_map m1, run_checkKey h2 hk, run_findKey h2 f1, MapKept.run_setObj_map _ m1, Result.andThen]
    simp only [execOp, resolve, invoke, builtin, Sem.run_bind, Sem.run_pure, Result.andThen_ok, List.map_toArray, List.map_cons, List.map_nil, hx, hrun, Oper.upon]
    refine h _ (hS.setMap hi rfl rfl rfl rfl ⟨_, _, (heap_set m1).1, stamped_erase m2 _, ?_, hl'⟩)
    rcases r2 with r2 | ⟨v0, r2⟩
    · have : (e.key, e.val) ∈ l' := (m3.trans r2).mem_iff.1 (List.mem_map.2 ⟨e, List.mem_of_getElem? f2, rfl⟩)
      exact absurd f3 (r1 _ this)
    · exact perm_erase hj f3 ((stamped_iff es clk).1 m2).2.2 (m3.trans r2)
end
/-! ### over a list of the caller's -/
section
variable {κ α : Type} [DecidableEq κ] {c : κ × α → Value × Value} {L : List (κ × α)} {k : κ} {x : α}
def mset (L : List (κ × α)) (k : κ) (x : α) : List (κ × α) := (k, x) :: L.filter fun q => decide (q.1 ≠ k)
def mdel (L : List (κ × α)) (k : κ) : List (κ × α) := L.filter fun q => decide (q.1 ≠ k)
theorem split_key (hd : L.Pairwise fun a b => a.1 ≠ b.1) : (L.Perm (mdel L k)) ∨ ∃ x0, L.Perm ((k, x0) :: mdel L k) := by
  induction hd with
  | nil => exact .inl .nil
  | cons h hp ih =>
    rename_i a L
    by_cases ha : a.1 = k
    · refine .inr ⟨a.2, ?_⟩
      have h1 : mdel (a :: L) k = L := by
        unfold mdel
        rw [List.filter_cons_of_neg (by simpa using ha)]
        exact List.filter_eq_self.2 fun q hq => by simpa using fun e => h q hq (ha.trans e.symm)
      rw [h1, ← ha]
    · have h1 : mdel (a :: L) k = a :: mdel L k := by unfold mdel; rw [List.filter_cons_of_pos (by simpa using ha)]
      rw [h1]
      rcases ih with h2 | ⟨x0, h2⟩
      · exact .inl (h2.cons _)
      · exact .inr ⟨x0, (h2.cons _).trans (.swap _ _ _)⟩
theorem mdel_ne {q : κ × α} (h : q ∈ mdel L k) : q.1 ≠ k := by simpa using (List.mem_filter.1 h).2
/-- A key apart from another one lies apart. -/
def CInj (c : κ × α → Value × Value) (ok : κ → Prop) : Prop := ∀ a b : κ × α, ok a.1 → ok b.1 → (c a).1 = (c b).1 → a.1 = b.1
variable {ok : κ → Prop}
theorem MUp.of {L' : List (κ × α)} {kv v : Value} (hd : L.Pairwise fun a b => a.1 ≠ b.1) (hi : CInj c ok) (ho : ∀ q ∈ L, ok q.1) (hk : ok k) (hc : c (k, x) = (kv, v)) (hkv : ∀ y, (c (k, y)).1 = kv) (hL : L'.Perm (mset L k x)) : MUp (L.map c) kv v (L'.map c) := by
  refine ⟨(mdel L k).map c, ?_, ?_, ?_⟩
  · intro q hq
    obtain ⟨a, ha, rfl⟩ := List.mem_map.1 hq
    intro e
    have h1 : (c a).1 = (c (k, x)).1 := by rw [hc]; exact e
    exact mdel_ne ha (hi a (k, x) (ho a (List.mem_filter.1 ha).1) hk h1)
  · rcases split_key (k := k) hd with h | ⟨x0, h⟩
    · exact .inl (h.map c)
    · refine .inr ⟨(c (k, x0)).2, ?_⟩
      have := h.map c
      rw [List.map_cons] at this
      rw [← hkv x0]; exact this
  · have := hL.map c
    unfold mset at this
    rw [List.map_cons, hc] at this
    exact this
theorem MDel.of {L' : List (κ × α)} {kv : Value} (hd : L.Pairwise fun a b => a.1 ≠ b.1) (hi : CInj c ok) (ho : ∀ q ∈ L, ok q.1) (hk : ok k) (hkv : ∀ y, (c (k, y)).1 = kv) (hL : L'.Perm (mdel L k)) : MDel (L.map c) kv (L'.map c) := by
  refine ⟨?_, ?_⟩
  · intro q hq
    obtain ⟨a, ha, rfl⟩ := List.mem_map.1 hq
    have ha' := hL.mem_iff.1 ha
    intro e
    exact mdel_ne ha' (hi a (k, a.2) (ho a (List.mem_filter.1 ha').1) hk (by rw [hkv]; exact e))
  · rcases split_key (k := k) hd with h | ⟨x0, h⟩
    · exact .inl ((h.trans hL.symm).map c)
    · refine .inr ⟨(c (k, x0)).2, ?_⟩
      have := (h.trans (hL.symm.cons _)).map c
      rw [List.map_cons] at this
      rw [← hkv x0]; exact this
omit [DecidableEq κ] in
theorem look_hit {kv v : Value} (hm : (k, x) ∈ L) (hc : c (k, x) = (kv, v)) : (kv, v) ∈ L.map c := List.mem_map.2 ⟨_, hm, hc⟩
omit [DecidableEq κ] in
theorem look_miss {kv : Value} (hi : CInj c ok) (ho : ∀ q ∈ L, ok q.1) (hk : ok k) (hkv : ∀ y, (c (k, y)).1 = kv) (h : ∀ q ∈ L, q.1 ≠ k) : ∀ q ∈ L.map c, q.1 ≠ kv := by
  intro q hq e
  obtain ⟨a, ha, rfl⟩ := List.mem_map.1 hq
  exact h a ha (hi a (k, a.2) (ho a ha) hk (by rw [hkv]; exact e))
end
end Go.Proofs.Yteojpdijmnpmgaa
namespace Go.Proofs.Yteojpdijmnpmgaa
open Go Go.RowKit Go.MapKept Go.Maps Go.Sort Go.Shelf
/-- Every element reads as nothing of note. -/
def R0 (_ : Value) : Option (DataW Unit × List MemPlace) := some (.lit (.bool true), [])
theorem keyOf_i {P : Program} {k : TypeId} (hk : P.underlying k = some (.int .i64)) {z : Int} (h1 : -9223372036854775808 ≤ z) (h2 : z ≤ 9223372036854775807) : keyOf P k (.int .i64 z) = some (.int .i64 z) := by
  have hw : (Lit.int .i64 z).wf = true := WalkArith.wf_i64 ⟨h1, h2⟩
  simp [keyOf, hk, mapKey, hw]
/-- The map's keys, by the kit's words. -/
theorem MapSat.owns {P : Program} {k : TypeId} (hk : P.underlying k = some (.int .i64)) {κ : Type} {L : List κ} {key : κ → Int} {c : κ → Value × Value} (hc : ∀ q, (c q).1 = .int .i64 (key q)) {b : Nat} {w : World} (h : MapSat (.int .i64) b (L.map c) w)
    (hr : ∀ q ∈ L, -9223372036854775808 ≤ key q ∧ key q ≤ 9223372036854775807) (hl : L.length ≤ maxLen) : ∃ D : DataW Unit, w.ownsMap P k R0 b L.length D ∧ (intKeys D).Perm (L.map key) ∧ Maps.size D = L.length := by
  obtain ⟨es, clk, h1, h2, h3, h4⟩ := h
  have hsz : es.size = L.length := by have := h3.length_eq; simpa using this
  have hkey : ∀ x ∈ es.toList, ∃ q ∈ L, x.key = .int .i64 (key q) := fun x hx => by
    obtain ⟨q, hq, e⟩ := List.mem_map.1 (h3.mem_iff.1 (List.mem_map.2 ⟨x, hx, rfl⟩))
    exact ⟨q, hq, by have := congrArg Prod.fst e; rw [hc] at this; exact this.symm⟩
  have hrd : ∀ x ∈ es.toList, WideElems.rd P k R0 x = some (.int .i64 (match x.key with | .int _ a => a | _ => 0), .lit (.bool true)) := fun x hx => by
    obtain ⟨q, hq, e⟩ := hkey x hx
    obtain ⟨r1, r2⟩ := hr q hq
    unfold WideElems.rd
    rw [e, keyOf_i hk r1 r2]; rfl
  have hF : WideElems.Fit P k R0 es clk := ⟨by omega, h2, fun x hx => ⟨_, hrd x hx⟩⟩
  refine ⟨_, ⟨es, clk, h1, hF, by omega, rfl⟩, ?_, ?_⟩
  · have p1 := (WideShapes.sorted_perm (es.toList.map (WideElems.rg P k R0))).map (fun p : Lit × DataW Unit => _root_.Go.intOf p.1)
    refine p1.trans ?_
    rw [List.map_map]
    have e1 : es.toList.map ((fun p : Lit × DataW Unit => _root_.Go.intOf p.1) ∘ WideElems.rg P k R0) = (es.toList.map fun e => (e.key, e.val)).map (fun q => match q.1 with | .int _ a => a | _ => 0) := by
      rw [List.map_map]
      refine List.map_congr_left fun x hx => ?_
      show _root_.Go.intOf (WideElems.rg P k R0 x).1 = _
      rw [WideElems.rg_of (hrd x hx)]; rfl
    rw [e1]
    have p2 := h3.map (fun q : Value × Value => match q.1 with | .int _ a => a | _ => (0 : Int))
    refine p2.trans ?_
    rw [List.map_map]
    have e2 : L.map ((fun q : Value × Value => match q.1 with | .int _ a => a | _ => (0 : Int)) ∘ c) = L.map key := List.map_congr_left fun q _ => by
      show (match (c q).1 with | .int _ a => a | _ => (0 : Int)) = key q
      rw [hc]
    rw [e2]
  · rw [Maps.size_eq, (WideShapes.sorted_perm _).length_eq, List.length_map]; simpa using hsz
end Go.Proofs.Yteojpdijmnpmgaa
