/- law04: KeyOne. -/
import Derived.Test.YtcllmnepkglabaaDoorK9
set_option linter.unusedVariables false
set_option linter.unusedSimpArgs false
namespace Go.Proofs.YtcllmnepkglabaaDoor
open Go.RowKit
attribute [local irreducible] Oper.wp Sem.run Code.wp wpList wpAnyO callFunc execOp Calls
attribute [local irreducible] enc encR rightB toU encV nxB nxN fewB rightL vls vlt
attribute [local irreducible] cmpZ cmB orL vcmp rcmp

set_option maxHeartbeats 8000000 in
set_option maxRecDepth 100000 in
theorem kone_ok (L : List Vl) (a b : Vl) (hL : VsOk L) (ha : VOk a) (hb : VOk b) (al : Option Addr) (cl : Nat) (hLm : L.length ≤ 4398046510976) (w : World) (hG : SlG (hw w) al (List.flatMap vl L)) : Calls Tryd.prog 5 #[.slice al L.length cl, .agg (vl a).toArray, .agg (vl b).toArray] w (PostR w fun v => v = .bool true) := by
  have hS := St.start w
  have hla : (L ++ [a, b]).length = L.length + 2 := by simp
  have hla1 : (L ++ [a]).length = L.length + 1 := by simp
  have hla2 : (L ++ [b]).length = L.length + 1 := by simp
  refine c_enter Tryd.func5 rfl rfl rfl ?_
  refine wp_seq_k (fun K1 hK1 => ?_)
  refine wp_region_lit ?_
  refine l_e rfl (fun K hK => ?_)
  refine e_boxA hS rfl (fun b2 w2 (hS2 : St _ _ [.blk b2 (.cells #[.int .i64 a.1, .int .i64 a.2.1, .string (bs a.2.2)] 31)] _) => ?_)
  clear hS
  refine hK _ _ ?_; clear hK K
  refine l_e rfl (fun K hK => ?_)
  refine e_boxA hS2 rfl (fun b3 w3 (hS3 : St _ _ [.blk b3 (.cells #[.int .i64 b.1, .int .i64 b.2.1, .string (bs b.2.2)] 31), .blk b2 (.cells #[.int .i64 a.1, .int .i64 a.2.1, .string (bs a.2.2)] 31)] _) => ?_)
  clear hS2
  refine hK _ _ ?_; clear hK K
  refine l_q rfl rfl (q_assignB rfl) ?_
  refine l_nil ?_
  refine hK1 _ _ ?_
  refine wp_seq_k (fun K4 hK4 => ?_)
  refine wp_region_lit ?_
  refine l_q rfl rfl (q_loadA (m := 3) rfl (by kernel_rfl) (by kernel_rfl) (hS3.blk (i := 1) rfl) rfl rfl) ?_
  refine l_e rfl (fun K hK => ?_)
  refine e_buildSliceA (e := 31) (m := 3) (zv := .agg #[.int .i64 0, .int .i64 0, .string ⟨#[]⟩]) hS3 (by kernel_rfl) (by kernel_rfl) (by kernel_rfl) rfl rfl rfl rfl (fun b5 w5 (hS5 : St _ _ [.blk b5 (.cells #[.int .i64 a.1, .int .i64 a.2.1, .string (bs a.2.2)] 31), .blk b3 (.cells #[.int .i64 b.1, .int .i64 b.2.1, .string (bs b.2.2)] 31), .blk b2 (.cells #[.int .i64 a.1, .int .i64 a.2.1, .string (bs a.2.2)] 31)] _) => ?_)
  clear hS3
  have hS5o : St _ _ [.ow 31 3 (some ⟨b5, 0, none⟩) 1 1 (List.flatMap vl [a]), .blk b3 (.cells #[.int .i64 b.1, .int .i64 b.2.1, .string (bs b.2.2)] 31), .blk b2 (.cells #[.int .i64 a.1, .int .i64 a.2.1, .string (bs a.2.2)] 31)] _ := hS5.blkOw' (i := 0) (m := 1) (size := 3) (xs := List.flatMap vl [a]) rfl rfl rfl (by decide); clear hS5
  refine hK _ _ ?_; clear hK K
  refine l_q rfl rfl (q_assignS rfl) ?_
  refine l_nil ?_
  refine hK4 _ _ ?_
  refine wp_seq_k (fun K6 hK6 => ?_)
  refine wp_region_lit ?_
  refine l_q rfl rfl (q_loadA (m := 3) rfl (by kernel_rfl) (by kernel_rfl) (hS5o.blk (i := 1) rfl) rfl rfl) ?_
  refine l_e rfl (fun K hK => ?_)
  refine e_buildSliceA (e := 31) (m := 3) (zv := .agg #[.int .i64 0, .int .i64 0, .string ⟨#[]⟩]) hS5o (by kernel_rfl) (by kernel_rfl) (by kernel_rfl) rfl rfl rfl rfl (fun b7 w7 (hS7 : St _ _ [.blk b7 (.cells #[.int .i64 b.1, .int .i64 b.2.1, .string (bs b.2.2)] 31), .ow 31 3 (some ⟨b5, 0, none⟩) 1 1 (List.flatMap vl [a]), .blk b3 (.cells #[.int .i64 b.1, .int .i64 b.2.1, .string (bs b.2.2)] 31), .blk b2 (.cells #[.int .i64 a.1, .int .i64 a.2.1, .string (bs a.2.2)] 31)] _) => ?_)
  clear hS5o
  have hS7o : St _ _ [.ow 31 3 (some ⟨b7, 0, none⟩) 1 1 (List.flatMap vl [b]), .ow 31 3 (some ⟨b5, 0, none⟩) 1 1 (List.flatMap vl [a]), .blk b3 (.cells #[.int .i64 b.1, .int .i64 b.2.1, .string (bs b.2.2)] 31), .blk b2 (.cells #[.int .i64 a.1, .int .i64 a.2.1, .string (bs a.2.2)] 31)] _ := hS7.blkOw' (i := 0) (m := 1) (size := 3) (xs := List.flatMap vl [b]) rfl rfl rfl (by decide); clear hS7
  refine hK _ _ ?_; clear hK K
  refine l_q rfl rfl (q_assignS rfl) ?_
  refine l_nil ?_
  refine hK6 _ _ ?_
  refine c_cut (τ := Bool) [(9, 9), (27, 34)] (fun x => (fun (fb : Bool) => [(9, .bool fb)]) x) (fun x w' => (fun (fb : Bool) => St w (fun _ => False) [.ow 31 3 (some ⟨b7, 0, none⟩) 1 1 (List.flatMap vl [b]), .ow 31 3 (some ⟨b5, 0, none⟩) 1 1 (List.flatMap vl [a]), .blk b3 (.cells #[.int .i64 b.1, .int .i64 b.2.1, .string (bs b.2.2)] 31), .blk b2 (.cells #[.int .i64 a.1, .int .i64 a.2.1, .string (bs a.2.2)] 31)] w') x) (fun K9 hK9 => ?_) (fun fb j9 w9 hJ9 => ?_)
  ·
    refine r_any (by kernel_rfl) hS7o (fun w10 hS10 => ?_)
    clear hS7o
    refine o_pure (i := 1) (fun _ _ => trivial) rfl rfl (by kernel_rfl) (goes0 rfl) (QOk.then QOk.body) (fun w => q_moveS rfl) ?_
    refine o_held (i := 3) [5, 6, 7, 8] (fun _ _ => trivial) rfl rfl (by kernel_rfl) (goes0 rfl) (QOk.then QOk.body) (q_loadA (m := 3) rfl (by kernel_rfl) (by kernel_rfl) (hS10.blk (i := 3) rfl) rfl rfl) ?_
    refine o_held (i := 4) [5, 6, 7, 8] (fun j w => ⟨(fun _ _ => trivial) j w, fun _ h => h⟩) rfl rfl (by kernel_rfl) (goes0 rfl) (QOk.then QOk.body) (q_loadA (m := 3) rfl (by kernel_rfl) (by kernel_rfl) (hS10.blk (i := 2) rfl) rfl rfl) ?_
    refine o_eff2 (i := 0) (j := 5) (by kernel_rfl) rfl rfl (goes0 rfl) (goes0 rfl) (fun K hK => ?_) (fun K hK => ?_)
    ·
      refine e_buildSlice0 (e := 31) (m := 3) hS10 (by kernel_rfl) (by kernel_rfl) (fun b11 w11 (hS11 : St _ _ [.blk b11 (.cells #[] 31), .ow 31 3 (some ⟨b7, 0, none⟩) 1 1 (List.flatMap vl [b]), .ow 31 3 (some ⟨b5, 0, none⟩) 1 1 (List.flatMap vl [a]), .blk b3 (.cells #[.int .i64 b.1, .int .i64 b.2.1, .string (bs b.2.2)] 31), .blk b2 (.cells #[.int .i64 a.1, .int .i64 a.2.1, .string (bs a.2.2)] 31)] _) => ?_)
      clear hS10
      have hS11o : St _ _ [.ow 31 3 (some ⟨b11, 0, none⟩) 0 0 (List.flatMap vl []), .ow 31 3 (some ⟨b7, 0, none⟩) 1 1 (List.flatMap vl [b]), .ow 31 3 (some ⟨b5, 0, none⟩) 1 1 (List.flatMap vl [a]), .blk b3 (.cells #[.int .i64 b.1, .int .i64 b.2.1, .string (bs b.2.2)] 31), .blk b2 (.cells #[.int .i64 a.1, .int .i64 a.2.1, .string (bs a.2.2)] 31)] _ := hS11.blkOw' (i := 0) (m := 0) (size := 3) (xs := List.flatMap vl []) rfl rfl rfl (by decide); clear hS11
      refine hK _ _ ⟨⟨trivial, fun _ _ => by first | exact q_loadA (m := 3) rfl (by kernel_rfl) (by kernel_rfl) (hS11o.blk (i := 4) rfl) rfl rfl⟩, fun _ _ => by first | exact q_loadA (m := 3) rfl (by kernel_rfl) (by kernel_rfl) (hS11o.blk (i := 3) rfl) rfl rfl⟩ ?_; clear hK K
      refine o_eff2 (i := 2) (j := 5) (by kernel_rfl) rfl rfl (goes0 rfl) (goes0 rfl) (fun K hK => ?_) (fun K hK => ?_)
      ·
        refine e_app (e := 31) (size := 3) (bytes := 32) (i := 0) (m' := L.length) (by kernel_rfl) hS11o rfl rfl rfl (SlG.src (e := 31) (by kernel_rfl) (hG.mono hS11o.base) ((rows_len (c := vl) (m := 3) (fun _ => rfl) _).trans (by first | rfl | (simp only [List.length_append, List.length_map, List.length_cons, List.length_nil, List.length_take, List.length_drop, List.length_set]; done) | (simp only [List.length_append, List.length_map, List.length_cons, List.length_nil, List.length_take, List.length_drop, List.length_set]; omega) | omega)) (by decide) (rows_one vl_ones)) (by first | omega | (simp only [List.length_append, List.length_map, List.length_cons, List.length_nil, List.length_take, List.length_drop, List.length_set] <;> omega) | (simp; done)) rfl (by first | omega | (simp only [maxLen, List.length_append, List.length_map, List.length_cons, List.length_nil, List.length_take, List.length_drop, List.length_set] <;> omega) | (simp only [maxLen]; omega)) (by first | omega | (simp only [List.length_append, List.length_map, List.length_cons, List.length_nil, List.length_take, List.length_drop, List.length_set] <;> omega)) (fun ad12 cp12 w12 (hS12 : St _ _ [.ow 31 3 ad12 L.length cp12 (List.flatMap vl L), .ow 31 3 (some ⟨b7, 0, none⟩) 1 1 (List.flatMap vl [b]), .ow 31 3 (some ⟨b5, 0, none⟩) 1 1 (List.flatMap vl [a]), .blk b3 (.cells #[.int .i64 b.1, .int .i64 b.2.1, .string (bs b.2.2)] 31), .blk b2 (.cells #[.int .i64 a.1, .int .i64 a.2.1, .string (bs a.2.2)] 31)] _) => ?_)
        clear hS11o
        refine hK _ _ ⟨⟨trivial, fun _ _ => by first | exact q_loadA (m := 3) rfl (by kernel_rfl) (by kernel_rfl) (hS12.blk (i := 4) rfl) rfl rfl⟩, fun _ _ => by first | exact q_loadA (m := 3) rfl (by kernel_rfl) (by kernel_rfl) (hS12.blk (i := 3) rfl) rfl rfl⟩ ?_; clear hK K
        refine o_eff (i := 5) (by kernel_rfl) rfl (goes0 rfl) (fun K hK => ?_)
        refine e_buildSliceA2 (e := 31) (m := 3) (zv := .agg #[.int .i64 0, .int .i64 0, .string ⟨#[]⟩]) (cs := [.int .i64 a.1, .int .i64 a.2.1, .string (bs a.2.2)]) (ds := [.int .i64 b.1, .int .i64 b.2.1, .string (bs b.2.2)]) hS12 (by kernel_rfl) (by kernel_rfl) (by kernel_rfl) rfl rfl rfl rfl rfl rfl (fun b13 w13 (hS13 : St _ _ [.blk b13 (.cells #[.int .i64 a.1, .int .i64 a.2.1, .string (bs a.2.2), .int .i64 b.1, .int .i64 b.2.1, .string (bs b.2.2)] 31), .ow 31 3 ad12 L.length cp12 (List.flatMap vl L), .ow 31 3 (some ⟨b7, 0, none⟩) 1 1 (List.flatMap vl [b]), .ow 31 3 (some ⟨b5, 0, none⟩) 1 1 (List.flatMap vl [a]), .blk b3 (.cells #[.int .i64 b.1, .int .i64 b.2.1, .string (bs b.2.2)] 31), .blk b2 (.cells #[.int .i64 a.1, .int .i64 a.2.1, .string (bs a.2.2)] 31)] _) => ?_)
        clear hS12
        have hS13o : St _ _ [.ow 31 3 (some ⟨b13, 0, none⟩) 2 2 (List.flatMap vl [a, b]), .ow 31 3 ad12 L.length cp12 (List.flatMap vl L), .ow 31 3 (some ⟨b7, 0, none⟩) 1 1 (List.flatMap vl [b]), .ow 31 3 (some ⟨b5, 0, none⟩) 1 1 (List.flatMap vl [a]), .blk b3 (.cells #[.int .i64 b.1, .int .i64 b.2.1, .string (bs b.2.2)] 31), .blk b2 (.cells #[.int .i64 a.1, .int .i64 a.2.1, .string (bs a.2.2)] 31)] _ := hS13.blkOw' (i := 0) (m := 2) (size := 3) (xs := List.flatMap vl [a, b]) rfl rfl rfl (by decide); clear hS13
        refine hK _ _ ⟨⟨trivial, fun h => absurd h (by decide)⟩, fun h => absurd h (by decide)⟩ ?_; clear hK K
        refine o_eff (i := 6) (by kernel_rfl) rfl (goes0 rfl) (fun K hK => ?_)
        refine e_app (e := 31) (size := 3) (bytes := 32) (i := 1) (m' := (L ++ [a, b]).length) (by kernel_rfl) hS13o rfl rfl rfl (SlG.src (e := 31) (by kernel_rfl) (hS13o.owG (i := 0) rfl) ((rows_len (c := vl) (m := 3) (fun _ => rfl) _).trans (by first | rfl | (simp only [List.length_append, List.length_map, List.length_cons, List.length_nil, List.length_take, List.length_drop, List.length_set]; done) | (simp only [List.length_append, List.length_map, List.length_cons, List.length_nil, List.length_take, List.length_drop, List.length_set]; omega) | omega)) (by decide) (rows_one vl_ones)) (by first | omega | (simp only [List.length_append, List.length_map, List.length_cons, List.length_nil, List.length_take, List.length_drop, List.length_set] <;> omega) | (simp; done)) rows_app (by first | omega | (simp only [maxLen, List.length_append, List.length_map, List.length_cons, List.length_nil, List.length_take, List.length_drop, List.length_set] <;> omega) | (simp only [maxLen]; omega)) (by first | omega | (simp only [List.length_append, List.length_map, List.length_cons, List.length_nil, List.length_take, List.length_drop, List.length_set] <;> omega)) (fun ad14 cp14 w14 (hS14 : St _ _ [.ow 31 3 (some ⟨b13, 0, none⟩) 2 2 (List.flatMap vl [a, b]), .ow 31 3 ad14 ((L ++ [a, b]).length) cp14 (List.flatMap vl (L ++ [a, b])), .ow 31 3 (some ⟨b7, 0, none⟩) 1 1 (List.flatMap vl [b]), .ow 31 3 (some ⟨b5, 0, none⟩) 1 1 (List.flatMap vl [a]), .blk b3 (.cells #[.int .i64 b.1, .int .i64 b.2.1, .string (bs b.2.2)] 31), .blk b2 (.cells #[.int .i64 a.1, .int .i64 a.2.1, .string (bs a.2.2)] 31)] _) => ?_)
        clear hS13o
        refine hK _ _ ⟨⟨trivial, fun h => absurd h (by decide)⟩, fun h => absurd h (by decide)⟩ ?_; clear hK K
        refine o_eff (i := 7) (by kernel_rfl) rfl (goes0 rfl) (fun K hK => ?_)
        refine e_call (by kernel_rfl) (few_ok (L ++ [a, b]) (VsOk.app hL (VsOk.cons ha (VsOk.one hb))) ((L ++ [a, b]).length) (by first | omega | (simp only [List.length_append, List.length_map, List.length_cons, List.length_nil, List.length_take, List.length_drop, List.length_set] <;> omega)) _ _ _ (hS14.owG (i := 1) rfl)) rfl (after_R hS14 (fun v15 w15 hv15 hS15 => ?_))
        clear hS14
        obtain rfl := hv15
        refine hK _ _ ⟨⟨trivial, fun h => absurd h (by decide)⟩, fun h => absurd h (by decide)⟩ ?_; clear hK K
        refine o_pure (i := 8) (fun j w => ⟨(fun j w => ⟨(fun _ _ => trivial) j w, fun _ h => h⟩) j w, fun _ h => h⟩) rfl rfl (by kernel_rfl) (goes0 rfl) (QOk.then QOk.body) (fun w => q_assignB rfl) ?_
        refine o_done (by kernel_rfl) ?_
        have hS16 := hS15.fr5; clear hS15
        have hS17 := hS16.fr5; clear hS16
        have hS18 := hS17.fr5; clear hS17
        have hS19 := hS18.fr5; clear hS18
        have hS20 : St _ _ [.ow 31 3 (some ⟨b7, 0, none⟩) 1 1 (List.flatMap vl [b]), .ow 31 3 (some ⟨b5, 0, none⟩) 1 1 (List.flatMap vl [a]), .blk b3 (.cells #[.int .i64 b.1, .int .i64 b.2.1, .string (bs b.2.2)] 31), .blk b2 (.cells #[.int .i64 a.1, .int .i64 a.2.1, .string (bs a.2.2)] 31)] _ := hS19.only 4; clear hS19
        refine hK9 _ _ (came ((fewB (L ++ [a, b]))) (by repeat' (first | exact Agree.refl _ _ | refine Agree.up ?_ rfl | refine Agree.hav2 ?_ rfl | refine Agree.ups2 ?_ rfl)) (by repeat' (first | exact trivial | refine ⟨by first | rfl | exact int_succ _ | assumption, ?_⟩)) ?_)
        exact hS20
      ·
        refine e_buildSliceA2 (e := 31) (m := 3) (zv := .agg #[.int .i64 0, .int .i64 0, .string ⟨#[]⟩]) (cs := [.int .i64 a.1, .int .i64 a.2.1, .string (bs a.2.2)]) (ds := [.int .i64 b.1, .int .i64 b.2.1, .string (bs b.2.2)]) hS11o (by kernel_rfl) (by kernel_rfl) (by kernel_rfl) rfl rfl rfl rfl rfl rfl (fun b21 w21 (hS21 : St _ _ [.blk b21 (.cells #[.int .i64 a.1, .int .i64 a.2.1, .string (bs a.2.2), .int .i64 b.1, .int .i64 b.2.1, .string (bs b.2.2)] 31), .ow 31 3 (some ⟨b11, 0, none⟩) 0 0 (List.flatMap vl []), .ow 31 3 (some ⟨b7, 0, none⟩) 1 1 (List.flatMap vl [b]), .ow 31 3 (some ⟨b5, 0, none⟩) 1 1 (List.flatMap vl [a]), .blk b3 (.cells #[.int .i64 b.1, .int .i64 b.2.1, .string (bs b.2.2)] 31), .blk b2 (.cells #[.int .i64 a.1, .int .i64 a.2.1, .string (bs a.2.2)] 31)] _) => ?_)
        clear hS11o
        have hS21o : St _ _ [.ow 31 3 (some ⟨b21, 0, none⟩) 2 2 (List.flatMap vl [a, b]), .ow 31 3 (some ⟨b11, 0, none⟩) 0 0 (List.flatMap vl []), .ow 31 3 (some ⟨b7, 0, none⟩) 1 1 (List.flatMap vl [b]), .ow 31 3 (some ⟨b5, 0, none⟩) 1 1 (List.flatMap vl [a]), .blk b3 (.cells #[.int .i64 b.1, .int .i64 b.2.1, .string (bs b.2.2)] 31), .blk b2 (.cells #[.int .i64 a.1, .int .i64 a.2.1, .string (bs a.2.2)] 31)] _ := hS21.blkOw' (i := 0) (m := 2) (size := 3) (xs := List.flatMap vl [a, b]) rfl rfl rfl (by decide); clear hS21
        refine hK _ _ ⟨⟨trivial, fun h => absurd h (by decide)⟩, fun h => absurd h (by decide)⟩ ?_; clear hK K
        refine o_eff (i := 2) (by kernel_rfl) rfl (goes0 rfl) (fun K hK => ?_)
        refine e_app (e := 31) (size := 3) (bytes := 32) (i := 1) (m' := L.length) (by kernel_rfl) hS21o rfl rfl rfl (SlG.src (e := 31) (by kernel_rfl) (hG.mono hS21o.base) ((rows_len (c := vl) (m := 3) (fun _ => rfl) _).trans (by first | rfl | (simp only [List.length_append, List.length_map, List.length_cons, List.length_nil, List.length_take, List.length_drop, List.length_set]; done) | (simp only [List.length_append, List.length_map, List.length_cons, List.length_nil, List.length_take, List.length_drop, List.length_set]; omega) | omega)) (by decide) (rows_one vl_ones)) (by first | omega | (simp only [List.length_append, List.length_map, List.length_cons, List.length_nil, List.length_take, List.length_drop, List.length_set] <;> omega) | (simp; done)) rfl (by first | omega | (simp only [maxLen, List.length_append, List.length_map, List.length_cons, List.length_nil, List.length_take, List.length_drop, List.length_set] <;> omega) | (simp only [maxLen]; omega)) (by first | omega | (simp only [List.length_append, List.length_map, List.length_cons, List.length_nil, List.length_take, List.length_drop, List.length_set] <;> omega)) (fun ad22 cp22 w22 (hS22 : St _ _ [.ow 31 3 (some ⟨b21, 0, none⟩) 2 2 (List.flatMap vl [a, b]), .ow 31 3 ad22 L.length cp22 (List.flatMap vl L), .ow 31 3 (some ⟨b7, 0, none⟩) 1 1 (List.flatMap vl [b]), .ow 31 3 (some ⟨b5, 0, none⟩) 1 1 (List.flatMap vl [a]), .blk b3 (.cells #[.int .i64 b.1, .int .i64 b.2.1, .string (bs b.2.2)] 31), .blk b2 (.cells #[.int .i64 a.1, .int .i64 a.2.1, .string (bs a.2.2)] 31)] _) => ?_)
        clear hS21o
        refine hK _ _ ⟨⟨trivial, fun _ _ => by first | exact q_loadA (m := 3) rfl (by kernel_rfl) (by kernel_rfl) (hS22.blk (i := 5) rfl) rfl rfl⟩, fun _ _ => by first | exact q_loadA (m := 3) rfl (by kernel_rfl) (by kernel_rfl) (hS22.blk (i := 4) rfl) rfl rfl⟩ ?_; clear hK K
        refine o_eff (i := 6) (by kernel_rfl) rfl (goes0 rfl) (fun K hK => ?_)
        refine e_app (e := 31) (size := 3) (bytes := 32) (i := 1) (m' := (L ++ [a, b]).length) (by kernel_rfl) hS22 rfl rfl rfl (SlG.src (e := 31) (by kernel_rfl) (hS22.owG (i := 0) rfl) ((rows_len (c := vl) (m := 3) (fun _ => rfl) _).trans (by first | rfl | (simp only [List.length_append, List.length_map, List.length_cons, List.length_nil, List.length_take, List.length_drop, List.length_set]; done) | (simp only [List.length_append, List.length_map, List.length_cons, List.length_nil, List.length_take, List.length_drop, List.length_set]; omega) | omega)) (by decide) (rows_one vl_ones)) (by first | omega | (simp only [List.length_append, List.length_map, List.length_cons, List.length_nil, List.length_take, List.length_drop, List.length_set] <;> omega) | (simp; done)) rows_app (by first | omega | (simp only [maxLen, List.length_append, List.length_map, List.length_cons, List.length_nil, List.length_take, List.length_drop, List.length_set] <;> omega) | (simp only [maxLen]; omega)) (by first | omega | (simp only [List.length_append, List.length_map, List.length_cons, List.length_nil, List.length_take, List.length_drop, List.length_set] <;> omega)) (fun ad23 cp23 w23 (hS23 : St _ _ [.ow 31 3 (some ⟨b21, 0, none⟩) 2 2 (List.flatMap vl [a, b]), .ow 31 3 ad23 ((L ++ [a, b]).length) cp23 (List.flatMap vl (L ++ [a, b])), .ow 31 3 (some ⟨b7, 0, none⟩) 1 1 (List.flatMap vl [b]), .ow 31 3 (some ⟨b5, 0, none⟩) 1 1 (List.flatMap vl [a]), .blk b3 (.cells #[.int .i64 b.1, .int .i64 b.2.1, .string (bs b.2.2)] 31), .blk b2 (.cells #[.int .i64 a.1, .int .i64 a.2.1, .string (bs a.2.2)] 31)] _) => ?_)
        clear hS22
        refine hK _ _ ⟨⟨trivial, fun h => absurd h (by decide)⟩, fun h => absurd h (by decide)⟩ ?_; clear hK K
        refine o_eff (i := 7) (by kernel_rfl) rfl (goes0 rfl) (fun K hK => ?_)
        refine e_call (by kernel_rfl) (few_ok (L ++ [a, b]) (VsOk.app hL (VsOk.cons ha (VsOk.one hb))) ((L ++ [a, b]).length) (by first | omega | (simp only [List.length_append, List.length_map, List.length_cons, List.length_nil, List.length_take, List.length_drop, List.length_set] <;> omega)) _ _ _ (hS23.owG (i := 1) rfl)) rfl (after_R hS23 (fun v24 w24 hv24 hS24 => ?_))
        clear hS23
        obtain rfl := hv24
        refine hK _ _ ⟨⟨trivial, fun h => absurd h (by decide)⟩, fun h => absurd h (by decide)⟩ ?_; clear hK K
        refine o_pure (i := 8) (fun j w => ⟨(fun j w => ⟨(fun _ _ => trivial) j w, fun _ h => h⟩) j w, fun _ h => h⟩) rfl rfl (by kernel_rfl) (goes0 rfl) (QOk.then QOk.body) (fun w => q_assignB rfl) ?_
        refine o_done (by kernel_rfl) ?_
        have hS25 := hS24.fr5; clear hS24
        have hS26 := hS25.fr5; clear hS25
        have hS27 := hS26.fr5; clear hS26
        have hS28 := hS27.fr5; clear hS27
        have hS29 : St _ _ [.ow 31 3 (some ⟨b7, 0, none⟩) 1 1 (List.flatMap vl [b]), .ow 31 3 (some ⟨b5, 0, none⟩) 1 1 (List.flatMap vl [a]), .blk b3 (.cells #[.int .i64 b.1, .int .i64 b.2.1, .string (bs b.2.2)] 31), .blk b2 (.cells #[.int .i64 a.1, .int .i64 a.2.1, .string (bs a.2.2)] 31)] _ := hS28.only 4; clear hS28
        refine hK9 _ _ (came ((fewB (L ++ [a, b]))) (by repeat' (first | exact Agree.refl _ _ | refine Agree.up ?_ rfl | refine Agree.hav2 ?_ rfl | refine Agree.ups2 ?_ rfl)) (by repeat' (first | exact trivial | refine ⟨by first | rfl | exact int_succ _ | assumption, ?_⟩)) ?_)
        exact hS29
    ·
      refine e_buildSliceA2 (e := 31) (m := 3) (zv := .agg #[.int .i64 0, .int .i64 0, .string ⟨#[]⟩]) (cs := [.int .i64 a.1, .int .i64 a.2.1, .string (bs a.2.2)]) (ds := [.int .i64 b.1, .int .i64 b.2.1, .string (bs b.2.2)]) hS10 (by kernel_rfl) (by kernel_rfl) (by kernel_rfl) rfl rfl rfl rfl rfl rfl (fun b30 w30 (hS30 : St _ _ [.blk b30 (.cells #[.int .i64 a.1, .int .i64 a.2.1, .string (bs a.2.2), .int .i64 b.1, .int .i64 b.2.1, .string (bs b.2.2)] 31), .ow 31 3 (some ⟨b7, 0, none⟩) 1 1 (List.flatMap vl [b]), .ow 31 3 (some ⟨b5, 0, none⟩) 1 1 (List.flatMap vl [a]), .blk b3 (.cells #[.int .i64 b.1, .int .i64 b.2.1, .string (bs b.2.2)] 31), .blk b2 (.cells #[.int .i64 a.1, .int .i64 a.2.1, .string (bs a.2.2)] 31)] _) => ?_)
      clear hS10
      have hS30o : St _ _ [.ow 31 3 (some ⟨b30, 0, none⟩) 2 2 (List.flatMap vl [a, b]), .ow 31 3 (some ⟨b7, 0, none⟩) 1 1 (List.flatMap vl [b]), .ow 31 3 (some ⟨b5, 0, none⟩) 1 1 (List.flatMap vl [a]), .blk b3 (.cells #[.int .i64 b.1, .int .i64 b.2.1, .string (bs b.2.2)] 31), .blk b2 (.cells #[.int .i64 a.1, .int .i64 a.2.1, .string (bs a.2.2)] 31)] _ := hS30.blkOw' (i := 0) (m := 2) (size := 3) (xs := List.flatMap vl [a, b]) rfl rfl rfl (by decide); clear hS30
      refine hK _ _ ⟨⟨trivial, fun h => absurd h (by decide)⟩, fun h => absurd h (by decide)⟩ ?_; clear hK K
      refine o_eff (i := 0) (by kernel_rfl) rfl (goes0 rfl) (fun K hK => ?_)
      refine e_buildSlice0 (e := 31) (m := 3) hS30o (by kernel_rfl) (by kernel_rfl) (fun b31 w31 (hS31 : St _ _ [.blk b31 (.cells #[] 31), .ow 31 3 (some ⟨b30, 0, none⟩) 2 2 (List.flatMap vl [a, b]), .ow 31 3 (some ⟨b7, 0, none⟩) 1 1 (List.flatMap vl [b]), .ow 31 3 (some ⟨b5, 0, none⟩) 1 1 (List.flatMap vl [a]), .blk b3 (.cells #[.int .i64 b.1, .int .i64 b.2.1, .string (bs b.2.2)] 31), .blk b2 (.cells #[.int .i64 a.1, .int .i64 a.2.1, .string (bs a.2.2)] 31)] _) => ?_)
      clear hS30o
      have hS31o : St _ _ [.ow 31 3 (some ⟨b31, 0, none⟩) 0 0 (List.flatMap vl []), .ow 31 3 (some ⟨b30, 0, none⟩) 2 2 (List.flatMap vl [a, b]), .ow 31 3 (some ⟨b7, 0, none⟩) 1 1 (List.flatMap vl [b]), .ow 31 3 (some ⟨b5, 0, none⟩) 1 1 (List.flatMap vl [a]), .blk b3 (.cells #[.int .i64 b.1, .int .i64 b.2.1, .string (bs b.2.2)] 31), .blk b2 (.cells #[.int .i64 a.1, .int .i64 a.2.1, .string (bs a.2.2)] 31)] _ := hS31.blkOw' (i := 0) (m := 0) (size := 3) (xs := List.flatMap vl []) rfl rfl rfl (by decide); clear hS31
      refine hK _ _ ⟨⟨trivial, fun _ _ => by first | exact q_loadA (m := 3) rfl (by kernel_rfl) (by kernel_rfl) (hS31o.blk (i := 5) rfl) rfl rfl⟩, fun _ _ => by first | exact q_loadA (m := 3) rfl (by kernel_rfl) (by kernel_rfl) (hS31o.blk (i := 4) rfl) rfl rfl⟩ ?_; clear hK K
      refine o_eff (i := 2) (by kernel_rfl) rfl (goes0 rfl) (fun K hK => ?_)
      refine e_app (e := 31) (size := 3) (bytes := 32) (i := 0) (m' := L.length) (by kernel_rfl) hS31o rfl rfl rfl (SlG.src (e := 31) (by kernel_rfl) (hG.mono hS31o.base) ((rows_len (c := vl) (m := 3) (fun _ => rfl) _).trans (by first | rfl | (simp only [List.length_append, List.length_map, List.length_cons, List.length_nil, List.length_take, List.length_drop, List.length_set]; done) | (simp only [List.length_append, List.length_map, List.length_cons, List.length_nil, List.length_take, List.length_drop, List.length_set]; omega) | omega)) (by decide) (rows_one vl_ones)) (by first | omega | (simp only [List.length_append, List.length_map, List.length_cons, List.length_nil, List.length_take, List.length_drop, List.length_set] <;> omega) | (simp; done)) rfl (by first | omega | (simp only [maxLen, List.length_append, List.length_map, List.length_cons, List.length_nil, List.length_take, List.length_drop, List.length_set] <;> omega) | (simp only [maxLen]; omega)) (by first | omega | (simp only [List.length_append, List.length_map, List.length_cons, List.length_nil, List.length_take, List.length_drop, List.length_set] <;> omega)) (fun ad32 cp32 w32 (hS32 : St _ _ [.ow 31 3 ad32 L.length cp32 (List.flatMap vl L), .ow 31 3 (some ⟨b30, 0, none⟩) 2 2 (List.flatMap vl [a, b]), .ow 31 3 (some ⟨b7, 0, none⟩) 1 1 (List.flatMap vl [b]), .ow 31 3 (some ⟨b5, 0, none⟩) 1 1 (List.flatMap vl [a]), .blk b3 (.cells #[.int .i64 b.1, .int .i64 b.2.1, .string (bs b.2.2)] 31), .blk b2 (.cells #[.int .i64 a.1, .int .i64 a.2.1, .string (bs a.2.2)] 31)] _) => ?_)
      clear hS31o
      refine hK _ _ ⟨⟨trivial, fun _ _ => by first | exact q_loadA (m := 3) rfl (by kernel_rfl) (by kernel_rfl) (hS32.blk (i := 5) rfl) rfl rfl⟩, fun _ _ => by first | exact q_loadA (m := 3) rfl (by kernel_rfl) (by kernel_rfl) (hS32.blk (i := 4) rfl) rfl rfl⟩ ?_; clear hK K
      refine o_eff (i := 6) (by kernel_rfl) rfl (goes0 rfl) (fun K hK => ?_)
      refine e_app (e := 31) (size := 3) (bytes := 32) (i := 0) (m' := (L ++ [a, b]).length) (by kernel_rfl) hS32 rfl rfl rfl (SlG.src (e := 31) (by kernel_rfl) (hS32.owG (i := 1) rfl) ((rows_len (c := vl) (m := 3) (fun _ => rfl) _).trans (by first | rfl | (simp only [List.length_append, List.length_map, List.length_cons, List.length_nil, List.length_take, List.length_drop, List.length_set]; done) | (simp only [List.length_append, List.length_map, List.length_cons, List.length_nil, List.length_take, List.length_drop, List.length_set]; omega) | omega)) (by decide) (rows_one vl_ones)) (by first | omega | (simp only [List.length_append, List.length_map, List.length_cons, List.length_nil, List.length_take, List.length_drop, List.length_set] <;> omega) | (simp; done)) rows_app (by first | omega | (simp only [maxLen, List.length_append, List.length_map, List.length_cons, List.length_nil, List.length_take, List.length_drop, List.length_set] <;> omega) | (simp only [maxLen]; omega)) (by first | omega | (simp only [List.length_append, List.length_map, List.length_cons, List.length_nil, List.length_take, List.length_drop, List.length_set] <;> omega)) (fun ad33 cp33 w33 (hS33 : St _ _ [.ow 31 3 ad33 ((L ++ [a, b]).length) cp33 (List.flatMap vl (L ++ [a, b])), .ow 31 3 (some ⟨b30, 0, none⟩) 2 2 (List.flatMap vl [a, b]), .ow 31 3 (some ⟨b7, 0, none⟩) 1 1 (List.flatMap vl [b]), .ow 31 3 (some ⟨b5, 0, none⟩) 1 1 (List.flatMap vl [a]), .blk b3 (.cells #[.int .i64 b.1, .int .i64 b.2.1, .string (bs b.2.2)] 31), .blk b2 (.cells #[.int .i64 a.1, .int .i64 a.2.1, .string (bs a.2.2)] 31)] _) => ?_)
      clear hS32
      refine hK _ _ ⟨⟨trivial, fun h => absurd h (by decide)⟩, fun h => absurd h (by decide)⟩ ?_; clear hK K
      refine o_eff (i := 7) (by kernel_rfl) rfl (goes0 rfl) (fun K hK => ?_)
      refine e_call (by kernel_rfl) (few_ok (L ++ [a, b]) (VsOk.app hL (VsOk.cons ha (VsOk.one hb))) ((L ++ [a, b]).length) (by first | omega | (simp only [List.length_append, List.length_map, List.length_cons, List.length_nil, List.length_take, List.length_drop, List.length_set] <;> omega)) _ _ _ (hS33.owG (i := 0) rfl)) rfl (after_R hS33 (fun v34 w34 hv34 hS34 => ?_))
      clear hS33
      obtain rfl := hv34
      refine hK _ _ ⟨⟨trivial, fun h => absurd h (by decide)⟩, fun h => absurd h (by decide)⟩ ?_; clear hK K
      refine o_pure (i := 8) (fun j w => ⟨(fun j w => ⟨(fun _ _ => trivial) j w, fun _ h => h⟩) j w, fun _ h => h⟩) rfl rfl (by kernel_rfl) (goes0 rfl) (QOk.then QOk.body) (fun w => q_assignB rfl) ?_
      refine o_done (by kernel_rfl) ?_
      have hS35 := hS34.fr5; clear hS34
      have hS36 := hS35.fr5; clear hS35
      have hS37 := hS36.fr5; clear hS36
      have hS38 := hS37.fr5; clear hS37
      have hS39 : St _ _ [.ow 31 3 (some ⟨b7, 0, none⟩) 1 1 (List.flatMap vl [b]), .ow 31 3 (some ⟨b5, 0, none⟩) 1 1 (List.flatMap vl [a]), .blk b3 (.cells #[.int .i64 b.1, .int .i64 b.2.1, .string (bs b.2.2)] 31), .blk b2 (.cells #[.int .i64 a.1, .int .i64 a.2.1, .string (bs a.2.2)] 31)] _ := hS38.only 4; clear hS38
      refine hK9 _ _ (came ((fewB (L ++ [a, b]))) (by repeat' (first | exact Agree.refl _ _ | refine Agree.up ?_ rfl | refine Agree.hav2 ?_ rfl | refine Agree.ups2 ?_ rfl)) (by repeat' (first | exact trivial | refine ⟨by first | rfl | exact int_succ _ | assumption, ?_⟩)) ?_)
      exact hS39
  ·
    have hS9 := hJ9
    try dsimp only at hS9 ⊢
    refine wp_seq_k (fun K40 hK40 => ?_)
    refine wp_region_lit ?_
    refine l_q rfl rfl (q_moveS rfl) ?_
    refine l_e rfl (fun K hK => ?_)
    refine e_call (by kernel_rfl) (rightl_ok [a] (VsOk.one ha) 1 (by first | omega | (simp only [List.length_append, List.length_map, List.length_cons, List.length_nil, List.length_take, List.length_drop, List.length_set] <;> omega)) _ _ (by first | omega | (simp only [List.length_append, List.length_map, List.length_cons, List.length_nil, List.length_take, List.length_drop, List.length_set] <;> omega)) _ (hS9.owG (i := 1) rfl)) rfl (after_R hS9 (fun v41 w41 hv41 hS41 => ?_))
    clear hS9
    obtain rfl := hv41
    refine hK _ _ ?_; clear hK K
    refine l_q rfl rfl (q_assignB rfl) ?_
    refine l_nil ?_
    refine hK40 _ _ ?_
    refine wp_seq_k (fun K42 hK42 => ?_)
    refine wp_region_lit ?_
    refine l_q rfl rfl (q_moveS rfl) ?_
    refine l_e rfl (fun K hK => ?_)
    refine e_call (by kernel_rfl) (rightl_ok [b] (VsOk.one hb) 1 (by first | omega | (simp only [List.length_append, List.length_map, List.length_cons, List.length_nil, List.length_take, List.length_drop, List.length_set] <;> omega)) _ _ (by first | omega | (simp only [List.length_append, List.length_map, List.length_cons, List.length_nil, List.length_take, List.length_drop, List.length_set] <;> omega)) _ (hS41.owG (i := 0) rfl)) rfl (after_R hS41 (fun v43 w43 hv43 hS43 => ?_))
    clear hS41
    obtain rfl := hv43
    refine hK _ _ ?_; clear hK K
    refine l_q rfl rfl (q_assignB rfl) ?_
    refine l_nil ?_
    refine hK42 _ _ ?_
    refine wp_seq_k (fun K44 hK44 => ?_)
    refine wp_region_lit ?_
    refine l_q rfl rfl (q_moveS rfl) ?_
    refine l_e rfl (fun K hK => ?_)
    refine e_call (by kernel_rfl) (rightl_ok L hL L.length (by first | omega | (simp only [List.length_append, List.length_map, List.length_cons, List.length_nil, List.length_take, List.length_drop, List.length_set] <;> omega)) _ _ (by first | omega | (simp only [List.length_append, List.length_map, List.length_cons, List.length_nil, List.length_take, List.length_drop, List.length_set] <;> omega)) _ (hG.mono hS43.base)) rfl (after_R hS43 (fun v45 w45 hv45 hS45 => ?_))
    clear hS43
    obtain rfl := hv45
    refine hK _ _ ?_; clear hK K
    refine l_q rfl rfl (q_assignB rfl) ?_
    refine l_nil ?_
    refine hK44 _ _ ?_
    refine wp_seq_k (fun K46 hK46 => ?_)
    refine wp_seq_k (fun K47 hK47 => ?_)
    refine wp_region_lit ?_
    refine l_q rfl rfl (q_moveB rfl) ?_
    refine l_q rfl rfl (q_not rfl) ?_
    refine l_q rfl rfl (q_moveB rfl) ?_
    refine g_splitL (t := 43) rfl (fun hg48 => ?_) (fun hg48 => ?_)
    ·
      have hg48b := hg48
      try simp only [decide_eq_true_eq, decide_eq_false_iff_not, Bool.not_eq_true', Bool.not_eq_false', Bool.and_eq_true, Bool.or_eq_true, Int.not_lt, Int.not_le, ne_eq, Decidable.not_not] at hg48
      refine l_off rfl rfl rfl hg48b ?_
      refine l_off rfl rfl rfl hg48b ?_
      refine l_q rfl rfl (q_pickT rfl hg48b rfl) ?_
      refine l_q rfl rfl (q_moveB rfl) ?_
      refine l_off rfl rfl rfl rfl ?_
      refine l_off rfl rfl rfl rfl ?_
      refine l_q rfl rfl (q_pickT rfl rfl rfl) ?_
      refine l_q rfl rfl (q_moveB rfl) ?_
      refine l_off rfl rfl rfl rfl ?_
      refine l_off rfl rfl rfl rfl ?_
      refine l_q rfl rfl (q_pickT rfl rfl rfl) ?_
      refine l_q rfl rfl (q_moveB rfl) ?_
      refine l_off rfl rfl rfl rfl ?_
      refine l_off rfl rfl rfl rfl ?_
      refine l_off rfl rfl rfl rfl ?_
      refine l_q rfl rfl (q_pickT rfl rfl rfl) ?_
      refine l_nil ?_
      refine hK47 _ _ ?_
      refine c_condT rfl rfl ?_
      refine wp_seq_k (fun K50 hK50 => ?_)
      refine wp_region_lit ?_
      refine l_e rfl (fun K hK => ?_)
      refine e_call (by kernel_rfl) (alive4_ok _) rfl (after_R hS45 (fun v51 w51 hv51 hS51 => ?_))
      clear hS45
      obtain rfl := hv51
      refine hK _ _ ?_; clear hK K
      refine l_q rfl rfl (q_assignB rfl) ?_
      refine l_nil ?_
      refine hK50 _ _ ?_
      refine wp_ret ?_
      refine c_ret1 rfl rfl ?_
      exact ⟨_, rfl, rfl, hS51.drop⟩
    ·
      have hg48b := hg48
      try simp only [decide_eq_true_eq, decide_eq_false_iff_not, Bool.not_eq_true', Bool.not_eq_false', Bool.and_eq_true, Bool.or_eq_true, Int.not_lt, Int.not_le, ne_eq, Decidable.not_not] at hg48
      refine l_on rfl rfl hg48b ?_
      refine l_q rfl rfl (q_moveB rfl) ?_
      refine l_on rfl rfl hg48b ?_
      refine l_q rfl rfl (q_not rfl) ?_
      refine l_q rfl rfl (q_pickF rfl hg48b rfl) ?_
      refine l_q rfl rfl (q_moveB rfl) ?_
      refine g_splitL (t := 47) rfl (fun hg52 => ?_) (fun hg52 => ?_)
      ·
        have hg52b := hg52
        try simp only [decide_eq_true_eq, decide_eq_false_iff_not, Bool.not_eq_true', Bool.not_eq_false', Bool.and_eq_true, Bool.or_eq_true, Int.not_lt, Int.not_le, ne_eq, Decidable.not_not] at hg52
        refine l_off rfl rfl rfl hg52b ?_
        refine l_off rfl rfl rfl hg52b ?_
        refine l_q rfl rfl (q_pickT rfl hg52b rfl) ?_
        refine l_q rfl rfl (q_moveB rfl) ?_
        refine l_off rfl rfl rfl rfl ?_
        refine l_off rfl rfl rfl rfl ?_
        refine l_q rfl rfl (q_pickT rfl rfl rfl) ?_
        refine l_q rfl rfl (q_moveB rfl) ?_
        refine l_off rfl rfl rfl rfl ?_
        refine l_off rfl rfl rfl rfl ?_
        refine l_off rfl rfl rfl rfl ?_
        refine l_q rfl rfl (q_pickT rfl rfl rfl) ?_
        refine l_nil ?_
        refine hK47 _ _ ?_
        refine c_condT rfl rfl ?_
        refine wp_seq_k (fun K54 hK54 => ?_)
        refine wp_region_lit ?_
        refine l_e rfl (fun K hK => ?_)
        refine e_call (by kernel_rfl) (alive4_ok _) rfl (after_R hS45 (fun v55 w55 hv55 hS55 => ?_))
        clear hS45
        obtain rfl := hv55
        refine hK _ _ ?_; clear hK K
        refine l_q rfl rfl (q_assignB rfl) ?_
        refine l_nil ?_
        refine hK54 _ _ ?_
        refine wp_ret ?_
        refine c_ret1 rfl rfl ?_
        exact ⟨_, rfl, rfl, hS55.drop⟩
      ·
        have hg52b := hg52
        try simp only [decide_eq_true_eq, decide_eq_false_iff_not, Bool.not_eq_true', Bool.not_eq_false', Bool.and_eq_true, Bool.or_eq_true, Int.not_lt, Int.not_le, ne_eq, Decidable.not_not] at hg52
        refine l_on rfl rfl hg52b ?_
        refine l_q rfl rfl (q_moveB rfl) ?_
        refine l_on rfl rfl hg52b ?_
        refine l_q rfl rfl (q_not rfl) ?_
        refine l_q rfl rfl (q_pickF rfl hg52b rfl) ?_
        refine l_q rfl rfl (q_moveB rfl) ?_
        refine g_splitL (t := 51) rfl (fun hg56 => ?_) (fun hg56 => ?_)
        ·
          have hg56b := hg56
          try simp only [decide_eq_true_eq, decide_eq_false_iff_not, Bool.not_eq_true', Bool.not_eq_false', Bool.and_eq_true, Bool.or_eq_true, Int.not_lt, Int.not_le, ne_eq, Decidable.not_not] at hg56
          refine l_off rfl rfl rfl hg56b ?_
          refine l_off rfl rfl rfl hg56b ?_
          refine l_q rfl rfl (q_pickT rfl hg56b rfl) ?_
          refine l_q rfl rfl (q_moveB rfl) ?_
          refine l_off rfl rfl rfl rfl ?_
          refine l_off rfl rfl rfl rfl ?_
          refine l_off rfl rfl rfl rfl ?_
          refine l_q rfl rfl (q_pickT rfl rfl rfl) ?_
          refine l_nil ?_
          refine hK47 _ _ ?_
          refine c_condT rfl rfl ?_
          refine wp_seq_k (fun K58 hK58 => ?_)
          refine wp_region_lit ?_
          refine l_e rfl (fun K hK => ?_)
          refine e_call (by kernel_rfl) (alive4_ok _) rfl (after_R hS45 (fun v59 w59 hv59 hS59 => ?_))
          clear hS45
          obtain rfl := hv59
          refine hK _ _ ?_; clear hK K
          refine l_q rfl rfl (q_assignB rfl) ?_
          refine l_nil ?_
          refine hK58 _ _ ?_
          refine wp_ret ?_
          refine c_ret1 rfl rfl ?_
          exact ⟨_, rfl, rfl, hS59.drop⟩
        ·
          have hg56b := hg56
          try simp only [decide_eq_true_eq, decide_eq_false_iff_not, Bool.not_eq_true', Bool.not_eq_false', Bool.and_eq_true, Bool.or_eq_true, Int.not_lt, Int.not_le, ne_eq, Decidable.not_not] at hg56
          refine l_on rfl rfl hg56b ?_
          refine l_q rfl rfl (q_moveB rfl) ?_
          refine l_on rfl rfl hg56b ?_
          refine l_q rfl rfl (q_not rfl) ?_
          refine l_q rfl rfl (q_pickF rfl hg56b rfl) ?_
          refine l_q rfl rfl (q_moveB rfl) ?_
          refine g_splitL (t := 55) rfl (fun hg60 => ?_) (fun hg60 => ?_)
          ·
            have hg60b := hg60
            try simp only [decide_eq_true_eq, decide_eq_false_iff_not, Bool.not_eq_true', Bool.not_eq_false', Bool.and_eq_true, Bool.or_eq_true, Int.not_lt, Int.not_le, ne_eq, Decidable.not_not] at hg60
            refine l_off rfl rfl rfl hg60b ?_
            refine l_off rfl rfl rfl hg60b ?_
            refine l_off rfl rfl rfl hg60b ?_
            refine l_q rfl rfl (q_pickT rfl hg60b rfl) ?_
            refine l_nil ?_
            refine hK47 _ _ ?_
            refine c_condT rfl rfl ?_
            refine wp_seq_k (fun K62 hK62 => ?_)
            refine wp_region_lit ?_
            refine l_e rfl (fun K hK => ?_)
            refine e_call (by kernel_rfl) (alive4_ok _) rfl (after_R hS45 (fun v63 w63 hv63 hS63 => ?_))
            clear hS45
            obtain rfl := hv63
            refine hK _ _ ?_; clear hK K
            refine l_q rfl rfl (q_assignB rfl) ?_
            refine l_nil ?_
            refine hK62 _ _ ?_
            refine wp_ret ?_
            refine c_ret1 rfl rfl ?_
            exact ⟨_, rfl, rfl, hS63.drop⟩
          ·
            have hg60b := hg60
            try simp only [decide_eq_true_eq, decide_eq_false_iff_not, Bool.not_eq_true', Bool.not_eq_false', Bool.and_eq_true, Bool.or_eq_true, Int.not_lt, Int.not_le, ne_eq, Decidable.not_not] at hg60
            refine l_on rfl rfl hg60b ?_
            refine l_q rfl rfl (q_moveS rfl) ?_
            refine l_on rfl rfl hg60b ?_
            refine l_q rfl rfl (q_lenSl (e := 31) rfl (by kernel_rfl)) ?_
            refine l_on rfl rfl hg60b ?_
            refine l_q rfl rfl (q_gtr rfl rfl) ?_
            refine l_q rfl rfl (q_pickF rfl hg60b rfl) ?_
            refine l_nil ?_
            refine hK47 _ _ ?_
            refine c_cond rfl (fun hc64 => ?_) (fun hc64 => ?_)
            ·
              have hc64b := hc64
              try simp only [decide_eq_true_eq, decide_eq_false_iff_not, Bool.not_eq_true', Bool.not_eq_false', Bool.and_eq_true, Bool.or_eq_true, Int.not_lt, Int.not_le, ne_eq, Decidable.not_not] at hc64
              refine wp_seq_k (fun K65 hK65 => ?_)
              refine wp_region_lit ?_
              refine l_e rfl (fun K hK => ?_)
              refine e_call (by kernel_rfl) (alive4_ok _) rfl (after_R hS45 (fun v66 w66 hv66 hS66 => ?_))
              clear hS45
              obtain rfl := hv66
              refine hK _ _ ?_; clear hK K
              refine l_q rfl rfl (q_assignB rfl) ?_
              refine l_nil ?_
              refine hK65 _ _ ?_
              refine wp_ret ?_
              refine c_ret1 rfl rfl ?_
              exact ⟨_, rfl, rfl, hS66.drop⟩
            ·
              have hc64b := hc64
              try simp only [decide_eq_true_eq, decide_eq_false_iff_not, Bool.not_eq_true', Bool.not_eq_false', Bool.and_eq_true, Bool.or_eq_true, Int.not_lt, Int.not_le, ne_eq, Decidable.not_not] at hc64
              have hra : rightL [a] = true := by assumption
              have hrb : rightL [b] = true := by assumption
              have hrl : rightL L = true := by assumption
              have hRa := rs_of (VsOk.one ha) hra
              have hRb := rs_of (VsOk.one hb) hrb
              have hRL := rs_of hL hrl
              have h161 : [a].length ≤ 16 := by simp
              have h162 : [b].length ≤ 16 := by simp
              have h163 : (L ++ [a]).length ≤ 16 := by rw [List.length_append]; simp; omega
              have h164 : (L ++ [b]).length ≤ 16 := by rw [List.length_append]; simp; omega
              have hl1 := one_lt hRa hRb
              have hl2 := two_lt (L := L) hRa hRb
              have hpb := one_pre hRa hRb
              refine wp_skip ?_
              refine hK46 _ _ ?_
              refine wp_seq_k (fun K67 hK67 => ?_)
              refine wp_region_lit ?_
              refine l_q rfl rfl (q_moveS rfl) ?_
              refine l_e rfl (fun K hK => ?_)
              have hel68 := enc_len hRa.2
              refine e_call (by kernel_rfl) (ency_ok [a] hRa h161 1 (by first | omega | (simp only [List.length_append, List.length_map, List.length_cons, List.length_nil, List.length_take, List.length_drop, List.length_set] <;> omega)) _ _ _ (hS45.owG (i := 1) rfl)) rfl (after_N hS45 (fun v68 G68 w68 hv68 hS68 => ?_))
              clear hS45
              obtain ⟨oa68, oc68, rfl, rfl⟩ := hv68
              have hS69 : St _ _ [.ow 5 1 oa68 ((enc [a]).length) oc68 (bv (enc [a])), .ow 31 3 (some ⟨b7, 0, none⟩) 1 1 (List.flatMap vl [b]), .ow 31 3 (some ⟨b5, 0, none⟩) 1 1 (List.flatMap vl [a]), .blk b3 (.cells #[.int .i64 b.1, .int .i64 b.2.1, .string (bs b.2.2)] 31), .blk b2 (.cells #[.int .i64 a.1, .int .i64 a.2.1, .string (bs a.2.2)] 31)] _ := hS68; clear hS68
              refine hK _ _ ?_; clear hK K
              refine l_q rfl rfl (q_move rfl) ?_
              refine l_q rfl rfl (q_extract rfl rfl) ?_
              refine l_q rfl rfl (q_extract rfl rfl) ?_
              refine l_q rfl rfl (q_assignS rfl) ?_
              refine l_q rfl rfl (q_assignI rfl) ?_
              refine l_nil ?_
              refine hK67 _ _ ?_
              refine wp_seq_k (fun K70 hK70 => ?_)
              refine wp_region_lit ?_
              refine l_q rfl rfl (q_moveS rfl) ?_
              refine l_e rfl (fun K hK => ?_)
              have hel71 := enc_len hRb.2
              refine e_call (by kernel_rfl) (ency_ok [b] hRb h162 1 (by first | omega | (simp only [List.length_append, List.length_map, List.length_cons, List.length_nil, List.length_take, List.length_drop, List.length_set] <;> omega)) _ _ _ (hS69.owG (i := 1) rfl)) rfl (after_N hS69 (fun v71 G71 w71 hv71 hS71 => ?_))
              clear hS69
              obtain ⟨oa71, oc71, rfl, rfl⟩ := hv71
              have hS72 : St _ _ [.ow 5 1 oa71 ((enc [b]).length) oc71 (bv (enc [b])), .ow 5 1 oa68 ((enc [a]).length) oc68 (bv (enc [a])), .ow 31 3 (some ⟨b7, 0, none⟩) 1 1 (List.flatMap vl [b]), .ow 31 3 (some ⟨b5, 0, none⟩) 1 1 (List.flatMap vl [a]), .blk b3 (.cells #[.int .i64 b.1, .int .i64 b.2.1, .string (bs b.2.2)] 31), .blk b2 (.cells #[.int .i64 a.1, .int .i64 a.2.1, .string (bs a.2.2)] 31)] _ := hS71; clear hS71
              refine hK _ _ ?_; clear hK K
              refine l_q rfl rfl (q_move rfl) ?_
              refine l_q rfl rfl (q_extract rfl rfl) ?_
              refine l_q rfl rfl (q_extract rfl rfl) ?_
              refine l_q rfl rfl (q_assignS rfl) ?_
              refine l_q rfl rfl (q_assignI rfl) ?_
              refine l_nil ?_
              refine hK70 _ _ ?_
              refine c_cut (τ := (Option Addr) × Nat) [(17, 18), (71, 80)] (fun x => (fun (oau : Option Addr) (ocu : Nat) => [(17, .slice oau ((enc (L ++ [a])).length) ocu), (18, .int .i64 (0 : Int))]) x.1 x.2) (fun x w' => (fun (oau : Option Addr) (ocu : Nat) => St w (fun _ => False) [.ow 5 1 oa71 ((enc [b]).length) oc71 (bv (enc [b])), .ow 5 1 oa68 ((enc [a]).length) oc68 (bv (enc [a])), .ow 31 3 (some ⟨b7, 0, none⟩) 1 1 (List.flatMap vl [b]), .ow 31 3 (some ⟨b5, 0, none⟩) 1 1 (List.flatMap vl [a]), .blk b3 (.cells #[.int .i64 b.1, .int .i64 b.2.1, .string (bs b.2.2)] 31), .blk b2 (.cells #[.int .i64 a.1, .int .i64 a.2.1, .string (bs a.2.2)] 31), .ow 5 1 oau ((enc (L ++ [a])).length) ocu (bv (enc (L ++ [a])))] w') x.1 x.2) (fun K74 hK74 => ?_) (fun x74 j74 w74 hJ74 => ?_)
              ·
                refine r_any (by kernel_rfl) hS72 (fun w75 hS75 => ?_)
                clear hS72
                refine o_pure (i := 1) (fun _ _ => trivial) rfl rfl (by kernel_rfl) (goes0 rfl) (QOk.then QOk.body) (fun w => q_moveS rfl) ?_
                refine o_held (i := 3) [4, 5, 6, 7, 8, 9, 10, 11] (fun _ _ => trivial) rfl rfl (by kernel_rfl) (goes0 rfl) (QOk.then QOk.body) (q_loadA (m := 3) rfl (by kernel_rfl) (by kernel_rfl) (hS75.blk (i := 5) rfl) rfl rfl) ?_
                refine o_eff2 (i := 0) (j := 4) (by kernel_rfl) rfl rfl (goes0 rfl) (goes0 rfl) (fun K hK => ?_) (fun K hK => ?_)
                ·
                  refine e_buildSlice0 (e := 31) (m := 3) hS75 (by kernel_rfl) (by kernel_rfl) (fun b76 w76 (hS76 : St _ _ [.blk b76 (.cells #[] 31), .ow 5 1 oa71 ((enc [b]).length) oc71 (bv (enc [b])), .ow 5 1 oa68 ((enc [a]).length) oc68 (bv (enc [a])), .ow 31 3 (some ⟨b7, 0, none⟩) 1 1 (List.flatMap vl [b]), .ow 31 3 (some ⟨b5, 0, none⟩) 1 1 (List.flatMap vl [a]), .blk b3 (.cells #[.int .i64 b.1, .int .i64 b.2.1, .string (bs b.2.2)] 31), .blk b2 (.cells #[.int .i64 a.1, .int .i64 a.2.1, .string (bs a.2.2)] 31)] _) => ?_)
                  clear hS75
                  have hS76o : St _ _ [.ow 31 3 (some ⟨b76, 0, none⟩) 0 0 (List.flatMap vl []), .ow 5 1 oa71 ((enc [b]).length) oc71 (bv (enc [b])), .ow 5 1 oa68 ((enc [a]).length) oc68 (bv (enc [a])), .ow 31 3 (some ⟨b7, 0, none⟩) 1 1 (List.flatMap vl [b]), .ow 31 3 (some ⟨b5, 0, none⟩) 1 1 (List.flatMap vl [a]), .blk b3 (.cells #[.int .i64 b.1, .int .i64 b.2.1, .string (bs b.2.2)] 31), .blk b2 (.cells #[.int .i64 a.1, .int .i64 a.2.1, .string (bs a.2.2)] 31)] _ := hS76.blkOw' (i := 0) (m := 0) (size := 3) (xs := List.flatMap vl []) rfl rfl rfl (by decide); clear hS76
                  refine hK _ _ ⟨trivial, fun _ _ => by first | exact q_loadA (m := 3) rfl (by kernel_rfl) (by kernel_rfl) (hS76o.blk (i := 6) rfl) rfl rfl⟩ ?_; clear hK K
                  refine o_eff2 (i := 2) (j := 4) (by kernel_rfl) rfl rfl (goes0 rfl) (goes0 rfl) (fun K hK => ?_) (fun K hK => ?_)
                  ·
                    refine e_app (e := 31) (size := 3) (bytes := 32) (i := 0) (m' := L.length) (by kernel_rfl) hS76o rfl rfl rfl (SlG.src (e := 31) (by kernel_rfl) (hG.mono hS76o.base) ((rows_len (c := vl) (m := 3) (fun _ => rfl) _).trans (by first | rfl | (simp only [List.length_append, List.length_map, List.length_cons, List.length_nil, List.length_take, List.length_drop, List.length_set]; done) | (simp only [List.length_append, List.length_map, List.length_cons, List.length_nil, List.length_take, List.length_drop, List.length_set]; omega) | omega)) (by decide) (rows_one vl_ones)) (by first | omega | (simp only [List.length_append, List.length_map, List.length_cons, List.length_nil, List.length_take, List.length_drop, List.length_set] <;> omega) | (simp; done)) rfl (by first | omega | (simp only [maxLen, List.length_append, List.length_map, List.length_cons, List.length_nil, List.length_take, List.length_drop, List.length_set] <;> omega) | (simp only [maxLen]; omega)) (by first | omega | (simp only [List.length_append, List.length_map, List.length_cons, List.length_nil, List.length_take, List.length_drop, List.length_set] <;> omega)) (fun ad77 cp77 w77 (hS77 : St _ _ [.ow 31 3 ad77 L.length cp77 (List.flatMap vl L), .ow 5 1 oa71 ((enc [b]).length) oc71 (bv (enc [b])), .ow 5 1 oa68 ((enc [a]).length) oc68 (bv (enc [a])), .ow 31 3 (some ⟨b7, 0, none⟩) 1 1 (List.flatMap vl [b]), .ow 31 3 (some ⟨b5, 0, none⟩) 1 1 (List.flatMap vl [a]), .blk b3 (.cells #[.int .i64 b.1, .int .i64 b.2.1, .string (bs b.2.2)] 31), .blk b2 (.cells #[.int .i64 a.1, .int .i64 a.2.1, .string (bs a.2.2)] 31)] _) => ?_)
                    clear hS76o
                    refine hK _ _ ⟨trivial, fun _ _ => by first | exact q_loadA (m := 3) rfl (by kernel_rfl) (by kernel_rfl) (hS77.blk (i := 6) rfl) rfl rfl⟩ ?_; clear hK K
                    refine o_eff (i := 4) (by kernel_rfl) rfl (goes0 rfl) (fun K hK => ?_)
                    refine e_buildSliceA (e := 31) (m := 3) (zv := .agg #[.int .i64 0, .int .i64 0, .string ⟨#[]⟩]) hS77 (by kernel_rfl) (by kernel_rfl) (by kernel_rfl) rfl rfl rfl rfl (fun b78 w78 (hS78 : St _ _ [.blk b78 (.cells #[.int .i64 a.1, .int .i64 a.2.1, .string (bs a.2.2)] 31), .ow 31 3 ad77 L.length cp77 (List.flatMap vl L), .ow 5 1 oa71 ((enc [b]).length) oc71 (bv (enc [b])), .ow 5 1 oa68 ((enc [a]).length) oc68 (bv (enc [a])), .ow 31 3 (some ⟨b7, 0, none⟩) 1 1 (List.flatMap vl [b]), .ow 31 3 (some ⟨b5, 0, none⟩) 1 1 (List.flatMap vl [a]), .blk b3 (.cells #[.int .i64 b.1, .int .i64 b.2.1, .string (bs b.2.2)] 31), .blk b2 (.cells #[.int .i64 a.1, .int .i64 a.2.1, .string (bs a.2.2)] 31)] _) => ?_)
                    clear hS77
                    have hS78o : St _ _ [.ow 31 3 (some ⟨b78, 0, none⟩) 1 1 (List.flatMap vl [a]), .ow 31 3 ad77 L.length cp77 (List.flatMap vl L), .ow 5 1 oa71 ((enc [b]).length) oc71 (bv (enc [b])), .ow 5 1 oa68 ((enc [a]).length) oc68 (bv (enc [a])), .ow 31 3 (some ⟨b7, 0, none⟩) 1 1 (List.flatMap vl [b]), .ow 31 3 (some ⟨b5, 0, none⟩) 1 1 (List.flatMap vl [a]), .blk b3 (.cells #[.int .i64 b.1, .int .i64 b.2.1, .string (bs b.2.2)] 31), .blk b2 (.cells #[.int .i64 a.1, .int .i64 a.2.1, .string (bs a.2.2)] 31)] _ := hS78.blkOw' (i := 0) (m := 1) (size := 3) (xs := List.flatMap vl [a]) rfl rfl rfl (by decide); clear hS78
                    refine hK _ _ ⟨trivial, fun h => absurd h (by decide)⟩ ?_; clear hK K
                    refine o_eff (i := 5) (by kernel_rfl) rfl (goes0 rfl) (fun K hK => ?_)
                    refine e_app (e := 31) (size := 3) (bytes := 32) (i := 1) (m' := (L ++ [a]).length) (by kernel_rfl) hS78o rfl rfl rfl (SlG.src (e := 31) (by kernel_rfl) (hS78o.owG (i := 0) rfl) ((rows_len (c := vl) (m := 3) (fun _ => rfl) _).trans (by first | rfl | (simp only [List.length_append, List.length_map, List.length_cons, List.length_nil, List.length_take, List.length_drop, List.length_set]; done) | (simp only [List.length_append, List.length_map, List.length_cons, List.length_nil, List.length_take, List.length_drop, List.length_set]; omega) | omega)) (by decide) (rows_one vl_ones)) (by first | omega | (simp only [List.length_append, List.length_map, List.length_cons, List.length_nil, List.length_take, List.length_drop, List.length_set] <;> omega) | (simp; done)) rows_app (by first | omega | (simp only [maxLen, List.length_append, List.length_map, List.length_cons, List.length_nil, List.length_take, List.length_drop, List.length_set] <;> omega) | (simp only [maxLen]; omega)) (by first | omega | (simp only [List.length_append, List.length_map, List.length_cons, List.length_nil, List.length_take, List.length_drop, List.length_set] <;> omega)) (fun ad79 cp79 w79 (hS79 : St _ _ [.ow 31 3 (some ⟨b78, 0, none⟩) 1 1 (List.flatMap vl [a]), .ow 31 3 ad79 ((L ++ [a]).length) cp79 (List.flatMap vl (L ++ [a])), .ow 5 1 oa71 ((enc [b]).length) oc71 (bv (enc [b])), .ow 5 1 oa68 ((enc [a]).length) oc68 (bv (enc [a])), .ow 31 3 (some ⟨b7, 0, none⟩) 1 1 (List.flatMap vl [b]), .ow 31 3 (some ⟨b5, 0, none⟩) 1 1 (List.flatMap vl [a]), .blk b3 (.cells #[.int .i64 b.1, .int .i64 b.2.1, .string (bs b.2.2)] 31), .blk b2 (.cells #[.int .i64 a.1, .int .i64 a.2.1, .string (bs a.2.2)] 31)] _) => ?_)
                    clear hS78o
                    refine hK _ _ ⟨trivial, fun h => absurd h (by decide)⟩ ?_; clear hK K
                    refine o_eff (i := 6) (by kernel_rfl) rfl (goes0 rfl) (fun K hK => ?_)
                    have hel80 := enc_len (hRL.app hRa).2
                    refine e_call (by kernel_rfl) (ency_ok (L ++ [a]) (hRL.app hRa) h163 ((L ++ [a]).length) (by first | omega | (simp only [List.length_append, List.length_map, List.length_cons, List.length_nil, List.length_take, List.length_drop, List.length_set] <;> omega)) _ _ _ (hS79.owG (i := 1) rfl)) rfl (after_N hS79 (fun v80 G80 w80 hv80 hS80 => ?_))
                    clear hS79
                    obtain ⟨oa80, oc80, rfl, rfl⟩ := hv80
                    have hS81 : St _ _ [.ow 5 1 oa80 ((enc (L ++ [a])).length) oc80 (bv (enc (L ++ [a]))), .ow 31 3 (some ⟨b78, 0, none⟩) 1 1 (List.flatMap vl [a]), .ow 31 3 ad79 ((L ++ [a]).length) cp79 (List.flatMap vl (L ++ [a])), .ow 5 1 oa71 ((enc [b]).length) oc71 (bv (enc [b])), .ow 5 1 oa68 ((enc [a]).length) oc68 (bv (enc [a])), .ow 31 3 (some ⟨b7, 0, none⟩) 1 1 (List.flatMap vl [b]), .ow 31 3 (some ⟨b5, 0, none⟩) 1 1 (List.flatMap vl [a]), .blk b3 (.cells #[.int .i64 b.1, .int .i64 b.2.1, .string (bs b.2.2)] 31), .blk b2 (.cells #[.int .i64 a.1, .int .i64 a.2.1, .string (bs a.2.2)] 31)] _ := hS80; clear hS80
                    refine hK _ _ ⟨trivial, fun h => absurd h (by decide)⟩ ?_; clear hK K
                    refine o_pure (i := 7) (fun j w => ⟨(fun _ _ => trivial) j w, fun _ h => h⟩) rfl rfl (by kernel_rfl) (goes0 rfl) (QOk.then QOk.body) (fun w => q_move rfl) ?_
                    refine o_pure (i := 8) (fun j w => ⟨(fun _ _ => trivial) j w, fun _ h => h⟩) rfl rfl (by kernel_rfl) (goes0 rfl) (QOk.then QOk.body) (fun w => q_extract rfl rfl) ?_
                    refine o_pure (i := 9) (fun j w => ⟨(fun _ _ => trivial) j w, fun _ h => h⟩) rfl rfl (by kernel_rfl) (goes0 rfl) (QOk.then QOk.body) (fun w => q_extract rfl rfl) ?_
                    refine o_pure (i := 10) (fun j w => ⟨(fun _ _ => trivial) j w, fun _ h => h⟩) rfl rfl (by kernel_rfl) (goes0 rfl) (QOk.then QOk.body) (fun w => q_assignS rfl) ?_
                    refine o_pure (i := 11) (fun j w => ⟨(fun _ _ => trivial) j w, fun _ h => h⟩) rfl rfl (by kernel_rfl) (goes0 rfl) (QOk.then QOk.body) (fun w => q_assignI rfl) ?_
                    refine o_done (by kernel_rfl) ?_
                    have hS82 := hS81.fr8; clear hS81
                    have hS83 := hS82.fr8; clear hS82
                    have hS84 := hS83.fr8; clear hS83
                    have hS85 := hS84.fr8; clear hS84
                    have hS86 := hS85.fr8; clear hS85
                    have hS87 := hS86.fr8; clear hS86
                    have hS88 : St _ _ [.ow 5 1 oa71 ((enc [b]).length) oc71 (bv (enc [b])), .ow 5 1 oa68 ((enc [a]).length) oc68 (bv (enc [a])), .ow 31 3 (some ⟨b7, 0, none⟩) 1 1 (List.flatMap vl [b]), .ow 31 3 (some ⟨b5, 0, none⟩) 1 1 (List.flatMap vl [a]), .blk b3 (.cells #[.int .i64 b.1, .int .i64 b.2.1, .string (bs b.2.2)] 31), .blk b2 (.cells #[.int .i64 a.1, .int .i64 a.2.1, .string (bs a.2.2)] 31), .ow 5 1 oa80 ((enc (L ++ [a])).length) oc80 (bv (enc (L ++ [a])))] _ := hS87.only 7; clear hS87
                    refine hK74 _ _ (came (⟨oa80, oc80⟩) (by repeat' (first | exact Agree.refl _ _ | refine Agree.up ?_ rfl | refine Agree.hav2 ?_ rfl | refine Agree.ups2 ?_ rfl)) (by repeat' (first | exact trivial | refine ⟨by first | rfl | exact int_succ _ | assumption, ?_⟩)) ?_)
                    exact hS88
                  ·
                    refine e_buildSliceA (e := 31) (m := 3) (zv := .agg #[.int .i64 0, .int .i64 0, .string ⟨#[]⟩]) hS76o (by kernel_rfl) (by kernel_rfl) (by kernel_rfl) rfl rfl rfl rfl (fun b89 w89 (hS89 : St _ _ [.blk b89 (.cells #[.int .i64 a.1, .int .i64 a.2.1, .string (bs a.2.2)] 31), .ow 31 3 (some ⟨b76, 0, none⟩) 0 0 (List.flatMap vl []), .ow 5 1 oa71 ((enc [b]).length) oc71 (bv (enc [b])), .ow 5 1 oa68 ((enc [a]).length) oc68 (bv (enc [a])), .ow 31 3 (some ⟨b7, 0, none⟩) 1 1 (List.flatMap vl [b]), .ow 31 3 (some ⟨b5, 0, none⟩) 1 1 (List.flatMap vl [a]), .blk b3 (.cells #[.int .i64 b.1, .int .i64 b.2.1, .string (bs b.2.2)] 31), .blk b2 (.cells #[.int .i64 a.1, .int .i64 a.2.1, .string (bs a.2.2)] 31)] _) => ?_)
                    clear hS76o
                    have hS89o : St _ _ [.ow 31 3 (some ⟨b89, 0, none⟩) 1 1 (List.flatMap vl [a]), .ow 31 3 (some ⟨b76, 0, none⟩) 0 0 (List.flatMap vl []), .ow 5 1 oa71 ((enc [b]).length) oc71 (bv (enc [b])), .ow 5 1 oa68 ((enc [a]).length) oc68 (bv (enc [a])), .ow 31 3 (some ⟨b7, 0, none⟩) 1 1 (List.flatMap vl [b]), .ow 31 3 (some ⟨b5, 0, none⟩) 1 1 (List.flatMap vl [a]), .blk b3 (.cells #[.int .i64 b.1, .int .i64 b.2.1, .string (bs b.2.2)] 31), .blk b2 (.cells #[.int .i64 a.1, .int .i64 a.2.1, .string (bs a.2.2)] 31)] _ := hS89.blkOw' (i := 0) (m := 1) (size := 3) (xs := List.flatMap vl [a]) rfl rfl rfl (by decide); clear hS89
                    refine hK _ _ ⟨trivial, fun h => absurd h (by decide)⟩ ?_; clear hK K
                    refine o_eff (i := 2) (by kernel_rfl) rfl (goes0 rfl) (fun K hK => ?_)
                    refine e_app (e := 31) (size := 3) (bytes := 32) (i := 1) (m' := L.length) (by kernel_rfl) hS89o rfl rfl rfl (SlG.src (e := 31) (by kernel_rfl) (hG.mono hS89o.base) ((rows_len (c := vl) (m := 3) (fun _ => rfl) _).trans (by first | rfl | (simp only [List.length_append, List.length_map, List.length_cons, List.length_nil, List.length_take, List.length_drop, List.length_set]; done) | (simp only [List.length_append, List.length_map, List.length_cons, List.length_nil, List.length_take, List.length_drop, List.length_set]; omega) | omega)) (by decide) (rows_one vl_ones)) (by first | omega | (simp only [List.length_append, List.length_map, List.length_cons, List.length_nil, List.length_take, List.length_drop, List.length_set] <;> omega) | (simp; done)) rfl (by first | omega | (simp only [maxLen, List.length_append, List.length_map, List.length_cons, List.length_nil, List.length_take, List.length_drop, List.length_set] <;> omega) | (simp only [maxLen]; omega)) (by first | omega | (simp only [List.length_append, List.length_map, List.length_cons, List.length_nil, List.length_take, List.length_drop, List.length_set] <;> omega)) (fun ad90 cp90 w90 (hS90 : St _ _ [.ow 31 3 (some ⟨b89, 0, none⟩) 1 1 (List.flatMap vl [a]), .ow 31 3 ad90 L.length cp90 (List.flatMap vl L), .ow 5 1 oa71 ((enc [b]).length) oc71 (bv (enc [b])), .ow 5 1 oa68 ((enc [a]).length) oc68 (bv (enc [a])), .ow 31 3 (some ⟨b7, 0, none⟩) 1 1 (List.flatMap vl [b]), .ow 31 3 (some ⟨b5, 0, none⟩) 1 1 (List.flatMap vl [a]), .blk b3 (.cells #[.int .i64 b.1, .int .i64 b.2.1, .string (bs b.2.2)] 31), .blk b2 (.cells #[.int .i64 a.1, .int .i64 a.2.1, .string (bs a.2.2)] 31)] _) => ?_)
                    clear hS89o
                    refine hK _ _ ⟨trivial, fun _ _ => by first | exact q_loadA (m := 3) rfl (by kernel_rfl) (by kernel_rfl) (hS90.blk (i := 7) rfl) rfl rfl⟩ ?_; clear hK K
                    refine o_eff (i := 5) (by kernel_rfl) rfl (goes0 rfl) (fun K hK => ?_)
                    refine e_app (e := 31) (size := 3) (bytes := 32) (i := 1) (m' := (L ++ [a]).length) (by kernel_rfl) hS90 rfl rfl rfl (SlG.src (e := 31) (by kernel_rfl) (hS90.owG (i := 0) rfl) ((rows_len (c := vl) (m := 3) (fun _ => rfl) _).trans (by first | rfl | (simp only [List.length_append, List.length_map, List.length_cons, List.length_nil, List.length_take, List.length_drop, List.length_set]; done) | (simp only [List.length_append, List.length_map, List.length_cons, List.length_nil, List.length_take, List.length_drop, List.length_set]; omega) | omega)) (by decide) (rows_one vl_ones)) (by first | omega | (simp only [List.length_append, List.length_map, List.length_cons, List.length_nil, List.length_take, List.length_drop, List.length_set] <;> omega) | (simp; done)) rows_app (by first | omega | (simp only [maxLen, List.length_append, List.length_map, List.length_cons, List.length_nil, List.length_take, List.length_drop, List.length_set] <;> omega) | (simp only [maxLen]; omega)) (by first | omega | (simp only [List.length_append, List.length_map, List.length_cons, List.length_nil, List.length_take, List.length_drop, List.length_set] <;> omega)) (fun ad91 cp91 w91 (hS91 : St _ _ [.ow 31 3 (some ⟨b89, 0, none⟩) 1 1 (List.flatMap vl [a]), .ow 31 3 ad91 ((L ++ [a]).length) cp91 (List.flatMap vl (L ++ [a])), .ow 5 1 oa71 ((enc [b]).length) oc71 (bv (enc [b])), .ow 5 1 oa68 ((enc [a]).length) oc68 (bv (enc [a])), .ow 31 3 (some ⟨b7, 0, none⟩) 1 1 (List.flatMap vl [b]), .ow 31 3 (some ⟨b5, 0, none⟩) 1 1 (List.flatMap vl [a]), .blk b3 (.cells #[.int .i64 b.1, .int .i64 b.2.1, .string (bs b.2.2)] 31), .blk b2 (.cells #[.int .i64 a.1, .int .i64 a.2.1, .string (bs a.2.2)] 31)] _) => ?_)
                    clear hS90
                    refine hK _ _ ⟨trivial, fun h => absurd h (by decide)⟩ ?_; clear hK K
                    refine o_eff (i := 6) (by kernel_rfl) rfl (goes0 rfl) (fun K hK => ?_)
                    have hel92 := enc_len (hRL.app hRa).2
                    refine e_call (by kernel_rfl) (ency_ok (L ++ [a]) (hRL.app hRa) h163 ((L ++ [a]).length) (by first | omega | (simp only [List.length_append, List.length_map, List.length_cons, List.length_nil, List.length_take, List.length_drop, List.length_set] <;> omega)) _ _ _ (hS91.owG (i := 1) rfl)) rfl (after_N hS91 (fun v92 G92 w92 hv92 hS92 => ?_))
                    clear hS91
                    obtain ⟨oa92, oc92, rfl, rfl⟩ := hv92
                    have hS93 : St _ _ [.ow 5 1 oa92 ((enc (L ++ [a])).length) oc92 (bv (enc (L ++ [a]))), .ow 31 3 (some ⟨b89, 0, none⟩) 1 1 (List.flatMap vl [a]), .ow 31 3 ad91 ((L ++ [a]).length) cp91 (List.flatMap vl (L ++ [a])), .ow 5 1 oa71 ((enc [b]).length) oc71 (bv (enc [b])), .ow 5 1 oa68 ((enc [a]).length) oc68 (bv (enc [a])), .ow 31 3 (some ⟨b7, 0, none⟩) 1 1 (List.flatMap vl [b]), .ow 31 3 (some ⟨b5, 0, none⟩) 1 1 (List.flatMap vl [a]), .blk b3 (.cells #[.int .i64 b.1, .int .i64 b.2.1, .string (bs b.2.2)] 31), .blk b2 (.cells #[.int .i64 a.1, .int .i64 a.2.1, .string (bs a.2.2)] 31)] _ := hS92; clear hS92
                    refine hK _ _ ⟨trivial, fun h => absurd h (by decide)⟩ ?_; clear hK K
                    refine o_pure (i := 7) (fun j w => ⟨(fun _ _ => trivial) j w, fun _ h => h⟩) rfl rfl (by kernel_rfl) (goes0 rfl) (QOk.then QOk.body) (fun w => q_move rfl) ?_
                    refine o_pure (i := 8) (fun j w => ⟨(fun _ _ => trivial) j w, fun _ h => h⟩) rfl rfl (by kernel_rfl) (goes0 rfl) (QOk.then QOk.body) (fun w => q_extract rfl rfl) ?_
                    refine o_pure (i := 9) (fun j w => ⟨(fun _ _ => trivial) j w, fun _ h => h⟩) rfl rfl (by kernel_rfl) (goes0 rfl) (QOk.then QOk.body) (fun w => q_extract rfl rfl) ?_
                    refine o_pure (i := 10) (fun j w => ⟨(fun _ _ => trivial) j w, fun _ h => h⟩) rfl rfl (by kernel_rfl) (goes0 rfl) (QOk.then QOk.body) (fun w => q_assignS rfl) ?_
                    refine o_pure (i := 11) (fun j w => ⟨(fun _ _ => trivial) j w, fun _ h => h⟩) rfl rfl (by kernel_rfl) (goes0 rfl) (QOk.then QOk.body) (fun w => q_assignI rfl) ?_
                    refine o_done (by kernel_rfl) ?_
                    have hS94 := hS93.fr8; clear hS93
                    have hS95 := hS94.fr8; clear hS94
                    have hS96 := hS95.fr8; clear hS95
                    have hS97 := hS96.fr8; clear hS96
                    have hS98 := hS97.fr8; clear hS97
                    have hS99 := hS98.fr8; clear hS98
                    have hS100 : St _ _ [.ow 5 1 oa71 ((enc [b]).length) oc71 (bv (enc [b])), .ow 5 1 oa68 ((enc [a]).length) oc68 (bv (enc [a])), .ow 31 3 (some ⟨b7, 0, none⟩) 1 1 (List.flatMap vl [b]), .ow 31 3 (some ⟨b5, 0, none⟩) 1 1 (List.flatMap vl [a]), .blk b3 (.cells #[.int .i64 b.1, .int .i64 b.2.1, .string (bs b.2.2)] 31), .blk b2 (.cells #[.int .i64 a.1, .int .i64 a.2.1, .string (bs a.2.2)] 31), .ow 5 1 oa92 ((enc (L ++ [a])).length) oc92 (bv (enc (L ++ [a])))] _ := hS99.only 7; clear hS99
                    refine hK74 _ _ (came (⟨oa92, oc92⟩) (by repeat' (first | exact Agree.refl _ _ | refine Agree.up ?_ rfl | refine Agree.hav2 ?_ rfl | refine Agree.ups2 ?_ rfl)) (by repeat' (first | exact trivial | refine ⟨by first | rfl | exact int_succ _ | assumption, ?_⟩)) ?_)
                    exact hS100
                ·
                  refine e_buildSliceA (e := 31) (m := 3) (zv := .agg #[.int .i64 0, .int .i64 0, .string ⟨#[]⟩]) hS75 (by kernel_rfl) (by kernel_rfl) (by kernel_rfl) rfl rfl rfl rfl (fun b101 w101 (hS101 : St _ _ [.blk b101 (.cells #[.int .i64 a.1, .int .i64 a.2.1, .string (bs a.2.2)] 31), .ow 5 1 oa71 ((enc [b]).length) oc71 (bv (enc [b])), .ow 5 1 oa68 ((enc [a]).length) oc68 (bv (enc [a])), .ow 31 3 (some ⟨b7, 0, none⟩) 1 1 (List.flatMap vl [b]), .ow 31 3 (some ⟨b5, 0, none⟩) 1 1 (List.flatMap vl [a]), .blk b3 (.cells #[.int .i64 b.1, .int .i64 b.2.1, .string (bs b.2.2)] 31), .blk b2 (.cells #[.int .i64 a.1, .int .i64 a.2.1, .string (bs a.2.2)] 31)] _) => ?_)
                  clear hS75
                  have hS101o : St _ _ [.ow 31 3 (some ⟨b101, 0, none⟩) 1 1 (List.flatMap vl [a]), .ow 5 1 oa71 ((enc [b]).length) oc71 (bv (enc [b])), .ow 5 1 oa68 ((enc [a]).length) oc68 (bv (enc [a])), .ow 31 3 (some ⟨b7, 0, none⟩) 1 1 (List.flatMap vl [b]), .ow 31 3 (some ⟨b5, 0, none⟩) 1 1 (List.flatMap vl [a]), .blk b3 (.cells #[.int .i64 b.1, .int .i64 b.2.1, .string (bs b.2.2)] 31), .blk b2 (.cells #[.int .i64 a.1, .int .i64 a.2.1, .string (bs a.2.2)] 31)] _ := hS101.blkOw' (i := 0) (m := 1) (size := 3) (xs := List.flatMap vl [a]) rfl rfl rfl (by decide); clear hS101
                  refine hK _ _ ⟨trivial, fun h => absurd h (by decide)⟩ ?_; clear hK K
                  refine o_eff (i := 0) (by kernel_rfl) rfl (goes0 rfl) (fun K hK => ?_)
                  refine e_buildSlice0 (e := 31) (m := 3) hS101o (by kernel_rfl) (by kernel_rfl) (fun b102 w102 (hS102 : St _ _ [.blk b102 (.cells #[] 31), .ow 31 3 (some ⟨b101, 0, none⟩) 1 1 (List.flatMap vl [a]), .ow 5 1 oa71 ((enc [b]).length) oc71 (bv (enc [b])), .ow 5 1 oa68 ((enc [a]).length) oc68 (bv (enc [a])), .ow 31 3 (some ⟨b7, 0, none⟩) 1 1 (List.flatMap vl [b]), .ow 31 3 (some ⟨b5, 0, none⟩) 1 1 (List.flatMap vl [a]), .blk b3 (.cells #[.int .i64 b.1, .int .i64 b.2.1, .string (bs b.2.2)] 31), .blk b2 (.cells #[.int .i64 a.1, .int .i64 a.2.1, .string (bs a.2.2)] 31)] _) => ?_)
                  clear hS101o
                  have hS102o : St _ _ [.ow 31 3 (some ⟨b102, 0, none⟩) 0 0 (List.flatMap vl []), .ow 31 3 (some ⟨b101, 0, none⟩) 1 1 (List.flatMap vl [a]), .ow 5 1 oa71 ((enc [b]).length) oc71 (bv (enc [b])), .ow 5 1 oa68 ((enc [a]).length) oc68 (bv (enc [a])), .ow 31 3 (some ⟨b7, 0, none⟩) 1 1 (List.flatMap vl [b]), .ow 31 3 (some ⟨b5, 0, none⟩) 1 1 (List.flatMap vl [a]), .blk b3 (.cells #[.int .i64 b.1, .int .i64 b.2.1, .string (bs b.2.2)] 31), .blk b2 (.cells #[.int .i64 a.1, .int .i64 a.2.1, .string (bs a.2.2)] 31)] _ := hS102.blkOw' (i := 0) (m := 0) (size := 3) (xs := List.flatMap vl []) rfl rfl rfl (by decide); clear hS102
                  refine hK _ _ ⟨trivial, fun _ _ => by first | exact q_loadA (m := 3) rfl (by kernel_rfl) (by kernel_rfl) (hS102o.blk (i := 7) rfl) rfl rfl⟩ ?_; clear hK K
                  refine o_eff (i := 2) (by kernel_rfl) rfl (goes0 rfl) (fun K hK => ?_)
                  refine e_app (e := 31) (size := 3) (bytes := 32) (i := 0) (m' := L.length) (by kernel_rfl) hS102o rfl rfl rfl (SlG.src (e := 31) (by kernel_rfl) (hG.mono hS102o.base) ((rows_len (c := vl) (m := 3) (fun _ => rfl) _).trans (by first | rfl | (simp only [List.length_append, List.length_map, List.length_cons, List.length_nil, List.length_take, List.length_drop, List.length_set]; done) | (simp only [List.length_append, List.length_map, List.length_cons, List.length_nil, List.length_take, List.length_drop, List.length_set]; omega) | omega)) (by decide) (rows_one vl_ones)) (by first | omega | (simp only [List.length_append, List.length_map, List.length_cons, List.length_nil, List.length_take, List.length_drop, List.length_set] <;> omega) | (simp; done)) rfl (by first | omega | (simp only [maxLen, List.length_append, List.length_map, List.length_cons, List.length_nil, List.length_take, List.length_drop, List.length_set] <;> omega) | (simp only [maxLen]; omega)) (by first | omega | (simp only [List.length_append, List.length_map, List.length_cons, List.length_nil, List.length_take, List.length_drop, List.length_set] <;> omega)) (fun ad103 cp103 w103 (hS103 : St _ _ [.ow 31 3 ad103 L.length cp103 (List.flatMap vl L), .ow 31 3 (some ⟨b101, 0, none⟩) 1 1 (List.flatMap vl [a]), .ow 5 1 oa71 ((enc [b]).length) oc71 (bv (enc [b])), .ow 5 1 oa68 ((enc [a]).length) oc68 (bv (enc [a])), .ow 31 3 (some ⟨b7, 0, none⟩) 1 1 (List.flatMap vl [b]), .ow 31 3 (some ⟨b5, 0, none⟩) 1 1 (List.flatMap vl [a]), .blk b3 (.cells #[.int .i64 b.1, .int .i64 b.2.1, .string (bs b.2.2)] 31), .blk b2 (.cells #[.int .i64 a.1, .int .i64 a.2.1, .string (bs a.2.2)] 31)] _) => ?_)
                  clear hS102o
                  refine hK _ _ ⟨trivial, fun _ _ => by first | exact q_loadA (m := 3) rfl (by kernel_rfl) (by kernel_rfl) (hS103.blk (i := 7) rfl) rfl rfl⟩ ?_; clear hK K
                  refine o_eff (i := 5) (by kernel_rfl) rfl (goes0 rfl) (fun K hK => ?_)
                  refine e_app (e := 31) (size := 3) (bytes := 32) (i := 0) (m' := (L ++ [a]).length) (by kernel_rfl) hS103 rfl rfl rfl (SlG.src (e := 31) (by kernel_rfl) (hS103.owG (i := 1) rfl) ((rows_len (c := vl) (m := 3) (fun _ => rfl) _).trans (by first | rfl | (simp only [List.length_append, List.length_map, List.length_cons, List.length_nil, List.length_take, List.length_drop, List.length_set]; done) | (simp only [List.length_append, List.length_map, List.length_cons, List.length_nil, List.length_take, List.length_drop, List.length_set]; omega) | omega)) (by decide) (rows_one vl_ones)) (by first | omega | (simp only [List.length_append, List.length_map, List.length_cons, List.length_nil, List.length_take, List.length_drop, List.length_set] <;> omega) | (simp; done)) rows_app (by first | omega | (simp only [maxLen, List.length_append, List.length_map, List.length_cons, List.length_nil, List.length_take, List.length_drop, List.length_set] <;> omega) | (simp only [maxLen]; omega)) (by first | omega | (simp only [List.length_append, List.length_map, List.length_cons, List.length_nil, List.length_take, List.length_drop, List.length_set] <;> omega)) (fun ad104 cp104 w104 (hS104 : St _ _ [.ow 31 3 ad104 ((L ++ [a]).length) cp104 (List.flatMap vl (L ++ [a])), .ow 31 3 (some ⟨b101, 0, none⟩) 1 1 (List.flatMap vl [a]), .ow 5 1 oa71 ((enc [b]).length) oc71 (bv (enc [b])), .ow 5 1 oa68 ((enc [a]).length) oc68 (bv (enc [a])), .ow 31 3 (some ⟨b7, 0, none⟩) 1 1 (List.flatMap vl [b]), .ow 31 3 (some ⟨b5, 0, none⟩) 1 1 (List.flatMap vl [a]), .blk b3 (.cells #[.int .i64 b.1, .int .i64 b.2.1, .string (bs b.2.2)] 31), .blk b2 (.cells #[.int .i64 a.1, .int .i64 a.2.1, .string (bs a.2.2)] 31)] _) => ?_)
                  clear hS103
                  refine hK _ _ ⟨trivial, fun h => absurd h (by decide)⟩ ?_; clear hK K
                  refine o_eff (i := 6) (by kernel_rfl) rfl (goes0 rfl) (fun K hK => ?_)
                  have hel105 := enc_len (hRL.app hRa).2
                  refine e_call (by kernel_rfl) (ency_ok (L ++ [a]) (hRL.app hRa) h163 ((L ++ [a]).length) (by first | omega | (simp only [List.length_append, List.length_map, List.length_cons, List.length_nil, List.length_take, List.length_drop, List.length_set] <;> omega)) _ _ _ (hS104.owG (i := 0) rfl)) rfl (after_N hS104 (fun v105 G105 w105 hv105 hS105 => ?_))
                  clear hS104
                  obtain ⟨oa105, oc105, rfl, rfl⟩ := hv105
                  have hS106 : St _ _ [.ow 5 1 oa105 ((enc (L ++ [a])).length) oc105 (bv (enc (L ++ [a]))), .ow 31 3 ad104 ((L ++ [a]).length) cp104 (List.flatMap vl (L ++ [a])), .ow 31 3 (some ⟨b101, 0, none⟩) 1 1 (List.flatMap vl [a]), .ow 5 1 oa71 ((enc [b]).length) oc71 (bv (enc [b])), .ow 5 1 oa68 ((enc [a]).length) oc68 (bv (enc [a])), .ow 31 3 (some ⟨b7, 0, none⟩) 1 1 (List.flatMap vl [b]), .ow 31 3 (some ⟨b5, 0, none⟩) 1 1 (List.flatMap vl [a]), .blk b3 (.cells #[.int .i64 b.1, .int .i64 b.2.1, .string (bs b.2.2)] 31), .blk b2 (.cells #[.int .i64 a.1, .int .i64 a.2.1, .string (bs a.2.2)] 31)] _ := hS105; clear hS105
                  refine hK _ _ ⟨trivial, fun h => absurd h (by decide)⟩ ?_; clear hK K
                  refine o_pure (i := 7) (fun j w => ⟨(fun _ _ => trivial) j w, fun _ h => h⟩) rfl rfl (by kernel_rfl) (goes0 rfl) (QOk.then QOk.body) (fun w => q_move rfl) ?_
                  refine o_pure (i := 8) (fun j w => ⟨(fun _ _ => trivial) j w, fun _ h => h⟩) rfl rfl (by kernel_rfl) (goes0 rfl) (QOk.then QOk.body) (fun w => q_extract rfl rfl) ?_
                  refine o_pure (i := 9) (fun j w => ⟨(fun _ _ => trivial) j w, fun _ h => h⟩) rfl rfl (by kernel_rfl) (goes0 rfl) (QOk.then QOk.body) (fun w => q_extract rfl rfl) ?_
                  refine o_pure (i := 10) (fun j w => ⟨(fun _ _ => trivial) j w, fun _ h => h⟩) rfl rfl (by kernel_rfl) (goes0 rfl) (QOk.then QOk.body) (fun w => q_assignS rfl) ?_
                  refine o_pure (i := 11) (fun j w => ⟨(fun _ _ => trivial) j w, fun _ h => h⟩) rfl rfl (by kernel_rfl) (goes0 rfl) (QOk.then QOk.body) (fun w => q_assignI rfl) ?_
                  refine o_done (by kernel_rfl) ?_
                  have hS107 := hS106.fr8; clear hS106
                  have hS108 := hS107.fr8; clear hS107
                  have hS109 := hS108.fr8; clear hS108
                  have hS110 := hS109.fr8; clear hS109
                  have hS111 := hS110.fr8; clear hS110
                  have hS112 := hS111.fr8; clear hS111
                  have hS113 : St _ _ [.ow 5 1 oa71 ((enc [b]).length) oc71 (bv (enc [b])), .ow 5 1 oa68 ((enc [a]).length) oc68 (bv (enc [a])), .ow 31 3 (some ⟨b7, 0, none⟩) 1 1 (List.flatMap vl [b]), .ow 31 3 (some ⟨b5, 0, none⟩) 1 1 (List.flatMap vl [a]), .blk b3 (.cells #[.int .i64 b.1, .int .i64 b.2.1, .string (bs b.2.2)] 31), .blk b2 (.cells #[.int .i64 a.1, .int .i64 a.2.1, .string (bs a.2.2)] 31), .ow 5 1 oa105 ((enc (L ++ [a])).length) oc105 (bv (enc (L ++ [a])))] _ := hS112.only 7; clear hS112
                  refine hK74 _ _ (came (⟨oa105, oc105⟩) (by repeat' (first | exact Agree.refl _ _ | refine Agree.up ?_ rfl | refine Agree.hav2 ?_ rfl | refine Agree.ups2 ?_ rfl)) (by repeat' (first | exact trivial | refine ⟨by first | rfl | exact int_succ _ | assumption, ?_⟩)) ?_)
                  exact hS113
              ·
                obtain ⟨oau, ocu⟩ := x74
                have hS74 := hJ74
                try dsimp only at hS74 ⊢
                refine c_cut (τ := (Option Addr) × Nat) [(19, 20), (81, 90)] (fun x => (fun (oav : Option Addr) (ocv : Nat) => [(19, .slice oav ((enc (L ++ [b])).length) ocv), (20, .int .i64 (0 : Int))]) x.1 x.2) (fun x w' => (fun (oav : Option Addr) (ocv : Nat) => St w (fun _ => False) [.ow 5 1 oa71 ((enc [b]).length) oc71 (bv (enc [b])), .ow 5 1 oa68 ((enc [a]).length) oc68 (bv (enc [a])), .ow 31 3 (some ⟨b7, 0, none⟩) 1 1 (List.flatMap vl [b]), .ow 31 3 (some ⟨b5, 0, none⟩) 1 1 (List.flatMap vl [a]), .blk b3 (.cells #[.int .i64 b.1, .int .i64 b.2.1, .string (bs b.2.2)] 31), .blk b2 (.cells #[.int .i64 a.1, .int .i64 a.2.1, .string (bs a.2.2)] 31), .ow 5 1 oau ((enc (L ++ [a])).length) ocu (bv (enc (L ++ [a]))), .ow 5 1 oav ((enc (L ++ [b])).length) ocv (bv (enc (L ++ [b])))] w') x.1 x.2) (fun K115 hK115 => ?_) (fun x115 j115 w115 hJ115 => ?_)
                ·
                  refine r_any (by kernel_rfl) hS74 (fun w116 hS116 => ?_)
                  clear hS74
                  refine o_pure (i := 1) (fun _ _ => trivial) rfl rfl (by kernel_rfl) (goes0 rfl) (QOk.then QOk.body) (fun w => q_moveS rfl) ?_
                  refine o_held (i := 3) [4, 5, 6, 7, 8, 9, 10, 11] (fun _ _ => trivial) rfl rfl (by kernel_rfl) (goes0 rfl) (QOk.then QOk.body) (q_loadA (m := 3) rfl (by kernel_rfl) (by kernel_rfl) (hS116.blk (i := 4) rfl) rfl rfl) ?_
                  refine o_eff2 (i := 0) (j := 4) (by kernel_rfl) rfl rfl (goes0 rfl) (goes0 rfl) (fun K hK => ?_) (fun K hK => ?_)
                  ·
                    refine e_buildSlice0 (e := 31) (m := 3) hS116 (by kernel_rfl) (by kernel_rfl) (fun b117 w117 (hS117 : St _ _ [.blk b117 (.cells #[] 31), .ow 5 1 oa71 ((enc [b]).length) oc71 (bv (enc [b])), .ow 5 1 oa68 ((enc [a]).length) oc68 (bv (enc [a])), .ow 31 3 (some ⟨b7, 0, none⟩) 1 1 (List.flatMap vl [b]), .ow 31 3 (some ⟨b5, 0, none⟩) 1 1 (List.flatMap vl [a]), .blk b3 (.cells #[.int .i64 b.1, .int .i64 b.2.1, .string (bs b.2.2)] 31), .blk b2 (.cells #[.int .i64 a.1, .int .i64 a.2.1, .string (bs a.2.2)] 31), .ow 5 1 oau ((enc (L ++ [a])).length) ocu (bv (enc (L ++ [a])))] _) => ?_)
                    clear hS116
                    have hS117o : St _ _ [.ow 31 3 (some ⟨b117, 0, none⟩) 0 0 (List.flatMap vl []), .ow 5 1 oa71 ((enc [b]).length) oc71 (bv (enc [b])), .ow 5 1 oa68 ((enc [a]).length) oc68 (bv (enc [a])), .ow 31 3 (some ⟨b7, 0, none⟩) 1 1 (List.flatMap vl [b]), .ow 31 3 (some ⟨b5, 0, none⟩) 1 1 (List.flatMap vl [a]), .blk b3 (.cells #[.int .i64 b.1, .int .i64 b.2.1, .string (bs b.2.2)] 31), .blk b2 (.cells #[.int .i64 a.1, .int .i64 a.2.1, .string (bs a.2.2)] 31), .ow 5 1 oau ((enc (L ++ [a])).length) ocu (bv (enc (L ++ [a])))] _ := hS117.blkOw' (i := 0) (m := 0) (size := 3) (xs := List.flatMap vl []) rfl rfl rfl (by decide); clear hS117
                    refine hK _ _ ⟨trivial, fun _ _ => by first | exact q_loadA (m := 3) rfl (by kernel_rfl) (by kernel_rfl) (hS117o.blk (i := 5) rfl) rfl rfl⟩ ?_; clear hK K
                    refine o_eff2 (i := 2) (j := 4) (by kernel_rfl) rfl rfl (goes0 rfl) (goes0 rfl) (fun K hK => ?_) (fun K hK => ?_)
                    ·
                      refine e_app (e := 31) (size := 3) (bytes := 32) (i := 0) (m' := L.length) (by kernel_rfl) hS117o rfl rfl rfl (SlG.src (e := 31) (by kernel_rfl) (hG.mono hS117o.base) ((rows_len (c := vl) (m := 3) (fun _ => rfl) _).trans (by first | rfl | (simp only [List.length_append, List.length_map, List.length_cons, List.length_nil, List.length_take, List.length_drop, List.length_set]; done) | (simp only [List.length_append, List.length_map, List.length_cons, List.length_nil, List.length_take, List.length_drop, List.length_set]; omega) | omega)) (by decide) (rows_one vl_ones)) (by first | omega | (simp only [List.length_append, List.length_map, List.length_cons, List.length_nil, List.length_take, List.length_drop, List.length_set] <;> omega) | (simp; done)) rfl (by first | omega | (simp only [maxLen, List.length_append, List.length_map, List.length_cons, List.length_nil, List.length_take, List.length_drop, List.length_set] <;> omega) | (simp only [maxLen]; omega)) (by first | omega | (simp only [List.length_append, List.length_map, List.length_cons, List.length_nil, List.length_take, List.length_drop, List.length_set] <;> omega)) (fun ad118 cp118 w118 (hS118 : St _ _ [.ow 31 3 ad118 L.length cp118 (List.flatMap vl L), .ow 5 1 oa71 ((enc [b]).length) oc71 (bv (enc [b])), .ow 5 1 oa68 ((enc [a]).length) oc68 (bv (enc [a])), .ow 31 3 (some ⟨b7, 0, none⟩) 1 1 (List.flatMap vl [b]), .ow 31 3 (some ⟨b5, 0, none⟩) 1 1 (List.flatMap vl [a]), .blk b3 (.cells #[.int .i64 b.1, .int .i64 b.2.1, .string (bs b.2.2)] 31), .blk b2 (.cells #[.int .i64 a.1, .int .i64 a.2.1, .string (bs a.2.2)] 31), .ow 5 1 oau ((enc (L ++ [a])).length) ocu (bv (enc (L ++ [a])))] _) => ?_)
                      clear hS117o
                      refine hK _ _ ⟨trivial, fun _ _ => by first | exact q_loadA (m := 3) rfl (by kernel_rfl) (by kernel_rfl) (hS118.blk (i := 5) rfl) rfl rfl⟩ ?_; clear hK K
                      refine o_eff (i := 4) (by kernel_rfl) rfl (goes0 rfl) (fun K hK => ?_)
                      refine e_buildSliceA (e := 31) (m := 3) (zv := .agg #[.int .i64 0, .int .i64 0, .string ⟨#[]⟩]) hS118 (by kernel_rfl) (by kernel_rfl) (by kernel_rfl) rfl rfl rfl rfl (fun b119 w119 (hS119 : St _ _ [.blk b119 (.cells #[.int .i64 b.1, .int .i64 b.2.1, .string (bs b.2.2)] 31), .ow 31 3 ad118 L.length cp118 (List.flatMap vl L), .ow 5 1 oa71 ((enc [b]).length) oc71 (bv (enc [b])), .ow 5 1 oa68 ((enc [a]).length) oc68 (bv (enc [a])), .ow 31 3 (some ⟨b7, 0, none⟩) 1 1 (List.flatMap vl [b]), .ow 31 3 (some ⟨b5, 0, none⟩) 1 1 (List.flatMap vl [a]), .blk b3 (.cells #[.int .i64 b.1, .int .i64 b.2.1, .string (bs b.2.2)] 31), .blk b2 (.cells #[.int .i64 a.1, .int .i64 a.2.1, .string (bs a.2.2)] 31), .ow 5 1 oau ((enc (L ++ [a])).length) ocu (bv (enc (L ++ [a])))] _) => ?_)
                      clear hS118
                      have hS119o : St _ _ [.ow 31 3 (some ⟨b119, 0, none⟩) 1 1 (List.flatMap vl [b]), .ow 31 3 ad118 L.length cp118 (List.flatMap vl L), .ow 5 1 oa71 ((enc [b]).length) oc71 (bv (enc [b])), .ow 5 1 oa68 ((enc [a]).length) oc68 (bv (enc [a])), .ow 31 3 (some ⟨b7, 0, none⟩) 1 1 (List.flatMap vl [b]), .ow 31 3 (some ⟨b5, 0, none⟩) 1 1 (List.flatMap vl [a]), .blk b3 (.cells #[.int .i64 b.1, .int .i64 b.2.1, .string (bs b.2.2)] 31), .blk b2 (.cells #[.int .i64 a.1, .int .i64 a.2.1, .string (bs a.2.2)] 31), .ow 5 1 oau ((enc (L ++ [a])).length) ocu (bv (enc (L ++ [a])))] _ := hS119.blkOw' (i := 0) (m := 1) (size := 3) (xs := List.flatMap vl [b]) rfl rfl rfl (by decide); clear hS119
                      refine hK _ _ ⟨trivial, fun h => absurd h (by decide)⟩ ?_; clear hK K
                      refine o_eff (i := 5) (by kernel_rfl) rfl (goes0 rfl) (fun K hK => ?_)
                      refine e_app (e := 31) (size := 3) (bytes := 32) (i := 1) (m' := (L ++ [b]).length) (by kernel_rfl) hS119o rfl rfl rfl (SlG.src (e := 31) (by kernel_rfl) (hS119o.owG (i := 0) rfl) ((rows_len (c := vl) (m := 3) (fun _ => rfl) _).trans (by first | rfl | (simp only [List.length_append, List.length_map, List.length_cons, List.length_nil, List.length_take, List.length_drop, List.length_set]; done) | (simp only [List.length_append, List.length_map, List.length_cons, List.length_nil, List.length_take, List.length_drop, List.length_set]; omega) | omega)) (by decide) (rows_one vl_ones)) (by first | omega | (simp only [List.length_append, List.length_map, List.length_cons, List.length_nil, List.length_take, List.length_drop, List.length_set] <;> omega) | (simp; done)) rows_app (by first | omega | (simp only [maxLen, List.length_append, List.length_map, List.length_cons, List.length_nil, List.length_take, List.length_drop, List.length_set] <;> omega) | (simp only [maxLen]; omega)) (by first | omega | (simp only [List.length_append, List.length_map, List.length_cons, List.length_nil, List.length_take, List.length_drop, List.length_set] <;> omega)) (fun ad120 cp120 w120 (hS120 : St _ _ [.ow 31 3 (some ⟨b119, 0, none⟩) 1 1 (List.flatMap vl [b]), .ow 31 3 ad120 ((L ++ [b]).length) cp120 (List.flatMap vl (L ++ [b])), .ow 5 1 oa71 ((enc [b]).length) oc71 (bv (enc [b])), .ow 5 1 oa68 ((enc [a]).length) oc68 (bv (enc [a])), .ow 31 3 (some ⟨b7, 0, none⟩) 1 1 (List.flatMap vl [b]), .ow 31 3 (some ⟨b5, 0, none⟩) 1 1 (List.flatMap vl [a]), .blk b3 (.cells #[.int .i64 b.1, .int .i64 b.2.1, .string (bs b.2.2)] 31), .blk b2 (.cells #[.int .i64 a.1, .int .i64 a.2.1, .string (bs a.2.2)] 31), .ow 5 1 oau ((enc (L ++ [a])).length) ocu (bv (enc (L ++ [a])))] _) => ?_)
                      clear hS119o
                      refine hK _ _ ⟨trivial, fun h => absurd h (by decide)⟩ ?_; clear hK K
                      refine o_eff (i := 6) (by kernel_rfl) rfl (goes0 rfl) (fun K hK => ?_)
                      have hel121 := enc_len (hRL.app hRb).2
                      refine e_call (by kernel_rfl) (ency_ok (L ++ [b]) (hRL.app hRb) h164 ((L ++ [b]).length) (by first | omega | (simp only [List.length_append, List.length_map, List.length_cons, List.length_nil, List.length_take, List.length_drop, List.length_set] <;> omega)) _ _ _ (hS120.owG (i := 1) rfl)) rfl (after_N hS120 (fun v121 G121 w121 hv121 hS121 => ?_))
                      clear hS120
                      obtain ⟨oa121, oc121, rfl, rfl⟩ := hv121
                      have hS122 : St _ _ [.ow 5 1 oa121 ((enc (L ++ [b])).length) oc121 (bv (enc (L ++ [b]))), .ow 31 3 (some ⟨b119, 0, none⟩) 1 1 (List.flatMap vl [b]), .ow 31 3 ad120 ((L ++ [b]).length) cp120 (List.flatMap vl (L ++ [b])), .ow 5 1 oa71 ((enc [b]).length) oc71 (bv (enc [b])), .ow 5 1 oa68 ((enc [a]).length) oc68 (bv (enc [a])), .ow 31 3 (some ⟨b7, 0, none⟩) 1 1 (List.flatMap vl [b]), .ow 31 3 (some ⟨b5, 0, none⟩) 1 1 (List.flatMap vl [a]), .blk b3 (.cells #[.int .i64 b.1, .int .i64 b.2.1, .string (bs b.2.2)] 31), .blk b2 (.cells #[.int .i64 a.1, .int .i64 a.2.1, .string (bs a.2.2)] 31), .ow 5 1 oau ((enc (L ++ [a])).length) ocu (bv (enc (L ++ [a])))] _ := hS121; clear hS121
                      refine hK _ _ ⟨trivial, fun h => absurd h (by decide)⟩ ?_; clear hK K
                      refine o_pure (i := 7) (fun j w => ⟨(fun _ _ => trivial) j w, fun _ h => h⟩) rfl rfl (by kernel_rfl) (goes0 rfl) (QOk.then QOk.body) (fun w => q_move rfl) ?_
                      refine o_pure (i := 8) (fun j w => ⟨(fun _ _ => trivial) j w, fun _ h => h⟩) rfl rfl (by kernel_rfl) (goes0 rfl) (QOk.then QOk.body) (fun w => q_extract rfl rfl) ?_
                      refine o_pure (i := 9) (fun j w => ⟨(fun _ _ => trivial) j w, fun _ h => h⟩) rfl rfl (by kernel_rfl) (goes0 rfl) (QOk.then QOk.body) (fun w => q_extract rfl rfl) ?_
                      refine o_pure (i := 10) (fun j w => ⟨(fun _ _ => trivial) j w, fun _ h => h⟩) rfl rfl (by kernel_rfl) (goes0 rfl) (QOk.then QOk.body) (fun w => q_assignS rfl) ?_
                      refine o_pure (i := 11) (fun j w => ⟨(fun _ _ => trivial) j w, fun _ h => h⟩) rfl rfl (by kernel_rfl) (goes0 rfl) (QOk.then QOk.body) (fun w => q_assignI rfl) ?_
                      refine o_done (by kernel_rfl) ?_
                      have hS123 := hS122.fr9; clear hS122
                      have hS124 := hS123.fr9; clear hS123
                      have hS125 := hS124.fr9; clear hS124
                      have hS126 := hS125.fr9; clear hS125
                      have hS127 := hS126.fr9; clear hS126
                      have hS128 := hS127.fr9; clear hS127
                      have hS129 := hS128.fr9; clear hS128
                      have hS130 : St _ _ [.ow 5 1 oa71 ((enc [b]).length) oc71 (bv (enc [b])), .ow 5 1 oa68 ((enc [a]).length) oc68 (bv (enc [a])), .ow 31 3 (some ⟨b7, 0, none⟩) 1 1 (List.flatMap vl [b]), .ow 31 3 (some ⟨b5, 0, none⟩) 1 1 (List.flatMap vl [a]), .blk b3 (.cells #[.int .i64 b.1, .int .i64 b.2.1, .string (bs b.2.2)] 31), .blk b2 (.cells #[.int .i64 a.1, .int .i64 a.2.1, .string (bs a.2.2)] 31), .ow 5 1 oau ((enc (L ++ [a])).length) ocu (bv (enc (L ++ [a]))), .ow 5 1 oa121 ((enc (L ++ [b])).length) oc121 (bv (enc (L ++ [b])))] _ := hS129.only 8; clear hS129
                      refine hK115 _ _ (came (⟨oa121, oc121⟩) (by repeat' (first | exact Agree.refl _ _ | refine Agree.up ?_ rfl | refine Agree.hav2 ?_ rfl | refine Agree.ups2 ?_ rfl)) (by repeat' (first | exact trivial | refine ⟨by first | rfl | exact int_succ _ | assumption, ?_⟩)) ?_)
                      exact hS130
                    ·
                      refine e_buildSliceA (e := 31) (m := 3) (zv := .agg #[.int .i64 0, .int .i64 0, .string ⟨#[]⟩]) hS117o (by kernel_rfl) (by kernel_rfl) (by kernel_rfl) rfl rfl rfl rfl (fun b131 w131 (hS131 : St _ _ [.blk b131 (.cells #[.int .i64 b.1, .int .i64 b.2.1, .string (bs b.2.2)] 31), .ow 31 3 (some ⟨b117, 0, none⟩) 0 0 (List.flatMap vl []), .ow 5 1 oa71 ((enc [b]).length) oc71 (bv (enc [b])), .ow 5 1 oa68 ((enc [a]).length) oc68 (bv (enc [a])), .ow 31 3 (some ⟨b7, 0, none⟩) 1 1 (List.flatMap vl [b]), .ow 31 3 (some ⟨b5, 0, none⟩) 1 1 (List.flatMap vl [a]), .blk b3 (.cells #[.int .i64 b.1, .int .i64 b.2.1, .string (bs b.2.2)] 31), .blk b2 (.cells #[.int .i64 a.1, .int .i64 a.2.1, .string (bs a.2.2)] 31), .ow 5 1 oau ((enc (L ++ [a])).length) ocu (bv (enc (L ++ [a])))] _) => ?_)
                      clear hS117o
                      have hS131o : St _ _ [.ow 31 3 (some ⟨b131, 0, none⟩) 1 1 (List.flatMap vl [b]), .ow 31 3 (some ⟨b117, 0, none⟩) 0 0 (List.flatMap vl []), .ow 5 1 oa71 ((enc [b]).length) oc71 (bv (enc [b])), .ow 5 1 oa68 ((enc [a]).length) oc68 (bv (enc [a])), .ow 31 3 (some ⟨b7, 0, none⟩) 1 1 (List.flatMap vl [b]), .ow 31 3 (some ⟨b5, 0, none⟩) 1 1 (List.flatMap vl [a]), .blk b3 (.cells #[.int .i64 b.1, .int .i64 b.2.1, .string (bs b.2.2)] 31), .blk b2 (.cells #[.int .i64 a.1, .int .i64 a.2.1, .string (bs a.2.2)] 31), .ow 5 1 oau ((enc (L ++ [a])).length) ocu (bv (enc (L ++ [a])))] _ := hS131.blkOw' (i := 0) (m := 1) (size := 3) (xs := List.flatMap vl [b]) rfl rfl rfl (by decide); clear hS131
                      refine hK _ _ ⟨trivial, fun h => absurd h (by decide)⟩ ?_; clear hK K
                      refine o_eff (i := 2) (by kernel_rfl) rfl (goes0 rfl) (fun K hK => ?_)
                      refine e_app (e := 31) (size := 3) (bytes := 32) (i := 1) (m' := L.length) (by kernel_rfl) hS131o rfl rfl rfl (SlG.src (e := 31) (by kernel_rfl) (hG.mono hS131o.base) ((rows_len (c := vl) (m := 3) (fun _ => rfl) _).trans (by first | rfl | (simp only [List.length_append, List.length_map, List.length_cons, List.length_nil, List.length_take, List.length_drop, List.length_set]; done) | (simp only [List.length_append, List.length_map, List.length_cons, List.length_nil, List.length_take, List.length_drop, List.length_set]; omega) | omega)) (by decide) (rows_one vl_ones)) (by first | omega | (simp only [List.length_append, List.length_map, List.length_cons, List.length_nil, List.length_take, List.length_drop, List.length_set] <;> omega) | (simp; done)) rfl (by first | omega | (simp only [maxLen, List.length_append, List.length_map, List.length_cons, List.length_nil, List.length_take, List.length_drop, List.length_set] <;> omega) | (simp only [maxLen]; omega)) (by first | omega | (simp only [List.length_append, List.length_map, List.length_cons, List.length_nil, List.length_take, List.length_drop, List.length_set] <;> omega)) (fun ad132 cp132 w132 (hS132 : St _ _ [.ow 31 3 (some ⟨b131, 0, none⟩) 1 1 (List.flatMap vl [b]), .ow 31 3 ad132 L.length cp132 (List.flatMap vl L), .ow 5 1 oa71 ((enc [b]).length) oc71 (bv (enc [b])), .ow 5 1 oa68 ((enc [a]).length) oc68 (bv (enc [a])), .ow 31 3 (some ⟨b7, 0, none⟩) 1 1 (List.flatMap vl [b]), .ow 31 3 (some ⟨b5, 0, none⟩) 1 1 (List.flatMap vl [a]), .blk b3 (.cells #[.int .i64 b.1, .int .i64 b.2.1, .string (bs b.2.2)] 31), .blk b2 (.cells #[.int .i64 a.1, .int .i64 a.2.1, .string (bs a.2.2)] 31), .ow 5 1 oau ((enc (L ++ [a])).length) ocu (bv (enc (L ++ [a])))] _) => ?_)
                      clear hS131o
                      refine hK _ _ ⟨trivial, fun _ _ => by first | exact q_loadA (m := 3) rfl (by kernel_rfl) (by kernel_rfl) (hS132.blk (i := 6) rfl) rfl rfl⟩ ?_; clear hK K
                      refine o_eff (i := 5) (by kernel_rfl) rfl (goes0 rfl) (fun K hK => ?_)
                      refine e_app (e := 31) (size := 3) (bytes := 32) (i := 1) (m' := (L ++ [b]).length) (by kernel_rfl) hS132 rfl rfl rfl (SlG.src (e := 31) (by kernel_rfl) (hS132.owG (i := 0) rfl) ((rows_len (c := vl) (m := 3) (fun _ => rfl) _).trans (by first | rfl | (simp only [List.length_append, List.length_map, List.length_cons, List.length_nil, List.length_take, List.length_drop, List.length_set]; done) | (simp only [List.length_append, List.length_map, List.length_cons, List.length_nil, List.length_take, List.length_drop, List.length_set]; omega) | omega)) (by decide) (rows_one vl_ones)) (by first | omega | (simp only [List.length_append, List.length_map, List.length_cons, List.length_nil, List.length_take, List.length_drop, List.length_set] <;> omega) | (simp; done)) rows_app (by first | omega | (simp only [maxLen, List.length_append, List.length_map, List.length_cons, List.length_nil, List.length_take, List.length_drop, List.length_set] <;> omega) | (simp only [maxLen]; omega)) (by first | omega | (simp only [List.length_append, List.length_map, List.length_cons, List.length_nil, List.length_take, List.length_drop, List.length_set] <;> omega)) (fun ad133 cp133 w133 (hS133 : St _ _ [.ow 31 3 (some ⟨b131, 0, none⟩) 1 1 (List.flatMap vl [b]), .ow 31 3 ad133 ((L ++ [b]).length) cp133 (List.flatMap vl (L ++ [b])), .ow 5 1 oa71 ((enc [b]).length) oc71 (bv (enc [b])), .ow 5 1 oa68 ((enc [a]).length) oc68 (bv (enc [a])), .ow 31 3 (some ⟨b7, 0, none⟩) 1 1 (List.flatMap vl [b]), .ow 31 3 (some ⟨b5, 0, none⟩) 1 1 (List.flatMap vl [a]), .blk b3 (.cells #[.int .i64 b.1, .int .i64 b.2.1, .string (bs b.2.2)] 31), .blk b2 (.cells #[.int .i64 a.1, .int .i64 a.2.1, .string (bs a.2.2)] 31), .ow 5 1 oau ((enc (L ++ [a])).length) ocu (bv (enc (L ++ [a])))] _) => ?_)
                      clear hS132
                      refine hK _ _ ⟨trivial, fun h => absurd h (by decide)⟩ ?_; clear hK K
                      refine o_eff (i := 6) (by kernel_rfl) rfl (goes0 rfl) (fun K hK => ?_)
                      have hel134 := enc_len (hRL.app hRb).2
                      refine e_call (by kernel_rfl) (ency_ok (L ++ [b]) (hRL.app hRb) h164 ((L ++ [b]).length) (by first | omega | (simp only [List.length_append, List.length_map, List.length_cons, List.length_nil, List.length_take, List.length_drop, List.length_set] <;> omega)) _ _ _ (hS133.owG (i := 1) rfl)) rfl (after_N hS133 (fun v134 G134 w134 hv134 hS134 => ?_))
                      clear hS133
                      obtain ⟨oa134, oc134, rfl, rfl⟩ := hv134
                      have hS135 : St _ _ [.ow 5 1 oa134 ((enc (L ++ [b])).length) oc134 (bv (enc (L ++ [b]))), .ow 31 3 (some ⟨b131, 0, none⟩) 1 1 (List.flatMap vl [b]), .ow 31 3 ad133 ((L ++ [b]).length) cp133 (List.flatMap vl (L ++ [b])), .ow 5 1 oa71 ((enc [b]).length) oc71 (bv (enc [b])), .ow 5 1 oa68 ((enc [a]).length) oc68 (bv (enc [a])), .ow 31 3 (some ⟨b7, 0, none⟩) 1 1 (List.flatMap vl [b]), .ow 31 3 (some ⟨b5, 0, none⟩) 1 1 (List.flatMap vl [a]), .blk b3 (.cells #[.int .i64 b.1, .int .i64 b.2.1, .string (bs b.2.2)] 31), .blk b2 (.cells #[.int .i64 a.1, .int .i64 a.2.1, .string (bs a.2.2)] 31), .ow 5 1 oau ((enc (L ++ [a])).length) ocu (bv (enc (L ++ [a])))] _ := hS134; clear hS134
                      refine hK _ _ ⟨trivial, fun h => absurd h (by decide)⟩ ?_; clear hK K
                      refine o_pure (i := 7) (fun j w => ⟨(fun _ _ => trivial) j w, fun _ h => h⟩) rfl rfl (by kernel_rfl) (goes0 rfl) (QOk.then QOk.body) (fun w => q_move rfl) ?_
                      refine o_pure (i := 8) (fun j w => ⟨(fun _ _ => trivial) j w, fun _ h => h⟩) rfl rfl (by kernel_rfl) (goes0 rfl) (QOk.then QOk.body) (fun w => q_extract rfl rfl) ?_
                      refine o_pure (i := 9) (fun j w => ⟨(fun _ _ => trivial) j w, fun _ h => h⟩) rfl rfl (by kernel_rfl) (goes0 rfl) (QOk.then QOk.body) (fun w => q_extract rfl rfl) ?_
                      refine o_pure (i := 10) (fun j w => ⟨(fun _ _ => trivial) j w, fun _ h => h⟩) rfl rfl (by kernel_rfl) (goes0 rfl) (QOk.then QOk.body) (fun w => q_assignS rfl) ?_
                      refine o_pure (i := 11) (fun j w => ⟨(fun _ _ => trivial) j w, fun _ h => h⟩) rfl rfl (by kernel_rfl) (goes0 rfl) (QOk.then QOk.body) (fun w => q_assignI rfl) ?_
                      refine o_done (by kernel_rfl) ?_
                      have hS136 := hS135.fr9; clear hS135
                      have hS137 := hS136.fr9; clear hS136
                      have hS138 := hS137.fr9; clear hS137
                      have hS139 := hS138.fr9; clear hS138
                      have hS140 := hS139.fr9; clear hS139
                      have hS141 := hS140.fr9; clear hS140
                      have hS142 := hS141.fr9; clear hS141
                      have hS143 : St _ _ [.ow 5 1 oa71 ((enc [b]).length) oc71 (bv (enc [b])), .ow 5 1 oa68 ((enc [a]).length) oc68 (bv (enc [a])), .ow 31 3 (some ⟨b7, 0, none⟩) 1 1 (List.flatMap vl [b]), .ow 31 3 (some ⟨b5, 0, none⟩) 1 1 (List.flatMap vl [a]), .blk b3 (.cells #[.int .i64 b.1, .int .i64 b.2.1, .string (bs b.2.2)] 31), .blk b2 (.cells #[.int .i64 a.1, .int .i64 a.2.1, .string (bs a.2.2)] 31), .ow 5 1 oau ((enc (L ++ [a])).length) ocu (bv (enc (L ++ [a]))), .ow 5 1 oa134 ((enc (L ++ [b])).length) oc134 (bv (enc (L ++ [b])))] _ := hS142.only 8; clear hS142
                      refine hK115 _ _ (came (⟨oa134, oc134⟩) (by repeat' (first | exact Agree.refl _ _ | refine Agree.up ?_ rfl | refine Agree.hav2 ?_ rfl | refine Agree.ups2 ?_ rfl)) (by repeat' (first | exact trivial | refine ⟨by first | rfl | exact int_succ _ | assumption, ?_⟩)) ?_)
                      exact hS143
                  ·
                    refine e_buildSliceA (e := 31) (m := 3) (zv := .agg #[.int .i64 0, .int .i64 0, .string ⟨#[]⟩]) hS116 (by kernel_rfl) (by kernel_rfl) (by kernel_rfl) rfl rfl rfl rfl (fun b144 w144 (hS144 : St _ _ [.blk b144 (.cells #[.int .i64 b.1, .int .i64 b.2.1, .string (bs b.2.2)] 31), .ow 5 1 oa71 ((enc [b]).length) oc71 (bv (enc [b])), .ow 5 1 oa68 ((enc [a]).length) oc68 (bv (enc [a])), .ow 31 3 (some ⟨b7, 0, none⟩) 1 1 (List.flatMap vl [b]), .ow 31 3 (some ⟨b5, 0, none⟩) 1 1 (List.flatMap vl [a]), .blk b3 (.cells #[.int .i64 b.1, .int .i64 b.2.1, .string (bs b.2.2)] 31), .blk b2 (.cells #[.int .i64 a.1, .int .i64 a.2.1, .string (bs a.2.2)] 31), .ow 5 1 oau ((enc (L ++ [a])).length) ocu (bv (enc (L ++ [a])))] _) => ?_)
                    clear hS116
                    have hS144o : St _ _ [.ow 31 3 (some ⟨b144, 0, none⟩) 1 1 (List.flatMap vl [b]), .ow 5 1 oa71 ((enc [b]).length) oc71 (bv (enc [b])), .ow 5 1 oa68 ((enc [a]).length) oc68 (bv (enc [a])), .ow 31 3 (some ⟨b7, 0, none⟩) 1 1 (List.flatMap vl [b]), .ow 31 3 (some ⟨b5, 0, none⟩) 1 1 (List.flatMap vl [a]), .blk b3 (.cells #[.int .i64 b.1, .int .i64 b.2.1, .string (bs b.2.2)] 31), .blk b2 (.cells #[.int .i64 a.1, .int .i64 a.2.1, .string (bs a.2.2)] 31), .ow 5 1 oau ((enc (L ++ [a])).length) ocu (bv (enc (L ++ [a])))] _ := hS144.blkOw' (i := 0) (m := 1) (size := 3) (xs := List.flatMap vl [b]) rfl rfl rfl (by decide); clear hS144
                    refine hK _ _ ⟨trivial, fun h => absurd h (by decide)⟩ ?_; clear hK K
                    refine o_eff (i := 0) (by kernel_rfl) rfl (goes0 rfl) (fun K hK => ?_)
                    refine e_buildSlice0 (e := 31) (m := 3) hS144o (by kernel_rfl) (by kernel_rfl) (fun b145 w145 (hS145 : St _ _ [.blk b145 (.cells #[] 31), .ow 31 3 (some ⟨b144, 0, none⟩) 1 1 (List.flatMap vl [b]), .ow 5 1 oa71 ((enc [b]).length) oc71 (bv (enc [b])), .ow 5 1 oa68 ((enc [a]).length) oc68 (bv (enc [a])), .ow 31 3 (some ⟨b7, 0, none⟩) 1 1 (List.flatMap vl [b]), .ow 31 3 (some ⟨b5, 0, none⟩) 1 1 (List.flatMap vl [a]), .blk b3 (.cells #[.int .i64 b.1, .int .i64 b.2.1, .string (bs b.2.2)] 31), .blk b2 (.cells #[.int .i64 a.1, .int .i64 a.2.1, .string (bs a.2.2)] 31), .ow 5 1 oau ((enc (L ++ [a])).length) ocu (bv (enc (L ++ [a])))] _) => ?_)
                    clear hS144o
                    have hS145o : St _ _ [.ow 31 3 (some ⟨b145, 0, none⟩) 0 0 (List.flatMap vl []), .ow 31 3 (some ⟨b144, 0, none⟩) 1 1 (List.flatMap vl [b]), .ow 5 1 oa71 ((enc [b]).length) oc71 (bv (enc [b])), .ow 5 1 oa68 ((enc [a]).length) oc68 (bv (enc [a])), .ow 31 3 (some ⟨b7, 0, none⟩) 1 1 (List.flatMap vl [b]), .ow 31 3 (some ⟨b5, 0, none⟩) 1 1 (List.flatMap vl [a]), .blk b3 (.cells #[.int .i64 b.1, .int .i64 b.2.1, .string (bs b.2.2)] 31), .blk b2 (.cells #[.int .i64 a.1, .int .i64 a.2.1, .string (bs a.2.2)] 31), .ow 5 1 oau ((enc (L ++ [a])).length) ocu (bv (enc (L ++ [a])))] _ := hS145.blkOw' (i := 0) (m := 0) (size := 3) (xs := List.flatMap vl []) rfl rfl rfl (by decide); clear hS145
                    refine hK _ _ ⟨trivial, fun _ _ => by first | exact q_loadA (m := 3) rfl (by kernel_rfl) (by kernel_rfl) (hS145o.blk (i := 6) rfl) rfl rfl⟩ ?_; clear hK K
                    refine o_eff (i := 2) (by kernel_rfl) rfl (goes0 rfl) (fun K hK => ?_)
                    refine e_app (e := 31) (size := 3) (bytes := 32) (i := 0) (m' := L.length) (by kernel_rfl) hS145o rfl rfl rfl (SlG.src (e := 31) (by kernel_rfl) (hG.mono hS145o.base) ((rows_len (c := vl) (m := 3) (fun _ => rfl) _).trans (by first | rfl | (simp only [List.length_append, List.length_map, List.length_cons, List.length_nil, List.length_take, List.length_drop, List.length_set]; done) | (simp only [List.length_append, List.length_map, List.length_cons, List.length_nil, List.length_take, List.length_drop, List.length_set]; omega) | omega)) (by decide) (rows_one vl_ones)) (by first | omega | (simp only [List.length_append, List.length_map, List.length_cons, List.length_nil, List.length_take, List.length_drop, List.length_set] <;> omega) | (simp; done)) rfl (by first | omega | (simp only [maxLen, List.length_append, List.length_map, List.length_cons, List.length_nil, List.length_take, List.length_drop, List.length_set] <;> omega) | (simp only [maxLen]; omega)) (by first | omega | (simp only [List.length_append, List.length_map, List.length_cons, List.length_nil, List.length_take, List.length_drop, List.length_set] <;> omega)) (fun ad146 cp146 w146 (hS146 : St _ _ [.ow 31 3 ad146 L.length cp146 (List.flatMap vl L), .ow 31 3 (some ⟨b144, 0, none⟩) 1 1 (List.flatMap vl [b]), .ow 5 1 oa71 ((enc [b]).length) oc71 (bv (enc [b])), .ow 5 1 oa68 ((enc [a]).length) oc68 (bv (enc [a])), .ow 31 3 (some ⟨b7, 0, none⟩) 1 1 (List.flatMap vl [b]), .ow 31 3 (some ⟨b5, 0, none⟩) 1 1 (List.flatMap vl [a]), .blk b3 (.cells #[.int .i64 b.1, .int .i64 b.2.1, .string (bs b.2.2)] 31), .blk b2 (.cells #[.int .i64 a.1, .int .i64 a.2.1, .string (bs a.2.2)] 31), .ow 5 1 oau ((enc (L ++ [a])).length) ocu (bv (enc (L ++ [a])))] _) => ?_)
                    clear hS145o
                    refine hK _ _ ⟨trivial, fun _ _ => by first | exact q_loadA (m := 3) rfl (by kernel_rfl) (by kernel_rfl) (hS146.blk (i := 6) rfl) rfl rfl⟩ ?_; clear hK K
                    refine o_eff (i := 5) (by kernel_rfl) rfl (goes0 rfl) (fun K hK => ?_)
                    refine e_app (e := 31) (size := 3) (bytes := 32) (i := 0) (m' := (L ++ [b]).length) (by kernel_rfl) hS146 rfl rfl rfl (SlG.src (e := 31) (by kernel_rfl) (hS146.owG (i := 1) rfl) ((rows_len (c := vl) (m := 3) (fun _ => rfl) _).trans (by first | rfl | (simp only [List.length_append, List.length_map, List.length_cons, List.length_nil, List.length_take, List.length_drop, List.length_set]; done) | (simp only [List.length_append, List.length_map, List.length_cons, List.length_nil, List.length_take, List.length_drop, List.length_set]; omega) | omega)) (by decide) (rows_one vl_ones)) (by first | omega | (simp only [List.length_append, List.length_map, List.length_cons, List.length_nil, List.length_take, List.length_drop, List.length_set] <;> omega) | (simp; done)) rows_app (by first | omega | (simp only [maxLen, List.length_append, List.length_map, List.length_cons, List.length_nil, List.length_take, List.length_drop, List.length_set] <;> omega) | (simp only [maxLen]; omega)) (by first | omega | (simp only [List.length_append, List.length_map, List.length_cons, List.length_nil, List.length_take, List.length_drop, List.length_set] <;> omega)) (fun ad147 cp147 w147 (hS147 : St _ _ [.ow 31 3 ad147 ((L ++ [b]).length) cp147 (List.flatMap vl (L ++ [b])), .ow 31 3 (some ⟨b144, 0, none⟩) 1 1 (List.flatMap vl [b]), .ow 5 1 oa71 ((enc [b]).length) oc71 (bv (enc [b])), .ow 5 1 oa68 ((enc [a]).length) oc68 (bv (enc [a])), .ow 31 3 (some ⟨b7, 0, none⟩) 1 1 (List.flatMap vl [b]), .ow 31 3 (some ⟨b5, 0, none⟩) 1 1 (List.flatMap vl [a]), .blk b3 (.cells #[.int .i64 b.1, .int .i64 b.2.1, .string (bs b.2.2)] 31), .blk b2 (.cells #[.int .i64 a.1, .int .i64 a.2.1, .string (bs a.2.2)] 31), .ow 5 1 oau ((enc (L ++ [a])).length) ocu (bv (enc (L ++ [a])))] _) => ?_)
                    clear hS146
                    refine hK _ _ ⟨trivial, fun h => absurd h (by decide)⟩ ?_; clear hK K
                    refine o_eff (i := 6) (by kernel_rfl) rfl (goes0 rfl) (fun K hK => ?_)
                    have hel148 := enc_len (hRL.app hRb).2
                    refine e_call (by kernel_rfl) (ency_ok (L ++ [b]) (hRL.app hRb) h164 ((L ++ [b]).length) (by first | omega | (simp only [List.length_append, List.length_map, List.length_cons, List.length_nil, List.length_take, List.length_drop, List.length_set] <;> omega)) _ _ _ (hS147.owG (i := 0) rfl)) rfl (after_N hS147 (fun v148 G148 w148 hv148 hS148 => ?_))
                    clear hS147
                    obtain ⟨oa148, oc148, rfl, rfl⟩ := hv148
                    have hS149 : St _ _ [.ow 5 1 oa148 ((enc (L ++ [b])).length) oc148 (bv (enc (L ++ [b]))), .ow 31 3 ad147 ((L ++ [b]).length) cp147 (List.flatMap vl (L ++ [b])), .ow 31 3 (some ⟨b144, 0, none⟩) 1 1 (List.flatMap vl [b]), .ow 5 1 oa71 ((enc [b]).length) oc71 (bv (enc [b])), .ow 5 1 oa68 ((enc [a]).length) oc68 (bv (enc [a])), .ow 31 3 (some ⟨b7, 0, none⟩) 1 1 (List.flatMap vl [b]), .ow 31 3 (some ⟨b5, 0, none⟩) 1 1 (List.flatMap vl [a]), .blk b3 (.cells #[.int .i64 b.1, .int .i64 b.2.1, .string (bs b.2.2)] 31), .blk b2 (.cells #[.int .i64 a.1, .int .i64 a.2.1, .string (bs a.2.2)] 31), .ow 5 1 oau ((enc (L ++ [a])).length) ocu (bv (enc (L ++ [a])))] _ := hS148; clear hS148
                    refine hK _ _ ⟨trivial, fun h => absurd h (by decide)⟩ ?_; clear hK K
                    refine o_pure (i := 7) (fun j w => ⟨(fun _ _ => trivial) j w, fun _ h => h⟩) rfl rfl (by kernel_rfl) (goes0 rfl) (QOk.then QOk.body) (fun w => q_move rfl) ?_
                    refine o_pure (i := 8) (fun j w => ⟨(fun _ _ => trivial) j w, fun _ h => h⟩) rfl rfl (by kernel_rfl) (goes0 rfl) (QOk.then QOk.body) (fun w => q_extract rfl rfl) ?_
                    refine o_pure (i := 9) (fun j w => ⟨(fun _ _ => trivial) j w, fun _ h => h⟩) rfl rfl (by kernel_rfl) (goes0 rfl) (QOk.then QOk.body) (fun w => q_extract rfl rfl) ?_
                    refine o_pure (i := 10) (fun j w => ⟨(fun _ _ => trivial) j w, fun _ h => h⟩) rfl rfl (by kernel_rfl) (goes0 rfl) (QOk.then QOk.body) (fun w => q_assignS rfl) ?_
                    refine o_pure (i := 11) (fun j w => ⟨(fun _ _ => trivial) j w, fun _ h => h⟩) rfl rfl (by kernel_rfl) (goes0 rfl) (QOk.then QOk.body) (fun w => q_assignI rfl) ?_
                    refine o_done (by kernel_rfl) ?_
                    have hS150 := hS149.fr9; clear hS149
                    have hS151 := hS150.fr9; clear hS150
                    have hS152 := hS151.fr9; clear hS151
                    have hS153 := hS152.fr9; clear hS152
                    have hS154 := hS153.fr9; clear hS153
                    have hS155 := hS154.fr9; clear hS154
                    have hS156 := hS155.fr9; clear hS155
                    have hS157 : St _ _ [.ow 5 1 oa71 ((enc [b]).length) oc71 (bv (enc [b])), .ow 5 1 oa68 ((enc [a]).length) oc68 (bv (enc [a])), .ow 31 3 (some ⟨b7, 0, none⟩) 1 1 (List.flatMap vl [b]), .ow 31 3 (some ⟨b5, 0, none⟩) 1 1 (List.flatMap vl [a]), .blk b3 (.cells #[.int .i64 b.1, .int .i64 b.2.1, .string (bs b.2.2)] 31), .blk b2 (.cells #[.int .i64 a.1, .int .i64 a.2.1, .string (bs a.2.2)] 31), .ow 5 1 oau ((enc (L ++ [a])).length) ocu (bv (enc (L ++ [a]))), .ow 5 1 oa148 ((enc (L ++ [b])).length) oc148 (bv (enc (L ++ [b])))] _ := hS156.only 8; clear hS156
                    refine hK115 _ _ (came (⟨oa148, oc148⟩) (by repeat' (first | exact Agree.refl _ _ | refine Agree.up ?_ rfl | refine Agree.hav2 ?_ rfl | refine Agree.ups2 ?_ rfl)) (by repeat' (first | exact trivial | refine ⟨by first | rfl | exact int_succ _ | assumption, ?_⟩)) ?_)
                    exact hS157
                ·
                  obtain ⟨oav, ocv⟩ := x115
                  have hS115 := hJ115
                  try dsimp only at hS115 ⊢
                  refine wp_seq_k (fun K158 hK158 => ?_)
                  refine wp_region_lit ?_
                  refine l_q rfl rfl (q_loadA (m := 3) rfl (by kernel_rfl) (by kernel_rfl) (hS115.blk (i := 5) rfl) rfl rfl) ?_
                  refine l_q rfl rfl (q_loadA (m := 3) rfl (by kernel_rfl) (by kernel_rfl) (hS115.blk (i := 4) rfl) rfl rfl) ?_
                  refine l_e rfl (fun K hK => ?_)
                  refine e_call (by kernel_rfl) (order_ok (a.1, a.2.1, a.2.2) (b.1, b.2.1, b.2.2) ha.1 hb.1 _) rfl (after_R hS115 (fun v159 w159 hv159 hS159 => ?_))
                  clear hS115
                  obtain rfl := hv159
                  refine hK _ _ ?_; clear hK K
                  refine l_q rfl rfl (q_assignI rfl) ?_
                  refine l_nil ?_
                  refine hK158 _ _ ?_
                  refine wp_seq_k (fun K160 hK160 => ?_)
                  refine r_any (by kernel_rfl) hS159 (fun w161 hS161 => ?_)
                  clear hS159
                  refine o_pure (i := 0) (fun _ _ => trivial) rfl rfl (by kernel_rfl) (goes0 rfl) (QOk.then QOk.body) (fun w => q_moveS rfl) ?_
                  refine o_pure (i := 1) (fun _ _ => trivial) rfl rfl (by kernel_rfl) (goes0 rfl) (QOk.then QOk.body) (fun w => q_lenSl (e := 5) rfl (by kernel_rfl)) ?_
                  refine o_pure (i := 2) (fun _ _ => trivial) rfl rfl (by kernel_rfl) (goes0 rfl) (QOk.then QOk.body) (fun w => q_moveS rfl) ?_
                  refine o_pure (i := 3) (fun _ _ => trivial) rfl rfl (by kernel_rfl) (goes0 rfl) (QOk.then QOk.body) (fun w => q_lenSl (e := 5) rfl (by kernel_rfl)) ?_
                  refine o_pure (i := 4) (fun _ _ => trivial) rfl rfl (by kernel_rfl) (goes0 rfl) (QOk.then QOk.body) (fun w => q_leq rfl rfl) ?_
                  refine o_pure (i := 5) (fun _ _ => trivial) rfl rfl (by kernel_rfl) (goes0 rfl) (QOk.then QOk.body) (fun w => q_moveB rfl) ?_
                  refine g_splitO (t := 99) rfl (fun hg162 => ?_) (fun hg162 => ?_)
                  ·
                    have hg162b := hg162
                    try simp only [decide_eq_true_eq, decide_eq_false_iff_not, Bool.not_eq_true', Bool.not_eq_false', Bool.and_eq_true, Bool.or_eq_true, Int.not_lt, Int.not_le, ne_eq, Decidable.not_not] at hg162
                    refine o_pure (i := 6) (fun _ _ => trivial) rfl rfl (by kernel_rfl) (goes1 rfl rfl hg162b) (QOk.then QOk.body) (fun w => q_moveS rfl) ?_
                    refine o_pure (i := 7) (fun _ _ => trivial) rfl rfl (by kernel_rfl) (goes1 rfl rfl hg162b) (QOk.then QOk.body) (fun w => q_moveS rfl) ?_
                    refine o_pure (i := 8) (fun _ _ => trivial) rfl rfl (by kernel_rfl) (goes1 rfl rfl hg162b) (QOk.then QOk.body) (fun w => q_lenSl (e := 5) rfl (by kernel_rfl)) ?_
                    have hcp163 := (hS161.owLen (i := 0) rfl).2.1
                    refine o_pure (i := 9) (fun _ _ => trivial) rfl rfl (by kernel_rfl) (goes1 rfl rfl hg162b) (QOk.then QOk.body) (fun w => q_sliceX (e := 5) (size := 1) (l := 0) (h := (enc [a]).length) (m := oc71) (ad' := oa71) (len' := (enc [a]).length) (cap' := oc71) rfl (by kernel_rfl) (by kernel_rfl) rfl ⟨_, int_nat (by first | rfl | omega) rfl⟩ rfl (by omega) (by first | omega | (simp only [List.length_append, List.length_map, List.length_cons, List.length_nil, List.length_take, List.length_drop, List.length_set] <;> omega)) (by first | omega | (simp only [List.length_append, List.length_map, List.length_cons, List.length_nil, List.length_take, List.length_drop, List.length_set] <;> omega)) rfl subS_zero (Nat.sub_zero _) (Nat.sub_zero _)) ?_
                    refine o_held (i := 10) [13, 14, 15] (fun _ _ => trivial) rfl rfl (by kernel_rfl) (goes1 rfl rfl hg162b) (QOk.then QOk.body) (q_convBS (l := ((enc [b]).take ((enc [a]).length))) rfl ((fun q => (bv_takeG q)) (hS161.owG (i := 0) rfl)) (by first | omega | (simp only [List.length_append, List.length_map, List.length_cons, List.length_nil, List.length_take, List.length_drop, List.length_set] <;> omega)) (by kernel_rfl) (by kernel_rfl)) ?_
                    refine o_pure (i := 11) (fun j w => ⟨(fun _ _ => trivial) j w, fun _ h => h⟩) rfl rfl (by kernel_rfl) (goes1 rfl rfl hg162b) (QOk.then QOk.body) (fun w => q_moveS rfl) ?_
                    refine o_held (i := 12) [13, 14, 15] (fun j w => ⟨(fun _ _ => trivial) j w, fun _ h => h⟩) rfl rfl (by kernel_rfl) (goes1 rfl rfl hg162b) (QOk.then QOk.body) (q_convBS (l := (enc [a])) rfl (hS161.owG (i := 1) rfl) (by first | omega | (simp only [List.length_append, List.length_map, List.length_cons, List.length_nil, List.length_take, List.length_drop, List.length_set] <;> omega)) (by kernel_rfl) (by kernel_rfl)) ?_
                    refine o_pure (i := 13) (fun j w => ⟨(fun j w => ⟨(fun _ _ => trivial) j w, fun _ h => h⟩) j w, fun _ h => h⟩) rfl rfl (by kernel_rfl) (goes1 rfl rfl hg162b) (QOk.then QOk.body) (fun w => q_str_eql (l := ((enc [b]).take ((enc [a]).length))) (m := (enc [a])) rfl rfl (Bytes.take (enc_bytes hRb.1)) (enc_bytes hRa.1)) ?_
                    refine o_pure (i := 14) (fun j w => ⟨(fun j w => ⟨(fun _ _ => trivial) j w, fun _ h => h⟩) j w, fun _ h => h⟩) rfl rfl (by kernel_rfl) (goes0 rfl) (QOk.then QOk.body) (fun w => q_pickT rfl hg162b rfl) ?_
                    refine o_pure (i := 15) (fun j w => ⟨(fun j w => ⟨(fun _ _ => trivial) j w, fun _ h => h⟩) j w, fun _ h => h⟩) rfl rfl (by kernel_rfl) (goes0 rfl) (QOk.then QOk.body) (fun w => q_assignB rfl) ?_
                    refine o_done (by kernel_rfl) ?_
                    refine hK160 _ _ ?_
                    refine wp_seq_k (fun K164 hK164 => ?_)
                    refine wp_region_lit ?_
                    refine l_e rfl (fun K hK => ?_)
                    refine e_call (by kernel_rfl) (alive4_ok _) rfl (after_R hS161 (fun v165 w165 hv165 hS165 => ?_))
                    clear hS161
                    obtain rfl := hv165
                    refine hK _ _ ?_; clear hK K
                    refine l_q rfl rfl (q_moveB rfl) ?_
                    refine l_on rfl rfl rfl ?_
                    refine l_q rfl rfl (q_moveI rfl) ?_
                    refine l_on rfl rfl rfl ?_
                    refine l_q rfl rfl (q_eql rfl rfl) ?_
                    refine l_q rfl rfl (q_pickT rfl rfl rfl) ?_
                    refine l_q rfl rfl (q_moveB rfl) ?_
                    refine l_on rfl rfl (by decide) ?_
                    refine l_q rfl rfl (q_moveI rfl) ?_
                    refine l_on rfl rfl (by decide) ?_
                    refine l_q rfl rfl (q_eql rfl rfl) ?_
                    refine l_q rfl rfl (q_pickT rfl (by decide) rfl) ?_
                    refine l_q rfl rfl (q_moveB rfl) ?_
                    refine l_on rfl rfl (by decide) ?_
                    refine l_q rfl rfl (q_moveS rfl) ?_
                    refine l_on rfl rfl (by decide) ?_
                    refine l_q rfl rfl (q_convBS (l := (enc [a])) rfl (hS165.owG (i := 1) rfl) (by first | omega | (simp only [List.length_append, List.length_map, List.length_cons, List.length_nil, List.length_take, List.length_drop, List.length_set] <;> omega)) (by kernel_rfl) (by kernel_rfl)) ?_
                    refine l_on rfl rfl (by decide) ?_
                    refine l_q rfl rfl (q_moveS rfl) ?_
                    refine l_on rfl rfl (by decide) ?_
                    refine l_q rfl rfl (q_convBS (l := (enc [b])) rfl (hS165.owG (i := 0) rfl) (by first | omega | (simp only [List.length_append, List.length_map, List.length_cons, List.length_nil, List.length_take, List.length_drop, List.length_set] <;> omega)) (by kernel_rfl) (by kernel_rfl)) ?_
                    refine l_on rfl rfl (by decide) ?_
                    refine l_q rfl rfl (q_str_lss (l := (enc [a])) (m := (enc [b])) rfl rfl (enc_bytes hRa.1) (enc_bytes hRb.1)) ?_
                    refine l_on rfl rfl (by decide) ?_
                    refine l_q rfl rfl (q_moveI rfl) ?_
                    refine l_on rfl rfl (by decide) ?_
                    refine l_q rfl rfl (q_lss rfl rfl) ?_
                    refine l_on rfl rfl (by decide) ?_
                    refine l_q rfl rfl (q_bool_eql rfl rfl (by kernel_rfl)) ?_
                    refine l_q rfl rfl (q_pickT rfl (by decide) rfl) ?_
                    refine l_q rfl rfl (q_moveB rfl) ?_
                    refine l_on rfl rfl (beq_iff_eq.2 hl1) ?_
                    refine l_q rfl rfl (q_moveS rfl) ?_
                    refine l_on rfl rfl (beq_iff_eq.2 hl1) ?_
                    refine l_q rfl rfl (q_convBS (l := (enc (L ++ [a]))) rfl (hS165.owG (i := 6) rfl) (by first | omega | (simp only [List.length_append, List.length_map, List.length_cons, List.length_nil, List.length_take, List.length_drop, List.length_set] <;> omega)) (by kernel_rfl) (by kernel_rfl)) ?_
                    refine l_on rfl rfl (beq_iff_eq.2 hl1) ?_
                    refine l_q rfl rfl (q_moveS rfl) ?_
                    refine l_on rfl rfl (beq_iff_eq.2 hl1) ?_
                    refine l_q rfl rfl (q_convBS (l := (enc (L ++ [b]))) rfl (hS165.owG (i := 7) rfl) (by first | omega | (simp only [List.length_append, List.length_map, List.length_cons, List.length_nil, List.length_take, List.length_drop, List.length_set] <;> omega)) (by kernel_rfl) (by kernel_rfl)) ?_
                    refine l_on rfl rfl (beq_iff_eq.2 hl1) ?_
                    refine l_q rfl rfl (q_str_lss (l := (enc (L ++ [a]))) (m := (enc (L ++ [b]))) rfl rfl (enc_bytes (hRL.app hRa).1) (enc_bytes (hRL.app hRb).1)) ?_
                    refine l_on rfl rfl (beq_iff_eq.2 hl1) ?_
                    refine l_q rfl rfl (q_moveI rfl) ?_
                    refine l_on rfl rfl (beq_iff_eq.2 hl1) ?_
                    refine l_q rfl rfl (q_lss rfl rfl) ?_
                    refine l_on rfl rfl (beq_iff_eq.2 hl1) ?_
                    refine l_q rfl rfl (q_bool_eql rfl rfl (by kernel_rfl)) ?_
                    refine l_q rfl rfl (q_pickT rfl (beq_iff_eq.2 hl1) rfl) ?_
                    refine l_q rfl rfl (q_moveB rfl) ?_
                    refine l_on rfl rfl (beq_iff_eq.2 hl2) ?_
                    refine l_q rfl rfl (q_moveB rfl) ?_
                    refine l_on rfl rfl (beq_iff_eq.2 hl2) ?_
                    refine l_q rfl rfl (q_moveI rfl) ?_
                    refine l_on rfl rfl (beq_iff_eq.2 hl2) ?_
                    refine l_q rfl rfl (q_eql rfl rfl) ?_
                    refine l_on rfl rfl (beq_iff_eq.2 hl2) ?_
                    refine l_q rfl rfl (q_bool_eql rfl rfl (by kernel_rfl)) ?_
                    refine l_q rfl rfl (q_pickT rfl (beq_iff_eq.2 hl2) rfl) ?_
                    refine l_q rfl rfl (q_assignB rfl) ?_
                    refine l_nil ?_
                    refine hK164 _ _ ?_
                    refine wp_ret ?_
                    refine c_ret1 rfl rfl ?_
                    exact ⟨_, rfl, congrArg Value.bool (by first | exact beg_1 hpb (by omega) | exact beg_2 hpb (by omega)), hS165.drop⟩
                  ·
                    have hg162b := hg162
                    try simp only [decide_eq_true_eq, decide_eq_false_iff_not, Bool.not_eq_true', Bool.not_eq_false', Bool.and_eq_true, Bool.or_eq_true, Int.not_lt, Int.not_le, ne_eq, Decidable.not_not] at hg162
                    refine o_off (i := 6) (fun _ _ => trivial) rfl rfl (by kernel_rfl) rfl rfl hg162b (QOk.then QOk.body) ?_
                    refine o_off (i := 7) (fun _ _ => trivial) rfl rfl (by kernel_rfl) rfl rfl hg162b (QOk.then QOk.body) ?_
                    refine o_off (i := 8) (fun _ _ => trivial) rfl rfl (by kernel_rfl) rfl rfl hg162b (QOk.then QOk.body) ?_
                    refine o_off (i := 9) (fun _ _ => trivial) rfl rfl (by kernel_rfl) rfl rfl hg162b (QOk.then QOk.body) ?_
                    refine o_off (i := 10) (fun _ _ => trivial) rfl rfl (by kernel_rfl) rfl rfl hg162b (QOk.then QOk.body) ?_
                    refine o_off (i := 11) (fun _ _ => trivial) rfl rfl (by kernel_rfl) rfl rfl hg162b (QOk.then QOk.body) ?_
                    refine o_off (i := 12) (fun _ _ => trivial) rfl rfl (by kernel_rfl) rfl rfl hg162b (QOk.then QOk.body) ?_
                    refine o_off (i := 13) (fun _ _ => trivial) rfl rfl (by kernel_rfl) rfl rfl hg162b (QOk.then QOk.body) ?_
                    refine o_pure (i := 14) (fun _ _ => trivial) rfl rfl (by kernel_rfl) (goes0 rfl) (QOk.then QOk.body) (fun w => q_pickF rfl hg162b rfl) ?_
                    refine o_pure (i := 15) (fun _ _ => trivial) rfl rfl (by kernel_rfl) (goes0 rfl) (QOk.then QOk.body) (fun w => q_assignB rfl) ?_
                    refine o_done (by kernel_rfl) ?_
                    refine hK160 _ _ ?_
                    refine wp_seq_k (fun K168 hK168 => ?_)
                    refine wp_region_lit ?_
                    refine l_e rfl (fun K hK => ?_)
                    refine e_call (by kernel_rfl) (alive4_ok _) rfl (after_R hS161 (fun v169 w169 hv169 hS169 => ?_))
                    clear hS161
                    obtain rfl := hv169
                    refine hK _ _ ?_; clear hK K
                    refine l_q rfl rfl (q_moveB rfl) ?_
                    refine l_on rfl rfl rfl ?_
                    refine l_q rfl rfl (q_moveI rfl) ?_
                    refine l_on rfl rfl rfl ?_
                    refine l_q rfl rfl (q_eql rfl rfl) ?_
                    refine l_q rfl rfl (q_pickT rfl rfl rfl) ?_
                    refine l_q rfl rfl (q_moveB rfl) ?_
                    refine l_on rfl rfl (by decide) ?_
                    refine l_q rfl rfl (q_moveI rfl) ?_
                    refine l_on rfl rfl (by decide) ?_
                    refine l_q rfl rfl (q_eql rfl rfl) ?_
                    refine l_q rfl rfl (q_pickT rfl (by decide) rfl) ?_
                    refine l_q rfl rfl (q_moveB rfl) ?_
                    refine l_on rfl rfl (by decide) ?_
                    refine l_q rfl rfl (q_moveS rfl) ?_
                    refine l_on rfl rfl (by decide) ?_
                    refine l_q rfl rfl (q_convBS (l := (enc [a])) rfl (hS169.owG (i := 1) rfl) (by first | omega | (simp only [List.length_append, List.length_map, List.length_cons, List.length_nil, List.length_take, List.length_drop, List.length_set] <;> omega)) (by kernel_rfl) (by kernel_rfl)) ?_
                    refine l_on rfl rfl (by decide) ?_
                    refine l_q rfl rfl (q_moveS rfl) ?_
                    refine l_on rfl rfl (by decide) ?_
                    refine l_q rfl rfl (q_convBS (l := (enc [b])) rfl (hS169.owG (i := 0) rfl) (by first | omega | (simp only [List.length_append, List.length_map, List.length_cons, List.length_nil, List.length_take, List.length_drop, List.length_set] <;> omega)) (by kernel_rfl) (by kernel_rfl)) ?_
                    refine l_on rfl rfl (by decide) ?_
                    refine l_q rfl rfl (q_str_lss (l := (enc [a])) (m := (enc [b])) rfl rfl (enc_bytes hRa.1) (enc_bytes hRb.1)) ?_
                    refine l_on rfl rfl (by decide) ?_
                    refine l_q rfl rfl (q_moveI rfl) ?_
                    refine l_on rfl rfl (by decide) ?_
                    refine l_q rfl rfl (q_lss rfl rfl) ?_
                    refine l_on rfl rfl (by decide) ?_
                    refine l_q rfl rfl (q_bool_eql rfl rfl (by kernel_rfl)) ?_
                    refine l_q rfl rfl (q_pickT rfl (by decide) rfl) ?_
                    refine l_q rfl rfl (q_moveB rfl) ?_
                    refine l_on rfl rfl (beq_iff_eq.2 hl1) ?_
                    refine l_q rfl rfl (q_moveS rfl) ?_
                    refine l_on rfl rfl (beq_iff_eq.2 hl1) ?_
                    refine l_q rfl rfl (q_convBS (l := (enc (L ++ [a]))) rfl (hS169.owG (i := 6) rfl) (by first | omega | (simp only [List.length_append, List.length_map, List.length_cons, List.length_nil, List.length_take, List.length_drop, List.length_set] <;> omega)) (by kernel_rfl) (by kernel_rfl)) ?_
                    refine l_on rfl rfl (beq_iff_eq.2 hl1) ?_
                    refine l_q rfl rfl (q_moveS rfl) ?_
                    refine l_on rfl rfl (beq_iff_eq.2 hl1) ?_
                    refine l_q rfl rfl (q_convBS (l := (enc (L ++ [b]))) rfl (hS169.owG (i := 7) rfl) (by first | omega | (simp only [List.length_append, List.length_map, List.length_cons, List.length_nil, List.length_take, List.length_drop, List.length_set] <;> omega)) (by kernel_rfl) (by kernel_rfl)) ?_
                    refine l_on rfl rfl (beq_iff_eq.2 hl1) ?_
                    refine l_q rfl rfl (q_str_lss (l := (enc (L ++ [a]))) (m := (enc (L ++ [b]))) rfl rfl (enc_bytes (hRL.app hRa).1) (enc_bytes (hRL.app hRb).1)) ?_
                    refine l_on rfl rfl (beq_iff_eq.2 hl1) ?_
                    refine l_q rfl rfl (q_moveI rfl) ?_
                    refine l_on rfl rfl (beq_iff_eq.2 hl1) ?_
                    refine l_q rfl rfl (q_lss rfl rfl) ?_
                    refine l_on rfl rfl (beq_iff_eq.2 hl1) ?_
                    refine l_q rfl rfl (q_bool_eql rfl rfl (by kernel_rfl)) ?_
                    refine l_q rfl rfl (q_pickT rfl (beq_iff_eq.2 hl1) rfl) ?_
                    refine l_q rfl rfl (q_moveB rfl) ?_
                    refine l_on rfl rfl (beq_iff_eq.2 hl2) ?_
                    refine l_q rfl rfl (q_moveB rfl) ?_
                    refine l_on rfl rfl (beq_iff_eq.2 hl2) ?_
                    refine l_q rfl rfl (q_moveI rfl) ?_
                    refine l_on rfl rfl (beq_iff_eq.2 hl2) ?_
                    refine l_q rfl rfl (q_eql rfl rfl) ?_
                    refine l_on rfl rfl (beq_iff_eq.2 hl2) ?_
                    refine l_q rfl rfl (q_bool_eql rfl rfl (by kernel_rfl)) ?_
                    refine l_q rfl rfl (q_pickT rfl (beq_iff_eq.2 hl2) rfl) ?_
                    refine l_q rfl rfl (q_assignB rfl) ?_
                    refine l_nil ?_
                    refine hK168 _ _ ?_
                    refine wp_ret ?_
                    refine c_ret1 rfl rfl ?_
                    exact ⟨_, rfl, congrArg Value.bool (by first | exact beg_1 hpb (by omega) | exact beg_2 hpb (by omega)), hS169.drop⟩

end Go.Proofs.YtcllmnepkglabaaDoor
