/- Net: To. -/
import Derived.Test.YtlplhlncdfhhoaaEf
set_option linter.unusedVariables false
set_option linter.unusedSimpArgs false
namespace Go.Proofs.Ytlplhlncdfhhoaa
open Go.RowKit
attribute [local irreducible] Oper.wp Sem.run Code.wp wpList wpAnyO callFunc execOp Calls
attribute [local irreducible] toU short rencs renc rowE encRow rightB zig unzig decRw rightL risB lastN bitsOf nodesTo encL encLE sameL snd numsW sameI toOf badT

set_option maxRecDepth 100000 in
theorem to_ok (k mb s t o : Nat) (L : List (Int × Ent)) (hn : NumOk (absN L) s) (hs1 : s ≤ 1000000) (hl : L.length ≤ 1000000) (node : Int) (w : World) (hk : w.heap[k]? = some (ntO mb s t o)) (hM : MapSat (.int .i64) mb (List.map nc L) w) (hE : EOk (hw w) L) : Calls Try.prog 19 #[pV k, .int .i64 node] w (PostN w fun v G => ∃ ad cap, v = .slice ad ((List.map Prod.fst L).filter (fun x => !badT L node x)).length cap ∧ G = [.ow 3 1 ad ((List.map Prod.fst L).filter (fun x => !badT L node x)).length cap (iv ((List.map Prod.fst L).filter (fun x => !badT L node x)))]) := by
 have hS := St.start w
 refine c_enter Try.func19 rfl rfl rfl ?_
 refine wp_seq_k (fun K1 hK1 => ?_)
 refine wp_region_lit ?_
 refine l_e rfl (fun K hK => ?_)
 refine e_box hS rfl (fun b2 w2 (hS2 : St _ _ [.blk b2 (.cells #[pV k] 26)] _) => ?_)
 clear hS
 refine hK _ _ ?_; clear hK K
 refine l_e rfl (fun K hK => ?_)
 refine e_box hS2 rfl (fun b3 w3 (hS3 : St _ _ [.blk b3 (.cells #[.int .i64 node] 3), _] _) => ?_)
 clear hS2
 refine hK _ _ ?_; clear hK K
 refine l_q rfl rfl (q_assignS rfl) ?_
 refine l_nil ?_
 refine hK1 _ _ ?_
 refine wp_seq_k (fun K4 hK4 => ?_)
 refine wp_region_lit ?_
 refine l_q rfl rfl (q_load1 rfl (by kernel_rfl) (hS3.cell (i := 1) rfl rfl)) ?_
 refine l_e rfl (fun K hK => ?_)
 refine e_call (by kernel_rfl) (nums_ok k mb s t o L hn hs1 hl _ (hS3.base _ _ hk) (hM.mono hS3.base) (hE.mono hS3.base)) rfl (after_N hS3 (fun v5 G5 w5 hv5 hS5 => ?_))
 clear hS3
 obtain ⟨ad5, cp5, rfl, rfl⟩ := hv5
 have hS6 : St _ _ [.ow 3 1 ad5 ((List.map Prod.fst L).length) cp5 (iv (List.map Prod.fst L)), _, _] _ := hS5; clear hS5
 refine hK _ _ ?_; clear hK K
 refine l_q rfl rfl (q_makeFunc) ?_
 refine l_e rfl (fun K hK => ?_)
 have hS8 := hS6.fr1; clear hS6
 have hS9 := hS8.fr2; clear hS8
 have hS10 := hS9.fr2; clear hS9
 have hml : (List.map Prod.fst L).length = L.length := List.length_map _
 refine e_call (by kernel_rfl) (delto_ok k mb s t o L b2 b3 node (List.map Prod.fst L) (InL.map L) (List.map Prod.fst L).length rfl (by omega) _ _ w _ (St.rogB (Γ1 := [_, _, _]) hS10) hk hM hE (St.begin (Γ := [_, _, _]) hS10)) rfl (after_M (Γ1 := [_, _, _]) hS10 (fun v7 G7 w7 hv7 hS7 => ?_))
 clear hS10
 obtain ⟨ra7, rc7, rfl, rfl⟩ := hv7
 have hS11 : St _ _ [.ow 3 1 ra7 (((List.map Prod.fst L).filter (fun x => !badT L node x)).length) rc7 (iv ((List.map Prod.fst L).filter (fun x => !badT L node x))), _, _] _ := hS7; clear hS7
 refine hK _ _ ?_; clear hK K
 refine l_q rfl rfl (q_assignS rfl) ?_
 refine l_nil ?_
 refine hK4 _ _ ?_
 refine wp_ret ?_
 refine c_ret1 rfl rfl ?_
 have hS12 : St _ _ [_] _ := hS11.only 1; clear hS11
 exact ⟨_, _, rfl, ⟨ra7, rc7, rfl, rfl⟩, hS12⟩

end Go.Proofs.Ytlplhlncdfhhoaa
