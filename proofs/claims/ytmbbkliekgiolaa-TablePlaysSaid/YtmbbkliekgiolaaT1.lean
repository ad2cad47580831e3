/- Package table: what compares. -/
import Derived.Test.YtmbbkliekgiolaaV0
import Derived.Test.YtmbbkliekgiolaaSw
set_option linter.unusedVariables false
set_option linter.unusedSimpArgs false
namespace Go.Proofs.Ytmbbkliekgiolaa
open Go.RowKit
theorem x_cmp (args : Array Value) (w : World) : (callFunc 96 args).run Try.prog w = ((Extern.BytealgCompare.compare args).run Try.prog w).andThen fun v w' => .ok (.value v) w' := run_callFunc_extern (e := Extern.BytealgCompare.compare) Try.func96 (by kernel_rfl) (by kernel_rfl) (by kernel_rfl) (by kernel_rfl) args w
theorem cmpL_bd (l m : List Nat) : -1 ≤ cmpL l m ∧ cmpL l m ≤ 1 := by
  unfold cmpL
  split
  · omega
  · split <;> omega
attribute [local irreducible] Oper.wp Sem.run Code.wp wpList wpAnyO callFunc execOp Calls
attribute [local irreducible] cmpL

set_option maxRecDepth 100000 in
theorem bcmp_ok (l m : List Nat) (hl : Bytes l) (hm : Bytes m) (n1 n2 : Nat) (hn1 : l.length = n1) (hn2 : m.length = n2) (a1 a2 : Option Addr) (c1 c2 : Nat) (w : World) (hG : SlG (hw w) a1 (bv l)) (hG2 : SlG (hw w) a2 (bv m)) : Calls Try.prog 85 #[.slice a1 n1 c1, .slice a2 n2 c2] w (PostR w fun v => v = .int .i64 (cmpL l m)) := by
  have hS := St.start w
  subst hn1 hn2
  refine c_enter Try.func85 rfl rfl rfl ?_
  refine wp_seq_k (fun K1 hK1 => ?_)
  refine wp_region_lit ?_
  refine l_q rfl rfl (q_assignI rfl) ?_
  refine l_nil ?_
  refine hK1 _ _ ?_
  refine wp_seq_k (fun K2 hK2 => ?_)
  refine wp_region_lit ?_
  refine l_q rfl rfl (q_moveS rfl) ?_
  refine l_q rfl rfl (q_moveS rfl) ?_
  refine l_q rfl rfl (q_ext (vs := [.slice a1 l.length c1, .slice a2 m.length c2]) rfl (by rw [x_cmp, run_cmp (hG.mono hS.base) (hG2.mono hS.base) rfl rfl hl hm]; rfl)) ?_
  refine l_q rfl rfl (q_assignI rfl) ?_
  refine l_nil ?_
  refine hK2 _ _ ?_
  refine wp_ret ?_
  refine c_ret1 rfl rfl ?_
  exact ⟨_, rfl, rfl, hS.drop⟩

set_option maxRecDepth 100000 in
theorem ecmp_ok (l m : List Nat) (hl : Bytes l) (hm : Bytes m) (n1 n2 : Nat) (hn1 : l.length = n1) (hn2 : m.length = n2) (a1 a2 : Option Addr) (c1 c2 : Nat) (ar : Option Addr) (nr cr : Nat) (w : World) (hG : SlG (hw w) a1 (bv l)) (hG2 : SlG (hw w) a2 (bv m)) : Calls Try.prog 60 #[.agg #[.slice a1 n1 c1, .slice ar nr cr], .slice a2 n2 c2] w (PostR w fun v => v = .int .i64 (cmpL l m)) := by
  have hS := St.start w
  subst hn1 hn2
  refine c_enter Try.func60 rfl rfl rfl ?_
  refine wp_seq_k (fun K1 hK1 => ?_)
  refine wp_region_lit ?_
  refine l_e rfl (fun K hK => ?_)
  refine e_boxA hS rfl (fun b2 w2 (hS2 : St _ _ [.blk b2 (.cells #[.slice a1 l.length c1, .slice ar nr cr] 41)] _) => ?_)
  clear hS
  refine hK _ _ ?_; clear hK K
  refine l_q rfl rfl (q_assignI rfl) ?_
  refine l_nil ?_
  refine hK1 _ _ ?_
  refine wp_seq_k (fun K3 hK3 => ?_)
  refine wp_region_lit ?_
  refine l_q rfl rfl (q_fieldAddr (ft := 23) (o := 0) rfl (by kernel_rfl)) ?_
  refine l_q rfl rfl (q_load1 rfl (by kernel_rfl) (hS2.cell (i := 0) rfl rfl)) ?_
  refine l_q rfl rfl (q_moveS rfl) ?_
  refine l_e rfl (fun K hK => ?_)
  refine e_call (by kernel_rfl) (bcmp_ok l m hl hm l.length m.length (by first | omega | (simp only [List.length_append, List.length_map, List.length_cons, List.length_nil, List.length_take, List.length_drop, List.length_set] <;> omega)) (by first | omega | (simp only [List.length_append, List.length_map, List.length_cons, List.length_nil, List.length_take, List.length_drop, List.length_set] <;> omega)) _ _ _ _ _ (hG.mono hS2.base) (hG2.mono hS2.base)) rfl (after_R hS2 (fun v4 w4 hv4 hS4 => ?_))
  clear hS2
  obtain rfl := hv4
  refine hK _ _ ?_; clear hK K
  refine l_q rfl rfl (q_assignI rfl) ?_
  refine l_nil ?_
  refine hK3 _ _ ?_
  refine wp_ret ?_
  refine c_ret1 rfl rfl ?_
  exact ⟨_, rfl, rfl, hS4.drop⟩

end Go.Proofs.Ytmbbkliekgiolaa
