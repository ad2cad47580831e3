/- Package table: the search over pages. -/
import Derived.Test.YtmbbkliekgiolaaT2
set_option linter.unusedVariables false
set_option linter.unusedSimpArgs false
namespace Go.Proofs.Ytmbbkliekgiolaa
open Go.RowKit
attribute [local irreducible] Oper.wp Sem.run Code.wp wpList wpAnyO callFunc execOp Calls
attribute [local irreducible] cmpL

set_option maxRecDepth 100000 in
theorem pcmp_ok (es : List En) (key : List Nat) (hk : Bytes key) (hne : 0 < es.length) (hn : es.length ≤ 1000000) (n1 n2 : Nat) (hn1 : es.length = n1) (hn2 : key.length = n2) (hkn : n2 ≤ 1000000) (ad ak : Option Addr) (cap ck : Nat) (w : World) (hok : ∀ a ∈ es, EnG (hw w) a) (hG : SlG (hw w) ad (List.flatMap en es)) (hG2 : SlG (hw w) ak (bv key)) : Calls Try.prog 87 #[.slice ad n1 cap, .slice ak n2 ck] w (PostR w fun v => ∃ a, es[0]? = some a ∧ v = .int .i64 (cmpL a.kb key)) := by
  have hS := St.start w
  subst hn1 hn2
  refine c_enter Try.func87 rfl rfl rfl ?_
  refine wp_seq_k (fun K1 hK1 => ?_)
  refine wp_region_lit ?_
  refine l_q rfl rfl (q_assignI rfl) ?_
  refine l_nil ?_
  refine hK1 _ _ ?_
  refine wp_seq_k (fun K2 hK2 => ?_)
  refine wp_region_lit ?_
  refine l_q rfl rfl (q_moveS rfl) ?_
  refine l_q rfl rfl (q_ixG (e := 41) (m := 2) (j := 0) rfl rfl (by kernel_rfl) (by kernel_rfl) (by first | rfl | omega) (by omega) hG (by rw [rows_len (c := en) (m := 2) (fun _ => rfl)]; first | omega | (simp only [List.length_append, List.length_map, List.length_cons, List.length_nil, List.length_take, List.length_drop, List.length_set] <;> omega))) ?_
  obtain ⟨x3, hx3⟩ : ∃ x, (es)[0]? = some x := ⟨_, List.getElem?_eq_getElem (by first | omega | (simp only [List.length_append, List.length_map, List.length_cons, List.length_nil, List.length_take, List.length_drop, List.length_set] <;> omega) | (simp <;> omega))⟩
  refine l_q rfl rfl (q_loadGA (m := 2) rfl (by kernel_rfl) (by kernel_rfl) (hG.mono hS.base) (row_take hx3 (c := en) (m := 2) (fun _ => rfl)) rfl (by decide)) ?_
  refine l_q rfl rfl (q_moveS rfl) ?_
  refine l_e rfl (fun K hK => ?_)
  refine e_call (by kernel_rfl) (ecmp_ok x3.kb key (hok x3 (List.mem_of_getElem? hx3)).2.1 hk x3.kb.length key.length (by first | omega | (simp only [List.length_append, List.length_map, List.length_cons, List.length_nil, List.length_take, List.length_drop, List.length_set] <;> omega)) (by first | omega | (simp only [List.length_append, List.length_map, List.length_cons, List.length_nil, List.length_take, List.length_drop, List.length_set] <;> omega)) _ _ _ _ _ _ _ _ ((hok x3 (List.mem_of_getElem? hx3)).1.mono hS.base) (hG2.mono hS.base)) rfl (after_R hS (fun v4 w4 hv4 hS4 => ?_))
  clear hS
  obtain rfl := hv4
  refine hK _ _ ?_; clear hK K
  refine l_q rfl rfl (q_assignI rfl) ?_
  refine l_nil ?_
  refine hK2 _ _ ?_
  refine wp_ret ?_
  refine c_ret1 rfl rfl ?_
  exact ⟨_, rfl, ⟨x3, by simpa using hx3, rfl⟩, hS4.drop⟩

end Go.Proofs.Ytmbbkliekgiolaa
