/- TableOrder: a range rises; two ranges that meet are one. -/
import Derived.Test.YtmbbkliekgiolaaRows
import Derived.Test.YtmbbkliekgiolaaTk
import Derived.Test.YtmbbkliekgiolaaH8
import Derived.Test.YtmbbkliekgiolaaH
import Derived.ProofKit
namespace Go.Proofs.Ytmbbkliekgiolaa
open Go.ChangeShapes Go.WideShapes Go.ChangeAt Go.RowKit
set_option maxRecDepth 100000 in
theorem tableOrder_lifted (os : Os) (started : os.Started) (H : Type) (enc : TypeId × Value → H) :
    ReturnsInHanded {} Try.checked os 3 .any (Rows.tableOrderSpec.pre6 enc Try.prog Try.f3 Rows.tableOrderRow.domain false) (Rows.tableOrderSpec.post enc Try.prog Try.f3 false true false false) := by
  refine returnsInHanded_of_change (C := Try.checked) own7 started (by kernel_rfl) Try.func3
    (ChangeSpec.witness6 (enc := enc) (C := Try.checked) false ⟨#[], #[.slice none 0 0, .slice none 0 0, .slice none 0 0], []⟩ 8 (by kernel_rfl) (by kernel_rfl) (by kernel_rfl) (by kernel_rfl)) ?_
  intro W base args ds gs before hval0 hW hcnd _
  have hval : ∀ (j : Nat) t v, Try.f3.params[j]? = some t → args[j]? = some v → Value.okWide Try.prog W .any base t v := hval0
  have hW' := hW
  obtain ⟨p, q, hA0, hV0, rfl, hfz, hnd⟩ := hW
  have hA : DataW.TrodAll enc Try.prog W 0 (fun _ => true) true Try.f3.params.toList args.toList ds p := hA0
  have hV : DataW.TrodVars enc Try.prog W (fun _ => true) [] gs q := hV0
  rw [Try.params3] at hA hval
  obtain ⟨v0, v1, v2, d0, d1, d2, q0, q1, q2, rfl, rfl, rfl, h0, h1, h2⟩ := trodAll_three hA
  obtain ⟨rfl, rfl⟩ := trodVars_none hV
  obtain ⟨sa, sn, sc, rfl⟩ := okWide_slice Try.underlying22 (hval 0 22 v0 rfl rfl)
  obtain ⟨s, hsn, hsG, hsB, hsc⟩ := opn_script8 h0
  subst hsn
  obtain ⟨fa, fn, fc, rfl⟩ := okWide_slice Try.underlying23 (hval 1 23 v1 rfl rfl)
  obtain ⟨f, hfn, hfG, hfB, hfc, _⟩ := opn_bytesT Try.underlying23 Try.underlying5 (by kernel_rfl) h1
  subst hfn
  obtain ⟨ma, mn, mc, rfl⟩ := okWide_slice Try.underlying23 (hval 2 23 v2 rfl rfl)
  obtain ⟨m, hmn, hmG, hmB, hmc, _⟩ := opn_bytesT Try.underlying23 Try.underlying5 (by kernel_rfl) h2
  subst hmn
  clear hA0 hval0
  simp only [List.append_nil] at hW'
  have hlt0 : ∀ x ∈ q0, x.block < W.heap.size := fun x hx => by simpa using hW'.lt x (by simp [hx])
  have hlt1 : ∀ x ∈ q1, x.block < W.heap.size := fun x hx => by simpa using hW'.lt x (by simp [hx])
  have hlt2 : ∀ x ∈ q2, x.block < W.heap.size := fun x hx => by simpa using hW'.lt x (by simp [hx])
  have e1 : Rows.tableOrderSpec.fn H ([d0, d1, d2] ++ []) = { results := [.lit (.bool true)], args := [d0, d1, d2] } := by simp [Rows.tableOrderSpec]
  refine (tableOrder_ok s sa sc f m hfB hmB fa ma fc mc W hsG hsB hfG hmG).mono fun e W' hw0 => ?_
  obtain ⟨rr, he, hrr, hSt⟩ := hw0
  subst he hrr
  have hw : Below W.heap.size W W' := hSt.below
  refine ⟨_, rfl, _, _, _, [], q0 ++ (q1 ++ q2), [], hW', ?_, ?_, ?_, hw.frame _, fun h => by cases h⟩
  · rw [e1]; exact trodAll_mk1 (shut_bool Try.underlying4 true)
  · rw [e1]; exact trodAll_mk3 (Below.trod laidOut7 (by kernel_rfl) (of_decide_eq_true (by kernel_rfl)) h0 hw hlt0) (Below.trod laidOut7 (by kernel_rfl) (of_decide_eq_true (by kernel_rfl)) h1 hw hlt1) (Below.trod laidOut7 (by kernel_rfl) (of_decide_eq_true (by kernel_rfl)) h2 hw hlt2)
  · rw [e1]; rfl

theorem tableOrder_holds : Rows.TableOrderSaid :=
  OpenClaim.holds_of_wide 3 Try.f3 rfl rfl rfl rfl rfl rfl rfl ⟨rfl, rfl, rfl, rfl, rfl⟩ rfl rfl rfl rfl rfl (by kernel_rfl) Try.func3 (by kernel_rfl)
    (of_decide_eq_true (by kernel_rfl)) (by unfold Func.isWrapper; rw [if_neg (of_decide_eq_false (by kernel_rfl))]; exact ⟨rfl, rfl⟩)
    (fun os started H enc _ => tableOrder_lifted os started H enc)
#print axioms tableOrder_holds
end Go.Proofs.Ytmbbkliekgiolaa
