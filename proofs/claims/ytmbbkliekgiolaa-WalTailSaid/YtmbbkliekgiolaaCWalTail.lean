/- WalTail: bytes that are no frame, behind some records, are cut off. -/
import Derived.Test.YtmbbkliekgiolaaRows
import Derived.Test.YtmbbkliekgiolaaVf
import Derived.Test.YtmbbkliekgiolaaH
import Derived.ProofKit
namespace Go.Proofs.Ytmbbkliekgiolaa
open Go.ChangeShapes Go.WideShapes Go.ChangeAt Go.RowKit
set_option maxRecDepth 100000 in
theorem walTail_lifted (os : Os) (started : os.Started) (H : Type) (enc : TypeId × Value → H) :
    ReturnsInHanded {} Try.checked os 7 .any (Rows.walTailSpec.pre6 enc Try.prog Try.f7 Rows.walTailRow.domain false) (Rows.walTailSpec.post enc Try.prog Try.f7 false true false false) := by
  refine returnsInHanded_of_change (C := Try.checked) own7 started (by kernel_rfl) Try.func7
    (ChangeSpec.witness6 (enc := enc) (C := Try.checked) false ⟨#[], #[.slice none 0 0, .slice none 0 0, .slice none 0 0], []⟩ 8 (by kernel_rfl) (by kernel_rfl) (by kernel_rfl) (by kernel_rfl)) ?_
  intro W base args ds gs before hval0 hW hcnd _
  have hval : ∀ (j : Nat) t v, Try.f7.params[j]? = some t → args[j]? = some v → Value.okWide Try.prog W .any base t v := hval0
  have hW' := hW
  obtain ⟨p, q, hA0, hV0, rfl, hfz, hnd⟩ := hW
  have hA : DataW.TrodAll enc Try.prog W 0 (fun _ => true) true Try.f7.params.toList args.toList ds p := hA0
  have hV : DataW.TrodVars enc Try.prog W (fun _ => true) [] gs q := hV0
  rw [Try.params7] at hA hval
  obtain ⟨v0, v1, v2, d0, d1, d2, q0, q1, q2, rfl, rfl, rfl, h0, h1, h2⟩ := trodAll_three hA
  obtain ⟨rfl, rfl⟩ := trodVars_none hV
  obtain ⟨sa, sn, sc, rfl⟩ := okWide_slice Try.underlying50 (hval 0 50 v0 rfl rfl)
  obtain ⟨s, hsn, hsG, hsB, hsc⟩ := opn_sbs h0
  subst hsn
  obtain ⟨ta, tn, tc, rfl⟩ := okWide_slice Try.underlying23 (hval 1 23 v1 rfl rfl)
  obtain ⟨t, htn, htG, htB, htc, _⟩ := opn_bytesT Try.underlying23 Try.underlying5 (by kernel_rfl) h1
  subst htn
  obtain ⟨ma, mn, mc, rfl⟩ := okWide_slice Try.underlying23 (hval 2 23 v2 rfl rfl)
  obtain ⟨m, hmn, hmG, hmB, hmc, _⟩ := opn_bytesT Try.underlying23 Try.underlying5 (by kernel_rfl) h2
  subst hmn
  clear hA0 hval0
  simp only [List.append_nil] at hW'
  have hlt0 : ∀ x ∈ q0, x.block < W.heap.size := fun x hx => by simpa using hW'.lt x (by simp [hx])
  have hlt1 : ∀ x ∈ q1, x.block < W.heap.size := fun x hx => by simpa using hW'.lt x (by simp [hx])
  have hlt2 : ∀ x ∈ q2, x.block < W.heap.size := fun x hx => by simpa using hW'.lt x (by simp [hx])
  have e1 : Rows.walTailSpec.fn H ([d0, d1, d2] ++ []) = { results := [.lit (.bool true)], args := [d0, d1, d2] } := by simp [Rows.walTailSpec]
  refine (walTail_ok s sa sc t ta tc m ma mc htB hmB W hsG hsB htG hmG).mono fun e W' hw0 => ?_
  obtain ⟨rr, he, hrr, hSt⟩ := hw0
  subst he hrr
  have hw : Below W.heap.size W W' := hSt.below
  refine ⟨_, rfl, _, _, _, [], q0 ++ (q1 ++ q2), [], hW', ?_, ?_, ?_, hw.frame _, fun h => by cases h⟩
  · rw [e1]; exact trodAll_mk1 (shut_bool Try.underlying4 true)
  · rw [e1]; exact trodAll_mk3 (Below.trod laidOut7 (by kernel_rfl) (of_decide_eq_true (by kernel_rfl)) h0 hw hlt0) (Below.trod laidOut7 (by kernel_rfl) (of_decide_eq_true (by kernel_rfl)) h1 hw hlt1) (Below.trod laidOut7 (by kernel_rfl) (of_decide_eq_true (by kernel_rfl)) h2 hw hlt2)
  · rw [e1]; rfl

theorem walTail_holds : Rows.WalTailSaid :=
  OpenClaim.holds_of_wide 7 Try.f7 rfl rfl rfl rfl rfl rfl rfl ⟨rfl, rfl, rfl, rfl, rfl⟩ rfl rfl rfl rfl rfl (by kernel_rfl) Try.func7 (by kernel_rfl)
    (of_decide_eq_true (by kernel_rfl)) (by unfold Func.isWrapper; rw [if_neg (of_decide_eq_false (by kernel_rfl))]; exact ⟨rfl, rfl⟩)
    (fun os started H enc _ => walTail_lifted os started H enc)
#print axioms walTail_holds
end Go.Proofs.Ytmbbkliekgiolaa
