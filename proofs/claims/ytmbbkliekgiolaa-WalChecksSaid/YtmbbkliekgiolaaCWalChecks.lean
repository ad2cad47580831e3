/- WalChecks: any bytes' check is as the document says; one byte that is another one makes it another one. -/
import Derived.Test.YtmbbkliekgiolaaRows
import Derived.Test.YtmbbkliekgiolaaVc
import Derived.Test.YtmbbkliekgiolaaH
import Derived.ProofKit
namespace Go.Proofs.Ytmbbkliekgiolaa
open Go.ChangeShapes Go.WideShapes Go.ChangeAt Go.RowKit
set_option maxRecDepth 100000 in
theorem walChecks_lifted (os : Os) (started : os.Started) (H : Type) (enc : TypeId × Value → H) :
    ReturnsInHanded {} Try.checked os 6 .any (Rows.walChecksSpec.pre6 enc Try.prog Try.f6 Rows.walChecksRow.domain false) (Rows.walChecksSpec.post enc Try.prog Try.f6 false true false false) := by
  refine returnsInHanded_of_change (C := Try.checked) own7 started (by kernel_rfl) Try.func6
    (ChangeSpec.witness6 (enc := enc) (C := Try.checked) false ⟨#[], #[.slice none 0 0, .int .i64 0, .int .u8 0], []⟩ 8 (by kernel_rfl) (by kernel_rfl) (by kernel_rfl) (by kernel_rfl)) ?_
  intro W base args ds gs before hval0 hW hcnd _
  have hval : ∀ (j : Nat) t v, Try.f6.params[j]? = some t → args[j]? = some v → Value.okWide Try.prog W .any base t v := hval0
  have hW' := hW
  obtain ⟨p, q, hA0, hV0, rfl, hfz, hnd⟩ := hW
  have hA : DataW.TrodAll enc Try.prog W 0 (fun _ => true) true Try.f6.params.toList args.toList ds p := hA0
  have hV : DataW.TrodVars enc Try.prog W (fun _ => true) [] gs q := hV0
  rw [Try.params6] at hA hval
  obtain ⟨v0, v1, v2, d0, d1, d2, q0, q1, q2, rfl, rfl, rfl, h0, h1, h2⟩ := trodAll_three hA
  obtain ⟨rfl, rfl⟩ := trodVars_none hV
  obtain ⟨la, ln, lc, rfl⟩ := okWide_slice Try.underlying23 (hval 0 23 v0 rfl rfl)
  obtain ⟨l, hln, hlG, hlB, hlc, _⟩ := opn_bytesT Try.underlying23 Try.underlying5 (by kernel_rfl) h0
  subst hln
  obtain ⟨a, rfl, rfl, rfl, wa⟩ := open_int Try.underlying3 (hval 1 3 v1 rfl rfl) h1
  have ba := bnd_i64 wa
  obtain ⟨yz, rfl, rfl, rfl, wy⟩ := open_int Try.underlying5 (hval 2 5 v2 rfl rfl) h2
  have bqy0 := wf_u8 wy
  obtain ⟨y, rfl⟩ : ∃ m : Nat, yz = (m : Int) := ⟨yz.toNat, by omega⟩
  have bqy : y < 256 := by omega
  clear hA0 hval0
  simp only [List.append_nil, List.nil_append] at hW'
  have hlt0 : ∀ x ∈ q0, x.block < W.heap.size := fun x hx => by simpa using hW'.lt x (by simp [hx])
  have e1 : Rows.walChecksSpec.fn H ([d0, .lit (.int .i64 a), .lit (.int .u8 ((y : Nat) : Int))] ++ []) = { results := [.lit (.bool true)], args := [d0, .lit (.int .i64 a), .lit (.int .u8 ((y : Nat) : Int))] } := by simp [Rows.walChecksSpec]
  refine (walChecks_ok l hlB la lc a ba.1 y (by omega) W hlG).mono fun e W' hw0 => ?_
  obtain ⟨rr, he, hrr, hSt⟩ := hw0
  subst he hrr
  have hw : Below W.heap.size W W' := hSt.below
  refine ⟨_, rfl, _, _, _, [], q0 ++ ([] ++ []), [], hW', ?_, ?_, ?_, hw.frame _, fun h => by cases h⟩
  · rw [e1]; exact trodAll_mk1 (shut_bool Try.underlying4 true)
  · rw [e1]; exact trodAll_mk3 (Below.trod laidOut7 (by kernel_rfl) (of_decide_eq_true (by kernel_rfl)) h0 hw hlt0) (shut_int Try.underlying3 wa) (shut_int Try.underlying5 wy)
  · rw [e1]; rfl

theorem walChecks_holds : Rows.WalChecksSaid :=
  OpenClaim.holds_of_wide 6 Try.f6 rfl rfl rfl rfl rfl rfl rfl ⟨rfl, rfl, rfl, rfl, rfl⟩ rfl rfl rfl rfl rfl (by kernel_rfl) Try.func6 (by kernel_rfl)
    (of_decide_eq_true (by kernel_rfl)) (by unfold Func.isWrapper; rw [if_neg (of_decide_eq_false (by kernel_rfl))]; exact ⟨rfl, rfl⟩)
    (fun os started H enc _ => walChecks_lifted os started H enc)
#print axioms walChecks_holds
end Go.Proofs.Ytmbbkliekgiolaa
