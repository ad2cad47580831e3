/- NumberLaws: the row proved; the tied card. -/
import Derived.Test.YtdlmcgflgdmjgaaDoorP
import Derived.Test.YtdlmcgflgdmjgaaDoorNm
import Derived.Test.YtdlmcgflgdmjgaaDoorTie
import Derived.Test.YtdlmcgflgdmjgaaDoorCards
import Derived.OpenShut
import Derived.Test.YtdlmcgflgdmjgaaDoorArg
import Derived.Test.YtdlmcgflgdmjgaaDoorArg2
import Derived.SevenTiedAt
namespace Go.Proofs.YtdlmcgflgdmjgaaDoor
open Go.ChangeShapes Go.WideShapes Go.RowKit

set_option maxRecDepth 100000 in
theorem numberLaws_lifted (os : Os) (started : os.Started) (H : Type) (enc : TypeId × Value → H) :
    ReturnsInHanded {} Tryd.checked os 9 .any (fun w args => (Rows.numberLawsSpec.pre enc Tryd.prog Tryd.f9 [] false w args ∧ laidMetH Tryd.prog Rows.numberLawsRow.laid w) ∧ sizedMet enc Tryd.prog Tryd.f9 (OpenSpec.ofChange Rows.numberLawsSpec) false w args)
      (Rows.numberLawsSpec.post enc Tryd.prog Tryd.f9 false true false false) := by
  refine returnsInHanded_of_change_and (C := Tryd.checked) (X := fun w _ => laidMetH Tryd.prog Rows.numberLawsRow.laid w) (fun _ _ _ hh h => h.of_heap hh) own started (by kernel_rfl) Tryd.func9
    (ChangeSpec.witness_at (enc := enc) (C := Tryd.checked) (os := os) (X := fun w _ => laidMetH Tryd.prog Rows.numberLawsRow.laid w) false (laidWorld os) #[.agg #[.int .i64 0, .int .i64 0, .int .i64 0], .agg #[.bool false, .bool false]] 8 rfl (by kernel_rfl) (by kernel_rfl) (by kernel_rfl) (by kernel_rfl) (by kernel_rfl) (laidWorld_met os _)) ?_
  intro W base args ds gs before hval0 hW _ _ hL _
  have hval : ∀ (j : Nat) t v, Tryd.f9.params[j]? = some t → args[j]? = some v → Value.okWide Tryd.prog W .any base t v := hval0
  have hW' := hW
  obtain ⟨p, q, hA0, hV0, rfl, hfz, hnd⟩ := hW
  have hA : DataW.TrodAll enc Tryd.prog W 0 (fun _ => true) true Tryd.f9.params.toList args.toList ds p := hA0
  have hV : DataW.TrodVars enc Tryd.prog W (fun _ => true) [] gs q := hV0
  rw [Tryd.params9] at hA hval
  obtain ⟨v0, v1, d0, d1, q0, q1, rfl, rfl, rfl, h0, h1⟩ := trodAll_two hA
  obtain ⟨n0, n1, n2, rfl, rfl, rfl, wn0, wn1, wn2⟩ := open_ints3 Tryd.underlying57 Tryd.underlying2 (by kernel_rfl) (by kernel_rfl) (hval 0 57 v0 rfl rfl) h0
  have bn0 := bounds_i64 wn0
  have bn1 := bounds_i64 wn1
  have bn2 := bounds_i64 wn2
  obtain ⟨d0, d1, rfl, rfl, rfl⟩ := open_bools2 Tryd.underlying58 Tryd.underlying4 (by kernel_rfl) (by kernel_rfl) (hval 1 58 v1 rfl rfl) h1
  have hg := laid_of hL
  obtain ⟨rfl, rfl⟩ := trodVars_none hV
  have e1 : Rows.numberLawsSpec.fn H ([.agg [.lit (.int .i64 n0), .lit (.int .i64 n1), .lit (.int .i64 n2)], .agg [.lit (.bool d0), .lit (.bool d1)]] ++ []) = { results := [.lit (.bool true)], args := [.agg [.lit (.int .i64 n0), .lit (.int .i64 n1), .lit (.int .i64 n2)], .agg [.lit (.bool d0), .lit (.bool d1)]] } := by simp [Rows.numberLawsSpec]
  refine (lawsLaw_ok n0 n1 n2 d0 d1 (fits_of bn0.1 bn0.2) (fits_of bn1.1 bn1.2) (fits_of bn2.1 bn2.2) W hg).mono fun e W' hw0 => ?_
  obtain ⟨rr, he, hrr, hSt⟩ := hw0
  subst he hrr
  have hw : Below W.heap.size W W' := hSt.below
  refine ⟨_, rfl, _, _, _, [], [], [], hW', ?_, ?_, ?_, hw.frame _, fun h => by cases h⟩
  · rw [e1]; exact trodAll_mk1 (shut_bool Tryd.underlying4 true)
  · rw [e1]; exact trodAll_mk2 (shut_ints3 Tryd.underlying57 Tryd.underlying2 (by kernel_rfl) (by kernel_rfl) wn0 wn1 wn2) (shut_bools2 Tryd.underlying58 Tryd.underlying4 (by kernel_rfl) (by kernel_rfl))
  · rw [e1]; rfl

theorem numberLaws_holds : Rows.NumberLawsSaid :=
  OpenClaim.holds_of_wide 9 Tryd.f9 rfl rfl rfl rfl rfl rfl rfl ⟨rfl, rfl, rfl, rfl, rfl⟩ rfl rfl rfl rfl rfl (by kernel_rfl) Tryd.func9 (by kernel_rfl)
    (of_decide_eq_true (by kernel_rfl)) (by unfold Func.isWrapper; rw [if_neg (of_decide_eq_false (by kernel_rfl))]; exact ⟨rfl, rfl⟩)
    (fun os started H enc _ => numberLaws_lifted os started H enc)

theorem numberLaws_card : Rows.NumberLawsCardSaid :=
  Claim7.holds_tied_plain_at .later [] [.handle] true (true, "f3d26a0158c1641bcabe86c4c78abe5abf3e00270e1a93817e9304a795cfa3fa") true
    numberLaws_holds (fun _ h => by cases h) (by kernel_rfl) (fun _ h => by cases h) numberLaws_row_tie rfl ⟨rfl, rfl⟩ (by kernel_rfl) rfl
    (fun f fn hf hfn => by
      obtain rfl : f = 9 := Option.some.inj ((show Tryd.prog.funcNamed "frankpledge/frankpledgelaw03.NumberLaws" = some 9 by kernel_rfl).symm.trans hf) |>.symm
      obtain rfl : fn = Tryd.f9 := (Option.some.inj (Tryd.func9.symm.trans hfn)).symm
      exact ⟨by kernel_rfl, fun j t ht => by
        rw [Tryd.params9] at ht
        have h3 : t = 57 ∨ t = 58 := by
          rcases j with _ | (_ | j)
          · simp at ht; simp [← ht]
          · simp at ht; simp [← ht]
          · simp at ht
        rcases h3 with rfl | rfl
        · exact (show Tryd.prog.wantsStandIn 57 = false by kernel_rfl)
        · exact (show Tryd.prog.wantsStandIn 58 = false by kernel_rfl)⟩)
    (by kernel_rfl)
#print axioms numberLaws_card
end Go.Proofs.YtdlmcgflgdmjgaaDoor
