/- NumberCompares: the row proved; the tied card. -/
import Derived.Test.YtdlmcgflgdmjgaaDoorP2
import Derived.Test.YtdlmcgflgdmjgaaDoorQa
import Derived.Test.YtdlmcgflgdmjgaaDoorQh
import Derived.Test.YtdlmcgflgdmjgaaDoorTie
import Derived.Test.YtdlmcgflgdmjgaaDoorCards
import Derived.OpenShut
import Derived.SevenTiedAt
set_option linter.unusedVariables false
set_option linter.unusedSimpArgs false
namespace Go.Proofs.YtdlmcgflgdmjgaaDoor
open Go.ChangeShapes Go.WideShapes Go.RowKit

set_option maxRecDepth 100000 in
theorem numberCompares_lifted (os : Os) (started : os.Started) (H : Type) (enc : TypeId × Value → H) :
    ReturnsInHanded {} Tryd.checked os 13 .any (fun w args => (Rows.numberComparesSpec.pre enc Tryd.prog Tryd.f13 [] false w args ∧ laidMetH Tryd.prog Rows.numberComparesRow.laid w) ∧ sizedMet enc Tryd.prog Tryd.f13 (OpenSpec.ofChange Rows.numberComparesSpec) false w args)
      (Rows.numberComparesSpec.post enc Tryd.prog Tryd.f13 false true false false) := by
  refine returnsInHanded_of_change_and (C := Tryd.checked) (X := fun w _ => laidMetH Tryd.prog Rows.numberComparesRow.laid w) (fun _ _ _ hh h => h.of_heap hh) own2 started (by kernel_rfl) Tryd.func13
    (ChangeSpec.witness_at (enc := enc) (C := Tryd.checked) (os := os) (X := fun w _ => laidMetH Tryd.prog Rows.numberComparesRow.laid w) false (laidWorld2 os) #[.int .i64 0, .agg #[.int .i64 0, .int .i64 0, .string ⟨#[]⟩], .agg #[.int .i64 0, .int .i64 0, .string ⟨#[]⟩]] 8 rfl (by kernel_rfl) (by kernel_rfl) (by kernel_rfl) (by kernel_rfl) (by kernel_rfl) (laidWorld2_met os _)) ?_
  intro W base args ds gs before hval0 hW _ _ hL _
  have hval : ∀ (j : Nat) t v, Tryd.f13.params[j]? = some t → args[j]? = some v → Value.okWide Tryd.prog W .any base t v := hval0
  have hW' := hW
  obtain ⟨p, q, hA0, hV0, rfl, hfz, hnd⟩ := hW
  have hA : DataW.TrodAll enc Tryd.prog W 0 (fun _ => true) true Tryd.f13.params.toList args.toList ds p := hA0
  have hV : DataW.TrodVars enc Tryd.prog W (fun _ => true) [] gs q := hV0
  rw [Tryd.params13] at hA hval
  obtain ⟨v0, v1, v2, d0, d1, d2, q0, q1, q2, rfl, rfl, rfl, h0, h1, h2⟩ := trodAll_three hA
  obtain ⟨op, rfl, rfl, rfl, wop⟩ := open_int Tryd.underlying54 (hval 0 54 v0 rfl rfl) h0
  obtain ⟨a, rfl, haB, _, ha0, ha1⟩ := opn_val (hval 1 51 v1 rfl rfl) h1
  obtain ⟨b, rfl, hbB, _, hb0, hb1⟩ := opn_val (hval 2 51 v2 rfl rfl) h2
  simp only [List.append_nil] at hW'
  have hlt1 : ∀ x ∈ q1, x.block < W.heap.size := fun x hx => by simpa using hW'.lt x (by simp [hx])
  have hlt2 : ∀ x ∈ q2, x.block < W.heap.size := fun x hx => by simpa using hW'.lt x (by simp [hx])
  have hg := laid_of2 hL
  obtain ⟨rfl, rfl⟩ := trodVars_none hV
  have e1 : Rows.numberComparesSpec.fn H ([.lit (.int .i64 op), d1, d2] ++ []) = { results := [.lit (.bool true)], args := [.lit (.int .i64 op), d1, d2] } := by simp [Rows.numberComparesSpec]
  refine (ncmp_ok op a b haB hbB ha0 ha1 hb0 hb1 W hg).mono fun e W' hw0 => ?_
  obtain ⟨rr, he, hrr, hSt⟩ := hw0
  subst he hrr
  have hw : Below W.heap.size W W' := hSt.below
  refine ⟨_, rfl, _, _, _, [], [] ++ (q1 ++ q2), [], hW', ?_, ?_, ?_, hw.frame _, fun h => by cases h⟩
  · rw [e1]; exact trodAll_mk1 (shut_bool Tryd.underlying4 true)
  · rw [e1]; exact trodAll_mk3 (shut_int Tryd.underlying54 wop) (Below.trod laidOutK (by kernel_rfl) (of_decide_eq_true (by kernel_rfl)) h1 hw hlt1) (Below.trod laidOutK (by kernel_rfl) (of_decide_eq_true (by kernel_rfl)) h2 hw hlt2)
  · rw [e1]; rfl

theorem numberCompares_holds : Rows.NumberComparesSaid :=
  OpenClaim.holds_of_wide 13 Tryd.f13 rfl rfl rfl rfl rfl rfl rfl ⟨rfl, rfl, rfl, rfl, rfl⟩ rfl rfl rfl rfl rfl (by kernel_rfl) Tryd.func13 (by kernel_rfl)
    (of_decide_eq_true (by kernel_rfl)) (by unfold Func.isWrapper; rw [if_neg (of_decide_eq_false (by kernel_rfl))]; exact ⟨rfl, rfl⟩)
    (fun os started H enc _ => numberCompares_lifted os started H enc)

theorem numberCompares_card : Rows.NumberComparesCardSaid :=
  Claim7.holds_tied_plain_at .later [] [.handle] true (true, "f3d26a0158c1641bcabe86c4c78abe5abf3e00270e1a93817e9304a795cfa3fa") true
    numberCompares_holds (fun _ h => by cases h) (by kernel_rfl) (fun _ h => by cases h) numberCompares_row_tie rfl ⟨rfl, rfl⟩ (by kernel_rfl) rfl
    (fun f fn hf hfn => by
      obtain rfl : f = 13 := Option.some.inj ((show Tryd.prog.funcNamed "frankpledge/frankpledgelaw03.NumberCompares" = some 13 by kernel_rfl).symm.trans hf) |>.symm
      obtain rfl : fn = Tryd.f13 := (Option.some.inj (Tryd.func13.symm.trans hfn)).symm
      exact ⟨by kernel_rfl, fun j t ht => by
        rw [Tryd.params13] at ht
        have h3 : t = 54 ∨ t = 51 ∨ t = 51 := by
          rcases j with _ | (_ | (_ | j))
          · simp at ht; simp [← ht]
          · simp at ht; simp [← ht]
          · simp at ht; simp [← ht]
          · simp at ht
        rcases h3 with rfl | rfl | rfl
        · exact (show Tryd.prog.wantsStandIn 54 = false by kernel_rfl)
        · exact (show Tryd.prog.wantsStandIn 51 = false by kernel_rfl)
        · exact (show Tryd.prog.wantsStandIn 51 = false by kernel_rfl)⟩)
    (by kernel_rfl)
#print axioms numberCompares_card
end Go.Proofs.YtdlmcgflgdmjgaaDoor
