/- More rules, II: structs of two strings compared. Over any program. -/
import Derived.Test.YtdlmcgflgdmjgaaDoorSy
import Derived.Test.YtdlmcgflgdmjgaaDoorSm
import Derived.Laws.StructEq
set_option linter.unusedVariables false
set_option linter.unusedSimpArgs false
namespace Go.Proofs.YtdlmcgflgdmjgaaDoor
open Go Go.RowKit
section
variable {P : Program} {n : Nat} {f : Nat → Value} {w : World}
variable {d : Option Tmp} {x y : Operand} {ty T T' : TypeId} {pos : String} {aft : Array Edge} {g : Option (Nat × Bool)} {l m l' m' : List Nat}
def ss2B (P : Program) (T : TypeId) : Bool := match P.underlying T with
  | some (.struct fs) => (match fs.toList with
    | [f0, f1] => f0.offset == 0 && f1.offset == 1 && (f0.name != "_") && (f1.name != "_") && stB P f0.type && stB P f1.type && sglB P f0.type && sglB P f1.type && !P.stoodInHeld T && !P.eqGuardType P.depth T
    | _ => false)
  | _ => false
theorem run_ss2 (h : ss2B P T = true) (hl : Bytes l) (hm : Bytes m) (hl' : Bytes l') (hm' : Bytes m') : (Op.equalIn 10000 T (.agg #[.string (bs l), .string (bs m)]) (.agg #[.string (bs l'), .string (bs m')])).run P w = .ok (decide (l = l') && decide (m = m')) w ∧ P.eqGuardType P.depth T = false := by
  unfold ss2B at h
  cases hu : P.underlying T with
  | none => rw [hu] at h; cases h
  | some du =>
    rw [hu] at h
    cases du with
    | struct fs =>
      simp only at h
      have hfs : P.fieldsOf T = fs := by unfold Program.fieldsOf; rw [hu]
      split at h
      · rename_i f0 f1 hl2
        simp only [Bool.and_eq_true, Bool.not_eq_true', beq_iff_eq, bne_iff_ne, ne_eq] at h
        obtain ⟨⟨⟨⟨⟨⟨⟨⟨⟨h1, h2⟩, h3⟩, h4⟩, h5⟩, h6⟩, h7⟩, h8⟩, h9⟩, h10⟩ := h
        refine ⟨?_, h10⟩
        rw [show (10000 : Nat) = 9999 + 1 from rfl, run_equalIn_agg w 9999 T _ _ (by rw [hfs]; exact hu) h9, hfs, hl2]
        have p0 : ∀ (xs : Array Value) (v : Value), xs[0]? = some v → (part f0.type xs f0.offset).run P w = .ok v w := fun xs v hv => by
          simp only [part, Sem.run_bind, run_isAgg h7, Result.andThen_ok, h1]
          simp [hv]
        have p1 : ∀ (xs : Array Value) (v : Value), xs[1]? = some v → (part f1.type xs f1.offset).run P w = .ok v w := fun xs v hv => by
          simp only [part, Sem.run_bind, run_isAgg h8, Result.andThen_ok, h2]
          simp [hv]
        have s0 : ∀ a b, (Op.equalIn 9999 f0.type (.string a) (.string b)).run P w = .ok (a.toList == b.toList) w := fun a b => run_equalIn_string w 9998 _ a b (stB_und h5)
        have s1 : ∀ a b, (Op.equalIn 9999 f1.type (.string a) (.string b)).run P w = .ok (a.toList == b.toList) w := fun a b => run_equalIn_string w 9998 _ a b (stB_und h6)
        have a0 := p0 #[.string (bs l), .string (bs m)] (.string (bs l)) rfl
        have a1 := p1 #[.string (bs l), .string (bs m)] (.string (bs m)) rfl
        have b0 := p0 #[.string (bs l'), .string (bs m')] (.string (bs l')) rfl
        have b1 := p1 #[.string (bs l'), .string (bs m')] (.string (bs m')) rfl
        simp only [Op.eqFields, ne_eq, h3, h4, not_false_eq_true, if_true, Sem.run_bind, a0, a1, b0, b1, Result.andThen_ok, s0, s1, stringEq hl hl', stringEq hm hm']
        by_cases e1 : l = l'
        · simp only [e1, decide_true, Bool.not_true, Bool.false_eq_true, if_false, Sem.run_bind, Sem.run_ite]
          rw [e1] at a1
          simp only [a1, b1, Result.andThen_ok, s1, stringEq hm hm']
          by_cases e2 : m = m' <;> simp [e2, Sem.run]
        · simp [e1, Sem.run]
      · cases h
    | _ => cases h
theorem q_ss_neq (hx : ev n f x = .agg #[.string (bs l), .string (bs m)]) (hy : ev n f y = .agg #[.string (bs l'), .string (bs m')]) (h : ss2B P T = true) (hl : Bytes l) (hm : Bytes m) (hl' : Bytes l') (hm' : Bytes m') :
    Run P n f ⟨d, .binOp .neq T x y T', ty, pos, aft, g⟩ w (.bool (!(decide (l = l') && decide (m = m')))) := by
  obtain ⟨h1, h2⟩ := run_ss2 (w := w) h hl hm hl' hm'
  simp only [Run, execOp, hx, hy, Sem.run_bind, run_eqGuard_agg _ _ _ _ _ _ _ h2, Result.andThen_ok, run_neq_struct, h1]
  rfl
theorem q_ss_eql (hx : ev n f x = .agg #[.string (bs l), .string (bs m)]) (hy : ev n f y = .agg #[.string (bs l'), .string (bs m')]) (h : ss2B P T = true) (hl : Bytes l) (hm : Bytes m) (hl' : Bytes l') (hm' : Bytes m') :
    Run P n f ⟨d, .binOp .eql T x y T', ty, pos, aft, g⟩ w (.bool (decide (l = l') && decide (m = m'))) := by
  obtain ⟨h1, h2⟩ := run_ss2 (w := w) h hl hm hl' hm'
  simp only [Run, execOp, hx, hy, Sem.run_bind, run_eqGuard_agg _ _ _ _ _ _ _ h2, Result.andThen_ok, run_eql_struct, h1]
  rfl
end
end Go.Proofs.YtdlmcgflgdmjgaaDoor
