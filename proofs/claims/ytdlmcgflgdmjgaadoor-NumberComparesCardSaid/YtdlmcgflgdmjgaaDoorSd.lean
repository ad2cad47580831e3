/- More rules, III: structs of two numbers and a string compared. Over any program. -/
import Derived.Test.YtdlmcgflgdmjgaaDoorSb
set_option linter.unusedVariables false
set_option linter.unusedSimpArgs false
namespace Go.Proofs.YtdlmcgflgdmjgaaDoor
open Go Go.RowKit
section
variable {P : Program} {n : Nat} {f : Nat → Value} {w : World}
variable {d : Option Tmp} {x y : Operand} {ty T T' : TypeId} {pos : String} {aft : Array Edge} {g : Option (Nat × Bool)} {l l' : List Nat} {a b a' b' : Int}
def intB (P : Program) (t : TypeId) : Bool := match P.underlying t with | some (.int _) => true | _ => false
theorem intB_und {t : TypeId} (h : intB P t = true) : ∃ k, P.underlying t = some (.int k) := by
  unfold intB at h
  split at h
  · exact ⟨_, by assumption⟩
  · cases h
def iisB (P : Program) (T : TypeId) : Bool := match P.underlying T with
  | some (.struct fs) => (match fs.toList with
    | [f0, f1, f2] => f0.offset == 0 && f1.offset == 1 && f2.offset == 2 && (f0.name != "_") && (f1.name != "_") && (f2.name != "_") && intB P f0.type && intB P f1.type && stB P f2.type && sglB P f0.type && sglB P f1.type && sglB P f2.type && !P.stoodInHeld T && !P.eqGuardType P.depth T
    | _ => false)
  | _ => false
theorem run_iis (h : iisB P T = true) (hl : Bytes l) (hl' : Bytes l') : (Op.equalIn 10000 T (.agg #[.int .i64 a, .int .i64 b, .string (bs l)]) (.agg #[.int .i64 a', .int .i64 b', .string (bs l')])).run P w = .ok (decide ((a, b, l) = (a', b', l'))) w ∧ P.eqGuardType P.depth T = false := by
  unfold iisB at h
  cases hu : P.underlying T with
  | none => rw [hu] at h; cases h
  | some du =>
    rw [hu] at h
    cases du with
    | struct fs =>
      simp only at h
      have hfs : P.fieldsOf T = fs := by unfold Program.fieldsOf; rw [hu]
      split at h
      · rename_i f0 f1 f2 hl2
        simp only [Bool.and_eq_true, Bool.not_eq_true', beq_iff_eq, bne_iff_ne, ne_eq] at h
        obtain ⟨⟨⟨⟨⟨⟨⟨⟨⟨⟨⟨⟨⟨h1, h2⟩, h3⟩, n0⟩, n1⟩, n2⟩, i0⟩, i1⟩, i2⟩, g0⟩, g1⟩, g2⟩, h9⟩, h10⟩ := h
        refine ⟨?_, h10⟩
        rw [show (10000 : Nat) = 9999 + 1 from rfl, run_equalIn_agg w 9999 T _ _ (by rw [hfs]; exact hu) h9, hfs, hl2]
        have p0 : ∀ (xs : Array Value) (v : Value), xs[0]? = some v → (part f0.type xs f0.offset).run P w = .ok v w := fun xs v hv => by
          simp only [part, Sem.run_bind, run_isAgg g0, Result.andThen_ok, h1]
          simp [hv]
        have p1 : ∀ (xs : Array Value) (v : Value), xs[1]? = some v → (part f1.type xs f1.offset).run P w = .ok v w := fun xs v hv => by
          simp only [part, Sem.run_bind, run_isAgg g1, Result.andThen_ok, h2]
          simp [hv]
        have p2 : ∀ (xs : Array Value) (v : Value), xs[2]? = some v → (part f2.type xs f2.offset).run P w = .ok v w := fun xs v hv => by
          simp only [part, Sem.run_bind, run_isAgg g2, Result.andThen_ok, h3]
          simp [hv]
        obtain ⟨k0, u0⟩ := intB_und i0
        obtain ⟨k1, u1⟩ := intB_und i1
        have s0 : ∀ a b, (Op.equalIn 9999 f0.type (.int .i64 a) (.int .i64 b)).run P w = .ok (a == b) w := fun a b => run_equalIn_int w 9998 _ _ k0 a b u0
        have s1 : ∀ a b, (Op.equalIn 9999 f1.type (.int .i64 a) (.int .i64 b)).run P w = .ok (a == b) w := fun a b => run_equalIn_int w 9998 _ _ k1 a b u1
        have s2 : ∀ a b, (Op.equalIn 9999 f2.type (.string a) (.string b)).run P w = .ok (a.toList == b.toList) w := fun a b => run_equalIn_string w 9998 _ a b (stB_und i2)
        have a0 := p0 #[.int .i64 a, .int .i64 b, .string (bs l)] (.int .i64 a) rfl
        have a1 := p1 #[.int .i64 a, .int .i64 b, .string (bs l)] (.int .i64 b) rfl
        have a2 := p2 #[.int .i64 a, .int .i64 b, .string (bs l)] (.string (bs l)) rfl
        have b0 := p0 #[.int .i64 a', .int .i64 b', .string (bs l')] (.int .i64 a') rfl
        have b1 := p1 #[.int .i64 a', .int .i64 b', .string (bs l')] (.int .i64 b') rfl
        have b2 := p2 #[.int .i64 a', .int .i64 b', .string (bs l')] (.string (bs l')) rfl
        simp only [Op.eqFields, ne_eq, n0, n1, n2, not_false_eq_true, if_true, Sem.run_bind, a0, b0, Result.andThen_ok, s0]
        by_cases e1 : a = a'
        · subst e1
          simp only [beq_self_eq_true, Bool.not_true, Bool.false_eq_true, if_false, Sem.run_bind, Sem.run_ite, a1, b1, Result.andThen_ok, s1]
          by_cases e2 : b = b'
          · subst e2
            simp only [beq_self_eq_true, Bool.not_true, Bool.false_eq_true, if_false, Sem.run_bind, Sem.run_ite, a2, b2, Result.andThen_ok, s2, stringEq hl hl']
            by_cases e3 : l = l' <;> simp [e3, Sem.run]
          · simp [e2, Sem.run]
        · simp [e1, Sem.run]
      · cases h
    | _ => cases h
theorem q_iis_neq (hx : ev n f x = .agg #[.int .i64 a, .int .i64 b, .string (bs l)]) (hy : ev n f y = .agg #[.int .i64 a', .int .i64 b', .string (bs l')]) (h : iisB P T = true) (hl : Bytes l) (hl' : Bytes l') :
    Run P n f ⟨d, .binOp .neq T x y T', ty, pos, aft, g⟩ w (.bool (!decide ((a, b, l) = (a', b', l')))) := by
  obtain ⟨h1, h2⟩ := run_iis (w := w) (a := a) (b := b) (a' := a') (b' := b') h hl hl'
  simp only [Run, execOp, hx, hy, Sem.run_bind, run_eqGuard_agg _ _ _ _ _ _ _ h2, Result.andThen_ok, run_neq_struct, h1]
  rfl
theorem q_iis_eql (hx : ev n f x = .agg #[.int .i64 a, .int .i64 b, .string (bs l)]) (hy : ev n f y = .agg #[.int .i64 a', .int .i64 b', .string (bs l')]) (h : iisB P T = true) (hl : Bytes l) (hl' : Bytes l') :
    Run P n f ⟨d, .binOp .eql T x y T', ty, pos, aft, g⟩ w (.bool (decide ((a, b, l) = (a', b', l')))) := by
  obtain ⟨h1, h2⟩ := run_iis (w := w) (a := a) (b := b) (a' := a') (b' := b') h hl hl'
  simp only [Run, execOp, hx, hy, Sem.run_bind, run_eqGuard_agg _ _ _ _ _ _ _ h2, Result.andThen_ok, run_eql_struct, h1]
  rfl
end
end Go.Proofs.YtdlmcgflgdmjgaaDoor
