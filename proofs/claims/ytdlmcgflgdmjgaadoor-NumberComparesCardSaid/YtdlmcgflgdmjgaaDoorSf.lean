/- More rules of the small logic: arrays by their address, a struct written within a block, bools that are compared. Over any program. -/
import Derived.Test.YtdlmcgflgdmjgaaDoorSe
set_option linter.unusedVariables false
set_option linter.unusedSimpArgs false
namespace Go.Proofs.YtdlmcgflgdmjgaaDoor
open Go.RowKit
section
variable {P : Program} {ops : Array Oper} {Q : Exit → Act → World → Prop} {n : Nat} {f : Nat → Value} {w w0 : World} {D : Nat → Prop} {Γ : List Ch} {K : Act → World → Prop}
variable {d : Option Tmp} {dd : Nat} {x y z : Operand} {ty T T' : TypeId} {pos : String} {aft : Array Edge} {g : Option (Nat × Bool)}
def arB (P : Program) (t : TypeId) : Option (Nat × TypeId) := match P.underlying t with | some (.array n e) => some (n, e) | _ => none
theorem und_ar {t e : TypeId} {m : Nat} (h : arB P t = some (m, e)) : P.underlying t = some (.array m e) := by
  unfold arB at h
  cases hu : P.underlying t with
  | none => simp [hu] at h
  | some d => cases d <;> simp [hu] at h; obtain ⟨rfl, rfl⟩ := h; rfl
theorem q_indexAddrA {bl off len m : Nat} {e : TypeId} {k : IntKind} {a : Int} (hx : ev n f x = .pointer (some ⟨bl, off, none⟩)) (hy : ev n f y = .int k a) (ht : arB P T = some (len, e)) (hz : szB P e = some m) (h0 : 0 ≤ a) (h1 : a < len) :
    Run P n f ⟨d, .indexAddr T x y, ty, pos, aft, g⟩ w (.pointer (some ⟨bl, off + a.toNat * m, none⟩)) := by
  have hadd : Addr.add ⟨bl, off, none⟩ (a.toNat * m) = ⟨bl, off + a.toNat * m, none⟩ := by unfold Addr.add; split <;> simp_all
  simp [Run, execOp, hx, hy, Instr.indexAt, Instr.sureAddr, asIntOf, run_und (und_ar ht), run_sizeOf hz, Sem.run, h0, h1, hadd]
/-- A part of a block is written: a struct in an array. -/
theorem e_storeAt {b off i : Nat} {arr : Array Value} {T2 : TypeId} {cs ls : List Value} (hS : St w0 D Γ w) (hx : ev n f x = .pointer (some ⟨b, off, none⟩)) (hy : ev n f y = .agg cs.toArray) (hz : szB P T = some cs.length) (h1' : AllOne cs) (hi : Γ[i]? = some (.blk b (.cells arr T2))) (hl : Nat.ble (off + cs.length) arr.size = true)
    (hls : arr.toList.take off ++ cs ++ arr.toList.drop (off + cs.length) = ls)
    (h : ∀ w', St w0 D (Γ.set i (.blk b (.cells ls.toArray T2))) w' → K (E n f) w') : Oper.wp P ⟨none, .store T x y, ty, pos, aft, g⟩ (E n f) w K Q := by
  have h1 := h1'.all
  have hb := hS.blk hi
  have hl' : off + cs.length ≤ arr.size := Nat.le_of_ble_eq_true hl
  have hst := run_storeCells_at P b off T2 cs 0 arr w hb (by omega) h1
  rw [Nat.add_zero] at hst
  rw [hls] at hst
  have hrun : (Instr.storeAt T (.pointer (some ⟨b, off, none⟩)) (.agg cs.toArray)).run P w = .ok () (w.setRow b ls.toArray) := by
    have hc : (Value.agg cs.toArray).cells = cs.toArray := rfl
    simp only [Instr.storeAt, Instr.sureAddr, Sem.run_bind, Sem.run_pure, Result.andThen_ok, storeVar, hc, run_sizeOf hz]
    rw [if_neg (by simp)]
    simpa using hst
  unfold Oper.wp
  rw [E_eval]
  simp only [execOp, hx, hy, Sem.run_bind, hrun, Result.andThen_ok, Sem.run_pure, Oper.upon]
  exact h _ (hS.setBlk hi rfl rfl rfl (by simp) (setRow_heap w b arr _ T2 _ hb) fun k hk => setRow_other w b k _ hk)
end
end Go.Proofs.YtdlmcgflgdmjgaaDoor
