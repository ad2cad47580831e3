/- A rule of the small logic: an element of an own row is written. Over any program. -/
import Derived.Test.YtdlmcgflgdmjgaaDoorSg
set_option linter.unusedVariables false
set_option linter.unusedSimpArgs false
namespace Go.Proofs.YtdlmcgflgdmjgaaDoor
open Go.RowKit
section
variable {P : Program} {ops : Array Oper} {Q : Exit → Act → World → Prop} {n : Nat} {f : Nat → Value} {w w0 : World} {D : Nat → Prop} {Γ : List Ch} {K : Act → World → Prop}
variable {x y : Operand} {ty T : TypeId} {pos : String} {aft : Array Edge} {g : Option (Nat × Bool)}
theorem e_storeSl {e i m gb cap j : Nat} {v : Value} {xs : List Value} (hS : St w0 D Γ w) (hx : ev n f x = .pointer (some ⟨gb, j, none⟩)) (hy : ev n f y = v) (hz : szB P T = some 1) (hv : v.oneCell' = true)
    (hi : Γ[i]? = some (.sl e 1 (.slice (some ⟨gb, 0, none⟩) m cap) m xs)) (hj : j < m)
    (h : ∀ w', St w0 D (Γ.set i (.sl e 1 (.slice (some ⟨gb, 0, none⟩) m cap) m (xs.set j v))) w' → K (E n f) w') : Oper.wp P ⟨none, .store T x y, ty, pos, aft, g⟩ (E n f) w K Q := by
  have ho := hS.sl hi
  have hc0 := hS.sat.get hi
  rcases ho.2 with ⟨he, h0⟩ | ⟨gb', cap', cur, he, hb0, hg, hle, hcm, hcs, htk⟩
  · cases he
  · injection he with he1 he2 he3
    injection he1 with he1
    injection he1 with he1 he4
    subst he1 he3
    have hlt : j < cur.size := by rw [hcs]; omega
    have hc : w.cell? ⟨gb, j, none⟩ = some cur[j] := cell_blk hg (by simp [hlt])
    have hfz : w.frozen? ⟨gb, j, none⟩ = false := by simp [World.frozen?, hg]
    have hvc : v.cells = #[v] := by cases v <;> simp [Value.oneCell'] at hv <;> rfl
    have hrun : (Instr.storeAt T (.pointer (some ⟨gb, j, none⟩)) v).run P w = .ok () (w.setCell ⟨gb, j, none⟩ v) := by
      simp only [Instr.storeAt, Instr.sureAddr, Sem.run_bind, Sem.run_pure, Result.andThen_ok, storeVar, hvc, run_sizeOf hz]
      have ha : Addr.add ⟨gb, j, none⟩ 0 = ⟨gb, j, none⟩ := rfl
      cases v <;> simp [Value.oneCell'] at hv <;> simp [storeCells, store, ha, Sem.run, hc, hfz]
    unfold Oper.wp
    rw [E_eval]
    simp only [execOp, hx, hy, Sem.run_bind, hrun, Result.andThen_ok, Sem.run_pure, Oper.upon]
    have hown : ∀ k, (Ch.sl e 1 (.slice (some ⟨gb, 0, none⟩) m cap) m xs).own k ↔ k = gb := fun k => by simp [Ch.sl, Ch.own, Value.ownBlock, eq_comm]
    have hsz : (w.setCell ⟨gb, j, none⟩ v).heap.size = w.heap.size := by simp [World.setCell]
    have hfar : ∀ k, k ≠ gb → (w.setCell ⟨gb, j, none⟩ v).heap[k]? = w.heap[k]? := fun k hk => Below.heap_setCell _ _ _ _ hk
    have hnew : (w.setCell ⟨gb, j, none⟩ v).heap[gb]? = some (.cells (cur.setIfInBounds j v) e) := by simp [World.setCell, Array.getElem?_modify, hg]
    refine h _ ⟨hS.os, hS.tape, hS.output, by rw [hsz]; exact hS.size, fun k hk hD => (hfar k ?_).trans (hS.keep k hk hD), ?_⟩
    · rintro rfl
      rcases (hc0.2 k ((hown k).2 rfl)).1 with h1 | h1
      · exact hD h1
      · omega
    · refine hS.sat.put (by rw [hsz]; exact Nat.le_refl _) hi (fun k hn _ => hfar k fun e => hn ((hown k).2 e)) ?_ fun k hk => ⟨.inl hk, by rw [hsz]; exact (hc0.2 k hk).2⟩
      refine ⟨by simpa using ho.1, .inr ⟨gb, cap, cur.setIfInBounds j v, rfl, hb0, hnew, hle, hcm, by simpa using hcs, ?_⟩⟩
      rw [← htk]
      simp [List.take_set]
end
end Go.Proofs.YtdlmcgflgdmjgaaDoor
