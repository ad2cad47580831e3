/- Ranges over a function, III: an iterator's own steps; code behind a loop. Over any program. -/
import Derived.Test.YtmemgpcgjephmaaGreatDoorSt
set_option linter.unusedVariables false
set_option linter.unusedSimpArgs false
namespace Go.Proofs.YtmemgpcgjephmaaGreatDoor
open Go Go.RowKit
section
variable {F : Fence} {P : Program} {N n : Nat} {f : Nat → Value} {w : World} {Q : Exit → Act → World → Prop} {ops : Array Oper} {rest : List Oper}
theorem li_q {o : Oper} {d : Nat} {v : Value} (hF : ∀ g, F.fn g) (hnd : ndB o = true) (hd : o.dst = some d) (hg : o.guard = none) (h : Run P n f o w v) (k : wpListIn F N P ops Q rest (E n (up f d v)) w) : wpListIn F N P ops Q (o :: rest) (E n f) w := by
  unfold wpListIn
  rw [if_pos (by simp [Region.wanted, hg])]
  refine ⟨fun _ _ => hF _, ?_⟩
  rw [Oper.semAt_plain F _ o (nd_of hnd), E_eval, h]
  simp only [Oper.uponIn, hd, E_put]
  exact k
theorem li_nil (h : Q .normal (E n f) w) : wpListIn F N P ops Q [] (E n f) w := h
theorem li_yield {x : Operand} {args : List Operand} {vs : List Value} {ts : Array TypeId} {l dd : Nat} {ty : TypeId} {pos : String} {aft : Array Edge} {R : Ending → World → Prop} (hF : ∀ g, F.fn g) (hdp : F.depth = none) (hx : ev n f x = .func (.yield l) #[] #[]) (ha : evl n f args = vs)
    (hY : YieldAt F (N - 1) P l vs.toArray w R) (hk : ∀ e w', R e w' → ∃ v, e = .returned v ∧ wpListIn F N P ops Q rest (E n (up f dd v)) w') :
    wpListIn F N P ops Q (⟨some dd, .call ⟨.value x, args.toArray, ts⟩, ty, pos, aft, none⟩ :: rest) (E n f) w := by
  unfold wpListIn
  rw [if_pos (by simp [Region.wanted])]
  refine ⟨fun _ _ => hF _, ?_⟩
  rw [Oper.semAt_plain F _ _ (fun c hc => by cases hc), E_eval]
  obtain ⟨fn, tmps, assign, body, hy, hR⟩ := hY
  have : (execOp (ev n f) ⟨some dd, .call ⟨.value x, args.toArray, ts⟩, ty, pos, aft, none⟩).run P w = .ok (.round l fn tmps assign body) w := by
    subst ha
    have he : (#[] : Array Value) ++ (args.toArray.map (ev n f)) ++ #[] = (evl n f args).toArray := by simp [evl_eq]
    simp only [Array.empty_append, Array.append_empty] at he
    simp [execOp, resolve, hx, Deferred.ofValue, invoke, evl_eq] at hy ⊢
    exact hy
  rw [this]
  refine ⟨(fun h => by rw [hdp] at h; cases h), hR.mono ?_⟩
  intro e w' hr
  obtain ⟨v, rfl, h⟩ := hk e w' hr
  show wpListIn F N P ops Q rest ((E n f).put (some dd) v) w'
  rw [E_put]; exact h
end
/-! ### a function with a loop over an iterator: its entry; the code behind the loop, where the loop's mark stands among the deferred calls; its returns -/
def Em (n : Nat) (f : Nat → Value) (ds : List Deferred) : Act := { E n f with defers := ds }
section
variable {P : Program} {N n : Nat} {f : Nat → Value} {w : World} {Q : Exit → Act → World → Prop} {ops : Array Oper} {rest : List Oper} {ds : List Deferred}
theorem c_enterM {fid : FuncId} {fn : Func} {c : Code} {args : List Value} {m : Nat} {R : Ending → World → Prop} (hf : P.funcs[fid]? = some fn) (hb : fn.body = some c) (hn : fn.ntmps = m) (hl : Nat.ble args.length m = true)
    (h : c.wp P (bodyPostM Fence.wide N P fn R) (E m (argsF args)) w) : Calls P fid args.toArray w R := by
  refine callsIn_wide.1 (callsIn_of_wp_marks (n := N) hf hb trivial (wpIn_wide.2 ?_))
  subst hn
  rw [enter_E args fn.ntmps (Nat.le_of_ble_eq_true hl)]
  exact h
theorem c_ret1M {fn : Func} {R : Ending → World → Prop} {t : Tmp} {v : Value} (hr : fn.results = #[.tmp t]) (hv : ev n f (.tmp t) = v) (h : R (.returned v) w) : bodyPostM Fence.wide N P fn R .ret (E n f) w := by
  refine ⟨v, ?_, h⟩
  rw [results_tmp hr, E_get]; exact congrArg (fun v => Result.ok v w) hv
theorem c_ret1K {fn : Func} {R : Ending → World → Prop} {t : Tmp} {v : Value} {b : Nat} (hr : fn.results = #[.tmp t]) (hv : ev n f (.tmp t) = v) (hd : w.heap[b]? = some (.deferred (some []))) (h : R (.returned v) (w.putObj b (.deferred none))) :
    bodyPostM Fence.wide N P fn R .ret (Em n f [{ target := .collected b, args := #[] }]) w := by
  refine ⟨by simp, .inl ⟨b, _, rfl, run_takeDeferred hd, v, ?_, h⟩⟩
  show (results fn (E n f).tmps).run P _ = _
  rw [results_tmp hr, E_get]; exact congrArg (fun v => Result.ok v _) hv
theorem Em_put {d : Nat} {v : Value} : (Em n f ds).put (some d) v = Em n (up f d v) ds := by
  have h := E_put n f d v
  unfold Act.put at h ⊢
  unfold Em
  have h2 := congrArg Act.tmps h
  simp only at h2 ⊢
  rw [h2]
theorem lm_q {o : Oper} {d : Nat} {v : Value} (hd : o.dst = some d) (hg : o.guard = none) (h : Run P n f o w v) (k : wpList P ops Q rest (Em n (up f d v) ds) w) : wpList P ops Q (o :: rest) (Em n f ds) w := by
  refine wpList_plain hg fun K hK => ?_
  unfold Oper.wp
  rw [show (Em n f ds).eval = ev n f from E_eval n f, h]
  simp only [Oper.upon, hd, Em_put]
  exact hK _ _ k
theorem lm_nil (h : Q .normal (Em n f ds) w) : wpList P ops Q [] (Em n f ds) w := h
end
end Go.Proofs.YtmemgpcgjephmaaGreatDoor
