/- More rules: three results; loads from what is read alone. Over any program. -/
import Derived.Test.YtdlmcgflgdmjgaaDoorSx
import Derived.OwnWalk
set_option linter.unusedVariables false
set_option linter.unusedSimpArgs false
namespace Go.Proofs.YtdlmcgflgdmjgaaDoor
open Go Go.RowKit
theorem rows_set1 {α : Type} {c : α → List Value} {l : List α} {i : Nat} {r : α} {v : Value} (hc : ∀ r, (c r).length = 1) (hr : c r = [v]) : (List.flatMap c l).set (i * 1) v = List.flatMap c (l.set i r) := by
  rw [Nat.mul_one]
  induction l generalizing i with
  | nil => rfl
  | cons a l ih =>
    obtain ⟨u, hu⟩ : ∃ u, c a = [u] := List.length_eq_one_iff.1 (hc a)
    cases i with
    | zero => simp [List.flatMap_cons, hu, hr]
    | succ i => simp [List.flatMap_cons, hu, ih]
theorem at_mid {α : Type} {A B : List α} {x : α} {i : Nat} (h : A.length = i) : (A ++ x :: B)[i]? = some x := by
  rw [List.getElem?_append_right (by omega), h, Nat.sub_self]; rfl
theorem set_mid {α : Type} {A B : List α} {x y : α} {i : Nat} (h : A.length = i) : (A ++ x :: B).set i y = A ++ y :: B := by
  subst h
  induction A with
  | nil => rfl
  | cons a A ih => simp [ih]
section
variable {P : Program} {n : Nat} {f : Nat → Value} {w : World}
theorem c_retCT {fn : Func} {R : Ending → World → Prop} {t u : Tmp} {T : TypeId} {m b : Nat} {arr : Array Value} {v : Value} {T2 : TypeId} {fz : Nat × Nat} (hr : fn.results = #[.cell t T, .tmp u]) (ht : aggB P T = true) (hz : szB P T = some m) (hv : ev n f (.tmp t) = .pointer (some ⟨b, 0, none⟩)) (hb : w.heap[b]? = some (.cells arr T2 fz)) (hm : Nat.beq arr.size m = true) (hu : ev n f (.tmp u) = v)
    (h : R (.returned (.tuple #[.agg arr, v])) w) : bodyPost P fn R .ret (E n f) w := by
  have hm' : arr.size = m := Nat.eq_of_beq_eq_true hm
  refine ⟨rfl, .tuple #[.agg arr, v], ?_, h⟩
  have h1 : (E n f).tmps.getD t undef = .pointer (some ⟨b, 0, none⟩) := by rw [E_get]; exact hv
  have h4 : (E n f).tmps.getD u undef = v := by rw [E_get]; exact hu
  have h2 := run_loadCellsFrom (P := P) hb 0 m 0 #[] (by omega)
  have h3 : #[] ++ arr.extract (0 + 0) (0 + 0 + m) = arr := by subst hm'; simp
  rw [h3] at h2
  simp only [Array.getD_eq_getD_getElem?] at h1 h4
  simp [results, hr, h1, h4, asAddr, loadVar, run_isAggT ht, run_sizeOf hz, loadCells, h2, Sem.run]
theorem c_ret3 {fn : Func} {R : Ending → World → Prop} {t u x : Tmp} {v v' v'' : Value} (hr : fn.results = #[.tmp t, .tmp u, .tmp x]) (hv : ev n f (.tmp t) = v) (hu : ev n f (.tmp u) = v') (hx : ev n f (.tmp x) = v'') (h : R (.returned (.tuple #[v, v', v''])) w) : bodyPost P fn R .ret (E n f) w := by
  refine ⟨rfl, .tuple #[v, v', v''], ?_, h⟩
  rw [results_tmp3 hr, E_get, E_get, E_get]; subst hv hu hx; rfl
end
section
variable {P : Program} {ops : Array Oper} {Q : Exit → Act → World → Prop} {n : Nat} {f : Nat → Value} {w w0 : World} {D : Nat → Prop} {Γ : List Ch} {K : Act → World → Prop}
variable {d : Option Tmp} {dd : Nat} {x y : Operand} {ty T T' Tx : TypeId} {pos : String} {aft : Array Edge} {g : Option (Nat × Bool)}
/-- append onto an own slice with room: it stays where it is. -/
theorem e_appRoom {e size bytes i m cap l m' : Nat} {ad : Option Addr} {xs news xs' : List Value} {X : Value} (hB : appB P T e size bytes = true) (hS : St w0 D Γ w) (hx : ev n f x = .slice ad m cap) (hi : Γ[i]? = some (.ow e size ad m cap xs))
    (hy : ev n f y = X) (hs : Src P size Tx X l news w) (hroom : m + l ≤ cap) (hm' : m + l = m') (hx' : xs ++ news = xs')
    (h : ∀ w', St w0 D (Γ.set i (.ow e size ad m' cap xs')) w' → K (E n (up f dd (.slice ad m' cap))) w') :
    Oper.wp P ⟨some dd, .call ⟨.builtin .append, List.toArray [x, y], List.toArray [T, Tx]⟩, ty, pos, aft, g⟩ (E n f) w K Q := by
  subst hm' hx'
  obtain ⟨h1, h2, h3⟩ := hS.owLen hi
  obtain ⟨inf, zv, hu, hif, hs1, hs2, hzz, hz, hpos⟩ := appB_facts hB
  subst hs1 hs2
  have hnl := hs.newsLen
  have hlen : (xs ++ news).length = (m + l) * inf.size := by rw [List.length_append, h1, hnl, Nat.add_mul]
  obtain ⟨_, _, _, h4⟩ := (hS.sat.get hi).1
  rcases h4 with ⟨rfl, hc⟩ | ⟨gb, off, cur, rfl, hg, hle, hxx⟩
  · have hm0 : m = 0 := by omega
    have hl0 : l = 0 := by omega
    subst hm0 hl0 hc
    have hn0 : news = [] := List.eq_nil_of_length_eq_zero (by simpa using hnl)
    subst hn0
    have hr : (Builtin.append_ #[T, Tx] ty #[.slice Option.none 0 0, X]).run P w = .ok (.slice Option.none 0 0) w := by
      rcases hs.kind with ⟨e', hk⟩ | hk <;> simp [Builtin.append_, run_underlying hu, run_underlying hk, sizeOf, typeInfo, hif, hs.len, hs.cells]
    refine wp_known rfl (ex_append hx hy hr) (h _ ?_)
    refine hS.recast hi (fun _ hk => hk) fun hsat => ?_
    rw [List.append_nil]; exact hsat
  · have hmul : (m + l) * inf.size ≤ cap * inf.size := Nat.mul_le_mul_right _ hroom
    rw [Nat.add_mul] at hmul
    have hfit : off + m * inf.size + 0 + news.length ≤ cur.size := by rw [hnl]; omega
    have hst := run_storeCells_at P gb (off + m * inf.size) e news 0 cur w hg hfit hs.one
    simp only [Nat.add_zero] at hst hfit
    have hr : (Builtin.append_ #[T, Tx] ty #[.slice (some ⟨gb, off, Option.none⟩) m cap, X]).run P w = .ok (.slice (some ⟨gb, off, Option.none⟩) (m + l) cap) (w.setRow gb (cur.toList.take (off + m * inf.size) ++ news ++ cur.toList.drop (off + m * inf.size + news.length)).toArray) := by
      rcases hs.kind with ⟨e', hk⟩ | hk <;> simp [Builtin.append_, run_underlying hu, run_underlying hk, sizeOf, typeInfo, hif, hs.len, hroom, hs.cells, Addr.add_lit, hst]
    refine wp_known rfl (ex_append hx hy hr) (h _ ?_)
    refine hS.putAt (gb := gb) hi ⟨_, rfl, rfl⟩ (fun k hk => by obtain ⟨a0, h1, rfl⟩ := hk; injection h1 with h1; subst h1; rfl) rfl rfl rfl (by simp [World.setRow]) (fun k hk => by simp [World.setRow, Array.getElem?_modify, Ne.symm hk]) ⟨hlen, hroom, h3, .inr ⟨gb, off, _, rfl, setRow_heap w gb cur _ e _ hg, ?_, ?_⟩⟩
    · simp only [List.size_toArray, List.length_append, List.length_take, List.length_drop, Array.length_toList]; omega
    · have e1 : ((cur.toList.take (off + m * inf.size) ++ news ++ cur.toList.drop (off + m * inf.size + news.length)).drop off) = (cur.toList.drop off).take (m * inf.size) ++ news ++ cur.toList.drop (off + m * inf.size + news.length) := by
        rw [List.append_assoc, List.drop_append_of_le_length (by rw [List.length_take, Array.length_toList]; omega), List.drop_take, Nat.add_sub_cancel_left, List.append_assoc]
      simp only
      rw [e1, hxx, ← hlen, List.take_left' rfl]
/-- A type's zero value is cells. -/
def zoB (P : Program) (e : TypeId) : Bool := match P.info? e with
  | some i => (match i.zero with | some z => z.cells.toList.all (fun v => v.oneCell') | none => false)
  | none => false
theorem ex_clear {vx v : Value} {w' : World} (hx : ev n f x = vx) (hr : (Builtin.clear_ #[T] ty #[vx]).run P w = .ok v w') :
    (execOp (ev n f) ⟨none, .call ⟨.builtin .clear, List.toArray [x], List.toArray [T]⟩, ty, pos, aft, g⟩).run P w = .ok (.value v) w' := by
  simp only [execOp, resolve, invoke, builtin, Sem.run_bind, Sem.run_pure, Result.andThen_ok, List.map_toArray, List.map_cons, List.map_nil, hx, hr]
theorem wp_known0 {o : Oper} {v : Value} {w' : World} (hd : o.dst = none) (hr : (execOp (ev n f) o).run P w = .ok (.value v) w') (h : K (E n f) w') : o.wp P (E n f) w K Q := by
  unfold Oper.wp
  rw [E_eval, hr]
  simp only [Oper.upon, hd]; exact h
theorem zero_one {zv : Value} (hz : zv.cells.toList.all (fun v => v.oneCell') = true) (k : Nat) : ∀ v ∈ (Builtin.zeroCells zv.cells k).toList, v.oneCell' = true := by
  intro v hv
  simp only [Builtin.zeroCells, Array.toList_map, List.mem_map] at hv
  obtain ⟨i, hi, rfl⟩ := hv
  simp at hi
  have hs : 0 < zv.cells.size := Nat.pos_of_ne_zero fun h => by rw [h] at hi; simp at hi
  have hm : i % zv.cells.size < zv.cells.size := Nat.mod_lt _ hs
  rw [getElem!_pos zv.cells _ hm]
  exact List.all_eq_true.1 hz _ (Array.mem_toList_iff.2 (Array.getElem_mem hm))
/-- clear of an own slice's room behind its elements. -/
theorem e_clearX {e size bytes i m cap lo dl dc mx : Nat} {ad : Option Addr} {xs : List Value} (hB : appB P T e size bytes = true) (hZ : zoB P e = true) (hS : St w0 D Γ w) (hx : ev n f x = .slice (subS ad lo size mx) dl dc) (hi : Γ[i]? = some (.ow e size ad m cap xs))
    (hlo : m ≤ lo) (hmx : lo + dl ≤ mx) (hmc : mx ≤ cap) (h : ∀ w', St w0 D Γ w' → K (E n f) w') :
    Oper.wp P ⟨none, .call ⟨.builtin .clear, List.toArray [x], List.toArray [T]⟩, ty, pos, aft, g⟩ (E n f) w K Q := by
  obtain ⟨inf, zv, hu, hif, hs1, hs2, hzz, hz, hpos⟩ := appB_facts hB
  subst hs1 hs2
  have hZ' : zv.cells.toList.all (fun v => v.oneCell') = true := by simpa [zoB, hif, hzz] using hZ
  by_cases hd : dl = 0
  · subst hd
    have hr : (Builtin.clear_ #[T] ty #[.slice (subS ad lo inf.size mx) 0 dc]).run P w = .ok (.tuple #[]) w := by
      cases hq : subS ad lo inf.size mx <;> simp [Builtin.clear_, run_underlying hu]
    exact wp_known0 rfl (ex_clear hx hr) (h _ hS)
  · obtain ⟨k1, k2, k3, k4⟩ := (hS.sat.get hi).1
    rcases k4 with ⟨rfl, hc⟩ | ⟨gb, off, cur, rfl, hg, hle, hxx⟩
    · omega
    · have hsub : subS (some ⟨gb, off, none⟩) lo inf.size mx = some ⟨gb, off + lo * inf.size, none⟩ := by
        unfold subS; rw [if_neg (by omega)]; simp [addr_add]
      rw [hsub] at hx
      have hzl : (Builtin.zeroCells zv.cells dl).toList.length = dl * inf.size := by rw [Array.length_toList, zeroCells_size, hz]
      have hml : (lo + dl) * inf.size ≤ cap * inf.size := Nat.mul_le_mul_right _ (by omega)
      rw [Nat.add_mul] at hml
      have hmm : m * inf.size ≤ lo * inf.size := Nat.mul_le_mul_right _ hlo
      have hst := run_storeCells_at P gb (off + lo * inf.size) e (Builtin.zeroCells zv.cells dl).toList 0 cur w hg (by rw [hzl]; omega) (zero_one hZ' dl)
      simp only [Nat.add_zero] at hst
      obtain ⟨dl', rfl⟩ : ∃ q, dl = q + 1 := ⟨dl - 1, by omega⟩
      have hr : (Builtin.clear_ #[T] ty #[.slice (some ⟨gb, off + lo * inf.size, none⟩) (dl' + 1) dc]).run P w = .ok (.tuple #[]) (w.setRow gb (cur.toList.take (off + lo * inf.size) ++ (Builtin.zeroCells zv.cells (dl' + 1)).toList ++ cur.toList.drop (off + lo * inf.size + (Builtin.zeroCells zv.cells (dl' + 1)).toList.length)).toArray) := by
        simp [Builtin.clear_, run_underlying hu, zeroValue, typeInfo, hif, hzz]
        simp at hst
        rw [hst]
        rfl
      refine wp_known0 rfl (ex_clear hx hr) (h _ ?_)
      have key := hS.putAt (gb := gb) (c' := .ow e inf.size (some ⟨gb, off, none⟩) m cap xs) hi ⟨_, rfl, rfl⟩ (fun k hk => by obtain ⟨a0, h1, rfl⟩ := hk; injection h1 with h1; subst h1; rfl) (w' := w.setRow gb (cur.toList.take (off + lo * inf.size) ++ (Builtin.zeroCells zv.cells (dl' + 1)).toList ++ cur.toList.drop (off + lo * inf.size + (Builtin.zeroCells zv.cells (dl' + 1)).toList.length)).toArray) rfl rfl rfl (by simp [World.setRow]) (fun k hk => by simp [World.setRow, Array.getElem?_modify, Ne.symm hk])
        ⟨k1, k2, k3, .inr ⟨gb, off, _, rfl, setRow_heap w gb cur _ e _ hg, by simp only [List.size_toArray, List.length_append, List.length_take, List.length_drop, Array.length_toList, zeroCells_size]; omega, ?_⟩⟩
      · have hset : Γ.set i (Ch.ow e inf.size (some ⟨gb, off, none⟩) m cap xs) = Γ := by
          obtain ⟨hil, hie⟩ := List.getElem?_eq_some_iff.1 hi
          rw [← hie]; exact List.set_getElem_self hil
        rwa [hset] at key
      · simp only
        rw [List.append_assoc, List.drop_append_of_le_length (by rw [List.length_take, Array.length_toList]; omega), List.take_append_of_le_length (by rw [List.length_drop, List.length_take, Array.length_toList]; omega), List.drop_take, List.take_take, Nat.min_eq_left (by omega)]
        exact hxx
end
end Go.Proofs.YtdlmcgflgdmjgaaDoor
