/- Maps: a piece that is a map, its entries in whatever order; the rules of what reads and writes it. Over any program. -/
import Derived.Test.YtmemgpcgjephmaaGreatDoorSz
import Derived.MapKept
set_option linter.unusedVariables false
set_option linter.unusedSimpArgs false
namespace Go.Proofs.YtmemgpcgjephmaaGreatDoor
open Go Go.RowKit Go.MapKept
/-- Block b is a map whose entries are l's, in whatever order; its keys are of the kind d. -/
def MapSat (d : TypeDesc) (b : Nat) (l : List (Value × Value)) (w : World) : Prop :=
  ∃ es clk, w.heap[b]? = some (.map es clk) ∧ Stamped es clk ∧ (es.toList.map fun e => (e.key, e.val)).Perm l ∧ ∀ q ∈ l, IsKey d q.1
def Ch.mp (d : TypeDesc) (b : Nat) (l : List (Value × Value)) : Ch := .gen (fun k => k = b) (MapSat d b l) (fun w w' hk ⟨es, clk, h1, h2⟩ => ⟨es, clk, (hk b rfl).trans h1, h2⟩)
def HasKey (l : List (Value × Value)) (k : Value) : Prop := ∃ v, (k, v) ∈ l
/-- l' is l with v at k. -/
def MUp (l : List (Value × Value)) (k v : Value) (l' : List (Value × Value)) : Prop := ∃ r, (∀ q ∈ r, q.1 ≠ k) ∧ (l.Perm r ∨ ∃ v0, l.Perm ((k, v0) :: r)) ∧ l'.Perm ((k, v) :: r)
/-- l' is l without k. -/
def MDel (l : List (Value × Value)) (k : Value) (l' : List (Value × Value)) : Prop := (∀ q ∈ l', q.1 ≠ k) ∧ (l.Perm l' ∨ ∃ v0, l.Perm ((k, v0) :: l'))
section
variable {d : TypeDesc} {b : Nat} {l l' : List (Value × Value)} {w : World} {k v : Value}
theorem MapSat.perm (h : MapSat d b l w) (p : l.Perm l') : MapSat d b l' w := by
  obtain ⟨es, clk, h1, h2, h3, h4⟩ := h
  exact ⟨es, clk, h1, h2, h3.trans p, fun q hq => h4 q (p.mem_iff.2 hq)⟩
theorem keys_of {es : List MapEntry} (hp : (es.map fun e => (e.key, e.val)).Perm l) (hk : ∀ q ∈ l, IsKey d q.1) : ∀ x ∈ es, IsKey d x.key := fun x hx => hk (x.key, x.val) (hp.mem_iff.1 (List.mem_map.2 ⟨x, hx, rfl⟩))
theorem pw_of {es : List MapEntry} (hs : es.Pairwise (fun x y => x.key ≠ y.key)) (hp : (es.map fun e => (e.key, e.val)).Perm l) : l.Pairwise (fun x y => x.1 ≠ y.1) :=
  (hp.pairwise_iff (fun {a b} (h : a.1 ≠ b.1) => h.symm)).1 (by rw [List.pairwise_map]; exact hs)
theorem MapSat.apart (h : MapSat d b l w) : l.Pairwise (fun x y => x.1 ≠ y.1) := by
  obtain ⟨es, clk, h1, h2, h3, h4⟩ := h
  exact pw_of ((stamped_iff es clk).1 h2).2.2 h3
theorem St.map {w0 : World} {D : Nat → Prop} {Γ : List Ch} {i : Nat} (h : St w0 D Γ w) (hi : Γ[i]? = some (.mp d b l)) : MapSat d b l w := (h.sat.get hi).1
theorem MapSat.mono {w' : World} (h : MapSat d b l w) (hg : Gle (hw w) (hw w')) : MapSat d b l w' := by
  obtain ⟨es, clk, h1, h2⟩ := h
  exact ⟨es, clk, hg b _ h1, h2⟩
theorem St.mapApart {w0 : World} {D : Nat → Prop} {Γ : List Ch} {i : Nat} (h : St w0 D Γ w) (hi : Γ[i]? = some (.mp d b l)) : l.Pairwise (fun x y => x.1 ≠ y.1) := (show MapSat d b l w from (h.sat.get hi).1).apart
theorem St.mapPerm {w0 : World} {D : Nat → Prop} {Γ : List Ch} {i : Nat} (h : St w0 D Γ w) (hi : Γ[i]? = some (.mp d b l)) (p : l.Perm l') : St w0 D (Γ.set i (.mp d b l')) w :=
  h.recast hi (fun _ hk => hk) fun hs => MapSat.perm hs p
theorem pw_one {v0 v1 : Value} (hl : l.Pairwise (fun x y => x.1 ≠ y.1)) (h1 : (k, v0) ∈ l) (h2 : (k, v1) ∈ l) : v0 = v1 := by
  induction hl with
  | nil => cases h1
  | cons h _ ih =>
    cases h1 with
    | head =>
      cases h2 with
      | head => rfl
      | tail _ h2 => exact (h _ h2 rfl).elim
    | tail _ h1 =>
      cases h2 with
      | head => exact (h _ h1 rfl).elim
      | tail _ h2 => exact ih h1 h2
/-- The entry that is found. -/
theorem found {es : List MapEntry} {e : MapEntry} {j : Nat} (hs : es.Pairwise (fun x y => x.key ≠ y.key)) (hp : (es.map fun e => (e.key, e.val)).Perm l) (h2 : es[j]? = some e) (h3 : e.key = k) (hm : (k, v) ∈ l) : e.val = v := by
  have h1 : (k, e.val) ∈ l := hp.mem_iff.1 (List.mem_map.2 ⟨e, List.mem_of_getElem? h2, by rw [h3]⟩)
  exact pw_one (pw_of hs hp) h1 hm
end
section
variable {P : Program} {n : Nat} {f : Nat → Value} {w w0 : World} {D : Nat → Prop} {Γ : List Ch} {K : Act → World → Prop} {Q : Exit → Act → World → Prop}
variable {d : Option Tmp} {dd : Nat} {x y z : Operand} {ty T T' : TypeId} {pos : String} {aft : Array Edge} {g : Option (Nat × Bool)} {i b : Nat} {l l' : List (Value × Value)} {k v zv : Value} {kd : TypeDesc}
/-- The type is a map's, its keys of the kind kd; the elements' zero is zv. -/
def mapB (P : Program) (T : TypeId) : Option (TypeDesc × Value) := match P.underlying T with
  | some (.map kt et) => (match P.underlying kt, zeroB P et with | some dd, some zv => some (dd, zv) | _, _ => none)
  | _ => none
theorem mapB_facts (h : mapB P T = some (kd, zv)) : ∃ kt et, P.underlying T = some (.map kt et) ∧ P.underlying kt = some kd ∧ zeroB P et = some zv := by
  unfold mapB at h
  split at h
  · rename_i kt et hu
    split at h
    · rename_i d z h1 h2
      simp only [Option.some.injEq, Prod.mk.injEq] at h
      obtain ⟨rfl, rfl⟩ := h
      exact ⟨_, _, hu, h1, h2⟩
    · cases h
  · cases h
/-- make(map[..]..). -/
theorem e_makeMap (hS : St w0 D Γ w) (kd : TypeDesc) (h : ∀ b w', St w0 D (.mp kd b [] :: Γ) w' → K (E n (up f dd (.map (some b)))) w') : Oper.wp P ⟨some dd, .makeMap T none, ty, pos, aft, g⟩ (E n f) w K Q :=
  e_new hS rfl (by simp [execOp, Instr.makeMap, newObj, Sem.run]) (fun w' hw => h _ w' (St.recast (i := 0) (c := .blk w.heap.size (.map #[] 0)) hw rfl (fun _ hk => hk) fun hs => ⟨#[], 0, hs, stamped_empty 0, .nil, fun q hq => by cases hq⟩))
theorem q_lookHit {v : Value} (hx : ev n f x = .map (some b)) (hy : ev n f y = k) (ht : mapB P T = some (kd, zv)) (hk : IsKey kd k) (hM : MapSat kd b l w) (hm : (k, v) ∈ l) :
    Run P n f ⟨d, .lookup T x y true, ty, pos, aft, g⟩ w (.tuple #[v, .bool true]) := by
  obtain ⟨kt, et, h1, h2, h3⟩ := mapB_facts ht
  obtain ⟨es, clk, m1, m2, m3, m4⟩ := hM
  subst hy
  rcases findNow_spec hk es.toList 0 (keys_of m3 m4) with ⟨f1, f2⟩ | ⟨j, e, f1, f2, f3⟩
  · obtain ⟨e, he, hq⟩ := List.mem_map.1 (m3.mem_iff.2 hm)
    exact absurd (congrArg Prod.fst hq) (f2 e he)
  · have hv := found ((stamped_iff es clk).1 m2).2.2 m3 f2 f3 hm
    simp only [Run, execOp, hx, Instr.lookup, Sem.run_bind, run_underlying h1, MapKept.run_getObj_map m1, Result.andThen, Sem.run_pure, run_checkKey h2 hk _ 9999, run_findKey h2 f1, hv]; simp
theorem q_lookHit1 {v : Value} (hx : ev n f x = .map (some b)) (hy : ev n f y = k) (ht : mapB P T = some (kd, zv)) (hk : IsKey kd k) (hM : MapSat kd b l w) (hm : (k, v) ∈ l) :
    Run P n f ⟨d, .lookup T x y false, ty, pos, aft, g⟩ w v := by
  obtain ⟨kt, et, h1, h2, h3⟩ := mapB_facts ht
  obtain ⟨es, clk, m1, m2, m3, m4⟩ := hM
  subst hy
  rcases findNow_spec hk es.toList 0 (keys_of m3 m4) with ⟨f1, f2⟩ | ⟨j, e, f1, f2, f3⟩
  · obtain ⟨e, he, hq⟩ := List.mem_map.1 (m3.mem_iff.2 hm)
    exact absurd (congrArg Prod.fst hq) (f2 e he)
  · have hv := found ((stamped_iff es clk).1 m2).2.2 m3 f2 f3 hm
    simp only [Run, execOp, hx, Instr.lookup, Sem.run_bind, run_underlying h1, MapKept.run_getObj_map m1, Result.andThen, Sem.run_pure, run_checkKey h2 hk _ 9999, run_findKey h2 f1, hv]; simp
theorem q_lookMiss (hx : ev n f x = .map (some b)) (hy : ev n f y = k) (ht : mapB P T = some (kd, zv)) (hk : IsKey kd k) (hM : MapSat kd b l w) (hm : ∀ q ∈ l, q.1 ≠ k) :
    Run P n f ⟨d, .lookup T x y true, ty, pos, aft, g⟩ w (.tuple #[zv, .bool false]) := by
  obtain ⟨kt, et, h1, h2, h3⟩ := mapB_facts ht
  obtain ⟨es, clk, m1, m2, m3, m4⟩ := hM
  subst hy
  rcases findNow_spec hk es.toList 0 (keys_of m3 m4) with ⟨f1, f2⟩ | ⟨j, e, f1, f2, f3⟩
  · simp only [Run, execOp, hx, Instr.lookup, Sem.run_bind, run_underlying h1, MapKept.run_getObj_map m1, Result.andThen, Sem.run_pure, run_checkKey h2 hk _ 9999, run_findKey h2 f1, run_zero h3]; simp
  · exact absurd f3 (hm (e.key, e.val) (m3.mem_iff.1 (List.mem_map.2 ⟨e, List.mem_of_getElem? f2, rfl⟩)))
theorem q_lookMiss1 (hx : ev n f x = .map (some b)) (hy : ev n f y = k) (ht : mapB P T = some (kd, zv)) (hk : IsKey kd k) (hM : MapSat kd b l w) (hm : ∀ q ∈ l, q.1 ≠ k) :
    Run P n f ⟨d, .lookup T x y false, ty, pos, aft, g⟩ w zv := by
  obtain ⟨kt, et, h1, h2, h3⟩ := mapB_facts ht
  obtain ⟨es, clk, m1, m2, m3, m4⟩ := hM
  subst hy
  rcases findNow_spec hk es.toList 0 (keys_of m3 m4) with ⟨f1, f2⟩ | ⟨j, e, f1, f2, f3⟩
  · simp only [Run, execOp, hx, Instr.lookup, Sem.run_bind, run_underlying h1, MapKept.run_getObj_map m1, Result.andThen, Sem.run_pure, run_checkKey h2 hk _ 9999, run_findKey h2 f1, run_zero h3]; simp
  · exact absurd f3 (hm (e.key, e.val) (m3.mem_iff.1 (List.mem_map.2 ⟨e, List.mem_of_getElem? f2, rfl⟩)))
theorem q_lenMap (hx : ev n f x = .map (some b)) (ht : mapB P T = some (kd, zv)) (hM : MapSat kd b l w) {rest : List TypeId} :
    Run P n f ⟨d, .call ⟨.builtin .len, List.toArray [x], List.toArray (T :: rest)⟩, ty, pos, aft, g⟩ w (.int .i64 ((l.length : Nat) : Int)) := by
  obtain ⟨kt, et, h1, h2, h3⟩ := mapB_facts ht
  obtain ⟨es, clk, m1, m2, m3, m4⟩ := hM
  have hl : es.size = l.length := by rw [← m3.length_eq]; simp
  simp [Run, execOp, resolve, invoke, builtin, Builtin.len_, hx, run_underlying h1, MapKept.run_getObj_map m1, goInt, Sem.run, Result.andThen, hl]
theorem St.setMap {o : Obj} {w' : World} (hS : St w0 D Γ w) (hi : Γ[i]? = some (.mp kd b l)) (ho : w'.os = w.os) (ht : w'.tape = w.tape) (hu : w'.output = w.output) (hh : w'.heap = w.heap.setIfInBounds b o) (hs : MapSat kd b l' w') : St w0 D (Γ.set i (.mp kd b l')) w' := by
  have hg := hS.sat.get hi
  have hz : w'.heap.size = w.heap.size := by rw [hh]; simp
  have hk : ∀ k, k ≠ b → w'.heap[k]? = w.heap[k]? := fun k hk => by rw [hh]; simp [Ne.symm hk]
  have hb := (hg.2 b rfl)
  refine ⟨ho.trans hS.os, ht.trans hS.tape, hu.trans hS.output, by rw [hz]; exact hS.size, fun k hk' hD => ?_, hS.sat.put (by rw [hz]; exact Nat.le_refl _) hi (fun k hk' _ => hk k hk') hs fun k hk' => ⟨.inl hk', by rw [hz]; exact (hg.2 k hk').2⟩⟩
  have hne : k ≠ b := fun e => by
    subst e
    rcases hb.1 with h | h
    · exact hD h
    · omega
  rw [hk k hne]; exact hS.keep k hk' hD
theorem modify_mid {α : Type} (f : α → α) : ∀ (A : List α) (x : α) (B : List α), (A ++ x :: B).modify A.length f = A ++ f x :: B
  | [], x, B => rfl
  | a :: A, x, B => by
    have := modify_mid f A x B
    simpa using this
theorem perm_modify {es : Array MapEntry} {j : Nat} {e : MapEntry} (hj : es[j]? = some e) (h3 : e.key = k) {r : List (Value × Value)} {v0 : Value} (hs : es.toList.Pairwise (fun x y => x.key ≠ y.key)) (hp : (es.toList.map fun e => (e.key, e.val)).Perm ((k, v0) :: r)) :
    ((es.modify j fun e => { e with key := k, val := v }).toList.map fun e => (e.key, e.val)).Perm ((k, v) :: r) := by
  have hlt : j < es.size := (Array.getElem?_eq_some_iff.1 hj).1
  have he : es.toList = es.toList.take j ++ e :: es.toList.drop (j + 1) := by
    have := (List.take_append_drop j es.toList).symm
    rw [List.drop_eq_getElem_cons (by simpa using hlt)] at this
    have h5 : es.toList[j]'(by simpa using hlt) = e := by
      have := Array.getElem?_eq_some_iff.1 hj
      simpa using this.2
    rw [h5] at this; exact this
  have hm : (es.modify j fun e => { e with key := k, val := v }).toList = es.toList.take j ++ { e with key := k, val := v } :: es.toList.drop (j + 1) := by
    rw [Array.toList_modify]
    have h6 : (es.toList.take j).length = j := by rw [List.length_take]; simp; omega
    conv => lhs; rw [he]
    have h8 := modify_mid (fun e : MapEntry => { e with key := k, val := v }) (es.toList.take j) e (es.toList.drop (j + 1))
    rwa [h6] at h8
  have h7 : (k, e.val) ∈ (k, v0) :: r := hp.mem_iff.1 (List.mem_map.2 ⟨e, Array.mem_toList_iff.2 (Array.mem_of_getElem? hj), by rw [h3]⟩)
  have h8 : e.val = v0 := pw_one (pw_of hs hp) h7 (.head _)
  rw [hm]
  rw [he] at hp
  simp only [List.map_append, List.map_cons] at hp ⊢
  rw [h3, h8] at hp
  have h9 := (List.perm_middle.symm.trans hp).cons_inv
  exact List.perm_middle.trans (h9.cons _)
theorem perm_erase {es : Array MapEntry} {j : Nat} {e : MapEntry} (hj : es[j]? = some e) (h3 : e.key = k) {r : List (Value × Value)} {v0 : Value} (hs : es.toList.Pairwise (fun x y => x.key ≠ y.key)) (hp : (es.toList.map fun e => (e.key, e.val)).Perm ((k, v0) :: r)) :
    ((es.eraseIdxIfInBounds j).toList.map fun e => (e.key, e.val)).Perm r := by
  have hlt : j < es.size := (Array.getElem?_eq_some_iff.1 hj).1
  have he : es.toList = es.toList.take j ++ e :: es.toList.drop (j + 1) := by
    have := (List.take_append_drop j es.toList).symm
    rw [List.drop_eq_getElem_cons (by simpa using hlt)] at this
    have h5 : es.toList[j]'(by simpa using hlt) = e := by
      have := Array.getElem?_eq_some_iff.1 hj
      simpa using this.2
    rw [h5] at this; exact this
  have hm : (es.eraseIdxIfInBounds j).toList = es.toList.take j ++ es.toList.drop (j + 1) := by
    unfold Array.eraseIdxIfInBounds
    rw [dif_pos hlt, Array.toList_eraseIdx, List.eraseIdx_eq_take_drop_succ]
  have h7 : (k, e.val) ∈ (k, v0) :: r := hp.mem_iff.1 (List.mem_map.2 ⟨e, Array.mem_toList_iff.2 (Array.mem_of_getElem? hj), by rw [h3]⟩)
  have h8 : e.val = v0 := pw_one (pw_of hs hp) h7 (.head _)
  rw [hm]
  rw [he] at hp
  simp only [List.map_append, List.map_cons] at hp ⊢
  rw [h3, h8] at hp
  exact (List.perm_middle.symm.trans hp).cons_inv
theorem no_key {es : List MapEntry} (h2 : ∀ x ∈ es, x.key ≠ k) (hp : (es.map fun e => (e.key, e.val)).Perm l) {r : List (Value × Value)} {v0 : Value} (h : l.Perm ((k, v0) :: r)) : False := by
  obtain ⟨e, he, hq⟩ := List.mem_map.1 ((hp.trans h).mem_iff.2 (.head _))
  exact h2 e he (congrArg Prod.fst hq)
/-- m[k] = v. -/
theorem e_mapUp (hS : St w0 D Γ w) (hx : ev n f x = .map (some b)) (hy : ev n f y = k) (hz : ev n f z = v) (ht : mapB P T = some (kd, zv)) (hk : IsKey kd k) (hi : Γ[i]? = some (.mp kd b l)) (hu : MUp l k v l')
    (h : ∀ w', St w0 D (Γ.set i (.mp kd b l')) w' → K (E n f) w') : Oper.wp P ⟨none, .mapUpdate T x y z, ty, pos, aft, g⟩ (E n f) w K Q := by
  obtain ⟨kt, et, h1, h2, h3⟩ := mapB_facts ht
  obtain ⟨es, clk, m1, m2, m3, m4⟩ := (hS.sat.get hi).1
  obtain ⟨r, r1, r2, r3⟩ := hu
  have hr : ∀ q ∈ r, q ∈ l := fun q hq => by
    rcases r2 with r2 | ⟨v0, r2⟩
    · exact r2.mem_iff.2 hq
    · exact r2.mem_iff.2 (.tail _ hq)
  have hl' : ∀ q ∈ l', IsKey kd q.1 := fun q hq => by
    cases r3.mem_iff.1 hq with
    | head => exact hk
    | tail _ hq => exact m4 q (hr q hq)
  subst hy hz
  unfold Oper.wp
  rw [E_eval]
  rcases findNow_spec hk es.toList 0 (keys_of m3 m4) with ⟨f1, f2⟩ | ⟨j, e, f1, f2, f3⟩
  · have hrun : (Instr.mapUpdate T (.map (some b)) (ev n f y) (ev n f z)).run P w = .ok () { w with heap := w.heap.setIfInBounds b (.map (es.push { key := ev n f y, val := ev n f z, born := clk }) (clk + 1)) } := by
      simp [Instr.mapUpdate, run_underlying h1, MapKept.run_getObj_map m1, run_checkKey h2 hk, run_findKey h2 f1, MapKept.run_setObj_map _ m1, Result.andThen]
    simp only [execOp, hx, Sem.run_bind, hrun, Result.andThen_ok, Sem.run_pure, Oper.upon]
    refine h _ (hS.setMap hi rfl rfl rfl rfl ⟨_, _, (heap_set m1).1, stamped_push m2 f2, ?_, hl'⟩)
    rcases r2 with r2 | ⟨v0, r2⟩
    · rw [Array.toList_push, List.map_append]
      exact (List.perm_append_comm.trans ((m3.trans r2).cons _)).trans r3.symm
    · exact (no_key f2 m3 r2).elim
  · have hj : es[j]? = some e := by simpa using f2
    have hrun : (Instr.mapUpdate T (.map (some b)) (ev n f y) (ev n f z)).run P w = .ok () { w with heap := w.heap.setIfInBounds b (.map (es.modify j fun e => { e with key := ev n f y, val := ev n f z }) clk) } := by
      simp [Instr.mapUpdate, run_underlying h1, MapKept.run_getObj_map m1, run_checkKey h2 hk, run_findKey h2 f1, hj, f3, run_keyThatStays hk, MapKept.run_setObj_map _ m1, Result.andThen]
    simp only [execOp, hx, Sem.run_bind, hrun, Result.andThen_ok, Sem.run_pure, Oper.upon]
    refine h _ (hS.setMap hi rfl rfl rfl rfl ⟨_, _, (heap_set m1).1, stamped_modify m2 _ _ (fun _ _ => rfl) (fun e' _ he' => by rw [hj] at he'; cases he'; exact f3.symm), ?_, hl'⟩)
    rcases r2 with r2 | ⟨v0, r2⟩
    · have : (e.key, e.val) ∈ r := (m3.trans r2).mem_iff.1 (List.mem_map.2 ⟨e, List.mem_of_getElem? f2, rfl⟩)
      exact absurd f3 (r1 _ this)
    · exact (perm_modify hj f3 ((stamped_iff es clk).1 m2).2.2 (m3.trans r2)).trans r3.symm
/-- delete(m, k). -/
theorem e_mapDel {kt' : TypeId} (hS : St w0 D Γ w) (hx : ev n f x = .map (some b)) (hy : ev n f y = k) (ht : mapB P T = some (kd, zv)) (hk : IsKey kd k) (hi : Γ[i]? = some (.mp kd b l)) (hu : MDel l k l')
    (h : ∀ w', St w0 D (Γ.set i (.mp kd b l')) w' → K (E n f) w') : Oper.wp P ⟨none, .call ⟨.builtin .delete, List.toArray [x, y], List.toArray [T, kt']⟩, ty, pos, aft, g⟩ (E n f) w K Q := by
  obtain ⟨kt, et, h1, h2, h3⟩ := mapB_facts ht
  obtain ⟨es, clk, m1, m2, m3, m4⟩ := (hS.sat.get hi).1
  obtain ⟨r1, r2⟩ := hu
  have hl' : ∀ q ∈ l', IsKey kd q.1 := fun q hq => by
    rcases r2 with r2 | ⟨v0, r2⟩
    · exact m4 q (r2.mem_iff.2 hq)
    · exact m4 q (r2.mem_iff.2 (.tail _ hq))
  subst hy
  unfold Oper.wp
  rw [E_eval]
  rcases findNow_spec hk es.toList 0 (keys_of m3 m4) with ⟨f1, f2⟩ | ⟨j, e, f1, f2, f3⟩
  · have hrun : (Builtin.delete_ #[T, kt'] ty #[.map (some b), ev n f y]).run P w = .ok (.tuple #[]) { w with heap := w.heap.setIfInBounds b (.map es clk) } := by
      simp [Builtin.delete_, run_underlying h1, MapKept.run_getObj_map m1, run_checkKey h2 hk, run_findKey h2 f1, MapKept.run_setObj_map _ m1, Result.andThen]
    simp only [execOp, resolve, invoke, builtin, Sem.run_bind, Sem.run_pure, Result.andThen_ok, List.map_toArray, List.map_cons, List.map_nil, hx, hrun, Oper.upon]
    refine h _ (hS.setMap hi rfl rfl rfl rfl ⟨_, _, (heap_set m1).1, m2, ?_, hl'⟩)
    rcases r2 with r2 | ⟨v0, r2⟩
    · exact m3.trans r2
    · exact (no_key f2 m3 r2).elim
  · have hj : es[j]? = some e := by simpa using f2
    have hrun : (Builtin.delete_ #[T, kt'] ty #[.map (some b), ev n f y]).run P w = .ok (.tuple #[]) { w with heap := w.heap.setIfInBounds b (.map (es.eraseIdxIfInBounds j) clk) } := by
      simp [Builtin.delete_, run_underlying h1, MapKept.run_getObj_map m1, run_checkKey h2 hk, run_findKey h2 f1, MapKept.run_setObj_map _ m1, Result.andThen]
    simp only [execOp, resolve, invoke, builtin, Sem.run_bind, Sem.run_pure, Result.andThen_ok, List.map_toArray, List.map_cons, List.map_nil, hx, hrun, Oper.upon]
    refine h _ (hS.setMap hi rfl rfl rfl rfl ⟨_, _, (heap_set m1).1, stamped_erase m2 _, ?_, hl'⟩)
    rcases r2 with r2 | ⟨v0, r2⟩
    · have : (e.key, e.val) ∈ l' := (m3.trans r2).mem_iff.1 (List.mem_map.2 ⟨e, List.mem_of_getElem? f2, rfl⟩)
      exact absurd f3 (r1 _ this)
    · exact perm_erase hj f3 ((stamped_iff es clk).1 m2).2.2 (m3.trans r2)
end
/-! ### over a list of the caller's -/
section
variable {κ α : Type} [DecidableEq κ] {c : κ × α → Value × Value} {L : List (κ × α)} {k : κ} {x : α}
def mset (L : List (κ × α)) (k : κ) (x : α) : List (κ × α) := (k, x) :: L.filter fun q => decide (q.1 ≠ k)
def mdel (L : List (κ × α)) (k : κ) : List (κ × α) := L.filter fun q => decide (q.1 ≠ k)
theorem split_key (hd : L.Pairwise fun a b => a.1 ≠ b.1) : (L.Perm (mdel L k)) ∨ ∃ x0, L.Perm ((k, x0) :: mdel L k) := by
  induction hd with
  | nil => exact .inl .nil
  | cons h hp ih =>
    rename_i a L
    by_cases ha : a.1 = k
    · refine .inr ⟨a.2, ?_⟩
      have h1 : mdel (a :: L) k = L := by
        unfold mdel
        rw [List.filter_cons_of_neg (by simpa using ha)]
        exact List.filter_eq_self.2 fun q hq => by simpa using fun e => h q hq (ha.trans e.symm)
      rw [h1, ← ha]
    · have h1 : mdel (a :: L) k = a :: mdel L k := by unfold mdel; rw [List.filter_cons_of_pos (by simpa using ha)]
      rw [h1]
      rcases ih with h2 | ⟨x0, h2⟩
      · exact .inl (h2.cons _)
      · exact .inr ⟨x0, (h2.cons _).trans (.swap _ _ _)⟩
theorem mdel_ne {q : κ × α} (h : q ∈ mdel L k) : q.1 ≠ k := by simpa using (List.mem_filter.1 h).2
omit [DecidableEq κ] in
theorem pw_map {l : List (Value × Value)} (hl : l.Pairwise (fun x y => x.1 ≠ y.1)) (he : L.map c = l) (hc : ∀ a b : κ × α, a.1 = b.1 → (c a).1 = (c b).1) : L.Pairwise fun a b => a.1 ≠ b.1 := by
  subst he
  rw [List.pairwise_map] at hl
  exact hl.imp fun h e => h (hc _ _ e)
/-- A key apart from another one lies apart. -/
def CInj (c : κ × α → Value × Value) (ok : κ → Prop) : Prop := ∀ a b : κ × α, ok a.1 → ok b.1 → (c a).1 = (c b).1 → a.1 = b.1
variable {ok : κ → Prop}
theorem MUp.of {L' : List (κ × α)} {kv v : Value} (hd : L.Pairwise fun a b => a.1 ≠ b.1) (hi : CInj c ok) (ho : ∀ q ∈ L, ok q.1) (hk : ok k) (hc : c (k, x) = (kv, v)) (hkv : ∀ y, (c (k, y)).1 = kv) (hL : L'.Perm (mset L k x)) : MUp (L.map c) kv v (L'.map c) := by
  refine ⟨(mdel L k).map c, ?_, ?_, ?_⟩
  · intro q hq
    obtain ⟨a, ha, rfl⟩ := List.mem_map.1 hq
    intro e
    have h1 : (c a).1 = (c (k, x)).1 := by rw [hc]; exact e
    exact mdel_ne ha (hi a (k, x) (ho a (List.mem_filter.1 ha).1) hk h1)
  · rcases split_key (k := k) hd with h | ⟨x0, h⟩
    · exact .inl (h.map c)
    · refine .inr ⟨(c (k, x0)).2, ?_⟩
      have := h.map c
      rw [List.map_cons] at this
      rw [← hkv x0]; exact this
  · have := hL.map c
    unfold mset at this
    rw [List.map_cons, hc] at this
    exact this
theorem MDel.of {L' : List (κ × α)} {kv : Value} (hd : L.Pairwise fun a b => a.1 ≠ b.1) (hi : CInj c ok) (ho : ∀ q ∈ L, ok q.1) (hk : ok k) (hkv : ∀ y, (c (k, y)).1 = kv) (hL : L'.Perm (mdel L k)) : MDel (L.map c) kv (L'.map c) := by
  refine ⟨?_, ?_⟩
  · intro q hq
    obtain ⟨a, ha, rfl⟩ := List.mem_map.1 hq
    have ha' := hL.mem_iff.1 ha
    intro e
    exact mdel_ne ha' (hi a (k, a.2) (ho a (List.mem_filter.1 ha').1) hk (by rw [hkv]; exact e))
  · rcases split_key (k := k) hd with h | ⟨x0, h⟩
    · exact .inl ((h.trans hL.symm).map c)
    · refine .inr ⟨(c (k, x0)).2, ?_⟩
      have := (h.trans (hL.symm.cons _)).map c
      rw [List.map_cons] at this
      rw [← hkv x0]; exact this
omit [DecidableEq κ] in
theorem look_hit {kv v : Value} (hm : (k, x) ∈ L) (hc : c (k, x) = (kv, v)) : (kv, v) ∈ L.map c := List.mem_map.2 ⟨_, hm, hc⟩
omit [DecidableEq κ] in
theorem look_miss {kv : Value} (hi : CInj c ok) (ho : ∀ q ∈ L, ok q.1) (hk : ok k) (hkv : ∀ y, (c (k, y)).1 = kv) (h : ∀ q ∈ L, q.1 ≠ k) : ∀ q ∈ L.map c, q.1 ≠ kv := by
  intro q hq e
  obtain ⟨a, ha, rfl⟩ := List.mem_map.1 hq
  exact h a ha (hi a (k, a.2) (ho a ha) hk (by rw [hkv]; exact e))
omit [DecidableEq κ] in
theorem key_or (L : List (κ × α)) (k : κ) : (∃ x, (k, x) ∈ L) ∨ ∀ q ∈ L, q.1 ≠ k := by
  by_cases h : ∃ x, (k, x) ∈ L
  · exact .inl h
  · exact .inr fun q hq e => h ⟨q.2, by rw [← e]; exact hq⟩
end
end Go.Proofs.YtmemgpcgjephmaaGreatDoor
