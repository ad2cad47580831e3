/- The rules of the small logic for what makes or writes memory, for calls, and for regions that draw their order. Over any program. -/
import Derived.Test.YtdlmcgflgdmjgaaDoorSr
import Derived.LoopN
set_option linter.unusedVariables false
set_option linter.unusedSimpArgs false
namespace Go.Proofs.YtdlmcgflgdmjgaaDoor
open Go.RowKit

section
variable {P : Program} {ops : Array Oper} {Q : Exit → Act → World → Prop} {n : Nat} {f : Nat → Value} {w w0 : World} {D : Nat → Prop} {Γ : List Ch} {K : Act → World → Prop}
variable {d : Option Tmp} {dd : Nat} {x y z : Operand} {ty T T' : TypeId} {pos : String} {aft : Array Edge} {g : Option (Nat × Bool)}

/-! ### pieces and cells -/
theorem St.blk {b : Nat} {o : Obj} {i : Nat} (h : St w0 D Γ w) (hi : Γ[i]? = some (.blk b o)) : w.heap[b]? = some o := (h.sat.get hi).1
theorem St.cell {b off : Nat} {arr : Array Value} {T : TypeId} {fz : Nat × Nat} {v : Value} {i : Nat} (h : St w0 D Γ w) (hi : Γ[i]? = some (.blk b (.cells arr T fz))) (hv : arr[off]? = some v) : w.cell? ⟨b, off, none⟩ = some v :=
  cell_blk (h.blk hi) hv
/-- A row of the call's own, of unknown room. -/
def Ch.sl (e : TypeId) (size : Nat) (v : Value) (m : Nat) (xs : List Value) : Ch :=
  .gen (fun k => v.ownBlock = some k) (fun w => w.ownsRow 0 e size v m xs) (fun w w' hk h => by
    refine ⟨h.1, h.2.imp id ?_⟩
    rintro ⟨gb, cap, cur, rfl, h1, h2, r⟩
    exact ⟨gb, cap, cur, rfl, h1, (hk gb rfl).trans h2, r⟩)
theorem St.sl {e : TypeId} {size m i : Nat} {v : Value} {xs : List Value} (h : St w0 D Γ w) (hi : Γ[i]? = some (.sl e size v m xs)) : w.ownsRow 0 e size v m xs := (h.sat.get hi).1
theorem St.sl_nil {e : TypeId} {size : Nat} (h : St w0 D Γ w) : St w0 D (.sl e size (.slice none 0 0) 0 [] :: Γ) w :=
  ⟨h.os, h.tape, h.output, h.size, h.keep, World.ownsRow_nil w 0 e size, fun k hk => by simp [Ch.sl, Ch.own, Value.ownBlock] at hk, fun c _ k hk => by simp [Ch.sl, Ch.own, Value.ownBlock] at hk, h.sat⟩
/-- A whole block as a row. -/
theorem St.sl_blk {e : TypeId} {size m b : Nat} {arr : Array Value} (h : St w0 D (.blk b (.cells arr e) :: Γ) w) (hz : arr.size = m * size) (hm : m ≤ maxLen) : St w0 D (.sl e size (.slice (some ⟨b, 0, none⟩) m m) m arr.toList :: Γ) w := by
  obtain ⟨h1, h2, h3, h4⟩ := h.sat
  have hown : ∀ k, (Ch.sl e size (.slice (some ⟨b, 0, none⟩) m m) m arr.toList).own k → k = b := fun k hk => by simpa [Ch.sl, Ch.own, Value.ownBlock, eq_comm] using hk
  refine ⟨h.os, h.tape, h.output, h.size, h.keep, ⟨by simpa using hz, .inr ⟨b, m, arr, rfl, Nat.zero_le _, h1, Nat.le_refl _, hm, hz, ?_⟩⟩, fun k hk => h2 k (hown k hk), fun c hc k hk => h3 c hc k (hown k hk), h4⟩
  rw [← hz, ← Array.length_toList, List.take_length]
/-- A whole block of the pieces as a row. -/
theorem St.sl_at {e : TypeId} {size m b i : Nat} {arr : Array Value} (h : St w0 D Γ w) (hi : Γ[i]? = some (.blk b (.cells arr e))) (hz : arr.size = m * size) (hm : m ≤ maxLen) : St w0 D (Γ.set i (.sl e size (.slice (some ⟨b, 0, none⟩) m m) m arr.toList)) w := by
  have hown : ∀ k, (Ch.sl e size (.slice (some ⟨b, 0, none⟩) m m) m arr.toList).own k → k = b := fun k hk => by simpa [Ch.sl, Ch.own, Value.ownBlock, eq_comm] using hk
  refine ⟨h.os, h.tape, h.output, h.size, h.keep, h.sat.put (Nat.le_refl _) hi (fun _ _ _ => rfl) ⟨by simpa using hz, .inr ⟨b, m, arr, rfl, Nat.zero_le _, h.blk hi, Nat.le_refl _, hm, hz, ?_⟩⟩ fun k hk => ⟨.inl (hown k hk), ((h.sat.get hi).2 k (hown k hk)).2⟩⟩
  rw [← hz, ← Array.length_toList, List.take_length]
/-- One piece is seen otherwise. -/
theorem St.recast {i : Nat} {c c' : Ch} (h : St w0 D Γ w) (hi : Γ[i]? = some c) (ho : ∀ k, c'.own k → c.own k) (hs : c.sat w → c'.sat w) : St w0 D (Γ.set i c') w :=
  ⟨h.os, h.tape, h.output, h.size, h.keep, h.sat.put (Nat.le_refl _) hi (fun _ _ _ => rfl) (hs (h.sat.get hi).1) fun k hk => ⟨.inl (ho k hk), ((h.sat.get hi).2 k (ho k hk)).2⟩⟩
/-- Two pieces are seen as one. -/
theorem St.join {c d c' : Ch} (h : St w0 D (c :: d :: Γ) w) (ho : ∀ k, c'.own k → c.own k ∨ d.own k) (hs : c.sat w → d.sat w → c'.sat w) : St w0 D (c' :: Γ) w := by
  obtain ⟨h1, h2, h3, k1, k2, k3, k4⟩ := h.sat
  refine ⟨h.os, h.tape, h.output, h.size, h.keep, hs h1 k1, fun k hk => (ho k hk).elim (h2 k) (k2 k), fun e he k hk => (ho k hk).elim (h3 e (.tail _ he) k) (k3 e he k), k4⟩
theorem own_some {e : TypeId} {size m : Nat} {v : Value} {xs : List Value} (h : w.ownsRow 0 e size v m xs) (hm : 0 < m) : ∃ gb cap, v = .slice (some ⟨gb, 0, none⟩) m cap := by
  rcases h.2 with ⟨rfl, h0⟩ | ⟨gb, cap, cur, rfl, _⟩
  · omega
  · exact ⟨gb, cap, rfl⟩
theorem own_slice {e : TypeId} {size m : Nat} {v : Value} {xs : List Value} (h : w.ownsRow 0 e size v m xs) : ∃ ad cap, v = .slice ad m cap := by
  rcases h.2 with ⟨rfl, h0⟩ | ⟨gb, cap, cur, rfl, _⟩
  · exact ⟨none, 0, by rw [h0]⟩
  · exact ⟨_, cap, rfl⟩
theorem own_cell {e : TypeId} {size m gb cap j : Nat} {xs : List Value} {u : Value} (h : w.ownsRow 0 e size (.slice (some ⟨gb, 0, none⟩) m cap) m xs) (hu : xs[j]? = some u) : w.cell? ⟨gb, j, none⟩ = some u := by
  have := h.cells (g := gb) rfl j u hu
  have hadd : (⟨gb, 0, none⟩ : Addr).add j = ⟨gb, j, none⟩ := by unfold Addr.add; split <;> simp_all
  rwa [hadd] at this
theorem own_cellI {e : TypeId} {m gb cap : Nat} {i : Int} {xs : List Value} {u : Value} (h : w.ownsRow 0 e 1 (.slice (some ⟨gb, 0, none⟩) m cap) m xs) (hu : xs[i.toNat]? = some u) : w.cell? ⟨gb, 0 + i.toNat * 1, none⟩ = some u := by
  rw [Nat.zero_add, Nat.mul_one]; exact own_cell h hu
theorem sl_one {e : TypeId} {size m : Nat} {v : Value} {xs : List Value} (h : w.ownsRow 0 e size v m xs) : v.oneCell' = true := by
  rcases h.2 with ⟨rfl, _⟩ | ⟨gb, cap, cur, rfl, _⟩ <;> rfl
theorem St.own0 {D : Nat → Prop} {Γ F : List Ch} (h : St w0 D (Γ ++ F) w) (hz : ¬ D 0) (hp : 0 < w0.heap.size) : ¬ owns Γ 0 := by
  rintro ⟨c, hc, hk⟩
  rcases ((h.sat.mem c (List.mem_append_left _ hc)).2 0 hk).1 with h1 | h1
  · exact hz h1
  · omega
theorem St.new0 {D : Nat → Prop} {Γ : List Ch} {b i : Nat} {o : Obj} (h : St w0 D Γ w) (hi : Γ[i]? = some (.blk b o)) (hz : ¬ D 0) (hp : 0 < w0.heap.size) : b ≠ 0 := by
  rintro rfl
  rcases ((h.sat.get hi).2 0 rfl).1 with h1 | h1
  · exact hz h1
  · omega
/-- What a slice value reads as: cells, one behind the other. -/
def Reads (w : World) (ad : Option Addr) (cs : List Value) : Prop := cs = [] ∨ ∃ b off, ad = some ⟨b, off, none⟩ ∧ ∀ j u, cs[j]? = some u → w.cell? ⟨b, off + j, none⟩ = some u
theorem reads_blk {b : Nat} {arr : Array Value} {fz : Nat × Nat} (h : w.heap[b]? = some (.cells arr T fz)) : Reads w (some ⟨b, 0, none⟩) arr.toList :=
  .inr ⟨b, 0, rfl, fun j u hu => by rw [Nat.zero_add]; exact cell_blk h (by simpa using hu)⟩
theorem reads_owned {e : TypeId} {size m len cap : Nat} {ad : Option Addr} {xs : List Value} (h : w.ownsRow 0 e size (.slice ad len cap) m xs) : Reads w ad xs := by
  rcases h.2 with ⟨h1, h2⟩ | ⟨gb, cap', cur, h1, _⟩
  · have := h.1; rw [h2] at this; exact .inl (List.eq_nil_of_length_eq_zero (by simpa using this))
  · injection h1 with h1 h2 h3
    subst h1
    refine .inr ⟨gb, 0, rfl, fun j u hu => ?_⟩
    have := h.cells (g := gb) rfl j u hu
    have hadd : (⟨gb, 0, none⟩ : Addr).add j = ⟨gb, 0 + j, none⟩ := by unfold Addr.add; split <;> simp_all
    rwa [hadd] at this

/-! ### what makes memory -/
theorem e_new {v : Value} {o : Oper} {ob : Obj} (hS : St w0 D Γ w) (hd : o.dst = some dd) (hr : (execOp (ev n f) o).run P w = .ok (.value v) (w.alloc ob)) (h : ∀ w', St w0 D (.blk w.heap.size ob :: Γ) w' → K (E n (up f dd v)) w') : o.wp P (E n f) w K Q := by
  unfold Oper.wp
  rw [E_eval, hr]
  simp only [Oper.upon, hd, E_put]
  exact h _ (hS.alloc ob)
theorem e_alloc {zv : Value} (hS : St w0 D Γ w) (hz : zeroB P T = some zv) (h : ∀ b w', St w0 D (.blk b (.cells zv.cells T) :: Γ) w' → K (E n (up f dd (.pointer (some ⟨b, 0, none⟩)))) w') : Oper.wp P ⟨some dd, .alloc T, ty, pos, aft, g⟩ (E n f) w K Q :=
  e_new hS rfl (by simp [execOp, Instr.alloc, run_zero hz, newVar, newRow, newObj, Sem.run]) (fun w' hw => h _ w' hw)
theorem e_box {v : Value} (hS : St w0 D Γ w) (hx : ev n f x = v) (h : ∀ b w', St w0 D (.blk b (.cells v.cells T) :: Γ) w' → K (E n (up f dd (.pointer (some ⟨b, 0, none⟩)))) w') : Oper.wp P ⟨some dd, .box T x, ty, pos, aft, g⟩ (E n f) w K Q :=
  e_new hS rfl (by subst hx; simp [execOp, Instr.box, newVar, newRow, newObj, Sem.run]) (fun w' hw => h _ w' hw)
theorem e_boxA {cs : List Value} (hS : St w0 D Γ w) (hx : ev n f x = .agg cs.toArray) (h : ∀ b w', St w0 D (.blk b (.cells cs.toArray T) :: Γ) w' → K (E n (up f dd (.pointer (some ⟨b, 0, none⟩)))) w') : Oper.wp P ⟨some dd, .box T x, ty, pos, aft, g⟩ (E n f) w K Q :=
  e_box hS hx h
/-- One cell is written. -/
theorem e_store1 {v : Value} {b off i : Nat} {arr : Array Value} {T2 : TypeId} (hS : St w0 D Γ w) (hx : ev n f x = .pointer (some ⟨b, off, none⟩)) (hy : ev n f y = v) (hz : szB P T = some 1) (hv : v.oneCell' = true) (hi : Γ[i]? = some (.blk b (.cells arr T2))) (ho : Nat.blt off arr.size = true)
    (h : ∀ w', St w0 D (Γ.set i (.blk b (.cells (arr.setIfInBounds off v) T2))) w' → K (E n f) w') : Oper.wp P ⟨none, .store T x y, ty, pos, aft, g⟩ (E n f) w K Q := by
  have hb := hS.blk hi
  have hlt : off < arr.size := by rw [blt_iff] at ho; simpa using ho
  have hc : w.cell? ⟨b, off, none⟩ = some arr[off] := cell_blk hb (by simp [hlt])
  have hfz : w.frozen? ⟨b, off, none⟩ = false := by simp [World.frozen?, hb]
  have hvc : v.cells = #[v] := by cases v <;> simp [Value.oneCell'] at hv <;> rfl
  have hrun : (Instr.storeAt T (.pointer (some ⟨b, off, none⟩)) v).run P w = .ok () (w.setCell ⟨b, off, none⟩ v) := by
    simp only [Instr.storeAt, Instr.sureAddr, Sem.run_bind, Sem.run_pure, Result.andThen_ok, storeVar, hvc, run_sizeOf hz]
    have ha : Addr.add ⟨b, off, none⟩ 0 = ⟨b, off, none⟩ := rfl
    cases v <;> simp [Value.oneCell'] at hv <;> simp [storeCells, store, ha, Sem.run, hc, hfz]
  unfold Oper.wp
  rw [E_eval]
  simp only [execOp, hx, hy, Sem.run_bind, hrun, Result.andThen_ok, Sem.run_pure, Oper.upon]
  refine h _ (hS.setBlk hi rfl rfl rfl (by simp [World.setCell]) ?_ fun k hk => Below.heap_setCell _ _ _ _ hk)
  simp [World.setCell, Array.getElem?_modify, hb]

def AllOne : List Value → Prop
  | [] => True
  | v :: l => v.oneCell' = true ∧ AllOne l
theorem AllOne.all : ∀ {l : List Value}, AllOne l → ∀ u ∈ l, u.oneCell' = true
  | v :: l, h, u, hu => by
    cases hu with
    | head => exact h.1
    | tail _ hu => exact AllOne.all h.2 u hu
/-- A whole block is written: a struct. -/
theorem e_storeA {b i : Nat} {arr : Array Value} {T2 : TypeId} {cs : List Value} (hS : St w0 D Γ w) (hx : ev n f x = .pointer (some ⟨b, 0, none⟩)) (hy : ev n f y = .agg cs.toArray) (hz : szB P T = some cs.length) (h1' : AllOne cs) (hi : Γ[i]? = some (.blk b (.cells arr T2))) (hl : Nat.beq arr.size cs.length = true)
    (h : ∀ w', St w0 D (Γ.set i (.blk b (.cells cs.toArray T2))) w' → K (E n f) w') : Oper.wp P ⟨none, .store T x y, ty, pos, aft, g⟩ (E n f) w K Q := by
  have h1 := h1'.all
  have hb := hS.blk hi
  have hl' : arr.size = cs.length := Nat.eq_of_beq_eq_true hl
  have hst := run_storeCells_at P b 0 T2 cs 0 arr w hb (by omega) h1
  have harr : (arr.toList.take (0 + 0) ++ cs ++ arr.toList.drop (0 + 0 + cs.length)) = cs := by
    have h1 : arr.toList.drop (0 + 0 + cs.length) = [] := List.drop_eq_nil_of_le (by simp; omega)
    rw [h1]; simp
  rw [harr] at hst
  have hrun : (Instr.storeAt T (.pointer (some ⟨b, 0, none⟩)) (.agg cs.toArray)).run P w = .ok () (w.setRow b cs.toArray) := by
    have hc : (Value.agg cs.toArray).cells = cs.toArray := rfl
    simp only [Instr.storeAt, Instr.sureAddr, Sem.run_bind, Sem.run_pure, Result.andThen_ok, storeVar, hc, run_sizeOf hz]
    rw [if_neg (by simp)]
    simpa using hst
  unfold Oper.wp
  rw [E_eval]
  simp only [execOp, hx, hy, Sem.run_bind, hrun, Result.andThen_ok, Sem.run_pure, Oper.upon]
  exact h _ (hS.setBlk hi rfl rfl rfl (by simp) (setRow_heap w b arr _ T2 _ hb) fun k hk => setRow_other w b k _ hk)

/-- Elements of one cell each. -/
theorem fill_ones : ∀ (l : List Value) (i : Nat) (pre : List Value), (∀ v ∈ l, v.oneCell' = true) → pre.length = i → ∀ (post : List Value), l.length = post.length →
    Instr.fill (fun i => some (i * 1, 1)) (pre ++ post).toArray ((l.zipIdx i).map fun q => (q.2, q.1)) = some (pre ++ l).toArray
  | [], i, pre, _, _, post, hl => by
    have : post = [] := List.eq_nil_of_length_eq_zero hl.symm
    simp [Instr.fill, this]
  | v :: l, i, pre, h1, hp, [], hl => by simp at hl
  | v :: l, i, pre, h1, hp, u :: post, hl => by
    have hvc : v.cells = #[v] := by have := h1 v (.head _); cases v <;> simp [Value.oneCell'] at this <;> rfl
    have ih := fill_ones l (i + 1) (pre ++ [v]) (fun u hu => h1 u (.tail _ hu)) (by simp [hp]) post (by simpa using hl)
    simp only [List.zipIdx_cons, List.map_cons, Instr.fill, hvc]
    rw [if_neg (by simp; omega)]
    have : (Array.foldl (fun cs x => Array.setIfInBounds cs (i * 1 + x.2) x.1) (pre ++ u :: post).toArray (Array.zipIdx #[v])) = (pre ++ [v] ++ post).toArray := by
      subst hp
      simp
    rw [this, ih]
    simp
theorem e_buildSlice1 {e : TypeId} {zv : Value} {xs : List Operand} {vs : List Value} {m : Nat} {parts : List (Nat × Operand)} (hS : St w0 D Γ w) (ht : slB P T = some e) (hz : szB P e = some 1) (hzv : zeroB P e = some zv) (hzc : zv.cells.size = 1)
    (hp : parts = (xs.zipIdx).map fun q => (q.2, q.1)) (hxs : evl n f xs = vs) (hm : vs.length = m) (h1 : ∀ v ∈ vs, v.oneCell' = true) (hle : Nat.ble m 16777216 = true)
    (h : ∀ b w', St w0 D (.blk b (.cells vs.toArray e) :: Γ) w' → K (E n (up f dd (.slice (some ⟨b, 0, none⟩) m m))) w') : Oper.wp P ⟨some dd, .buildSlice T m parts.toArray, ty, pos, aft, g⟩ (E n f) w K Q := by
  refine e_new hS rfl ?_ (fun w' hw => h _ w' hw)
  have hlen : m ≤ 16777216 := Nat.le_of_ble_eq_true hle
  have hfl : Instr.fill (fun i => some (i * 1, 1)) ((Array.range (m * 1)).map (zv.cells[· % zv.cells.size]!)) ((parts.map fun q => (q.1, ev n f q.2))) = some vs.toArray := by
    have hmap : (parts.map fun q => (q.1, ev n f q.2)) = (vs.zipIdx 0).map fun q => (q.2, q.1) := by
      rw [hp, ← hxs, evl_eq, List.zipIdx_map]; simp
    rw [hmap]
    have key : ∀ arr : Array Value, vs.length = arr.size → Instr.fill (fun i => some (i * 1, 1)) arr ((vs.zipIdx 0).map fun q => (q.2, q.1)) = some vs.toArray := fun arr ha => by
      have := fill_ones vs 0 [] h1 rfl arr.toList (by simpa using ha)
      simpa using this
    exact key _ (by simp [hm])
  have hmp : (parts.toArray.map fun (i, x) => (i, ev n f x)).toList = parts.map fun q => (q.1, ev n f q.2) := by simp
  simp only [execOp, Sem.run_bind, Instr.buildSlice, run_undSl ht, Result.andThen_ok, run_sizeOf hz]
  rw [if_neg (by omega)]
  by_cases hm0 : m * 1 = 0
  · have hv0 : vs = [] := List.eq_nil_of_length_eq_zero (by omega)
    subst hv0
    have hp0 : parts = [] := by
      rw [hp]; have : xs = [] := by cases xs with
        | nil => rfl
        | cons a l => simp [evl] at hxs
      simp [this]
    subst hp0
    simp at hm; subst hm
    simp [Instr.fill, newRow, newObj, Sem.run]
    have : (Array.map (fun x => (default : Value)) (Array.range 0)) = #[] := by simp
    rw [this]
  · rw [if_neg hm0]
    simp only [Sem.run_bind, run_zero hzv, Result.andThen_ok, Sem.run_pure, hmp, hfl]
    simp [newRow, newObj, Sem.run]

theorem setMany_full : ∀ (cs pre post : List Value), post.length = cs.length → setMany (pre ++ post) pre.length cs = pre ++ cs
  | [], pre, post, h => by
    have : post = [] := List.eq_nil_of_length_eq_zero (by simpa using h)
    simp [setMany, this]
  | v :: cs, pre, [], h => by simp at h
  | v :: cs, pre, u :: post, h => by
    have ih := setMany_full cs (pre ++ [v]) post (by simpa using h)
    simp only [setMany]
    have h1 : (pre ++ u :: post).set pre.length v = pre ++ [v] ++ post := by simp
    have h2 : pre.length + 1 = (pre ++ [v]).length := by simp
    rw [h1, h2, ih]; simp
/-- One element that is a struct. -/
theorem e_buildSliceA {e : TypeId} {zv : Value} {cs : List Value} {m : Nat} (hS : St w0 D Γ w) (ht : slB P T = some e) (hz : szB P e = some m) (hzv : zeroB P e = some zv) (hx : ev n f x = .agg cs.toArray) (hm : cs.length = m) (hpos : Nat.blt 0 m = true) (hle : Nat.ble m 16777216 = true)
    (h : ∀ b w', St w0 D (.blk b (.cells cs.toArray e) :: Γ) w' → K (E n (up f dd (.slice (some ⟨b, 0, none⟩) 1 1))) w') : Oper.wp P ⟨some dd, .buildSlice T 1 (List.toArray [(0, x)]), ty, pos, aft, g⟩ (E n f) w K Q := by
  refine e_new hS rfl ?_ (fun w' hw => h _ w' hw)
  have hlen : m ≤ 16777216 := Nat.le_of_ble_eq_true hle
  rw [blt_iff] at hpos
  have hpos' : 0 < m := by simpa using hpos
  have hfl : ∀ arr : Array Value, arr.size = m → Instr.fill (fun i => some (i * m, m)) arr [(0, .agg cs.toArray)] = some cs.toArray := fun arr ha => by
    have hc : (Value.agg cs.toArray).cells = cs.toArray := rfl
    simp only [Instr.fill, hc]
    rw [if_neg (by simp; omega)]
    have h4 := foldl_setMany cs arr.toList 0 0
    have h5 := setMany_full cs [] arr.toList (by simp; omega)
    simp only [List.nil_append, List.length_nil] at h5
    have h6 : Array.foldl (fun (cs : Array Value) x => Array.setIfInBounds cs (0 * m + x.2) x.1) arr cs.toArray.zipIdx = cs.toArray := by
      rw [← Array.foldl_toList, Array.toList_zipIdx, Nat.zero_mul]
      rw [h5] at h4
      simpa using h4
    rw [h6]
  simp only [execOp, Sem.run_bind, Instr.buildSlice, run_undSl ht, Result.andThen_ok, run_sizeOf hz]
  rw [if_neg (by omega), if_neg (by omega)]
  simp only [Sem.run_bind, run_zero hzv, Result.andThen_ok, Sem.run_pure, List.map_toArray, List.map_cons, List.map_nil, hx]
  rw [hfl _ (by simp)]
  simp [newRow, newObj, Sem.run]

/-! ### append onto a row of the call's own -/
theorem run_app (t ty e : TypeId) (i : TypeInfo) (zv : Value) (size bytes : Nat) (ht : P.underlying t = some (.slice e)) (hi : P.info? e = some i) (hz : i.zero = some zv) (hsize : i.size = size) (hby : i.bytes = bytes) (hzs : zv.cells.size = size) (hsz : 0 < size)
    (v : Value) (m : Nat) (xs : List Value) (hown : w.ownsRow 0 e size v m xs) (a : Addr) (l c : Nat) (news : List Value) (hl : news.length = l * size) (hnews : ∀ j u, news[j]? = some u → w.cell? (a.add j) = some u) (h1 : ∀ u ∈ news, u.oneCell' = true)
    (h63 : m + l ≤ maxLen) (hbytes : (m + l) * bytes ≤ 140737488355328) :
    ∃ v' w', (Builtin.append_ #[t, t] ty #[v, .slice (some a) l c]).run P w = .ok v' w' ∧ w'.ownsRow 0 e size v' (m + l) (xs ++ news) ∧ w.grownBy w' v.ownBlock ∧ (∀ k, v'.ownBlock = some k → v.ownBlock = some k ∨ w.heap.size ≤ k) := by
  obtain ⟨v', w', hr, hown', hg, hnil⟩ := run_append_own (P := P) w 0 t ty e i zv size bytes ht hi hz hsize hby hzs hsz v m xs hown a l c news hl hnews h1 h63 hbytes (Nat.zero_le _)
  refine ⟨v', w', hr, hown', hg, fun k hk => ?_⟩
  rcases hown.2 with ⟨rfl, rfl⟩ | ⟨gb, cap, cur, rfl, _, hgb, hnc, hcm, hcs, htake⟩
  · right
    obtain ⟨v2, w2, hr2, hown2, _, _⟩ := run_append_own (P := P) w w.heap.size t ty e i zv size bytes ht hi hz hsize hby hzs hsz (.slice none 0 0) 0 xs ⟨hown.1, .inl ⟨rfl, rfl⟩⟩ a l c news hl hnews h1 h63 hbytes (Nat.le_refl _)
    rw [hr] at hr2; injection hr2 with e1 e2; subst e1
    rcases hown2.2 with ⟨rfl, _⟩ | ⟨g2, c2, cur2, rfl, hge, _⟩
    · simp [Value.ownBlock] at hk
    · simp [Value.ownBlock] at hk; omega
  · by_cases hroom : m + l ≤ cap
    · left
      subst hsize
      have hfit : m * i.size + news.length ≤ cur.size := by rw [hl, hcs, ← Nat.add_mul]; exact Nat.mul_le_mul_right _ hroom
      have hr2 := run_append_room (P := P) w t ty e i ht hi gb m cap cur hgb a l c news hl hnews h1 hroom hfit
      rw [hr] at hr2; injection hr2 with e1 e2; subst e1
      simpa [Value.ownBlock] using hk
    · right
      subst hsize hby
      have holds : ∀ j u, xs[j]? = some u → w.cell? ((⟨gb, 0, none⟩ : Addr).add j) = some u := hown.cells (g := gb) rfl
      have hr2 := run_append_grow (P := P) w t ty e i zv ht hi hz ⟨gb, 0, none⟩ m cap xs hown.1 holds a l c news hl hnews (by omega) (by simp only [maxLen] at h63; omega) (growslice_fits (by omega) hbytes)
      rw [hr] at hr2; injection hr2 with e1 e2; subst e1
      simp [Value.ownBlock] at hk; omega
theorem run_app_nil (t ty e : TypeId) (i : TypeInfo) (ht : P.underlying t = some (.slice e)) (hi : P.info? e = some i) (ad : Option Addr) (m cap c : Nat) (hm : m ≤ cap) :
    (Builtin.append_ #[t, t] ty #[.slice ad m cap, .slice none 0 c]).run P w = .ok (.slice ad m cap) w := by
  cases ad <;> simp [Builtin.append_, run_underlying ht, sizeOf, typeInfo, program, hi, Builtin.lenOf, Builtin.firstCells, hm, storeCells, Sem.run]
/-- The element type of a slice: its size in cells, in bytes. -/
def appB (P : Program) (t : TypeId) (e size bytes : Nat) : Bool := match P.underlying t, P.info? e with
  | some (.slice e'), some i => e' == e && i.size == size && i.bytes == bytes && (match i.zero with | some z => z.cells.size == size | none => false) && Nat.blt 0 size
  | _, _ => false
theorem e_append {e size bytes i m l c : Nat} {v : Value} {xs news : List Value} {ad : Option Addr} (hB : appB P T e size bytes = true) (hS : St w0 D Γ w) (hx : ev n f x = v) (hi : Γ[i]? = some (.sl e size v m xs)) (hy : ev n f y = .slice ad l c) (hr : Reads w ad news) (hl : news.length = l * size)
    (h1 : ∀ u ∈ news, u.oneCell' = true) (h63 : m + l ≤ maxLen) (hby : (m + l) * bytes ≤ 140737488355328) (hn : ad = none → l = 0)
    (h : ∀ v' w', St w0 D (Γ.set i (.sl e size v' (m + l) (xs ++ news))) w' → K (E n (up f dd v')) w') : Oper.wp P ⟨some dd, .call ⟨.builtin .append, List.toArray [x, y], List.toArray [T, T]⟩, ty, pos, aft, g⟩ (E n f) w K Q := by
  unfold appB at hB
  cases hu : P.underlying T with
  | none => simp [hu] at hB
  | some du =>
    cases hif : P.info? e with
    | none => cases du <;> simp [hu, hif] at hB
    | some inf =>
      cases du <;> simp [hu, hif] at hB
      rename_i e'
      obtain ⟨⟨⟨⟨rfl, hs1⟩, hs2⟩, hz⟩, hpos⟩ := hB
      cases hzz : inf.zero with
      | none => simp [hzz] at hz
      | some zv =>
        simp [hzz] at hz
        have hown := hS.sl hi
        by_cases had : ad = none
        · subst had
          have hl0 := hn rfl
          subst hl0
          have hnw : news = [] := List.eq_nil_of_length_eq_zero (by simpa using hl)
          subst hnw
          obtain ⟨ad', cap', rfl, hmc⟩ : ∃ ad' cap', v = .slice ad' m cap' ∧ m ≤ cap' := by
            rcases hown.2 with ⟨rfl, rfl⟩ | ⟨g2, c2, cur2, rfl, _, _, hle, _⟩
            · exact ⟨none, 0, rfl, Nat.le_refl _⟩
            · exact ⟨_, c2, rfl, hle⟩
          have hrun := run_app_nil (P := P) (w := w) T ty e' inf hu hif ad' m cap' c hmc
          unfold Oper.wp
          rw [E_eval]
          have hex : (execOp (ev n f) ⟨some dd, .call ⟨.builtin .append, List.toArray [x, y], List.toArray [T, T]⟩, ty, pos, aft, g⟩).run P w = .ok (.value (.slice ad' m cap')) w := by
            simp only [execOp, resolve, invoke, builtin, Sem.run_bind, Sem.run_pure, Result.andThen_ok, List.map_toArray, List.map_cons, List.map_nil, hx, hy, hrun]
          rw [hex]
          simp only [Oper.upon, E_put]
          refine h _ w ?_
          have hset : Γ.set i (Ch.sl e' size (.slice ad' m cap') (m + 0) (xs ++ [])) = Γ := by
            rw [Nat.add_zero, List.append_nil]
            obtain ⟨hlt, hget⟩ := List.getElem?_eq_some_iff.1 hi
            rw [← hget]; exact List.set_getElem_self hlt
          rw [hset]; exact hS
        obtain ⟨a, rfl⟩ := Option.ne_none_iff_exists'.1 had
        have hnews : ∀ j u, news[j]? = some u → w.cell? (a.add j) = some u := by
          rcases hr with rfl | ⟨b, off, he, hh⟩
          · intro j u hu; simp at hu
          · injection he with he; subst he
            intro j u hu
            have hadd : Addr.add ⟨b, off, none⟩ j = ⟨b, off + j, none⟩ := by unfold Addr.add; split <;> simp_all
            rw [hadd]; exact hh j u hu
        obtain ⟨v', w', hrun, hown', hg, hblk⟩ := run_app (P := P) T ty e' inf zv size bytes hu hif hzz hs1 hs2 hz hpos v m xs hown a l c news hl hnews h1 h63 hby
        unfold Oper.wp
        rw [E_eval]
        have hex : (execOp (ev n f) ⟨some dd, .call ⟨.builtin .append, List.toArray [x, y], List.toArray [T, T]⟩, ty, pos, aft, g⟩).run P w = .ok (.value v') w' := by
          simp only [execOp, resolve, invoke, builtin, Sem.run_bind, Sem.run_pure, Result.andThen_ok, List.map_toArray, List.map_cons, List.map_nil, hx, hy, hrun]
        rw [hex]
        simp only [Oper.upon, E_put]
        refine h v' w' ⟨hg.os.trans hS.os, hg.tape.trans hS.tape, hg.output.trans hS.output, Nat.le_trans hS.size hg.size, fun k hk hD => (hg.block k (Nat.lt_of_lt_of_le hk hS.size) ?_).trans (hS.keep k hk hD), ?_⟩
        · intro e1
          rcases ((hS.sat.get hi).2 k (show (Ch.sl e' size v m xs).own k from e1.symm)).1 with h2 | h2
          · exact hD h2
          · omega
        · refine hS.sat.put hg.size hi (fun k hk hlt => hg.block k hlt fun e1 => hk (show v.ownBlock = some k from e1.symm)) hown' fun k hk => ⟨?_, ?_⟩
          · rcases hblk k hk with h2 | h2
            · exact .inl h2
            · exact .inr ⟨Nat.le_trans hS.size h2, h2⟩
          · rcases hown'.2 with ⟨rfl, _⟩ | ⟨g2, c2, cur2, rfl, _, hge, _⟩
            · simp [Ch.sl, Ch.own, Value.ownBlock] at hk
            · simp [Ch.sl, Ch.own, Value.ownBlock] at hk
              subst hk
              exact (Array.getElem?_eq_some_iff.1 hge).1

/-! ### calls -/
def callB (P : Program) (fid : FuncId) : Bool := match P.funcs[fid]? with
  | some fn => fn.name != "runtime.NumGoroutine" && fn.body.isSome
  | none => false
theorem run_callFunc {fid : FuncId} (h : callB P fid = true) (args : Array Value) : (callFunc fid args).run P w = .ok (.enter fid args) w := by
  unfold callB at h
  cases hf : P.funcs[fid]? with
  | none => simp [hf] at h
  | some fn =>
    simp [hf] at h
    have hb : fn.body.isNone = false := by cases hb : fn.body <;> simp_all
    simp [callFunc, program, Sem.run, hf, h.1, hb]
    intro hn; simp [hn] at hb
/-- What a call leaves. -/
def After (n : Nat) (f : Nat → Value) (d : Option Tmp) (Q : Exit → Act → World → Prop) (K : Act → World → Prop) : Ending → World → Prop := fun e w' => match e with
  | .returned v => K ((E n f).put d v) w'
  | .panicked c => Q (.panic c) (E n f) w'
  | .outgrown => LetsOut Q
theorem wp_enter {o : Oper} {fid : FuncId} {args : Array Value} {R : Ending → World → Prop} (hr : (execOp (ev n f) o).run P w = .ok (.enter fid args) w) (hc : Calls P fid args w R) (hk : ∀ e w', R e w' → After n f o.dst Q K e w') : o.wp P (E n f) w K Q := by
  unfold Oper.wp
  rw [E_eval, hr]
  exact hc.mono fun e w' he => by cases e <;> exact hk _ _ he
theorem e_call {fid : FuncId} {args : List Operand} {vs : List Value} {ts : Array TypeId} {R : Ending → World → Prop} (hb : callB P fid = true) (hc : Calls P fid vs.toArray w R) (ha : evl n f args = vs) (hk : ∀ e w', R e w' → After n f d Q K e w') :
    Oper.wp P ⟨d, .call ⟨.value (.func fid), args.toArray, ts⟩, ty, pos, aft, g⟩ (E n f) w K Q := by
  refine wp_enter (fid := fid) ?_ hc hk
  subst ha
  simp [execOp, resolve, ev, Deferred.ofValue, invoke, run_callFunc hb, evl_eq]
theorem e_callV {fid : FuncId} {args : List Operand} {fs cs : Array Value} {vs : List Value} {ts : Array TypeId} {R : Ending → World → Prop} (hb : callB P fid = true) (hx : ev n f x = .func (.func fid) fs cs) (hc : Calls P fid vs.toArray w R) (ha : fs.toList ++ evl n f args ++ cs.toList = vs) (hk : ∀ e w', R e w' → After n f d Q K e w') :
    Oper.wp P ⟨d, .call ⟨.value x, args.toArray, ts⟩, ty, pos, aft, g⟩ (E n f) w K Q := by
  refine wp_enter (fid := fid) ?_ hc hk
  subst ha
  have : fs ++ (args.toArray.map (ev n f)) ++ cs = (fs.toList ++ evl n f args ++ cs.toList).toArray := by simp [evl_eq]
  simp [execOp, resolve, hx, Deferred.ofValue, invoke, run_callFunc hb, evl_eq]
/-- The method of an interface value: a closed fact of its type. -/
def methB (P : Program) (t : TypeId) (v : Value) (name : String) (fid : FuncId) (r : Value) : Prop := ∀ w, (method (P.types.size + Made.depth) t v name).run P w = .ok (fid, r) w
theorem e_invoke {fid : FuncId} {args : List Operand} {t : TypeId} {v r : Value} {name : String} {vs : List Value} {ts : Array TypeId} {R : Ending → World → Prop} (hb : callB P fid = true) (hx : ev n f x = .iface t v) (hm : methB P t v name fid r) (hc : Calls P fid vs.toArray w R) (ha : r :: evl n f args = vs) (hk : ∀ e w', R e w' → After n f d Q K e w') :
    Oper.wp P ⟨d, .call ⟨.invoke x name, args.toArray, ts⟩, ty, pos, aft, g⟩ (E n f) w K Q := by
  refine wp_enter (fid := fid) ?_ hc hk
  subst ha
  simp [execOp, resolve, hx, invoke, callMethod, program, Sem.run, hm w, run_callFunc hb, evl_eq]
  rw [List.take_of_length_le (by simp)]

/-- A call that makes pieces of its own, and turns nothing that was there. -/
def PostN (w : World) (φ : Value → List Ch → Prop) : Ending → World → Prop := fun e w' => ∃ v Γ', e = .returned v ∧ φ v Γ' ∧ St w (fun _ => False) Γ' w'
theorem after_R {φ : Value → Prop} (hS : St w0 D Γ w) (h : ∀ v w', φ v → St w0 D Γ w' → K (E n (up f dd v)) w') : ∀ e w', PostR w φ e w' → After n f (some dd) Q K e w' := by
  rintro e w' ⟨v, rfl, hv, hw⟩
  show K ((E n f).put (some dd) v) w'
  rw [E_put]; exact h v w' hv (hS.frameR hw)
theorem after_N {φ : Value → List Ch → Prop} (hS : St w0 D Γ w) (h : ∀ v Γ' w', φ v Γ' → St w0 D (Γ' ++ Γ) w' → K (E n (up f dd v)) w') : ∀ e w', PostN w φ e w' → After n f (some dd) Q K e w' := by
  rintro e w' ⟨v, Γ', rfl, hv, hw⟩
  show K ((E n f).put (some dd) v) w'
  rw [E_put]; exact h v Γ' w' hv (hS.frameN hw)
theorem after_M {φ : Value → List Ch → Prop} {Γ1 F : List Ch} (hS : St w0 D (Γ1 ++ F) w) (h : ∀ v Γ' w', φ v Γ' → St w0 D (Γ' ++ F) w' → K (E n (up f dd v)) w') : ∀ e w', Post w Γ1 φ e w' → After n f (some dd) Q K e w' := by
  rintro e w' ⟨v, Γ', rfl, hv, hw⟩
  show K ((E n f).put (some dd) v) w'
  rw [E_put]; exact h v Γ' w' hv (hS.frame hw)

/-! ### functions without a body -/
theorem q_ext {fid : FuncId} {args : List Operand} {vs : List Value} {ts : Array TypeId} {v : Value} (hx : evl n f args = vs) (h : (callFunc fid vs.toArray).run P w = .ok (.value v) w) : Run P n f ⟨d, .call ⟨.value (.func fid), args.toArray, ts⟩, ty, pos, aft, g⟩ w v := by
  subst hx; rw [evl_eq] at h; simpa [Run, execOp, resolve, ev, Deferred.ofValue, invoke] using h
theorem q_extI {fid : FuncId} {args : List Operand} {vs : List Value} {ts : Array TypeId} {v u r : Value} {t : TypeId} {name : String} (hx : ev n f x = .iface t u) (hm : methB P t u name fid r) (ha : evl n f args = vs) (h : (callFunc fid (r :: vs).toArray).run P w = .ok (.value v) w) : Run P n f ⟨d, .call ⟨.invoke x name, args.toArray, ts⟩, ty, pos, aft, g⟩ w v := by
  subst ha; rw [evl_eq] at h
  simp [Run, execOp, resolve, hx, invoke, callMethod, program, Sem.run, hm w]
  rw [List.take_of_length_le (by simp)]; exact h
theorem e_extA {fid : FuncId} {args : List Operand} {vs : List Value} {ts : Array TypeId} (v : Nat → Value) {ob : Obj} (hS : St w0 D Γ w) (hx : evl n f args = vs) (hr : (callFunc fid vs.toArray).run P w = .ok (.value (v w.heap.size)) (w.alloc ob)) (h : ∀ b w', St w0 D (.blk b ob :: Γ) w' → K (E n (up f dd (v b))) w') :
    Oper.wp P ⟨some dd, .call ⟨.value (.func fid), args.toArray, ts⟩, ty, pos, aft, g⟩ (E n f) w K Q := by
  refine e_new (v := v w.heap.size) hS rfl ?_ fun w' hw => h _ w' hw
  subst hx; rw [evl_eq] at hr; simpa [execOp, resolve, ev, Deferred.ofValue, invoke] using hr
theorem e_extS {fid : FuncId} {args : List Operand} {vs : List Value} {ts : Array TypeId} {tb i : Nat} {arr : Array Value} {T2 : TypeId} {u v : Value} (hS : St w0 D Γ w) (hx : evl n f args = vs) (hi : Γ[i]? = some (.blk tb (.cells arr T2))) (hr : (callFunc fid vs.toArray).run P w = .ok (.value v) (w.setCell ⟨tb, 0, none⟩ u)) (h : ∀ w', St w0 D (Γ.set i (.blk tb (.cells (arr.setIfInBounds 0 u) T2))) w' → K (E n (up f dd v)) w') :
    Oper.wp P ⟨some dd, .call ⟨.value (.func fid), args.toArray, ts⟩, ty, pos, aft, g⟩ (E n f) w K Q := by
  have hb := hS.blk hi
  have hex : (execOp (ev n f) ⟨some dd, .call ⟨.value (.func fid), args.toArray, ts⟩, ty, pos, aft, g⟩).run P w = .ok (.value v) (w.setCell ⟨tb, 0, none⟩ u) := by
    subst hx; rw [evl_eq] at hr; simpa [execOp, resolve, ev, Deferred.ofValue, invoke] using hr
  unfold Oper.wp
  rw [E_eval, hex]
  simp only [Oper.upon, E_put]
  refine h _ (hS.setBlk hi rfl rfl rfl (by simp [World.setCell]) ?_ fun k hk => Below.heap_setCell _ _ _ _ hk)
  simp [World.setCell, Array.getElem?_modify, hb]
theorem St.free {b off i : Nat} {arr : Array Value} {T2 : TypeId} (h : St w0 D Γ w) (hi : Γ[i]? = some (.blk b (.cells arr T2))) : w.frozen? ⟨b, off, none⟩ = false := by
  simp [World.frozen?, h.blk hi]
theorem c_round {c : Code} {m : Nat} (h : c.wp P (Exit.then (Code.rounds P c Q m) Q) (E n f) w) : Code.rounds P c Q (m + 1) (E n f) w := h
theorem c_rounds {c : Code} (m : Nat) (h : Code.rounds P c Q m (E n f) w) : (Code.loop c).wp P Q (E n f) w := wp_loop_rounds m h

/-! ### regions that draw their order -/
/-- Whichever order: of each step that operation j makes, what O says is shown. -/
def wpAnyO (P : Program) (ops : Array Oper) (Q : Exit → Act → World → Prop) (O : Nat → World → World → Prop) : Nat → Array Bool → Act → World → Prop
  | 0, listed, a, w => Region.ready .any ops listed = [] ∧ Q .normal a w
  | fuel + 1, listed, a, w =>
    (Region.ready .any ops listed = [] → Q .normal a w) ∧
    ∀ i ∈ Region.ready .any ops listed, wpOp P ops Q i (fun a' w' => O i w w' ∧ wpAnyO P ops Q O fuel (listed.setIfInBounds i true) a' w') a w
theorem wpAny_of_O {O : Nat → World → World → Prop} : ∀ (fuel : Nat) (listed : Array Bool) (a : Act) (w : World), wpAnyO P ops Q O fuel listed a w → wpAny P .any ops Q fuel listed a w
  | 0, _, _, _, h => h
  | fuel + 1, _, _, _, h => ⟨h.1, fun i hi => wpOp_mono (fun a' w' h' => wpAny_of_O fuel _ a' w' h'.2) (h.2 i hi)⟩
theorem r_any {id : Nat} {l : List Oper} (hm : P.follows .mixedOrders = true) (hS : St w0 D Γ w)
    (h : ∀ w', St w0 D Γ w' → wpAnyO P l.toArray Q (fun _ _ _ => True) l.toArray.size (Array.replicate l.toArray.size false) (E n f) w') : (Code.region id l.toArray true).wp P Q (E n f) w :=
  wp_region_any hm (wpAny_of_O _ _ _ _ (h _ (hS.drawn _)))
def inL : List Nat → Nat → Bool
  | [], _ => false
  | a :: l, t => bif Nat.beq t a then true else inL l t
/-- dep: numbers of operations each of which waits for i, or for another one of them. -/
def depOk (ops : Array Oper) (i : Nat) (dep : List Nat) : Bool := dep.all fun j => match ops[j]? with
  | some o => o.after.any fun e => Region.binds .any e && (e.on == i || inL dep e.on)
  | none => true
def depOff (listed : Array Bool) (dep : List Nat) : Bool := dep.all fun j => !listed.getD j false
theorem inL_iff {l : List Nat} {t : Nat} : inL l t = true ↔ t ∈ l := by
  induction l with
  | nil => simp [inL]
  | cons a l ih =>
    unfold inL
    cases hb : Nat.beq t a
    · have : t ≠ a := by rintro rfl; simp at hb
      simp [ih, this]
    · simp [Nat.eq_of_beq_eq_true hb]
theorem wpAnyO_first {O : Nat → World → World → Prop} (hO : ∀ j w, O j w w) {i : Nat} {oi : Oper} {v : Value} (hi : ops[i]? = some oi) (hsel : ∀ (j : Nat) (o : Oper) cs b, ops[j]? = some o → o.op ≠ .select cs b)
    (hQ : ∀ c a w, Q (.panic c) (a.put oi.dst v) w → Q (.panic c) a w) (S : World → Prop) (dep : List Nat) (hdep : depOk ops i dep = true) :
    ∀ (fuel : Nat) (listed : Array Bool) (a : Act) (w : World),
      (∀ j oj, ops[j]? = some oj → j ≠ i → listed.getD j true = false → (∀ e ∈ oj.after, Region.binds .any e = true → e.on ≠ i) → oi.apart ops oj = true) → (∀ j ∈ dep, listed.getD j false = false) →
      i ∈ Region.ready .any ops listed → YieldsIf P ops S oi v a → S w →
      wpAnyO P ops Q (fun j w w' => O j w w' ∧ (inL dep j = false → S w → S w')) fuel (listed.setIfInBounds i true) (a.put oi.dst v) w → wpAnyO P ops Q O (fuel + 1) listed a w := by
  have weak : ∀ (fuel : Nat) (listed : Array Bool) (a : Act) (w : World), wpAnyO P ops Q (fun j w w' => O j w w' ∧ (inL dep j = false → S w → S w')) fuel listed a w → wpAnyO P ops Q O fuel listed a w := by
    intro fuel
    induction fuel with
    | zero => intro listed a w h; exact h
    | succ fuel ih => intro listed a w h; exact ⟨h.1, fun j hj => wpOp_mono (fun a' w' h' => ⟨h'.1.1, ih _ _ _ h'.2⟩) (h.2 j hj)⟩
  intro fuel
  induction fuel with
  | zero =>
    intro listed a w _ _ hr hy hS H
    refine ⟨fun h => (by rw [h] at hr; cases hr), fun j hj => ?_⟩
    by_cases hji : j = i
    · subst hji; exact hy.wpOp hi hS ⟨hO _ _, weak _ _ _ _ H⟩
    · have := ready_mono hj hji
      rw [H.1] at this
      cases this
  | succ fuel ih =>
    intro listed a w hfree hoff hr hy hS H
    refine ⟨fun h => (by rw [h] at hr; cases hr), fun j hj => ?_⟩
    by_cases hji : j = i
    · subst hji; exact hy.wpOp hi hS ⟨hO _ _, weak _ _ _ _ H⟩
    · have h1 := H.2 j (ready_mono hj hji)
      obtain ⟨hjun, oj, hoj, hall⟩ := mem_ready.1 hj
      have hi0 : listed.getD i false = false := by
        have h0 := (mem_ready.1 hr).1
        rcases Nat.lt_or_ge i listed.size with h' | h'
        · simpa [h'] using h0
        · simp [Array.getElem?_eq_none h']
      have hnot : ∀ e ∈ oj.after, Region.binds .any e = true → e.on ≠ i := fun e he hb heq => by
        have h1 := hall e he hb
        rw [heq, hi0] at h1; cases h1
      have hjd : inL dep j = false := by
        cases hjd : inL dep j with
        | false => rfl
        | true =>
          have hjm := inL_iff.1 hjd
          have h2 := List.all_eq_true.1 hdep j hjm
          simp only [hoj] at h2
          obtain ⟨e, he, hb⟩ := Array.any_eq_true'.1 h2
          rw [Bool.and_eq_true, Bool.or_eq_true] at hb
          have h3 := hall e he hb.1
          rcases hb.2 with hb2 | hb2
          · exact absurd (by simpa using hb2) (hnot e he hb.1)
          · rw [hoff e.on (inL_iff.1 hb2)] at h3; cases h3
      have h2 := wpOp_putIf hoj (hfree j oj hoj hji hjun hnot) (fun cs b => hsel i oi cs b hi) (fun cs b => hsel j oj cs b hoj) hQ hy h1
      have hfree' : ∀ k ok, ops[k]? = some ok → k ≠ i → (listed.setIfInBounds j true).getD k true = false →
          (∀ e ∈ ok.after, Region.binds .any e = true → e.on ≠ i) → oi.apart ops ok = true := fun k ok hk hki hun hno => by
        refine hfree k ok hk hki ?_ hno
        by_cases hjk : j = k
        · subst hjk; exact hjun
        · rw [getD_set_ne true hjk] at hun; exact hun
      have hoff' : ∀ k ∈ dep, (listed.setIfInBounds j true).getD k false = false := fun k hk => by
        have hjk : j ≠ k := by rintro rfl; rw [inL_iff.2 hk] at hjd; cases hjd
        rw [getD_set_ne false hjk]; exact hoff k hk
      refine wpOp_mono (fun a' w' h3 => ⟨h3.2.1.1, ih (listed.setIfInBounds j true) a' w' hfree' hoff' (ready_mono hr (Ne.symm hji)) h3.1 (h3.2.1.2 hjd hS) ?_⟩) h2
      rw [Array.setIfInBounds_comm _ _ hji]
      exact h3.2.2
theorem apartOk {i : Nat} {oi : Oper} {listed : Array Bool} (hi : ops[i]? = some oi) (hf : Region.free .any ops listed i = true) :
    ∀ j oj, ops[j]? = some oj → j ≠ i → listed.getD j true = false → (∀ e ∈ oj.after, Region.binds .any e = true → e.on ≠ i) → oi.apart ops oj = true := Region.free_spec hi hf
/-- Does it run: no guard, or the guard lets it. -/
def Goes (ops : Array Oper) (n : Nat) (f : Nat → Value) (o : Oper) : Prop := o.guard = none ∨ ∃ j c, o.guard = some (j, c) ∧ yl ops n f j = some c
theorem Goes.wanted {o : Oper} (h : Goes ops n f o) : Region.wanted o (yielded ops (E n f).tmps) = true := by
  rcases h with h | ⟨j, c, h, hy⟩
  · simp [Region.wanted, h]
  · simp [Region.wanted, h, yl_eq j c hy]
theorem goes0 {o : Oper} (h : o.guard = none) : Goes ops n f o := .inl h
theorem goes1 {o : Oper} {j : Nat} {c t : Bool} (h : o.guard = some (j, c)) (hy : yl ops n f j = some t) (ht : t = c) : Goes ops n f o := .inr ⟨j, c, h, ht ▸ hy⟩
def QOk (Q : Exit → Act → World → Prop) : Prop := ∀ c a d v w, Q (.panic c) (Act.put a d v) w → Q (.panic c) a w
/-- A load, or what may not run in whatever world, is taken first. -/
theorem o_held {O : Nat → World → World → Prop} {i : Nat} {oi : Oper} {v : Value} {fuel : Nat} {listed : Array Bool} (dep : List Nat) (hO : ∀ j w, O j w w) (hi : ops[i]? = some oi) (hd : oi.dst = some dd) (hk : (Region.noSelect ops && Region.free .any ops listed i && (Region.ready .any ops listed).contains i && depOk ops i dep && depOff listed dep) = true)
    (hg : Goes ops n f oi) (hQ : QOk Q) (h : Run P n f oi w v)
    (k : wpAnyO P ops Q (fun j w w' => O j w w' ∧ (inL dep j = false → Run P n f oi w v → Run P n f oi w' v)) fuel (listed.setIfInBounds i true) (E n (up f dd v)) w) : wpAnyO P ops Q O (fuel + 1) listed (E n f) w := by
  simp only [Bool.and_eq_true] at hk
  obtain ⟨⟨⟨⟨h1, h2⟩, h3⟩, h4⟩, h5⟩ := hk
  refine wpAnyO_first hO hi (Region.noSelect_spec h1) (fun c a w => hQ c a _ _ w) (fun w => Run P n f oi w v) dep h4 fuel listed (E n f) w (apartOk hi h2) ?_ (by simpa using h3) (.inl ⟨hg.wanted, fun w hw => by rw [E_eval]; exact hw⟩) h (by rw [hd, E_put]; exact k)
  intro j hj
  have := List.all_eq_true.1 h5 j hj
  simpa using this
/-- What runs in whatever world is taken first. -/
theorem o_pure {O : Nat → World → World → Prop} {i : Nat} {oi : Oper} {v : Value} {fuel : Nat} {listed : Array Bool} (hO : ∀ j w, O j w w) (hi : ops[i]? = some oi) (hd : oi.dst = some dd) (hk : (Region.noSelect ops && Region.free .any ops listed i && (Region.ready .any ops listed).contains i) = true)
    (hg : Goes ops n f oi) (hQ : QOk Q) (h : ∀ w, Run P n f oi w v)
    (k : wpAnyO P ops Q O fuel (listed.setIfInBounds i true) (E n (up f dd v)) w) : wpAnyO P ops Q O (fuel + 1) listed (E n f) w := by
  simp only [Bool.and_eq_true] at hk
  obtain ⟨⟨h1, h2⟩, h3⟩ := hk
  refine wpAnyO_first hO hi (Region.noSelect_spec h1) (fun c a w => hQ c a _ _ w) (fun w => True) [] rfl fuel listed (E n f) w (apartOk hi h2) (fun j hj => by cases hj) (by simpa using h3) (.inl ⟨hg.wanted, fun w _ => by rw [E_eval]; exact h w⟩) trivial ?_
  rw [hd, E_put]
  have : (fun j w w' => O j w w' ∧ (inL [] j = false → True → True)) = O := by funext j w w'; simp
  rw [this]; exact k
/-- A guard that does not let it. -/
theorem o_off {O : Nat → World → World → Prop} {i j : Nat} {c t : Bool} {oi : Oper} {fuel : Nat} {listed : Array Bool} (hO : ∀ j w, O j w w) (hi : ops[i]? = some oi) (hd : oi.dst = some dd) (hk : (Region.noSelect ops && Region.free .any ops listed i && (Region.ready .any ops listed).contains i) = true)
    (hg : oi.guard = some (j, c)) (hy : yl ops n f j = some t) (ht : t = !c) (hQ : QOk Q)
    (k : wpAnyO P ops Q O fuel (listed.setIfInBounds i true) (E n (up f dd undef)) w) : wpAnyO P ops Q O (fuel + 1) listed (E n f) w := by
  subst ht
  simp only [Bool.and_eq_true] at hk
  obtain ⟨⟨h1, h2⟩, h3⟩ := hk
  refine wpAnyO_first hO hi (Region.noSelect_spec h1) (fun c a w => hQ c a _ _ w) (fun w => True) [] rfl fuel listed (E n f) w (apartOk hi h2) (fun j hj => by cases hj) (by simpa using h3) (.inr ⟨by simp [Region.wanted, hg, yl_eq j _ hy], rfl⟩) trivial ?_
  rw [hd, E_put]
  have : (fun j w w' => O j w w' ∧ (inL [] j = false → True → True)) = O := by funext j w w'; simp
  rw [this]; exact k
theorem o_offN {O : Nat → World → World → Prop} {i j : Nat} {c : Bool} {oi : Oper} {fuel : Nat} {listed : Array Bool} (hO : ∀ j w, O j w w) (hi : ops[i]? = some oi) (hd : oi.dst = some dd) (hk : (Region.noSelect ops && Region.free .any ops listed i && (Region.ready .any ops listed).contains i) = true)
    (hg : oi.guard = some (j, c)) (hy : yl ops n f j = none) (hQ : QOk Q)
    (k : wpAnyO P ops Q O fuel (listed.setIfInBounds i true) (E n (up f dd undef)) w) : wpAnyO P ops Q O (fuel + 1) listed (E n f) w := by
  simp only [Bool.and_eq_true] at hk
  obtain ⟨⟨h1, h2⟩, h3⟩ := hk
  refine wpAnyO_first hO hi (Region.noSelect_spec h1) (fun c a w => hQ c a _ _ w) (fun w => True) [] rfl fuel listed (E n f) w (apartOk hi h2) (fun j hj => by cases hj) (by simpa using h3) (.inr ⟨by simp [Region.wanted, hg, yl_none j hy], rfl⟩) trivial ?_
  rw [hd, E_put]
  have : (fun j w w' => O j w w' ∧ (inL [] j = false → True → True)) = O := by funext j w w'; simp
  rw [this]; exact k
/-- One alone may come up. -/
theorem o_eff {O : Nat → World → World → Prop} {i : Nat} {oi : Oper} {fuel : Nat} {listed : Array Bool} (hr : Region.ready .any ops listed = [i]) (hi : ops[i]? = some oi) (hg : Goes ops n f oi)
    (h : ∀ K : Act → World → Prop, (∀ a w', O i w w' → wpAnyO P ops Q O fuel (listed.setIfInBounds i true) a w' → K a w') → oi.wp P (E n f) w K Q) : wpAnyO P ops Q O (fuel + 1) listed (E n f) w := by
  refine ⟨fun h0 => (by rw [hr] at h0; cases h0), fun j hj => ?_⟩
  rw [hr] at hj
  obtain rfl : j = i := by simpa using hj
  unfold wpOp
  simp only [hi]
  rw [if_pos hg.wanted]
  exact .inl (h _ fun a w' ho hk => ⟨ho, hk⟩)
/-- One of two may come up. -/
theorem o_eff2 {O : Nat → World → World → Prop} {i j : Nat} {oi oj : Oper} {fuel : Nat} {listed : Array Bool} (hr : Region.ready .any ops listed = [i, j]) (hi : ops[i]? = some oi) (hj : ops[j]? = some oj) (hgi : Goes ops n f oi) (hgj : Goes ops n f oj)
    (h : ∀ K : Act → World → Prop, (∀ a w', O i w w' → wpAnyO P ops Q O fuel (listed.setIfInBounds i true) a w' → K a w') → oi.wp P (E n f) w K Q)
    (h' : ∀ K : Act → World → Prop, (∀ a w', O j w w' → wpAnyO P ops Q O fuel (listed.setIfInBounds j true) a w' → K a w') → oj.wp P (E n f) w K Q) : wpAnyO P ops Q O (fuel + 1) listed (E n f) w := by
  refine ⟨fun h0 => (by rw [hr] at h0; cases h0), fun k hk => ?_⟩
  rw [hr] at hk
  obtain rfl | rfl : k = i ∨ k = j := by simpa using hk
  · unfold wpOp
    simp only [hi]
    rw [if_pos hgi.wanted]
    exact .inl (h _ fun a w' ho hk => ⟨ho, hk⟩)
  · unfold wpOp
    simp only [hj]
    rw [if_pos hgj.wanted]
    exact .inl (h' _ fun a w' ho hk => ⟨ho, hk⟩)
theorem o_done {O : Nat → World → World → Prop} {fuel : Nat} {listed : Array Bool} (hr : Region.ready .any ops listed = []) (h : Q .normal (E n f) w) : wpAnyO P ops Q O fuel listed (E n f) w := by
  cases fuel with
  | zero => exact ⟨hr, h⟩
  | succ _ => exact ⟨fun _ => h, by rw [hr]; simp⟩
/-! The posts in use do not hang on the frame at a panic. -/
theorem QOk.body {fn : Func} {R : Ending → World → Prop} : QOk (bodyPost P fn R) := fun c a d v w h => ⟨by have := h.1; cases d <;> exact this, h.2⟩
theorem QOk.then {K : Act → World → Prop} (h : QOk Q) : QOk (Exit.then K Q) := fun c a d v w hq => h c a d v w hq
theorem QOk.inBlock {id : Nat} (h : QOk Q) : QOk (Exit.inBlock id Q) := fun c a d v w hq => h c a d v w hq
theorem g_splitO {O : Nat → World → World → Prop} {fuel : Nat} {listed : Array Bool} {t : Nat} {b : Bool} (h : ev n f (.tmp t) = .bool b) (h1 : b = true → wpAnyO P ops Q O fuel listed (E n f) w) (h0 : b = false → wpAnyO P ops Q O fuel listed (E n f) w) : wpAnyO P ops Q O fuel listed (E n f) w := by
  cases b
  · exact h0 rfl
  · exact h1 rfl
/-- Nothing is owned yet. -/
theorem St.start (w : World) : St w (fun _ => False) [] w := St.refl w _
end
end Go.Proofs.YtdlmcgflgdmjgaaDoor
