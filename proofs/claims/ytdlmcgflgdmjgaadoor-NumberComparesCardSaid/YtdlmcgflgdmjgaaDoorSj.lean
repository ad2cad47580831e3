/- The operations upon slices, as rules of the small logic. Over any program. -/
import Derived.Test.YtdlmcgflgdmjgaaDoorSi
set_option linter.unusedVariables false
set_option linter.unusedSimpArgs false
namespace Go.Proofs.YtdlmcgflgdmjgaaDoor
open Go.RowKit
section
variable {P : Program} {ops : Array Oper} {Q : Exit → Act → World → Prop} {n : Nat} {f : Nat → Value} {w w0 : World} {D : Nat → Prop} {Γ : List Ch} {K : Act → World → Prop}
variable {d : Option Tmp} {dd : Nat} {x y z : Operand} {ty T Tx T' : TypeId} {pos : String} {aft : Array Edge} {g : Option (Nat × Bool)} {k : IntKind} {a b : Int}

/-! ### what yields -/
theorem q_ixG {ad : Option Addr} {len cap m j : Nat} {e : TypeId} {G : Gh} {xs : List Value} (hx : ev n f x = .slice ad len cap) (hy : ev n f y = .int k a) (ht : slB P T = some e) (hz : szB P e = some m) (hj : a = (j : Int)) (h1 : j < len) (hG : SlG G ad xs) (hp : 0 < xs.length) :
    Run P n f ⟨d, .indexAddr T x y, ty, pos, aft, g⟩ w (.pointer (some (Ad ad (j * m)))) := by
  obtain ⟨bl, off, rfl⟩ := hG.place hp
  subst hj
  have := q_indexAddr (P := P) (w := w) (d := d) (ty := ty) (pos := pos) (aft := aft) (g := g) hx hy ht hz (Int.natCast_nonneg j) (by omega)
  simpa [Ad] using this
theorem q_fieldG {ad : Option Addr} {i o j : Nat} {ft : TypeId} (hx : ev n f x = .pointer (some (Ad ad j))) (hf : fldB P T i = some (ft, o)) : Run P n f ⟨d, .fieldAddr T x i, ty, pos, aft, g⟩ w (.pointer (some (Ad ad (j + o)))) := by
  cases ad with
  | none => exact q_fieldAddr (off := j) hx hf
  | some a0 => have := q_fieldAddr (P := P) (w := w) (d := d) (ty := ty) (pos := pos) (aft := aft) (g := g) (off := a0.off + j) hx hf; rw [Nat.add_assoc] at this; exact this
theorem q_loadGA {m j : Nat} {ad : Option Addr} {xs cs : List Value} (hx : ev n f x = .pointer (some (Ad ad j))) (h : aggB P T = true) (hz : szB P T = some m) (hG : SlG (hw w) ad xs) (hcs : (xs.drop j).take m = cs) (hl : cs.length = m) (hp : 0 < m) :
    Run P n f ⟨d, .load T x, ty, pos, aft, g⟩ w (.agg cs.toArray) := by
  have hl2 : j + m ≤ xs.length := by
    have := congrArg List.length hcs
    simp at this; omega
  obtain ⟨bl, off, rfl⟩ := hG.place (by omega)
  have hrun : (loadCellsFrom ⟨bl, off + j, Option.none⟩ 0 cs.length #[]).run P w = .ok (#[] ++ cs.toArray) w := run_loadCellsC (off := off + j) cs 0 #[] fun i u hu => by
    rw [← hcs, List.getElem?_take] at hu
    split at hu
    · rw [List.getElem?_drop] at hu
      have := hG.cell (w := w) (Gle.refl _) hu
      rw [show off + j + (0 + i) = off + (j + i) by omega]
      exact this
    · cases hu
  rw [hl] at hrun
  have hx' : ev n f x = .pointer (some ⟨bl, off + j, Option.none⟩) := hx
  simp [Run, execOp, hx', Instr.loadAt, Instr.sureAddr, loadVar, run_isAggT h, run_sizeOf hz, loadCells, hrun, Sem.run]
theorem q_capSl {ad : Option Addr} {len cap : Nat} {e : TypeId} {rest : List TypeId} (hx : ev n f x = .slice ad len cap) (ht : slB P T = some e) : Run P n f ⟨d, .call ⟨.builtin .cap, List.toArray [x], List.toArray (T :: rest)⟩, ty, pos, aft, g⟩ w (.int .i64 cap) := by
  simp [Run, execOp, resolve, invoke, builtin, Builtin.cap_, hx, run_undSl ht, goInt, Sem.run]
theorem run_sliceBound {v : Value} {j y : Nat} {code : BoundsCode} (hv : v = .int k (j : Int)) (h : j ≤ y) : (Instr.sliceBound v y code).run P w = .ok j w := by
  subst hv; simp [Instr.sliceBound, asIntOf, Sem.run, h]
/-- x[l:h:m], each there or not. -/
def bndIs (n : Nat) (f : Nat → Value) (o : Option Operand) (dflt j : Nat) : Prop := match o with
  | Option.none => j = dflt
  | some y => ∃ k, ev n f y = .int k (j : Int)
theorem q_sliceG {lo hi mx : Option Operand} {ad : Option Addr} {len cap l h m size : Nat} {e : TypeId} (hx : ev n f x = .slice ad len cap) (ht : slB P T = some e) (hz : szB P e = some size)
    (hm : bndIs n f mx cap m) (hh : bndIs n f hi len h) (hl : bndIs n f lo 0 l) (h1 : l ≤ h) (h2 : h ≤ m) (h3 : m ≤ cap) (hno : (mx.isSome && !hi.isSome) = false) :
    Run P n f ⟨d, .slice T x lo hi mx, ty, pos, aft, g⟩ w (.slice (subS ad l size m) (h - l) (m - l)) := by
  have hu : (underlying T).run P w = .ok (.slice e) w := run_undSl ht
  have hb : (Instr.sliceBounds true len cap (lo.map (ev n f)) (hi.map (ev n f)) (mx.map (ev n f))).run P w = .ok (l, h, m) w := by
    have B : ∀ (y : Operand) (j q : Nat) (code : BoundsCode), (∃ k, ev n f y = .int k (j : Int)) → j ≤ q → (Instr.sliceBound (ev n f y) q code).run P w = .ok j w := fun y j q code ⟨k, hk⟩ hle => run_sliceBound hk hle
    cases mx <;> cases hi <;> cases lo <;> simp only [bndIs] at hm hh hl <;> first
      | (exfalso; simp at hno; done)
      | (try subst hm; try subst hh; try subst hl
         simp only [Instr.sliceBounds, Option.map, if_true, Option.isSome, Sem.run_bind, Sem.run_pure, Result.andThen_ok, Bool.false_eq_true, if_false]
         repeat (first | rw [B _ _ _ _ (by assumption) (by assumption), Result.andThen_ok] | rfl | rw [hl]))
  have : (Instr.sliceAt T (.slice ad len cap) (lo.map (ev n f)) (hi.map (ev n f)) (mx.map (ev n f))).run P w = .ok (.slice (subS ad l size m) (h - l) (m - l)) w := by
    unfold Instr.sliceAt
    rw [Sem.run_bind, hu, Result.andThen_ok]
    simp only
    unfold Instr.slice
    rw [Sem.run_bind, hu, Result.andThen_ok]
    simp only
    rw [Sem.run_bind, hb, Result.andThen_ok]
    simp only
    rw [Sem.run_bind, run_sizeOf hz, Result.andThen_ok]; rfl
  simp [Run, execOp, hx, this, Sem.run]

/-! ### what writes -/
theorem SlG.src {size l c : Nat} {ad : Option Addr} {news : List Value} {e : TypeId} (ht : slB P Tx = some e) (hG : SlG (hw w) ad news) (hl : news.length = l * size) (hs : 0 < size) (h1 : ∀ u ∈ news, u.oneCell' = true) : Src P size Tx (.slice ad l c) l news w := by
  have hu : P.underlying Tx = some (.slice e) := by
    unfold slB at ht
    cases hu : P.underlying Tx with
    | none => simp [hu] at ht
    | some d => cases d <;> simp [hu] at ht; obtain rfl := ht; rfl
  cases ad with
  | none =>
    have := SlG.ofNone hG
    subst this
    have hl0 : l = 0 := by
      rcases Nat.mul_eq_zero.1 hl.symm with h | h
      · exact h
      · omega
    subst hl0
    exact Src.ofNil w hu c
  | some a0 =>
    refine Src.ofSlice w hu a0 l c news hl (fun j u hj => ?_) h1
    rcases hG with rfl | ⟨b, off, arr, T, fz, ha, hb, hx⟩
    · simp at hj
    · injection ha with ha; subst ha
      rw [addr_add]; exact cell_blk hb (hx j u hj)
theorem SlG.first {size m q c : Nat} {ad : Option Addr} {xs : List Value} (hG : SlG (hw w) ad xs) (hl : xs.length = m * size) : (Builtin.firstCells size m (.slice ad q c)).run P w = .ok xs.toArray w := by
  cases ad with
  | none => have := SlG.ofNone hG; subst this; exact run_firstCells_none w size m q c
  | some a0 =>
    refine run_firstCells_some w size m a0 q c xs hl fun j u hj => ?_
    rcases hG with rfl | ⟨b, off, arr, T, fz, ha, hb, hx⟩
    · simp at hj
    · injection ha with ha; subst ha
      rw [addr_add]; exact cell_blk hb (hx j u hj)
theorem zeroCells_size (zc : Array Value) (c : Nat) : (Builtin.zeroCells zc c).size = c * zc.size := by simp [Builtin.zeroCells]
theorem appB_facts {e size bytes : Nat} (hB : appB P T e size bytes = true) : ∃ inf zv, P.underlying T = some (.slice e) ∧ P.info? e = some inf ∧ inf.size = size ∧ inf.bytes = bytes ∧ inf.zero = some zv ∧ zv.cells.size = size ∧ 0 < size := by
  unfold appB at hB
  cases hu : P.underlying T with
  | none => simp [hu] at hB
  | some du =>
    cases hif : P.info? e with
    | none => cases du <;> simp [hu, hif] at hB
    | some inf =>
      cases du <;> simp [hu, hif] at hB
      rename_i e'
      obtain ⟨⟨⟨⟨rfl, hs1⟩, hs2⟩, hz⟩, hpos⟩ := hB
      cases hzz : inf.zero with
      | none => simp [hzz] at hz
      | some zv => simp [hzz] at hz; exact ⟨inf, zv, rfl, rfl, hs1, hs2, hzz, hz, hpos⟩
/-- An operation whose run is known. -/
theorem wp_known {o : Oper} {v : Value} {w' : World} (hd : o.dst = some dd) (hr : (execOp (ev n f) o).run P w = .ok (.value v) w') (h : K (E n (up f dd v)) w') : o.wp P (E n f) w K Q := by
  unfold Oper.wp
  rw [E_eval, hr]
  simp only [Oper.upon, hd, E_put]; exact h
theorem St.grown {c : Ch} {w' : World} {o : Obj} (hS : St w0 D Γ w) (hh : w'.heap = w.heap.push o) (ho : w'.os = w.os) (ht : w'.tape = w.tape) (hu : w'.output = w.output) : St w0 D (.blk w.heap.size o :: Γ) w' :=
  (hS.alloc o).of_heap ho ht hu hh
theorem ex_append {vx vy v : Value} {w' : World} (hx : ev n f x = vx) (hy : ev n f y = vy) (hr : (Builtin.append_ #[T, Tx] ty #[vx, vy]).run P w = .ok v w') :
    (execOp (ev n f) ⟨some dd, .call ⟨.builtin .append, List.toArray [x, y], List.toArray [T, Tx]⟩, ty, pos, aft, g⟩).run P w = .ok (.value v) w' := by
  simp only [execOp, resolve, invoke, builtin, Sem.run_bind, Sem.run_pure, Result.andThen_ok, List.map_toArray, List.map_cons, List.map_nil, hx, hy, hr]
theorem ex_copy {vx vy v : Value} {w' : World} (hx : ev n f x = vx) (hy : ev n f y = vy) (hr : (Builtin.copy_ #[T, Tx] ty #[vx, vy]).run P w = .ok v w') :
    (execOp (ev n f) ⟨some dd, .call ⟨.builtin .copy, List.toArray [x, y], List.toArray [T, Tx]⟩, ty, pos, aft, g⟩).run P w = .ok (.value v) w' := by
  simp only [execOp, resolve, invoke, builtin, Sem.run_bind, Sem.run_pure, Result.andThen_ok, List.map_toArray, List.map_cons, List.map_nil, hx, hy, hr]
/-- A row that grows always: what is there is read alone. -/
theorem e_appNew0 {e size bytes m cap l : Nat} {ad : Option Addr} {xs news : List Value} {X : Value} (hB : appB P T e size bytes = true) (hS : St w0 D Γ w) (hx : ev n f x = .slice ad m cap) (hG : SlG (hw w) ad xs) (hlx : xs.length = m * size)
    (hy : ev n f y = X) (hs : Src P size Tx X l news w) (hgr : cap < m + l) (h63 : m + l ≤ maxLen) (hby : (m + l) * bytes ≤ 140737488355328)
    (h : ∀ b cap' w', St w0 D (.ow e size (some ⟨b, 0, Option.none⟩) (m + l) cap' (xs ++ news) :: Γ) w' → K (E n (up f dd (.slice (some ⟨b, 0, Option.none⟩) (m + l) cap'))) w') :
    Oper.wp P ⟨some dd, .call ⟨.builtin .append, List.toArray [x, y], List.toArray [T, Tx]⟩, ty, pos, aft, g⟩ (E n f) w K Q := by
  obtain ⟨inf, zv, hu, hif, hs1, hs2, hzz, hz, hpos⟩ := appB_facts hB
  subst hs1 hs2
  have hGd : SlG (hw w.drew) ad xs := hG
  have hr := run_append_grow_src (P := P) w T Tx ty e inf zv hu hif hzz ad m cap xs (hGd.first hlx) X l news hs hgr (by simp only [maxLen] at h63; omega) (growslice_fits hgr hby)
  have hc1 := grownCap_ge w (m + l) cap e
  have hc2 := grownCap_le_maxLen w (m + l) cap e h63
  refine wp_known rfl (ex_append hx hy hr) (h _ _ _ ?_)
  have hg1 : St w0 D (.blk w.heap.size (.cells ((xs ++ news).toArray ++ Builtin.zeroCells zv.cells (grownCap w (m + l) cap e - (m + l))) e) :: Γ) (w.drew.alloc (.cells ((xs ++ news).toArray ++ Builtin.zeroCells zv.cells (grownCap w (m + l) cap e - (m + l))) e)) := hS.alloc _ |>.of_heap rfl rfl rfl rfl
  have hlen : (xs ++ news).length = (m + l) * inf.size := by rw [List.length_append, hlx, hs.newsLen, Nat.add_mul]
  have hg2 := hg1.recast (i := 0) (c' := .ow e inf.size (some ⟨w.heap.size, 0, Option.none⟩) (m + l) (grownCap w (m + l) cap e) (xs ++ news)) rfl (fun k hk => by obtain ⟨a0, h1, rfl⟩ := hk; injection h1 with h1; subst h1; rfl) fun hsat => ?_
  · exact hg2
  · refine ⟨hlen, hc1, hc2, .inr ⟨_, 0, _, rfl, hsat, ?_, ?_⟩⟩
    · simp only [Array.size_append, zeroCells_size, hz, List.size_toArray, hlen, Nat.zero_add]
      rw [← Nat.add_mul]; exact Nat.mul_le_mul_right _ (by omega)
    · rw [List.drop_zero, Array.toList_append, ← hlen, List.take_left' rfl]
/-- append onto an own slice. -/
theorem e_app0 {e size bytes i m cap l : Nat} {ad : Option Addr} {xs news : List Value} {X : Value} (hB : appB P T e size bytes = true) (hS : St w0 D Γ w) (hx : ev n f x = .slice ad m cap) (hi : Γ[i]? = some (.ow e size ad m cap xs))
    (hy : ev n f y = X) (hs : Src P size Tx X l news w) (h63 : m + l ≤ maxLen) (hby : (m + l) * bytes ≤ 140737488355328)
    (h : ∀ ad' cap' w', St w0 D (Γ.set i (.ow e size ad' (m + l) cap' (xs ++ news))) w' → K (E n (up f dd (.slice ad' (m + l) cap'))) w') :
    Oper.wp P ⟨some dd, .call ⟨.builtin .append, List.toArray [x, y], List.toArray [T, Tx]⟩, ty, pos, aft, g⟩ (E n f) w K Q := by
  obtain ⟨h1, h2, h3⟩ := hS.owLen hi
  by_cases hroom : m + l ≤ cap
  · obtain ⟨inf, zv, hu, hif, hs1, hs2, hzz, hz, hpos⟩ := appB_facts hB
    subst hs1 hs2
    have hnl := hs.newsLen
    have hlen : (xs ++ news).length = (m + l) * inf.size := by rw [List.length_append, h1, hnl, Nat.add_mul]
    obtain ⟨_, _, _, h4⟩ := (hS.sat.get hi).1
    rcases h4 with ⟨rfl, hc⟩ | ⟨gb, off, cur, rfl, hg, hle, hxx⟩
    · have hm0 : m = 0 := by omega
      have hl0 : l = 0 := by omega
      subst hm0 hl0 hc
      have hn0 : news = [] := List.eq_nil_of_length_eq_zero (by simpa using hnl)
      subst hn0
      have hr : (Builtin.append_ #[T, Tx] ty #[.slice Option.none 0 0, X]).run P w = .ok (.slice Option.none 0 0) w := by
        rcases hs.kind with ⟨e', hk⟩ | hk <;> simp [Builtin.append_, run_underlying hu, run_underlying hk, sizeOf, typeInfo, hif, hs.len, hs.cells]
      refine wp_known rfl (ex_append hx hy hr) (h _ _ _ ?_)
      refine hS.recast hi (fun _ hk => hk) fun hsat => ?_
      rw [List.append_nil]; exact hsat
    · have hmul : (m + l) * inf.size ≤ cap * inf.size := Nat.mul_le_mul_right _ hroom
      rw [Nat.add_mul] at hmul
      have hfit : off + m * inf.size + 0 + news.length ≤ cur.size := by rw [hnl]; omega
      have hst := run_storeCells_at P gb (off + m * inf.size) e news 0 cur w hg hfit hs.one
      simp only [Nat.add_zero] at hst hfit
      have hr : (Builtin.append_ #[T, Tx] ty #[.slice (some ⟨gb, off, Option.none⟩) m cap, X]).run P w = .ok (.slice (some ⟨gb, off, Option.none⟩) (m + l) cap) (w.setRow gb (cur.toList.take (off + m * inf.size) ++ news ++ cur.toList.drop (off + m * inf.size + news.length)).toArray) := by
        rcases hs.kind with ⟨e', hk⟩ | hk <;> simp [Builtin.append_, run_underlying hu, run_underlying hk, sizeOf, typeInfo, hif, hs.len, hroom, hs.cells, Addr.add_lit, hst]
      refine wp_known rfl (ex_append hx hy hr) (h _ _ _ ?_)
      refine hS.putAt (gb := gb) hi ⟨_, rfl, rfl⟩ (fun k hk => by obtain ⟨a0, h1, rfl⟩ := hk; injection h1 with h1; subst h1; rfl) rfl rfl rfl (by simp [World.setRow]) (fun k hk => by simp [World.setRow, Array.getElem?_modify, Ne.symm hk]) ⟨hlen, hroom, h3, .inr ⟨gb, off, _, rfl, setRow_heap w gb cur _ e _ hg, ?_, ?_⟩⟩
      · simp only [List.size_toArray, List.length_append, List.length_take, List.length_drop, Array.length_toList]; omega
      · have e1 : ((cur.toList.take (off + m * inf.size) ++ news ++ cur.toList.drop (off + m * inf.size + news.length)).drop off) = (cur.toList.drop off).take (m * inf.size) ++ news ++ cur.toList.drop (off + m * inf.size + news.length) := by
          rw [List.append_assoc, List.drop_append_of_le_length (by rw [List.length_take, Array.length_toList]; omega), List.drop_take, Nat.add_sub_cancel_left, List.append_assoc]
        simp only
        rw [e1, hxx, ← hlen, List.take_left' rfl]
  · obtain ⟨inf, zv, hu, hif, hs1, hs2, hzz, hz, hpos⟩ := appB_facts hB
    refine e_appNew0 (bytes := bytes) hB hS hx (hS.owG hi) h1 hy hs (by omega) h63 hby fun b cap' w' hS' => h _ _ _ ?_
    -- the old piece is forgotten, the new one stands in its place
    have hp := hS'.sat
    refine ⟨hS'.os, hS'.tape, hS'.output, hS'.size, hS'.keep, ?_⟩
    have key : ∀ {B : Nat} {D : Nat → Prop} {w : World} {c c' : Ch} {Γ : List Ch} {i : Nat}, Sat B D (c' :: Γ) w → Γ[i]? = some c → Sat B D (Γ.set i c') w := by
      intro B D w c c' Γ
      induction Γ with
      | nil => intro i _ hi; simp at hi
      | cons d Γ ih =>
        intro i hs hi
        obtain ⟨k1, k2, k3, k4, k5, k6, k7⟩ := hs
        cases i with
        | zero => exact ⟨k1, k2, fun e he => k3 e (.tail _ he), k7⟩
        | succ i =>
          simp at hi
          refine ⟨k4, k5, ?_, ih ⟨k1, k2, fun e he => k3 e (.tail _ he), k7⟩ hi⟩
          intro e he k hd hek
          rcases List.mem_or_eq_of_mem_set he with he | rfl
          · exact k6 e he k hd hek
          · exact k3 d (.head _) k hek hd
    exact key hp hi
/-- An element of an own slice is written. -/
theorem storeOw {c : List Value} {e size i m cap j : Nat} {ad : Option Addr} {xs : List Value} {v : Value} (hS : St w0 D Γ w) (hz : szB P T = some c.length) (hc : v.cells = c.toArray) (hv : ∀ u ∈ c, u.oneCell' = true)
    (hi : Γ[i]? = some (.ow e size ad m cap xs)) (hj : j + c.length ≤ m * size) (hp : 0 < c.length) :
    ∃ w', (Instr.storeAt T (.pointer (some (Ad ad j))) v).run P w = .ok () w' ∧ St w0 D (Γ.set i (.ow e size ad m cap (xs.take j ++ c ++ xs.drop (j + c.length)))) w' := by
  obtain ⟨h1, h2, h3, h4⟩ := (hS.sat.get hi).1
  rcases h4 with ⟨rfl, hcc⟩ | ⟨gb, off, cur, rfl, hg, hle, hxx⟩
  · have hm0 : m = 0 := by omega
    subst hm0; omega
  · have hmul : m * size ≤ cap * size := Nat.mul_le_mul_right _ h2
    have hst := run_storeCells_at P gb (off + j) e c 0 cur w hg (by omega) hv
    simp only [Nat.add_zero] at hst
    refine ⟨w.setRow gb (List.take (off + j) cur.toList ++ c ++ List.drop (off + j + c.length) cur.toList).toArray, ?_, ?_⟩
    · have : (storeCells ⟨gb, off + j, Option.none⟩ c).run P w = _ := hst
      show (Instr.storeAt T (.pointer (some ⟨gb, off + j, Option.none⟩)) v).run P w = _
      simp only [Instr.storeAt, Instr.sureAddr, Sem.run_bind, Sem.run_pure, Result.andThen_ok, storeVar, hc, run_sizeOf hz]
      rw [if_neg (by simp)]
      simpa using this
    · refine hS.putAt (gb := gb) hi ⟨_, rfl, rfl⟩ (fun k hk => by obtain ⟨a0, h1, rfl⟩ := hk; injection h1 with h1; subst h1; rfl) rfl rfl rfl (by simp [World.setRow]) (fun k hk => by simp [World.setRow, Array.getElem?_modify, Ne.symm hk]) ⟨by rw [List.length_append, List.length_append, List.length_take, List.length_drop]; omega, h2, h3, .inr ⟨gb, off, _, rfl, setRow_heap w gb cur _ e _ hg, ?_, ?_⟩⟩
      · simp only [List.size_toArray, List.length_append, List.length_take, List.length_drop, Array.length_toList]; omega
      · subst hxx
        have hl1 : (cur.toList.take (off + j)).length = off + j := by rw [List.length_take, Array.length_toList]; omega
        apply List.ext_getElem?
        intro q
        simp only [List.getElem?_take, List.getElem?_drop, List.getElem?_append, List.length_append, List.length_take, List.length_drop, Array.length_toList]
        repeat' split
        all_goals first | rfl | omega | (congr 1; omega) | skip
theorem e_stOw0 {e i m cap j : Nat} {ad : Option Addr} {xs : List Value} {v : Value} (hS : St w0 D Γ w) (hx : ev n f x = .pointer (some (Ad ad j))) (hy : ev n f y = v) (hz : szB P T = some 1) (hv : v.oneCell' = true)
    (hi : Γ[i]? = some (.ow e 1 ad m cap xs)) (hj : j < m * 1) (h : ∀ w', St w0 D (Γ.set i (.ow e 1 ad m cap (xs.set j v))) w' → K (E n f) w') : Oper.wp P ⟨none, .store T x y, ty, pos, aft, g⟩ (E n f) w K Q := by
  obtain ⟨w', hr, hS'⟩ := storeOw (c := [v]) (i := i) (m := m) (size := 1) (cap := cap) (ad := ad) (xs := xs) (j := j) hS hz (one_cells hv) (ones1 hv) hi (by simp only [List.length_cons, List.length_nil]; omega) (Nat.zero_lt_one)
  unfold Oper.wp
  rw [E_eval]
  simp only [execOp, hx, hy, Sem.run_bind, hr, Result.andThen_ok, Sem.run_pure, Oper.upon]
  refine h _ ?_
  have hl := (hS.owLen hi).1
  have : xs.take j ++ [v] ++ xs.drop (j + [v].length) = xs.set j v := by
    rw [List.set_eq_take_append_cons_drop, if_pos (by omega)]; simp
  rwa [this] at hS'
theorem e_stOwA0 {e size i m cap j : Nat} {ad : Option Addr} {xs cs : List Value} (hS : St w0 D Γ w) (hx : ev n f x = .pointer (some (Ad ad j))) (hy : ev n f y = .agg cs.toArray) (hz : szB P T = some cs.length) (h1 : AllOne cs)
    (hi : Γ[i]? = some (.ow e size ad m cap xs)) (hj : j + cs.length ≤ m * size) (hp : 0 < cs.length) (h : ∀ w', St w0 D (Γ.set i (.ow e size ad m cap (xs.take j ++ cs ++ xs.drop (j + cs.length)))) w' → K (E n f) w') : Oper.wp P ⟨none, .store T x y, ty, pos, aft, g⟩ (E n f) w K Q := by
  obtain ⟨w', hr, hS'⟩ := storeOw (c := cs) (v := .agg cs.toArray) hS hz rfl h1.all hi hj hp
  unfold Oper.wp
  rw [E_eval]
  simp only [execOp, hx, hy, Sem.run_bind, hr, Result.andThen_ok, Sem.run_pure, Oper.upon]
  exact h _ hS'
/-- copy onto a part of an own slice. -/
theorem e_cpy0 {e size i m cap lo l mx dl dc sl sc : Nat} {ad ad2 : Option Addr} {xs ys : List Value} (hS : St w0 D Γ w) (ht : slB P T = some e) (hsz : szB P e = some size) (hpos : 0 < size) (hx : ev n f x = .slice (subS ad lo size mx) dl dc) (hi : Γ[i]? = some (.ow e size ad m cap xs))
    (hle : lo + dl ≤ m) (hmx : lo + dl ≤ mx) (hy : ev n f y = .slice ad2 sl sc) (hG : SlG (hw w) ad2 ys) (hl : ys.length = sl * size) (h1 : ∀ u ∈ ys.take (min sl dl * size), u.oneCell' = true)
    (h : ∀ w', St w0 D (Γ.set i (.ow e size ad m cap (xs.take (lo * size) ++ ys.take (min sl dl * size) ++ xs.drop (lo * size + min sl dl * size)))) w' → K (E n (up f dd (.int .i64 (min sl dl : Nat)))) w') :
    Oper.wp P ⟨some dd, .call ⟨.builtin .copy, List.toArray [x, y], List.toArray [T, Tx]⟩, ty, pos, aft, g⟩ (E n f) w K Q := by
  obtain ⟨k1, k2, k3, k4⟩ := (hS.sat.get hi).1
  have hN : Nat.min sl dl = min sl dl := rfl
  have hfc : (Builtin.firstCells size (min sl dl) (.slice ad2 sl sc)).run P w = .ok (ys.take (min sl dl * size)).toArray w := by
    have hG2 : SlG (hw w) ad2 (ys.take (min sl dl * size)) := by
      rcases hG with h0 | ⟨b, off, arr, T, fz, ha, hb, hx⟩
      · exact .inl (by rw [h0]; simp)
      · refine .inr ⟨b, off, arr, T, fz, ha, hb, fun j u hu => hx j u ?_⟩
        rw [List.getElem?_take] at hu
        split at hu
        · exact hu
        · cases hu
    have hl2 : (ys.take (min sl dl * size)).length = min sl dl * size := by
      rw [List.length_take, hl]; exact Nat.min_eq_left (Nat.mul_le_mul_right _ (Nat.min_le_left _ _))
    exact hG2.first hl2
  have hmul : min sl dl * size ≤ dl * size := Nat.mul_le_mul_right _ (Nat.min_le_right _ _)
  have hmul4 : min sl dl * size ≤ sl * size := Nat.mul_le_mul_right _ (Nat.min_le_left _ _)
  have hmul2 : lo * size + dl * size ≤ m * size := by rw [← Nat.add_mul]; exact Nat.mul_le_mul_right _ hle
  have hmul3 : m * size ≤ cap * size := Nat.mul_le_mul_right _ k2
  have hyl : (ys.take (min sl dl * size)).length = min sl dl * size := by
    rw [List.length_take, hl]; exact Nat.min_eq_left (Nat.mul_le_mul_right _ (Nat.min_le_left _ _))
  by_cases h0 : min sl dl = 0
  · have hnone : (ys.take (min sl dl * size)) = [] := by rw [h0]; simp
    have hr : (Builtin.copy_ #[T, Tx] ty #[.slice (subS ad lo size mx) dl dc, .slice ad2 sl sc]).run P w = .ok (.int .i64 (min sl dl : Nat)) w := by
      rw [hnone] at hfc
      cases hsub : subS ad lo size mx <;> simp [Builtin.copy_, run_undSl ht, Builtin.lenOf, run_sizeOf hsz, hN, hfc, storeCells, goInt, Sem.run]
    refine wp_known rfl (ex_copy hx hy hr) (h _ ?_)
    refine hS.recast hi (fun _ hk => hk) fun hs => ?_
    rw [hnone, h0]; simpa using hs
  · rcases k4 with ⟨rfl, hcc⟩ | ⟨gb, off, cur, rfl, hg, hlec, hxx⟩
    · omega
    · have hml : mx ≠ lo := by omega
      have hsub : subS (some ⟨gb, off, none⟩) lo size mx = some ⟨gb, off + lo * size, none⟩ := by simp [subS, hml, addr_add]
      have hone : ∀ v ∈ ys.take (min sl dl * size), v.oneCell' = true := fun v hv => h1 v hv
      have hst := run_storeCells_at P gb (off + lo * size) e (ys.take (min sl dl * size)) 0 cur w hg (by rw [hyl]; omega) hone
      simp only [Nat.add_zero] at hst
      rw [hsub] at hx
      have hr : (Builtin.copy_ #[T, Tx] ty #[.slice (some ⟨gb, off + lo * size, none⟩) dl dc, .slice ad2 sl sc]).run P w = .ok (.int .i64 (min sl dl : Nat)) (w.setRow gb (cur.toList.take (off + lo * size) ++ ys.take (min sl dl * size) ++ cur.toList.drop (off + lo * size + (ys.take (min sl dl * size)).length)).toArray) := by
        simp [Builtin.copy_, run_undSl ht, Builtin.lenOf, run_sizeOf hsz, hN, hfc, hst, goInt, Sem.run]
      refine wp_known rfl (ex_copy hx hy hr) (h _ ?_)
      refine hS.putAt (gb := gb) hi ⟨_, rfl, rfl⟩ (fun k hk => by obtain ⟨a0, h1, rfl⟩ := hk; injection h1 with h1; subst h1; rfl) rfl rfl rfl (by simp [World.setRow]) (fun k hk => by simp [World.setRow, Array.getElem?_modify, Ne.symm hk]) ⟨by simp only [List.length_append, List.length_take, List.length_drop]; omega, k2, k3, .inr ⟨gb, off, _, rfl, setRow_heap w gb cur _ e _ hg, ?_, ?_⟩⟩
      · simp only [List.size_toArray, List.length_append, List.length_take, List.length_drop, Array.length_toList]; omega
      · subst hxx
        have hlo : lo * size + min sl dl * size ≤ m * size := by omega
        apply List.ext_getElem?
        intro q
        simp only [List.getElem?_take, List.getElem?_drop, List.getElem?_append, List.length_append, List.length_take, List.length_drop, Array.length_toList]
        repeat' split
        all_goals first | rfl | omega | (congr 1; omega) | skip
/-! ### the same, the new row as the caller says it -/
theorem e_app {e size bytes i m cap l m' : Nat} {ad : Option Addr} {xs news xs' : List Value} {X : Value} (hB : appB P T e size bytes = true) (hS : St w0 D Γ w) (hx : ev n f x = .slice ad m cap) (hi : Γ[i]? = some (.ow e size ad m cap xs))
    (hy : ev n f y = X) (hs : Src P size Tx X l news w) (hm' : m + l = m') (hx' : xs ++ news = xs') (h63 : m' ≤ maxLen) (hby : m' * bytes ≤ 140737488355328)
    (h : ∀ ad' cap' w', St w0 D (Γ.set i (.ow e size ad' m' cap' xs')) w' → K (E n (up f dd (.slice ad' m' cap'))) w') :
    Oper.wp P ⟨some dd, .call ⟨.builtin .append, List.toArray [x, y], List.toArray [T, Tx]⟩, ty, pos, aft, g⟩ (E n f) w K Q := by
  subst hm' hx'; exact e_app0 hB hS hx hi hy hs h63 hby h
theorem e_appNew {e size bytes m cap l m' : Nat} {ad : Option Addr} {xs news xs' : List Value} {X : Value} (hB : appB P T e size bytes = true) (hS : St w0 D Γ w) (hx : ev n f x = .slice ad m cap) (hG : SlG (hw w) ad xs) (hlx : xs.length = m * size)
    (hy : ev n f y = X) (hs : Src P size Tx X l news w) (hgr : cap < m + l) (hm' : m + l = m') (hx' : xs ++ news = xs') (h63 : m' ≤ maxLen) (hby : m' * bytes ≤ 140737488355328)
    (h : ∀ b cap' w', St w0 D (.ow e size (some ⟨b, 0, Option.none⟩) m' cap' xs' :: Γ) w' → K (E n (up f dd (.slice (some ⟨b, 0, Option.none⟩) m' cap'))) w') :
    Oper.wp P ⟨some dd, .call ⟨.builtin .append, List.toArray [x, y], List.toArray [T, Tx]⟩, ty, pos, aft, g⟩ (E n f) w K Q := by
  subst hm' hx'; exact e_appNew0 hB hS hx hG hlx hy hs hgr h63 hby h
theorem e_stOw {e i m cap j : Nat} {ad : Option Addr} {xs xs' : List Value} {v : Value} (hS : St w0 D Γ w) (hx : ev n f x = .pointer (some (Ad ad j))) (hy : ev n f y = v) (hz : szB P T = some 1) (hv : v.oneCell' = true)
    (hi : Γ[i]? = some (.ow e 1 ad m cap xs)) (hj : j < m * 1) (hx' : xs.set j v = xs') (h : ∀ w', St w0 D (Γ.set i (.ow e 1 ad m cap xs')) w' → K (E n f) w') : Oper.wp P ⟨none, .store T x y, ty, pos, aft, g⟩ (E n f) w K Q := by
  subst hx'; exact e_stOw0 hS hx hy hz hv hi hj h
theorem e_stOwA {e size i m cap j : Nat} {ad : Option Addr} {xs cs xs' : List Value} (hS : St w0 D Γ w) (hx : ev n f x = .pointer (some (Ad ad j))) (hy : ev n f y = .agg cs.toArray) (hz : szB P T = some cs.length) (h1 : AllOne cs)
    (hi : Γ[i]? = some (.ow e size ad m cap xs)) (hj : j + cs.length ≤ m * size) (hp : 0 < cs.length) (hx' : xs.take j ++ cs ++ xs.drop (j + cs.length) = xs') (h : ∀ w', St w0 D (Γ.set i (.ow e size ad m cap xs')) w' → K (E n f) w') : Oper.wp P ⟨none, .store T x y, ty, pos, aft, g⟩ (E n f) w K Q := by
  subst hx'; exact e_stOwA0 hS hx hy hz h1 hi hj hp h
theorem e_cpy {e size i m cap lo l mx dl dc sl sc : Nat} {ad ad2 : Option Addr} {xs ys xs' : List Value} (hS : St w0 D Γ w) (ht : slB P T = some e) (hsz : szB P e = some size) (hpos : 0 < size) (hx : ev n f x = .slice (subS ad lo size mx) dl dc) (hi : Γ[i]? = some (.ow e size ad m cap xs))
    (hle : lo + dl ≤ m) (hmx : lo + dl ≤ mx) (hy : ev n f y = .slice ad2 sl sc) (hG : SlG (hw w) ad2 ys) (hl : ys.length = sl * size) (h1 : ∀ u ∈ ys.take (min sl dl * size), u.oneCell' = true) (hx' : xs.take (lo * size) ++ ys.take (min sl dl * size) ++ xs.drop (lo * size + min sl dl * size) = xs')
    (h : ∀ w', St w0 D (Γ.set i (.ow e size ad m cap xs')) w' → K (E n (up f dd (.int .i64 (min sl dl : Nat)))) w') :
    Oper.wp P ⟨some dd, .call ⟨.builtin .copy, List.toArray [x, y], List.toArray [T, Tx]⟩, ty, pos, aft, g⟩ (E n f) w K Q := by
  subst hx'; exact e_cpy0 (l := l) hS ht hsz hpos hx hi hle hmx hy hG hl h1 h
end
end Go.Proofs.YtdlmcgflgdmjgaaDoor
