/- The rules of the small logic: the code's forms, the operations, calls, loops, regions in whatever order. Over any program. -/
import Derived.Test.YtdlmcgflgdmjgaaDoorSl
import Derived.Lib.Hide
import Derived.IntWalk
set_option linter.unusedVariables false
set_option linter.unusedSimpArgs false
namespace Go.Proofs.YtdlmcgflgdmjgaaDoor
open Go.RowKit

section
variable {P : Program} {ops : Array Oper} {Q : Exit → Act → World → Prop} {n : Nat} {f : Nat → Value} {w : World}

/-! ### facts of a program's types, as closed words -/
def sglB (P : Program) (t : TypeId) : Bool := match P.underlying t with
  | some (.struct _) => false | some (.array _ _) => false | some _ => true | none => false
def aggB (P : Program) (t : TypeId) : Bool := match P.underlying t with
  | some (.struct _) => true | some (.array _ _) => true | _ => false
def szB (P : Program) (t : TypeId) : Option Nat := (P.info? t).map (·.size)
def byB (P : Program) (t : TypeId) : Option Nat := (P.info? t).map (·.bytes)
def zeroB (P : Program) (t : TypeId) : Option Value := (P.info? t).bind (·.zero)
/-- A struct's field: its type, its place, and it has cells. -/
def fldB (P : Program) (s : TypeId) (i : Nat) : Option (TypeId × Nat) := match P.underlying s with
  | some (.struct fs) => (fs[i]?).bind fun g => match P.info? g.type with | some inf => if inf.size = 0 then none else some (g.type, g.offset) | none => none
  | _ => none
def slB (P : Program) (t : TypeId) : Option TypeId := match P.underlying t with | some (.slice e) => some e | _ => none
def ifB (P : Program) (t : TypeId) : Bool := match P.underlying t with | some (.interface _) => true | _ => false
def cncB (P : Program) (t : TypeId) : Bool := match P.underlying t with | some (.interface _) => false | some _ => true | none => false

theorem run_isAgg {t : TypeId} (h : sglB P t = true) : (isAgg t).run P w = .ok false w := by
  unfold sglB at h
  cases hu : P.underlying t with
  | none => simp [hu] at h
  | some d => cases d <;> simp [hu] at h <;> simp [isAgg, underlying, hu, program, Sem.run]
theorem run_isAggT {t : TypeId} (h : aggB P t = true) : (isAgg t).run P w = .ok true w := by
  unfold aggB at h
  cases hu : P.underlying t with
  | none => simp [hu] at h
  | some d => cases d <;> simp [hu] at h <;> simp [isAgg, underlying, hu, program, Sem.run]
theorem run_sizeOf {t : TypeId} {m : Nat} (h : szB P t = some m) : (sizeOf t).run P w = .ok m w := by
  unfold szB at h
  cases hu : P.info? t with
  | none => simp [hu] at h
  | some d => simp [hu] at h; simp [sizeOf, typeInfo, hu, program, Sem.run, h]
theorem run_zero {t : TypeId} {v : Value} (h : zeroB P t = some v) : (zeroValue t).run P w = .ok v w := by
  unfold zeroB at h
  cases hu : P.info? t with
  | none => simp [hu] at h
  | some d => simp [hu] at h; simp [zeroValue, typeInfo, hu, program, Sem.run, h]
theorem run_undSl {t e : TypeId} (h : slB P t = some e) : (underlying t).run P w = .ok (.slice e) w := by
  unfold slB at h
  cases hu : P.underlying t with
  | none => simp [hu] at h
  | some d => cases d <;> simp [hu] at h <;> (subst h; simp [underlying, hu, program, Sem.run])

/-! ### cells -/
theorem cell_blk {b off : Nat} {arr : Array Value} {T : TypeId} {fz : Nat × Nat} {v : Value} (h : w.heap[b]? = some (.cells arr T fz)) (hv : arr[off]? = some v) : w.cell? ⟨b, off, none⟩ = some v := by
  simp [World.cell?, h, hv]
theorem run_loadCellsFrom {b : Nat} {arr : Array Value} {T : TypeId} {fz : Nat × Nat} (h : w.heap[b]? = some (.cells arr T fz)) (off : Nat) : ∀ (m i : Nat) (acc : Array Value), off + i + m ≤ arr.size →
    (loadCellsFrom ⟨b, off, none⟩ i m acc).run P w = .ok (acc ++ arr.extract (off + i) (off + i + m)) w
  | 0, i, acc, _ => by simp [loadCellsFrom, Sem.run]; omega
  | m + 1, i, acc, hm => by
    have ha : Addr.add ⟨b, off, none⟩ i = ⟨b, off + i, none⟩ := by unfold Addr.add; split <;> simp_all
    have hc : w.cell? ⟨b, off + i, none⟩ = some arr[off + i] := cell_blk h (by simp <;> omega)
    simp only [loadCellsFrom, Sem.run_bind, load, ha, Sem.run, hc, Result.andThen_ok]
    rw [run_loadCellsFrom h off m (i + 1) _ (by omega)]
    congr 1
    apply Array.ext
    · simp; try omega
    · intro j h1 h2
      simp only [Array.getElem_append, Array.getElem_push, Array.size_push, Array.getElem_extract]
      by_cases hj : j < acc.size
      · simp [hj, Nat.lt_succ_of_lt hj]
      · by_cases hj2 : j = acc.size
        · subst hj2; simp
        · have : ¬ j < acc.size + 1 := by omega
          simp only [hj, this, dite_false]
          congr 1; omega
theorem run_load1 {t : TypeId} {a : Addr} {v : Value} (h : sglB P t = true) (hc : w.cell? a = some v) : (Instr.loadAt t (.pointer (some a))).run P w = .ok v w := by
  simp [Instr.loadAt, Instr.sureAddr, loadVar, run_isAgg h, load, Sem.run, hc]
theorem run_loadA {t : TypeId} {m b off : Nat} {arr : Array Value} {T : TypeId} {fz : Nat × Nat} (h : aggB P t = true) (hz : szB P t = some m) (hb : w.heap[b]? = some (.cells arr T fz)) (hm : off + m ≤ arr.size) :
    (Instr.loadAt t (.pointer (some ⟨b, off, none⟩))).run P w = .ok (.agg (arr.extract off (off + m))) w := by
  simp [Instr.loadAt, Instr.sureAddr, loadVar, run_isAggT h, run_sizeOf hz, loadCells, run_loadCellsFrom hb off m 0 #[] (by omega)]

/-! ### an operation that yields and leaves the memory -/
abbrev Run (P : Program) (n : Nat) (f : Nat → Value) (o : Oper) (w : World) (v : Value) : Prop := (execOp (ev n f) o).run P w = .ok (.value v) w
section ops
variable {d : Option Tmp} {x y z : Operand} {ty T T' : TypeId} {pos : String} {aft : Array Edge} {g : Option (Nat × Bool)} {k : IntKind} {a b : Int}
theorem q_move {v : Value} (hx : ev n f x = v) : Run P n f ⟨d, .move x, ty, pos, aft, g⟩ w v := by subst hx; rfl
theorem q_assign {v : Value} (hx : ev n f x = v) : Run P n f ⟨d, .assign x, ty, pos, aft, g⟩ w v := by subst hx; rfl
theorem q_moveI (hx : ev n f x = .int k a) : Run P n f ⟨d, .move x, ty, pos, aft, g⟩ w (.int k a) := q_move hx
theorem q_moveB {t : Bool} (hx : ev n f x = .bool t) : Run P n f ⟨d, .move x, ty, pos, aft, g⟩ w (.bool t) := q_move hx
theorem q_moveS {ad : Option Addr} {l c : Nat} (hx : ev n f x = .slice ad l c) : Run P n f ⟨d, .move x, ty, pos, aft, g⟩ w (.slice ad l c) := q_move hx
theorem q_moveP {ad : Option Addr} (hx : ev n f x = .pointer ad) : Run P n f ⟨d, .move x, ty, pos, aft, g⟩ w (.pointer ad) := q_move hx
theorem q_assignI (hx : ev n f x = .int k a) : Run P n f ⟨d, .assign x, ty, pos, aft, g⟩ w (.int k a) := q_assign hx
theorem q_assignB {t : Bool} (hx : ev n f x = .bool t) : Run P n f ⟨d, .assign x, ty, pos, aft, g⟩ w (.bool t) := q_assign hx
theorem q_assignS {ad : Option Addr} {l c : Nat} (hx : ev n f x = .slice ad l c) : Run P n f ⟨d, .assign x, ty, pos, aft, g⟩ w (.slice ad l c) := q_assign hx
theorem q_assignP {ad : Option Addr} (hx : ev n f x = .pointer ad) : Run P n f ⟨d, .assign x, ty, pos, aft, g⟩ w (.pointer ad) := q_assign hx
theorem q_pickT {v : Value} {t : Bool} (hx : ev n f x = .bool t) (ht : t = true) (hy : ev n f y = v) : Run P n f ⟨d, .pick x y z, ty, pos, aft, g⟩ w v := by
  subst hy ht; simp [Run, execOp, hx, asBool, Sem.run]
theorem q_pickF {v : Value} {t : Bool} (hx : ev n f x = .bool t) (ht : t = false) (hy : ev n f z = v) : Run P n f ⟨d, .pick x y z, ty, pos, aft, g⟩ w v := by
  subst hy ht; simp [Run, execOp, hx, asBool, Sem.run]
theorem q_add (hx : ev n f x = .int k a) (hy : ev n f y = .int k b) : Run P n f ⟨d, .binOp .add T x y T', ty, pos, aft, g⟩ w (.int k (k.wrap (a + b))) := by
  simp [Run, execOp, hx, hy, eqGuard, binOp, Op.intArith, Sem.run]
theorem q_sub (hx : ev n f x = .int k a) (hy : ev n f y = .int k b) : Run P n f ⟨d, .binOp .sub T x y T', ty, pos, aft, g⟩ w (.int k (k.wrap (a - b))) := by
  simp [Run, execOp, hx, hy, eqGuard, binOp, Op.intArith, Sem.run]
theorem q_mul (hx : ev n f x = .int k a) (hy : ev n f y = .int k b) : Run P n f ⟨d, .binOp .mul T x y T', ty, pos, aft, g⟩ w (.int k (k.wrap (a * b))) := by
  simp [Run, execOp, hx, hy, eqGuard, binOp, Op.intArith, Sem.run]
theorem wrap_in {c : Int} (h0 : -9223372036854775808 ≤ c) (h1 : c ≤ 9223372036854775807) : IntKind.i64.wrap c = c := by
  simp [IntKind.wrap, IntKind.bits, IntKind.signed]; omega
theorem q_addx (hx : ev n f x = .int .i64 a) (hy : ev n f y = .int .i64 b) (h0 : -9223372036854775808 ≤ a + b) (h1 : a + b ≤ 9223372036854775807) : Run P n f ⟨d, .binOp .add T x y T', ty, pos, aft, g⟩ w (.int .i64 (a + b)) := by
  have := q_add (P := P) (w := w) (d := d) (T := T) (T' := T') (ty := ty) (pos := pos) (aft := aft) (g := g) hx hy; rwa [wrap_in h0 h1] at this
theorem q_subx (hx : ev n f x = .int .i64 a) (hy : ev n f y = .int .i64 b) (h0 : -9223372036854775808 ≤ a - b) (h1 : a - b ≤ 9223372036854775807) : Run P n f ⟨d, .binOp .sub T x y T', ty, pos, aft, g⟩ w (.int .i64 (a - b)) := by
  have := q_sub (P := P) (w := w) (d := d) (T := T) (T' := T') (ty := ty) (pos := pos) (aft := aft) (g := g) hx hy; rwa [wrap_in h0 h1] at this
theorem q_mulx (hx : ev n f x = .int .i64 a) (hy : ev n f y = .int .i64 b) (h0 : -9223372036854775808 ≤ a * b) (h1 : a * b ≤ 9223372036854775807) : Run P n f ⟨d, .binOp .mul T x y T', ty, pos, aft, g⟩ w (.int .i64 (a * b)) := by
  have := q_mul (P := P) (w := w) (d := d) (T := T) (T' := T') (ty := ty) (pos := pos) (aft := aft) (g := g) hx hy; rwa [wrap_in h0 h1] at this
theorem q_quo (hx : ev n f x = .int k a) (hy : ev n f y = .int k b) (hb : b ≠ 0) : Run P n f ⟨d, .binOp .quo T x y T', ty, pos, aft, g⟩ w (.int k (k.wrap (a.tdiv b))) := by
  simp [Run, execOp, hx, hy, eqGuard, binOp, Op.intDiv, Sem.run, hb]
theorem q_rem (hx : ev n f x = .int k a) (hy : ev n f y = .int k b) (hb : b ≠ 0) : Run P n f ⟨d, .binOp .rem T x y T', ty, pos, aft, g⟩ w (.int k (a.tmod b)) := by
  simp [Run, execOp, hx, hy, eqGuard, binOp, Op.intDiv, Sem.run, hb]
theorem q_lss (hx : ev n f x = .int k a) (hy : ev n f y = .int k b) : Run P n f ⟨d, .binOp .lss T x y T', ty, pos, aft, g⟩ w (.bool (decide (a < b))) := by
  simp [Run, execOp, hx, hy, eqGuard, binOp, Op.intCmp, Sem.run]
theorem q_leq (hx : ev n f x = .int k a) (hy : ev n f y = .int k b) : Run P n f ⟨d, .binOp .leq T x y T', ty, pos, aft, g⟩ w (.bool (decide (a ≤ b))) := by
  simp [Run, execOp, hx, hy, eqGuard, binOp, Op.intCmp, Sem.run]
theorem q_gtr (hx : ev n f x = .int k a) (hy : ev n f y = .int k b) : Run P n f ⟨d, .binOp .gtr T x y T', ty, pos, aft, g⟩ w (.bool (decide (b < a))) := by
  simp [Run, execOp, hx, hy, eqGuard, binOp, Op.intCmp, Sem.run]
theorem q_geq (hx : ev n f x = .int k a) (hy : ev n f y = .int k b) : Run P n f ⟨d, .binOp .geq T x y T', ty, pos, aft, g⟩ w (.bool (decide (b ≤ a))) := by
  simp [Run, execOp, hx, hy, eqGuard, binOp, Op.intCmp, Sem.run]
theorem q_eql (hx : ev n f x = .int k a) (hy : ev n f y = .int k b) : Run P n f ⟨d, .binOp .eql T x y T', ty, pos, aft, g⟩ w (.bool (decide (a = b))) := by
  simp [Run, execOp, hx, hy, eqGuard, binOp, Op.intCmp, Sem.run]; rfl
theorem q_neq (hx : ev n f x = .int k a) (hy : ev n f y = .int k b) : Run P n f ⟨d, .binOp .neq T x y T', ty, pos, aft, g⟩ w (.bool (decide (a ≠ b))) := by
  simp [Run, execOp, hx, hy, eqGuard, binOp, Op.intCmp, Sem.run]; rw [Bool.eq_iff_iff]; simp
theorem q_not {t : Bool} (hx : ev n f x = .bool t) : Run P n f ⟨d, .unOp .not T x, ty, pos, aft, g⟩ w (.bool (!t)) := by
  simp [Run, execOp, hx, Op.unary, Sem.run]
theorem q_neg (hx : ev n f x = .int k a) : Run P n f ⟨d, .unOp .neg T x, ty, pos, aft, g⟩ w (.int k (k.wrap (0 - a))) := by
  simp [Run, execOp, hx, Op.unary, Op.intArith, Sem.run]
theorem q_extract {vs : Array Value} {i : Nat} {v : Value} (hx : ev n f x = .tuple vs) (hi : vs[i]? = some v) : Run P n f ⟨d, .extract x i, ty, pos, aft, g⟩ w v := by
  simp [Run, execOp, hx, Instr.extract, Sem.run, hi]
theorem q_makeInterface {v : Value} (hx : ev n f x = v) (h : cncB P T = true) : Run P n f ⟨d, .makeInterface T x, ty, pos, aft, g⟩ w (.iface T v) := by
  subst hx
  unfold cncB at h
  cases hu : P.underlying T with
  | none => simp [hu] at h
  | some d => cases d <;> simp [hu] at h <;> simp [Run, execOp, Instr.makeInterface, underlying, hu, program, Sem.run]
theorem q_makeFunc {fn : Fn} {fs cs : List Operand} : Run P n f ⟨d, .makeFunc fn fs.toArray cs.toArray, ty, pos, aft, g⟩ w (.func fn (evl n f fs).toArray (evl n f cs).toArray) := by
  simp [Run, execOp, Instr.makeFunc, Sem.run, evl_eq]
theorem q_nilCheck {ad : Addr} (hx : ev n f x = .pointer (some ad)) : Run P n f ⟨d, .nilCheck x, ty, pos, aft, g⟩ w (.pointer (some ad)) := by
  simp [Run, execOp, hx, Sem.run]
theorem q_fieldAddr {bl off i o : Nat} {ft : TypeId} (hx : ev n f x = .pointer (some ⟨bl, off, none⟩)) (hf : fldB P T i = some (ft, o)) : Run P n f ⟨d, .fieldAddr T x i, ty, pos, aft, g⟩ w (.pointer (some ⟨bl, off + o, none⟩)) := by
  unfold fldB at hf
  split at hf
  case h_2 => cases hf
  rename_i fs hu
  cases hi : fs[i]? with
  | none => simp [hi] at hf
  | some fl =>
    simp only [hi, Option.bind_some] at hf
    cases hn : P.info? fl.type with
    | none => simp [hn] at hf
    | some inf =>
      simp only [hn] at hf
      split at hf
      · cases hf
      rename_i hz
      simp only [Option.some.injEq, Prod.mk.injEq] at hf
      obtain ⟨rfl, rfl⟩ := hf
      have hadd : Addr.add ⟨bl, off, none⟩ fl.offset = ⟨bl, off + fl.offset, none⟩ := by unfold Addr.add; split <;> simp_all
      simp [Run, execOp, hx, Instr.fieldAt, underlying, hu, program, Sem.run, hi, Instr.sureAddr, fieldPlace, sizeOf, typeInfo, hn, hz, hadd]
theorem q_load1 {ad : Addr} {v : Value} (hx : ev n f x = .pointer (some ad)) (h : sglB P T = true) (hc : w.cell? ad = some v) : Run P n f ⟨d, .load T x, ty, pos, aft, g⟩ w v := by
  simp [Run, execOp, hx, run_load1 h hc]
theorem q_loadA {m bl off : Nat} {arr : Array Value} {T2 : TypeId} {fz : Nat × Nat} {cs : List Value} (hx : ev n f x = .pointer (some ⟨bl, off, none⟩)) (h : aggB P T = true) (hz : szB P T = some m) (hb : w.heap[bl]? = some (.cells arr T2 fz)) (hcs : (arr.toList.drop off).take m = cs) (hl : cs.length = m) :
    Run P n f ⟨d, .load T x, ty, pos, aft, g⟩ w (.agg cs.toArray) := by
  have hm : off + m ≤ arr.size ∨ m = 0 := by
    have := congrArg List.length hcs
    simp at this; omega
  have he : arr.extract off (off + m) = cs.toArray := by
    subst hcs
    apply Array.ext'
    simp [List.take_drop, Array.toList_extract, List.extract_eq_take_drop]
  rcases hm with hm | rfl
  · simp [Run, execOp, hx, run_loadA h hz hb hm, he]
  · have hcs0 : cs = [] := List.eq_nil_of_length_eq_zero hl
    subst hcs0
    simp [Run, execOp, hx, Instr.loadAt, Instr.sureAddr, loadVar, run_isAggT h, run_sizeOf hz, loadCells, loadCellsFrom, Sem.run]
theorem run_loadCellsC {bl off : Nat} : ∀ (l : List Value) (i : Nat) (acc : Array Value), (∀ j u, l[j]? = some u → w.cell? ⟨bl, off + (i + j), none⟩ = some u) → (loadCellsFrom ⟨bl, off, none⟩ i l.length acc).run P w = .ok (acc ++ l.toArray) w
  | [], i, acc, _ => by simp [loadCellsFrom, Sem.run]
  | v :: l, i, acc, h => by
    have ha : Addr.add ⟨bl, off, none⟩ i = ⟨bl, off + i, none⟩ := by unfold Addr.add; split <;> simp_all
    have hc : w.cell? ⟨bl, off + i, none⟩ = some v := h 0 v rfl
    simp only [List.length_cons, loadCellsFrom, Sem.run_bind, load, ha, Sem.run, hc, Result.andThen_ok]
    rw [run_loadCellsC l (i + 1) _ (fun j u hu => by have := h (j + 1) u (by simpa using hu); rwa [show i + (j + 1) = i + 1 + j by omega] at this)]
    simp
/-- A struct is loaded, its cells one by one. -/
theorem q_loadCs {bl off : Nat} {cs : List Value} (hx : ev n f x = .pointer (some ⟨bl, off, none⟩)) (h : aggB P T = true) (hz : szB P T = some cs.length) (hc : ∀ j u, cs[j]? = some u → w.cell? ⟨bl, off + j, none⟩ = some u) : Run P n f ⟨d, .load T x, ty, pos, aft, g⟩ w (.agg cs.toArray) := by
  have := run_loadCellsC (P := P) (w := w) (bl := bl) (off := off) cs 0 #[] (fun j u hu => by rw [Nat.zero_add]; exact hc j u hu)
  simp [Run, execOp, hx, Instr.loadAt, Instr.sureAddr, loadVar, run_isAggT h, run_sizeOf hz, loadCells, this]
theorem q_indexAddr {bl off len cap m : Nat} {e : TypeId} (hx : ev n f x = .slice (some ⟨bl, off, none⟩) len cap) (hy : ev n f y = .int k a) (ht : slB P T = some e) (hz : szB P e = some m) (h0 : 0 ≤ a) (h1 : a < len) :
    Run P n f ⟨d, .indexAddr T x y, ty, pos, aft, g⟩ w (.pointer (some ⟨bl, off + a.toNat * m, none⟩)) := by
  have hadd : Addr.add ⟨bl, off, none⟩ (a.toNat * m) = ⟨bl, off + a.toNat * m, none⟩ := by unfold Addr.add; split <;> simp_all
  simp [Run, execOp, hx, hy, Instr.indexAt, asIntOf, run_undSl ht, run_sizeOf hz, Sem.run, h0, h1, hadd]
theorem q_lenSl {ad : Option Addr} {len cap : Nat} {e : TypeId} {rest : List TypeId} (hx : ev n f x = .slice ad len cap) (ht : slB P T = some e) : Run P n f ⟨d, .call ⟨.builtin .len, List.toArray [x], List.toArray (T :: rest)⟩, ty, pos, aft, g⟩ w (.int .i64 len) := by
  simp [Run, execOp, resolve, invoke, builtin, Builtin.len_, hx, run_undSl ht, goInt, Sem.run]
theorem q_max (hx : ev n f x = .int k a) (hy : ev n f y = .int k b) {ts : Array TypeId} : Run P n f ⟨d, .call ⟨.builtin .max, List.toArray [x, y], ts⟩, ty, pos, aft, g⟩ w (.int k (max a b)) := by
  simp [Run, execOp, resolve, invoke, builtin, Builtin.max_, Builtin.max2, hx, hy, Sem.run]; split <;> omega
theorem und_if {t : TypeId} (h : ifB P t = true) : ∃ ms, P.underlying t = some (.interface ms) := by
  unfold ifB at h
  cases hu : P.underlying t with
  | none => simp [hu] at h
  | some d => cases d <;> simp [hu] at h; exact ⟨_, rfl⟩
theorem run_und {t : TypeId} {u : TypeDesc} (h : P.underlying t = some u) : (underlying t).run P w = .ok u w := by simp [underlying, h, program, Sem.run]
theorem eq_inil {t u : TypeId} {v : Value} (h : ifB P t = true) : (Op.equal t (.iface u v) .nilIface).run P w = .ok false w := by
  obtain ⟨ms, hu⟩ := und_if h
  have : ∀ d : Nat, (Op.equalIn (d + 1) t (.iface u v) .nilIface).run P w = .ok false w := fun d => by simp [Op.equalIn, run_und hu, Sem.run]
  exact this 9999
theorem eq_nnil {t : TypeId} (h : ifB P t = true) : (Op.equal t .nilIface .nilIface).run P w = .ok true w := by
  obtain ⟨ms, hu⟩ := und_if h
  have : ∀ d : Nat, (Op.equalIn (d + 1) t .nilIface .nilIface).run P w = .ok true w := fun d => by simp [Op.equalIn, run_und hu, Sem.run]
  exact this 9999
theorem q_ieq0 {T2 : TypeId} {v : Value} (hx : ev n f x = .iface T2 v) (ht : ifB P T = true) : Run P n f ⟨d, .binOp .eql T x (.const .nilIface) T', ty, pos, aft, g⟩ w (.bool false) := by
  have hc : ev n f (.const .nilIface) = .nilIface := rfl
  simp only [Run, execOp, hx, hc, binOp, eqGuard]; simp [eq_inil ht, Sem.run]
theorem q_ieq1 (hx : ev n f x = .nilIface) (ht : ifB P T = true) : Run P n f ⟨d, .binOp .eql T x (.const .nilIface) T', ty, pos, aft, g⟩ w (.bool true) := by
  have hc : ev n f (.const .nilIface) = .nilIface := rfl
  simp only [Run, execOp, hx, hc, binOp, eqGuard]; simp [eq_nnil ht, Sem.run]
theorem q_ine0 {T2 : TypeId} {v : Value} (hx : ev n f x = .iface T2 v) (ht : ifB P T = true) : Run P n f ⟨d, .binOp .neq T x (.const .nilIface) T', ty, pos, aft, g⟩ w (.bool true) := by
  have hc : ev n f (.const .nilIface) = .nilIface := rfl
  simp only [Run, execOp, hx, hc, binOp, eqGuard]; simp [eq_inil ht, Sem.run]
theorem q_ine1 (hx : ev n f x = .nilIface) (ht : ifB P T = true) : Run P n f ⟨d, .binOp .neq T x (.const .nilIface) T', ty, pos, aft, g⟩ w (.bool false) := by
  have hc : ev n f (.const .nilIface) = .nilIface := rfl
  simp only [Run, execOp, hx, hc, binOp, eqGuard]; simp [eq_nnil ht, Sem.run]
theorem q_ieqNI {T2 : TypeId} {v : Value} (hx : ev n f x = .nilIface) (hy : ev n f y = .iface T2 v) (ht : ifB P T = true) : Run P n f ⟨d, .binOp .eql T x y T', ty, pos, aft, g⟩ w (.bool false) := by
  obtain ⟨ms, hu⟩ := und_if ht
  have h9 : ∀ q : Nat, (Op.equalIn (q + 1) T .nilIface (.iface T2 v)).run P w = .ok false w := fun q => by simp [Op.equalIn, run_und hu, Sem.run]
  have h8 : (Op.equal T .nilIface (.iface T2 v)).run P w = .ok false w := h9 9999
  simp only [Run, execOp, hx, hy, binOp, eqGuard]; simp [h8, Sem.run]
theorem q_ieqTT {T2 T3 : TypeId} {v u : Value} (hx : ev n f x = .iface T3 u) (hy : ev n f y = .iface T2 v) (ht : ifB P T = true) (hne : Nat.beq T3 T2 = false) : Run P n f ⟨d, .binOp .eql T x y T', ty, pos, aft, g⟩ w (.bool false) := by
  obtain ⟨ms, hu⟩ := und_if ht
  have hne' : ¬ T3 = T2 := fun e => by rw [e] at hne; simp at hne
  have h9 : ∀ q : Nat, (Op.equalIn (q + 1) T (.iface T3 u) (.iface T2 v)).run P w = .ok false w := fun q => by simp [Op.equalIn, run_und hu, hne', Sem.run]
  have h8 : (Op.equal T (.iface T3 u) (.iface T2 v)).run P w = .ok false w := h9 9999
  simp only [Run, execOp, hx, hy, binOp, eqGuard]; simp [h8, Sem.run]
def ptB (P : Program) (t : TypeId) : Bool := match P.underlying t with | some (.pointer _) => true | _ => false
theorem und_pt {t : TypeId} (h : ptB P t = true) : ∃ e, P.underlying t = some (.pointer e) := by
  unfold ptB at h
  cases hu : P.underlying t with
  | none => simp [hu] at h
  | some d => cases d <;> simp [hu] at h; exact ⟨_, rfl⟩
theorem eq_ptr {t : TypeId} {a : Option Addr} (h : ptB P t = true) : (Op.equal t (.pointer a) (.pointer none)).run P w = .ok a.isNone w := by
  obtain ⟨e, hu⟩ := und_pt h
  have : ∀ q : Nat, (Op.equalIn (q + 1) t (.pointer a) (.pointer none)).run P w = .ok a.isNone w := fun q => by cases a <;> simp [Op.equalIn, run_und hu, Sem.run]
  exact this 9999
theorem q_peq {a : Option Addr} (hx : ev n f x = .pointer a) (ht : ptB P T = true) : Run P n f ⟨d, .binOp .eql T x (.const (.pointer none)) T', ty, pos, aft, g⟩ w (.bool a.isNone) := by
  have hc : ev n f (.const (.pointer none)) = .pointer none := rfl
  cases a <;> (simp only [Run, execOp, hx, hc, binOp, eqGuard]; simp [eq_ptr ht, Sem.run])
theorem q_pne {a : Option Addr} (hx : ev n f x = .pointer a) (ht : ptB P T = true) : Run P n f ⟨d, .binOp .neq T x (.const (.pointer none)) T', ty, pos, aft, g⟩ w (.bool (!a.isNone)) := by
  have hc : ev n f (.const (.pointer none)) = .pointer none := rfl
  cases a <;> (simp only [Run, execOp, hx, hc, binOp, eqGuard]; simp [eq_ptr ht, Sem.run])
/-- An interface value, nil or not. -/
def isNilB : Value → Bool | .nilIface => true | _ => false
def IsIf (v : Value) : Prop := v = .nilIface ∨ ∃ t u, v = .iface t u
theorem q_ieq {v : Value} (hx : ev n f x = v) (hv : IsIf v) (ht : ifB P T = true) : Run P n f ⟨d, .binOp .eql T x (.const .nilIface) T', ty, pos, aft, g⟩ w (.bool (isNilB v)) := by
  rcases hv with rfl | ⟨t, u, rfl⟩
  · exact q_ieq1 hx ht
  · exact q_ieq0 hx ht
theorem q_ine {v : Value} (hx : ev n f x = v) (hv : IsIf v) (ht : ifB P T = true) : Run P n f ⟨d, .binOp .neq T x (.const .nilIface) T', ty, pos, aft, g⟩ w (.bool (!isNilB v)) := by
  rcases hv with rfl | ⟨t, u, rfl⟩
  · exact q_ine1 hx ht
  · exact q_ine0 hx ht
/-- x.(T) with ok, T no interface: it is one. -/
theorem q_taHit {v : Value} {T2 : TypeId} (hx : ev n f x = .iface T2 v) (h : cncB P T2 = true) : Run P n f ⟨d, .typeAssert x T T2 true, ty, pos, aft, g⟩ w (.tuple #[v, .bool true]) := by
  unfold cncB at h
  cases hu : P.underlying T2 with
  | none => simp [hu] at h
  | some dd => cases dd <;> simp [hu] at h <;> simp [Run, execOp, hx, Instr.typeAssert, run_und hu, Sem.run]
theorem q_taMiss {v z : Value} {T2 T3 : TypeId} (hx : ev n f x = .iface T3 v) (h : cncB P T2 = true) (hne : Nat.beq T3 T2 = false) (hz : zeroB P T2 = some z) : Run P n f ⟨d, .typeAssert x T T2 true, ty, pos, aft, g⟩ w (.tuple #[z, .bool false]) := by
  have hne' : ¬ T3 = T2 := fun e => by rw [e] at hne; simp at hne
  unfold cncB at h
  cases hu : P.underlying T2 with
  | none => simp [hu] at h
  | some dd => cases dd <;> simp [hu] at h <;> simp [Run, execOp, hx, Instr.typeAssert, run_und hu, run_zero hz, hne', Sem.run]
theorem q_taNil {z : Value} {T2 : TypeId} (hx : ev n f x = .nilIface) (hz : zeroB P T2 = some z) (hu' : (P.underlying T2).isSome = true) : Run P n f ⟨d, .typeAssert x T T2 true, ty, pos, aft, g⟩ w (.tuple #[z, .bool false]) := by
  cases hu : P.underlying T2 with
  | none => simp [hu] at hu'
  | some dd => cases dd <;> simp [Run, execOp, hx, Instr.typeAssert, run_und hu, run_zero hz, Sem.run]
/-- x.(I) with ok, I an interface: whether its type has the methods is a closed fact. -/
def missL (want : Array (String × TypeId)) (got : Array Method) : List (String × TypeId) := want.toList.filter fun (name, sig) => !got.any fun m => m.name == name && m.sig == sig
def hasB (P : Program) (t I : TypeId) : Option Bool := match P.underlying I, P.info? t with
  | some (.interface ms), some inf => some (missL ms inf.methods).isEmpty
  | _, _ => none
theorem least_none {l : List String} (h : Instr.least l = none) : l = [] := by cases l <;> simp [Instr.least] at h; rfl
theorem miss_none {want : Array (String × TypeId)} {got : Array Method} (h : missL want got = []) : Instr.missingMethod want got = none := by
  unfold missL at h
  unfold Instr.missingMethod
  rw [h]; rfl
theorem part_none {l : List String} {p : String → Bool} {g : String → String} (h : (Instr.least (List.filter (not ∘ p) l) <|> Instr.least ((List.filter p l).map g)) = none) : l = [] := by
  rw [Option.orElse_eq_orElse, Option.orElse_eq_or, Option.or_eq_none_iff] at h
  have h1 := least_none h.1
  have h2 := List.map_eq_nil_iff.1 (least_none h.2)
  apply List.eq_nil_iff_forall_not_mem.2
  intro x hx
  by_cases hc : p x = true
  · have : x ∈ List.filter p l := List.mem_filter.2 ⟨hx, hc⟩
    rw [h2] at this; cases this
  · have : x ∈ List.filter (not ∘ p) l := List.mem_filter.2 ⟨hx, by simpa using hc⟩
    rw [h1] at this; cases this
theorem miss_some {want : Array (String × TypeId)} {got : Array Method} (h : missL want got ≠ []) : ∃ m, Instr.missingMethod want got = some m := by
  cases hm : Instr.missingMethod want got with
  | some m => exact ⟨m, rfl⟩
  | none =>
    exfalso; apply h
    unfold Instr.missingMethod at hm
    simp only [List.partition_eq_filter_filter] at hm
    exact List.map_eq_nil_iff.1 (part_none hm)
theorem q_taIHit {v : Value} {T2 T3 : TypeId} (hx : ev n f x = .iface T3 v) (h : hasB P T3 T2 = some true) : Run P n f ⟨d, .typeAssert x T T2 true, ty, pos, aft, g⟩ w (.tuple #[.iface T3 v, .bool true]) := by
  unfold hasB at h
  split at h
  · rename_i ms inf hu hi
    simp only [Option.some.injEq, List.isEmpty_iff] at h
    simp [Run, execOp, hx, Instr.typeAssert, run_und hu, typeInfo, program, hi, miss_none h, Sem.run]
  · cases h
theorem q_taIMiss {v z : Value} {T2 T3 : TypeId} (hx : ev n f x = .iface T3 v) (h : hasB P T3 T2 = some false) (hz : zeroB P T2 = some z) : Run P n f ⟨d, .typeAssert x T T2 true, ty, pos, aft, g⟩ w (.tuple #[z, .bool false]) := by
  unfold hasB at h
  split at h
  · rename_i ms inf hu hi
    simp only [Option.some.injEq] at h
    obtain ⟨m, hm⟩ := miss_some (want := ms) (got := inf.methods) (by rintro h0; rw [h0] at h; cases h)
    simp [Run, execOp, hx, Instr.typeAssert, run_und hu, typeInfo, program, hi, hm, run_zero hz, Sem.run]
  · cases h
/-! structs that are built -/
def plB (P : Program) : List Field → Option (List (Nat × Nat))
  | [] => some []
  | g :: l => match szB P g.type, plB P l with | some m, some r => some ((g.offset, m) :: r) | _, _ => none
def placesB (P : Program) (t : TypeId) : Option (List (Nat × Nat)) := match P.underlying t with
  | some (.struct fs) => plB P fs.toList
  | _ => none
def setMany : List Value → Nat → List Value → List Value
  | cs, _, [] => cs
  | cs, off, v :: l => setMany (cs.set off v) (off + 1) l
def fill1 (ps : List (Nat × Nat)) : List Value → List (Nat × Value) → Option (List Value)
  | cs, [] => some cs
  | cs, (i, v) :: r => match ps[i]? with
    | some (off, sz) => bif Nat.beq sz 1 then (bif Nat.blt off cs.length then fill1 ps (cs.set off v) r else none) else match v with
      | .agg a => bif Nat.beq a.size sz && Nat.ble (off + sz) cs.length then fill1 ps (setMany cs off a.toList) r else none
      | _ => none
    | none => none
def PartsOk (ps : List (Nat × Nat)) : List (Nat × Value) → Prop
  | [] => True
  | (i, v) :: r => ((∃ off, ps[i]? = some (off, 1)) → v.oneCell' = true) ∧ PartsOk ps r
def evp (n : Nat) (f : Nat → Value) : List (Nat × Operand) → List (Nat × Value)
  | [] => []
  | (i, x) :: l => (i, ev n f x) :: evp n f l
theorem evp_eq (l : List (Nat × Operand)) : evp n f l = l.map fun q => (q.1, ev n f q.2) := by
  induction l with
  | nil => rfl
  | cons a l ih => obtain ⟨i, x⟩ := a; simp [evp, ih]
theorem one_cells {v : Value} (h : v.oneCell' = true) : v.cells = #[v] := by cases v <;> simp [Value.oneCell'] at h <;> rfl
theorem foldl_setMany : ∀ (a : List Value) (cs : List Value) (off j : Nat), (List.foldl (fun (cs : Array Value) (x : Value × Nat) => cs.setIfInBounds (off + x.2) x.1) cs.toArray (a.zipIdx j)) = (setMany cs (off + j) a).toArray
  | [], cs, off, j => by simp [setMany]
  | v :: a, cs, off, j => by
    simp only [List.zipIdx_cons, List.foldl_cons, setMany, List.setIfInBounds_toArray]
    rw [foldl_setMany a _ off (j + 1)]; rfl
theorem fill_of_fill1 (ps : List (Nat × Nat)) : ∀ (r : List (Nat × Value)) (cs cs' : List Value), PartsOk ps r → fill1 ps cs r = some cs' → Instr.fill (fun i => ps[i]?) cs.toArray r = some cs'.toArray
  | [], cs, cs', _, h => by simp only [fill1, Option.some.injEq] at h; subst h; rfl
  | (i, v) :: r, cs, cs', hok, h => by
    simp only [fill1] at h
    cases hi : ps[i]? with
    | none => simp [hi] at h
    | some q =>
      obtain ⟨off, sz⟩ := q
      simp only [hi] at h
      simp only [Instr.fill, hi]
      cases hb : Nat.beq sz 1 with
      | true =>
        obtain rfl : sz = 1 := Nat.eq_of_beq_eq_true hb
        simp only [hb, cond_true] at h
        cases hl : Nat.blt off cs.length with
        | false => simp [hl] at h
        | true =>
          simp only [hl, cond_true] at h
          rw [blt_iff] at hl
          have hl' : off < cs.length := by simpa using hl
          have hc := one_cells (hok.1 ⟨off, hi⟩)
          rw [hc, if_neg (by simp; omega)]
          have := fill_of_fill1 ps r _ _ hok.2 h
          simpa using this
      | false =>
        simp only [hb, cond_false] at h
        cases v with
        | agg a =>
          simp only at h
          cases hl : (Nat.beq a.size sz && Nat.ble (off + sz) cs.length) with
          | false => simp [hl] at h
          | true =>
            simp only [hl, cond_true] at h
            rw [Bool.and_eq_true] at hl
            have h1 : a.size = sz := Nat.eq_of_beq_eq_true hl.1
            have h2 := Nat.le_of_ble_eq_true hl.2
            have hc : (Value.agg a).cells = a := rfl
            rw [hc, if_neg (by simp; omega)]
            have h3 := fill_of_fill1 ps r _ _ hok.2 h
            have h4 := foldl_setMany a.toList cs off 0
            have h5 : Array.foldl (fun cs x => Array.setIfInBounds cs (off + x.2) x.1) cs.toArray a.zipIdx = (setMany cs off a.toList).toArray := by
              rw [← Array.foldl_toList, Array.toList_zipIdx]; exact h4
            rw [h5]; exact h3
        | _ => simp at h
theorem run_places {t : TypeId} : ∀ (fs : List Field) (ps : List (Nat × Nat)), plB P fs = some ps → (fs.mapM (fun g => (do pure (g.offset, ← sizeOf g.type) : Sem (Nat × Nat)))).run P w = .ok ps w
  | [], ps, h => by simp only [plB, Option.some.injEq] at h; subst h; simp [Sem.run]
  | g :: l, ps, h => by
    simp only [plB] at h
    cases h1 : szB P g.type with
    | none => simp [h1] at h
    | some m =>
      cases h2 : plB P l with
      | none => simp [h1, h2] at h
      | some r =>
        simp only [h1, h2, Option.some.injEq] at h
        subst h
        have ih := run_places (t := t) l r h2
        simp only [List.mapM_cons, Sem.run_bind, run_sizeOf h1, Result.andThen_ok, Sem.run_pure, ih]
theorem q_build {ps : List (Nat × Nat)} {zv : Value} {parts : List (Nat × Operand)} {pv : List (Nat × Value)} {cs : List Value} (hp : placesB P T = some ps) (hz : zeroB P T = some zv) (hv : evp n f parts = pv) (hok : PartsOk ps pv) (hf : fill1 ps zv.cells.toList pv = some cs) : Run P n f ⟨d, .build T parts.toArray, ty, pos, aft, g⟩ w (.agg cs.toArray) := by
  unfold placesB at hp
  cases hu : P.underlying T with
  | none => simp [hu] at hp
  | some du =>
    cases du <;> simp [hu] at hp
    rename_i fs
    have h1 := run_places (P := P) (w := w) (t := T) fs.toList ps hp
    have h2 := fill_of_fill1 ps pv _ _ hok hf
    have h3 : (parts.toArray.map fun (i, x) => (i, ev n f x)).toList = pv := by rw [← hv, evp_eq]; simp
    have h4 : (fs.mapM (fun g => (do pure (g.offset, ← sizeOf g.type) : Sem (Nat × Nat)))).run P w = .ok ps.toArray w := by
      rw [← Array.toArray_toList (xs := fs), List.mapM_toArray]
      simp only [Sem.run_map, h1]; rfl
    simp only [Run, execOp, Sem.run_bind, Instr.build, run_zero hz, Result.andThen_ok, run_und hu, h4, h3]
    have h5 : Instr.fill (fun x => ps[x]?) zv.cells pv = some cs.toArray := by simpa using h2
    simp [h5, Sem.run]
theorem q_conv {k' : IntKind} (hx : ev n f x = .int k a) (h : P.underlying T' = some (.int k')) (h2 : (P.underlying T).isSome = true) : Run P n f ⟨d, .convert T T' x, ty, pos, aft, g⟩ w (.int k' (k'.wrap a)) := by
  cases hu : P.underlying T with
  | none => simp [hu] at h2
  | some du => cases du <;> simp [Run, execOp, hx, convert, run_und hu, run_und h, Conv.intToInt, Sem.run]
end ops

/-! ### the list of a region, in its own order -/
variable {rest : List Oper}
theorem l_nil (h : Q .normal (E n f) w) : wpList P ops Q [] (E n f) w := h
theorem l_q {o : Oper} {d : Nat} {v : Value} (hd : o.dst = some d) (hg : o.guard = none) (h : Run P n f o w v) (k : wpList P ops Q rest (E n (up f d v)) w) : wpList P ops Q (o :: rest) (E n f) w := by
  refine wpList_plain hg fun K hK => ?_
  unfold Oper.wp
  rw [E_eval, h]
  simp only [Oper.upon, hd, E_put]
  exact hK _ _ k
/-- An operation of one's own rule. -/
theorem l_e {o : Oper} (hg : o.guard = none) (h : ∀ K : Act → World → Prop, (∀ a w, wpList P ops Q rest a w → K a w) → o.wp P (E n f) w K Q) : wpList P ops Q (o :: rest) (E n f) w := wpList_plain hg h
def yl (ops : Array Oper) (n : Nat) (f : Nat → Value) (j : Nat) : Option Bool := match (ops[j]?).bind (·.dst) with
  | some t => match ev n f (.tmp t) with | .bool b => some b | _ => none
  | none => none
theorem yl_eq (j : Nat) (b : Bool) (h : yl ops n f j = some b) : yielded ops (E n f).tmps j = some b := by
  unfold yl at h
  unfold yielded
  cases hd : (ops[j]?).bind (·.dst) with
  | none => simp [hd] at h
  | some t =>
    simp only [hd, Option.bind_some] at h ⊢
    by_cases ht : t < n
    · have hb : Nat.blt t n = true := by rw [blt_iff]; simpa using ht
      have : (E n f).tmps[t]? = some (f t) := by simp [E, ht]
      rw [this]
      simp only [ev, hb, cond_true] at h
      cases hf : f t <;> simp [hf] at h ⊢
      exact h
    · have hb : Nat.blt t n = false := by rw [blt_iff]; simpa using ht
      simp only [ev, hb, cond_false] at h
      cases h
theorem l_on {o : Oper} {j : Nat} {c t : Bool} (hg : o.guard = some (j, c)) (hy : yl ops n f j = some t) (ht : t = c)
    (h : wpList P ops Q ({ o with guard := none } :: rest) (E n f) w) : wpList P ops Q (o :: rest) (E n f) w := by
  subst ht
  unfold wpList at h ⊢
  have h1 : Region.wanted o (yielded ops (E n f).tmps) = true := by simp [Region.wanted, hg, yl_eq j t hy]
  rw [if_pos h1]
  rw [if_pos (by simp [Region.wanted])] at h
  exact h
theorem l_off {o : Oper} {d j : Nat} {c t : Bool} (hd : o.dst = some d) (hg : o.guard = some (j, c)) (hy : yl ops n f j = some t) (ht : t = !c)
    (h : wpList P ops Q rest (E n (up f d undef)) w) : wpList P ops Q (o :: rest) (E n f) w := by
  subst ht
  unfold wpList
  have h1 : Region.wanted o (yielded ops (E n f).tmps) = false := by simp [Region.wanted, hg, yl_eq j _ hy]
  rw [if_neg (by simp [h1]), hd, E_put]
  exact h

theorem yl_none (j : Nat) (h : yl ops n f j = none) : yielded ops (E n f).tmps j = none := by
  unfold yl at h
  unfold yielded
  cases hd : (ops[j]?).bind (·.dst) with
  | none => simp
  | some t =>
    simp only [hd, Option.bind_some] at h ⊢
    by_cases ht : t < n
    · have hb : Nat.blt t n = true := by rw [blt_iff]; simpa using ht
      have : (E n f).tmps[t]? = some (f t) := by simp [E, ht]
      rw [this]
      simp only [ev, hb, cond_true] at h
      cases hf : f t <;> simp [hf] at h ⊢
    · have hn : n ≤ t := Nat.le_of_not_lt ht
      rw [Array.getElem?_eq_none (by simpa [E] using hn)]
/-- The guard's own operation was left out. -/
theorem l_offN {o : Oper} {d j : Nat} {c : Bool} (hd : o.dst = some d) (hg : o.guard = some (j, c)) (hy : yl ops n f j = none)
    (h : wpList P ops Q rest (E n (up f d undef)) w) : wpList P ops Q (o :: rest) (E n f) w := by
  unfold wpList
  have h1 : Region.wanted o (yielded ops (E n f).tmps) = false := by simp [Region.wanted, hg, yl_none j hy]
  rw [if_neg (by simp [h1]), hd, E_put]
  exact h

/-! ### the code -/
theorem c_enter {fid : FuncId} {fn : Func} {c : Code} {args : List Value} {m : Nat} {R : Ending → World → Prop} (hf : P.funcs[fid]? = some fn) (hb : fn.body = some c) (hn : fn.ntmps = m) (hl : Nat.ble args.length m = true)
    (h : c.wp P (bodyPost P fn R) (E m (argsF args)) w) : Calls P fid args.toArray w R := by
  refine calls_of_wp hf hb ?_
  subst hn
  rw [enter_E args fn.ntmps (Nat.le_of_ble_eq_true hl)]
  exact h
theorem c_cond {c : Operand} {x y : Code} {t : Bool} (hc : ev n f c = .bool t) (h1 : t = true → x.wp P Q (E n f) w) (h0 : t = false → y.wp P Q (E n f) w) : (Code.cond c x y).wp P Q (E n f) w :=
  wp_cond_split (by rw [E_eval]; exact hc) h1 h0
theorem c_condT {c : Operand} {x y : Code} {t : Bool} (hc : ev n f c = .bool t) (ht : t = true) (h1 : x.wp P Q (E n f) w) : (Code.cond c x y).wp P Q (E n f) w :=
  wp_cond_true (by rw [E_eval, hc, ht]) h1
theorem c_condF {c : Operand} {x y : Code} {t : Bool} (hc : ev n f c = .bool t) (ht : t = false) (h1 : y.wp P Q (E n f) w) : (Code.cond c x y).wp P Q (E n f) w :=
  wp_cond_false (by rw [E_eval, hc, ht]) h1
theorem c_ret1 {fn : Func} {R : Ending → World → Prop} {t : Tmp} {v : Value} (hr : fn.results = #[.tmp t]) (hv : ev n f (.tmp t) = v) (h : R (.returned v) w) : bodyPost P fn R .ret (E n f) w := by
  refine ⟨rfl, v, ?_, h⟩
  rw [results_tmp hr, E_get]; exact congrArg (fun v => Result.ok v w) hv
theorem c_ret2 {fn : Func} {R : Ending → World → Prop} {t u : Tmp} {v v' : Value} (hr : fn.results = #[.tmp t, .tmp u]) (hv : ev n f (.tmp t) = v) (hu : ev n f (.tmp u) = v') (h : R (.returned (.tuple #[v, v'])) w) : bodyPost P fn R .ret (E n f) w := by
  refine ⟨rfl, .tuple #[v, v'], ?_, h⟩
  rw [results_tmp2 hr, E_get, E_get]; subst hv hu; rfl
theorem c_end0 {fn : Func} {R : Ending → World → Prop} (hr : fn.results = #[]) (h : R (.returned (.tuple #[])) w) : bodyPost P fn R .normal (E n f) w :=
  ⟨rfl, .tuple #[], results_none hr _ _ _, h⟩
theorem c_ret0 {fn : Func} {R : Ending → World → Prop} (hr : fn.results = #[]) (h : R (.returned (.tuple #[])) w) : bodyPost P fn R .ret (E n f) w :=
  ⟨rfl, .tuple #[], results_none hr _ _ _, h⟩

/-! ### frames that differ in some slots -/
/-- In the slots of some ranges. -/
def inR : List (Nat × Nat) → Nat → Bool
  | [], _ => false
  | (lo, hi) :: l, t => bif Nat.ble lo t && Nat.ble t hi then true else inR l t
def hav (p : List (Nat × Nat)) (j f : Nat → Value) : Nat → Value := fun t => bif inR p t then j t else f t
def ups : List (Nat × Value) → (Nat → Value) → (Nat → Value)
  | [], f => f
  | (d, v) :: l, f => up (ups l f) d v
/-- f' differs from f in those slots alone. -/
def Agree (p : List (Nat × Nat)) (f' f : Nat → Value) : Prop := ∀ t, inR p t = false → f' t = f t
theorem Agree.refl (p : List (Nat × Nat)) (f : Nat → Value) : Agree p f f := fun _ _ => rfl
theorem Agree.up {p : List (Nat × Nat)} {f' f : Nat → Value} (h : Agree p f' f) {d : Nat} {v : Value} (hd : inR p d = true) : Agree p (up f' d v) f := fun t ht => by
  unfold Proofs.YtdlmcgflgdmjgaaDoor.up
  cases hb : Nat.beq t d
  · exact h t ht
  · rw [Nat.eq_of_beq_eq_true hb, hd] at ht; cases ht
theorem Agree.hav {p q : List (Nat × Nat)} {j f' f : Nat → Value} (h : Agree p f' f) (hq : ∀ t, inR q t = true → inR p t = true) : Agree p (hav q j f') f := fun t ht => by
  unfold Proofs.YtdlmcgflgdmjgaaDoor.hav
  cases hb : inR q t
  · exact h t ht
  · rw [hq t hb] at ht; cases ht
theorem Agree.ups {p : List (Nat × Nat)} {f' f : Nat → Value} (h : Agree p f' f) : ∀ {l : List (Nat × Value)}, (∀ q ∈ l, inR p q.1 = true) → Agree p (ups l f') f
  | [], _ => h
  | (d, v) :: l, hl => Agree.up (Agree.ups h fun q hq => hl q (.tail _ hq)) (hl (d, v) (.head _))
def subR (q p : List (Nat × Nat)) : Bool := q.all fun r => p.any fun s => Nat.ble s.1 r.1 && Nat.ble r.2 s.2
theorem inR_iff {p : List (Nat × Nat)} {t : Nat} : inR p t = true ↔ ∃ r ∈ p, r.1 ≤ t ∧ t ≤ r.2 := by
  induction p with
  | nil => simp [inR]
  | cons r p ih =>
    obtain ⟨lo, hi⟩ := r
    unfold inR
    cases hb : (Nat.ble lo t && Nat.ble t hi) with
    | true =>
      simp only [cond_true, true_iff]
      rw [Bool.and_eq_true] at hb
      exact ⟨(lo, hi), .head _, Nat.le_of_ble_eq_true hb.1, Nat.le_of_ble_eq_true hb.2⟩
    | false =>
      simp only [cond_false, ih]
      constructor
      · rintro ⟨r, hr, h⟩; exact ⟨r, .tail _ hr, h⟩
      · rintro ⟨r, hr, h⟩
        cases hr with
        | head =>
          rw [Bool.and_eq_false_iff] at hb
          rcases hb with hb | hb
          · have := Nat.ble_eq_true_of_le h.1; rw [this] at hb; cases hb
          · have := Nat.ble_eq_true_of_le h.2; rw [this] at hb; cases hb
        | tail _ hr => exact ⟨r, hr, h⟩
theorem Agree.hav2 {p q : List (Nat × Nat)} {j f' f : Nat → Value} (h : Agree p f' f) (hq : subR q p = true) : Agree p (Proofs.YtdlmcgflgdmjgaaDoor.hav q j f') f := Agree.hav h fun t ht => by
  rw [inR_iff] at ht ⊢
  obtain ⟨r, hr, h1, h2⟩ := ht
  obtain ⟨s, hs, h3⟩ := List.any_eq_true.1 (List.all_eq_true.1 hq r hr)
  rw [Bool.and_eq_true] at h3
  exact ⟨s, hs, Nat.le_trans (Nat.le_of_ble_eq_true h3.1) h1, Nat.le_trans h2 (Nat.le_of_ble_eq_true h3.2)⟩
theorem Agree.ups2 {p : List (Nat × Nat)} {f' f : Nat → Value} {l : List (Nat × Value)} (h : Agree p f' f) (hl : (l.all fun q => inR p q.1) = true) : Agree p (Proofs.YtdlmcgflgdmjgaaDoor.ups l f') f := Agree.ups h fun q hq => List.all_eq_true.1 hl q hq
def MatchF (f : Nat → Value) : List (Nat × Value) → Prop
  | [] => True
  | (d, v) :: l => f d = v ∧ MatchF f l
theorem ups_of_match {f : Nat → Value} : ∀ {l : List (Nat × Value)} {g : Nat → Value}, MatchF f l → ∀ t, (f t = g t ∨ ∃ q ∈ l, q.1 = t) → ups l g t = f t
  | [], g, _, t, h => by
    rcases h with h | ⟨q, hq, _⟩
    · exact h.symm
    · cases hq
  | (d, v) :: l, g, hm, t, h => by
    show up (ups l g) d v t = f t
    unfold up
    cases hb : Nat.beq t d
    · refine ups_of_match hm.2 t ?_
      rcases h with h | ⟨q, hq, hqt⟩
      · exact .inl h
      · cases hq with
        | head => rw [← hqt] at hb; simp at hb
        | tail _ hq => exact .inr ⟨q, hq, hqt⟩
    · show v = f t
      rw [Nat.eq_of_beq_eq_true hb]; exact hm.1.symm
/-- A frame that agrees but in p is one that is known in the slots named and forgotten in p. -/
theorem norm_frame {p : List (Nat × Nat)} {f' f : Nat → Value} {l : List (Nat × Value)} (h : Agree p f' f) (hm : MatchF f' l) : f' = ups l (hav p f' f) := by
  funext t
  refine (ups_of_match hm t ?_).symm
  unfold hav
  cases hb : inR p t
  · exact .inl (h t hb)
  · exact .inl rfl
/-- What a piece of code comes to: some slots known, others forgotten, the world as J says. -/
def Came {τ : Type} (n : Nat) (p : List (Nat × Nat)) (f : Nat → Value) (sl : τ → List (Nat × Value)) (J : τ → World → Prop) : Act → World → Prop := fun a w =>
  ∃ x f', a = E n f' ∧ Agree p f' f ∧ MatchF f' (sl x) ∧ J x w
theorem came {τ : Type} {p : List (Nat × Nat)} {f f' : Nat → Value} {sl : τ → List (Nat × Value)} {J : τ → World → Prop} (x : τ) (h : Agree p f' f) (hm : MatchF f' (sl x)) (hJ : J x w) : Came n p f sl J (E n f') w := ⟨x, f', rfl, h, hm, hJ⟩
theorem Came.elim {τ : Type} {p : List (Nat × Nat)} {f : Nat → Value} {sl : τ → List (Nat × Value)} {J : τ → World → Prop} {a : Act} (h : Came n p f sl J a w) {K : Act → World → Prop}
    (k : ∀ x j w, J x w → K (E n (ups (sl x) (hav p j f))) w) : K a w := by
  obtain ⟨x, f', rfl, hA, hm, hJ⟩ := h
  have := k x f' w hJ
  rwa [← norm_frame hA hm] at this
/-- Cut: behind c some slots are known, the others that it may have written are forgotten. -/
theorem c_cut {τ : Type} {c c' : Code} (p : List (Nat × Nat)) (sl : τ → List (Nat × Value)) (J : τ → World → Prop)
    (h : ∀ K : Act → World → Prop, (∀ a w, Came n p f sl J a w → K a w) → c.wp P (Exit.then K Q) (E n f) w) (k : ∀ x j w, J x w → c'.wp P Q (E n (ups (sl x) (hav p j f))) w) : (Code.seq c c').wp P Q (E n f) w :=
  wp_seq (h _ fun a w hc => hc.elim (K := fun a w => c'.wp P Q a w) k)
theorem c_loop {τ : Type} {c : Code} (p : List (Nat × Nat)) (sl : τ → List (Nat × Value)) (J : τ → World → Prop) (μ : τ → Nat) (x0 : τ) (h0 : J x0 w) (hm0 : MatchF f (sl x0))
    (round : ∀ x j w, J x w → ∀ K : Act → World → Prop, (∀ a w, Came n p f sl (fun x' w' => J x' w' ∧ μ x' < μ x) a w → K a w) → c.wp P (Exit.then K Q) (E n (ups (sl x) (hav p j f))) w) : (Code.loop c).wp P Q (E n f) w := by
  let I : Nat → Act → World → Prop := fun m a w => ∃ x f', a = E n f' ∧ Agree p f' f ∧ MatchF f' (sl x) ∧ J x w ∧ μ x = m
  intro b k cs
  have key : ∀ m a w, I m a w → ∃ e a' w', Q e a' w' ∧ Arrives P (lone (b.at a (.code c :: .inLoop c :: k)) cs w) b k cs e a' w' := by
    intro m
    induction m using Nat.strongRecOn with
    | _ m ih =>
      rintro a w ⟨x, f', rfl, hA, hm, hJ, hmu⟩
      have hr := round x f' w hJ (fun a' w' => ∃ m', m' < m ∧ I m' a' w') (by
        rintro a' w' ⟨x', f'', rfl, hA', hm', hJ', hlt⟩
        exact ⟨μ x', hmu ▸ hlt, x', f'', rfl, hA', hm', hJ', rfl⟩)
      rw [← norm_frame hA hm] at hr
      obtain ⟨e, a₁, w₁, hq, harr⟩ := hr b (.inLoop c :: k) cs
      cases e with
      | normal =>
        obtain ⟨m', hlt, hI⟩ := hq
        obtain ⟨e₂, a₂, w₂, hq₂, harr₂⟩ := ih m' hlt a₁ w₁ hI
        exact ⟨e₂, a₂, w₂, hq₂, .of_steps (Steps.trans harr (.one step_inLoop)) harr₂⟩
      | exit id => exact ⟨_, a₁, w₁, hq, .pass (x := .inLoop c) rfl (fun _ _ => .inl (by simp)) harr⟩
      | goto l => exact ⟨_, a₁, w₁, hq, .pass (x := .inLoop c) rfl (fun _ _ => .inl (by simp)) harr⟩
      | ret => exact ⟨_, a₁, w₁, hq, .pass (x := .inLoop c) rfl (fun _ _ => .inl (by simp)) harr⟩
      | panic ch => exact ⟨_, a₁, w₁, hq, .pass (x := .inLoop c) rfl (fun _ _ => .inl (by simp)) harr⟩
      | outgrown => exact ⟨_, a₁, w₁, hq, .pass (x := .inLoop c) rfl (fun _ _ => .inl (by simp)) harr⟩
  obtain ⟨e, a', w', hq, harr⟩ := key _ _ _ ⟨x0, f, rfl, .refl _ _, hm0, h0, rfl⟩
  exact ⟨e, a', w', hq, .of_steps (.one step_loop) harr⟩
theorem g_splitL {rest : List Oper} {t : Nat} {b : Bool} (h : ev n f (.tmp t) = .bool b) (h1 : b = true → wpList P ops Q rest (E n f) w) (h0 : b = false → wpList P ops Q rest (E n f) w) : wpList P ops Q rest (E n f) w := by
  cases b
  · exact h0 rfl
  · exact h1 rfl
theorem c_retC {fn : Func} {R : Ending → World → Prop} {t : Tmp} {T : TypeId} {m b : Nat} {arr : Array Value} {T2 : TypeId} {fz : Nat × Nat} (hr : fn.results = #[.cell t T]) (ht : aggB P T = true) (hz : szB P T = some m) (hv : ev n f (.tmp t) = .pointer (some ⟨b, 0, none⟩)) (hb : w.heap[b]? = some (.cells arr T2 fz)) (hm : Nat.beq arr.size m = true) (h : R (.returned (.agg arr)) w) : bodyPost P fn R .ret (E n f) w := by
  have hm' : arr.size = m := Nat.eq_of_beq_eq_true hm
  refine ⟨rfl, .agg arr, ?_, h⟩
  have h1 : (E n f).tmps.getD t undef = .pointer (some ⟨b, 0, none⟩) := by rw [E_get]; exact hv
  have h2 := run_loadCellsFrom (P := P) hb 0 m 0 #[] (by omega)
  have h3 : #[] ++ arr.extract (0 + 0) (0 + 0 + m) = arr := by subst hm'; simp
  rw [h3] at h2
  simp only [Array.getD_eq_getD_getElem?] at h1
  simp [results, hr, h1, asAddr, loadVar, run_isAggT ht, run_sizeOf hz, loadCells, h2, Sem.run]
theorem int_succ (k : Nat) : Value.int .i64 ((k : Int) + 1) = .int .i64 ((k + 1 : Nat) : Int) := by simp
theorem ones1 {v : Value} (h : v.oneCell' = true) : ∀ u ∈ [v], u.oneCell' = true := fun u hu => by
  rw [List.mem_singleton] at hu; subst hu; exact h
theorem ones2 {v v' : Value} (h : v.oneCell' = true) (h' : v'.oneCell' = true) : ∀ u ∈ [v, v'], u.oneCell' = true := fun u hu => by
  simp only [List.mem_cons, List.not_mem_nil, or_false] at hu; rcases hu with rfl | rfl <;> assumption
theorem one_if {v : Value} (h : IsIf v) : v.oneCell' = true := by rcases h with rfl | ⟨t, u, rfl⟩ <;> rfl
end
end Go.Proofs.YtdlmcgflgdmjgaaDoor
