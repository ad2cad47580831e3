/- More rules, III: make of bytes. Over any program. -/
import Derived.Test.YtdlmcgflgdmjgaaDoorSb
import Derived.Laws.MakeOwn
set_option linter.unusedVariables false
set_option linter.unusedSimpArgs false
namespace Go.Proofs.YtdlmcgflgdmjgaaDoor
open Go Go.RowKit
theorem made_one (z : Value) (k : Nat) : (madeCells #[z] k).toList = List.replicate k z := by
  unfold madeCells
  apply List.ext_getElem
  · simp
  · intro i h1 h2
    simp [Nat.mod_one]
section
variable {P : Program} {ops : Array Oper} {Q : Exit → Act → World → Prop} {n : Nat} {f : Nat → Value} {w w0 : World} {D : Nat → Prop} {Γ : List Ch} {K : Act → World → Prop}
variable {d : Option Tmp} {dd : Nat} {x y : Operand} {ty T T' Tx : TypeId} {pos : String} {aft : Array Edge} {g : Option (Nat × Bool)}
/-- make([]byte, m). -/
theorem e_makeB {e m : Nat} (hS : St w0 D Γ w) (hB : appB P T e 1 1 = true) (hz : zeroB P e = some (.int .u8 0)) (hx : ev n f x = .int .i64 ((m : Nat) : Int)) (hy : ev n f y = .int .i64 ((m : Nat) : Int)) (hm : m ≤ 4000000000)
    (h : ∀ b w', St w0 D (.ow e 1 (some ⟨b, 0, none⟩) m m (bv (List.replicate m 0)) :: Γ) w' → K (E n (up f dd (.slice (some ⟨b, 0, none⟩) m m))) w') :
    Oper.wp P ⟨some dd, .makeSlice T x y, ty, pos, aft, g⟩ (E n f) w K Q := by
  obtain ⟨inf, zv, hu, hif, hs1, hs2, hzz, hzs, hpos⟩ := appB_facts hB
  have hzv : zv = .int .u8 0 := by
    unfold zeroB at hz
    rw [hif] at hz
    simp only [Option.bind_some, hzz, Option.some.injEq] at hz
    exact hz
  subst hzv
  have hr := run_make (P := P) w T e inf (.int .u8 0) hu hif hzz .i64 .i64 ((m : Nat) : Int) ((m : Nat) : Int) (by omega) (Int.le_refl _) (by rw [hs2]; omega) (by omega)
  simp only [Int.toNat_natCast, hs1, Nat.mul_one] at hr
  have hc : (Value.int .u8 0).cells = #[.int .u8 0] := rfl
  rw [hc] at hr
  refine e_new hS rfl (ob := .cells (madeCells #[.int .u8 0] m) e) (by simp only [execOp, hx, hy, Sem.run_bind, hr, Result.andThen_ok]; rfl) (fun w' hS' => h _ w' ?_)
  exact hS'.blkOw' (i := 0) (m := m) (size := 1) (xs := bv (List.replicate m 0)) rfl (by rw [made_one]; unfold bv; rw [List.map_replicate]; rfl) (by simp [madeCells]) (by simp only [maxLen]; omega)
end
/-- A number of whatever sign as one of 64 bits. -/
def toU (z : Int) : Nat := (z % 18446744073709551616).toNat
theorem toU_lt (z : Int) : toU z < 18446744073709551616 := by unfold toU; omega
theorem wrapU (z : Int) : IntKind.u64.wrap z = ((toU z : Nat) : Int) := by
  have h : IntKind.u64.wrap z = z % 18446744073709551616 := by simp [IntKind.wrap, IntKind.signed, IntKind.bits]
  rw [h]; unfold toU; omega
section
variable {P : Program} {ops : Array Oper} {Q : Exit → Act → World → Prop} {n : Nat} {f : Nat → Value} {w w0 : World} {D : Nat → Prop} {Γ : List Ch} {K : Act → World → Prop}
variable {d : Option Tmp} {dd : Nat} {x y : Operand} {ty T T' Tx : TypeId} {pos : String} {aft : Array Edge} {g : Option (Nat × Bool)}
theorem q_convU {k : IntKind} {z : Int} (hx : ev n f x = .int k z) (h : P.underlying T' = some (.int .u64)) (h2 : (P.underlying T).isSome = true) : Run P n f ⟨d, .convert T T' x, ty, pos, aft, g⟩ w (.int .u64 ((toU z : Nat) : Int)) := by
  have := q_conv (w := w) (d := d) (ty := ty) (pos := pos) (aft := aft) (g := g) hx h h2
  rwa [wrapU] at this
/-- A slice of two structs. -/
theorem e_buildSliceA2 {e : TypeId} {zv : Value} {cs ds : List Value} {m : Nat} (hS : St w0 D Γ w) (ht : slB P T = some e) (hz : szB P e = some m) (hzv : zeroB P e = some zv) (hx : ev n f x = .agg cs.toArray) (hy : ev n f y = .agg ds.toArray) (hm : cs.length = m) (hm2 : ds.length = m) (hpos : Nat.blt 0 m = true) (hle : Nat.ble (2 * m) 16777216 = true)
    (h : ∀ b w', St w0 D (.blk b (.cells (cs ++ ds).toArray e) :: Γ) w' → K (E n (up f dd (.slice (some ⟨b, 0, none⟩) 2 2))) w') : Oper.wp P ⟨some dd, .buildSlice T 2 (List.toArray [(0, x), (1, y)]), ty, pos, aft, g⟩ (E n f) w K Q := by
  refine e_new hS rfl ?_ (fun w' hw => h _ w' hw)
  have hlen : 2 * m ≤ 16777216 := Nat.le_of_ble_eq_true hle
  rw [blt_iff] at hpos
  have hpos' : 0 < m := by simpa using hpos
  have hfl : ∀ arr : Array Value, arr.size = 2 * m → Instr.fill (fun i => some (i * m, m)) arr [(0, .agg cs.toArray), (1, .agg ds.toArray)] = some (cs ++ ds).toArray := fun arr ha => by
    have hc : (Value.agg cs.toArray).cells = cs.toArray := rfl
    have hd : (Value.agg ds.toArray).cells = ds.toArray := rfl
    obtain ⟨l1, l2, hl, hl1, hl2⟩ : ∃ l1 l2 : List Value, arr.toList = l1 ++ l2 ∧ l1.length = m ∧ l2.length = m := ⟨arr.toList.take m, arr.toList.drop m, (List.take_append_drop _ _).symm, by simp; omega, by simp; omega⟩
    have h6 : Array.foldl (fun (q : Array Value) x => Array.setIfInBounds q (0 * m + x.2) x.1) arr cs.toArray.zipIdx = (cs ++ l2).toArray := by
      have h4 := foldl_setMany cs arr.toList 0 0
      rw [← Array.foldl_toList, Array.toList_zipIdx, Nat.zero_mul]
      have h7 : setMany arr.toList 0 cs = cs ++ l2 := by
        rw [hl]
        have h8 : ∀ (cs pre post rest : List Value), post.length = cs.length → setMany (pre ++ (post ++ rest)) pre.length cs = pre ++ (cs ++ rest) := by
          intro cs
          induction cs with
          | nil => intro pre post rest hp; obtain rfl : post = [] := List.eq_nil_of_length_eq_zero hp; rfl
          | cons v cs ih =>
            intro pre post rest hp
            cases post with
            | nil => simp at hp
            | cons u post =>
              have := ih (pre ++ [v]) post rest (by simpa using hp)
              simp only [setMany]
              have h1 : (pre ++ (u :: post ++ rest)).set pre.length v = (pre ++ [v]) ++ (post ++ rest) := by simp
              rw [h1, show pre.length + 1 = (pre ++ [v]).length from by simp, this]; simp
        exact h8 cs [] l1 l2 (by omega)
      rw [h7] at h4
      simpa using h4
    simp only [Instr.fill, hc, hd]
    rw [if_neg (by simp; omega)]
    simp only [h6]
    rw [if_neg (by simp; omega)]
    have h9 : Array.foldl (fun (q : Array Value) x => Array.setIfInBounds q (1 * m + x.2) x.1) (cs ++ l2).toArray ds.toArray.zipIdx = (cs ++ ds).toArray := by
      have h4 := foldl_setMany ds (cs ++ l2) (1 * m) 0
      have h5 := setMany_full ds cs l2 (by omega)
      rw [← Array.foldl_toList, Array.toList_zipIdx]
      rw [Nat.one_mul] at h4 ⊢
      rw [hm] at h5
      rw [Nat.add_zero, h5] at h4
      simpa using h4
    rw [h9]
  simp only [execOp, Sem.run_bind, Instr.buildSlice, run_undSl ht, Result.andThen_ok, run_sizeOf hz]
  rw [if_neg (by omega), if_neg (by omega)]
  simp only [Sem.run_bind, run_zero hzv, Result.andThen_ok, Sem.run_pure, List.map_toArray, List.map_cons, List.map_nil, hx, hy]
  rw [hfl _ (by simp)]
  simp [newRow, newObj, Sem.run]
end
section
variable {P : Program} {n : Nat} {f : Nat → Value} {w : World}
variable {d : Option Tmp} {x y : Operand} {ty T : TypeId} {pos : String} {aft : Array Edge} {g : Option (Nat × Bool)}
/-- A byte of a string. -/
theorem q_strAt {k : IntKind} {l : List Nat} {i b : Nat} {z : Int} (hx : ev n f x = .string (bs l)) (hy : ev n f y = .int k z) (ht : stB P T = true) (hz : z = ((i : Nat) : Int)) (hb : l[i]? = some b) (hl : b < 256) : Run P n f ⟨d, .index T x y, ty, pos, aft, g⟩ w (.int .u8 ((b : Nat) : Int)) := by
  subst hz
  have hu := stB_und ht
  have h1 : (bs l)[i]? = some (UInt8.ofNat b) := by
    obtain ⟨hi, rfl⟩ := List.getElem?_eq_some_iff.1 hb
    have hs : i < (bs l).size := by rw [bs_size]; exact hi
    rw [getElem?_pos (bs l) i hs]
    show some ((bs l).data[i]'_) = _
    simp [bs]
  have h2 : (Instr.index T (.string (bs l)) (.int k ((i : Nat) : Int))).run P w = .ok (.int .u8 ((b : Nat) : Int)) w := by
    have h3 : (UInt8.ofNat b).toNat = b := by simp only [UInt8.toNat_ofNat']; omega
    simp [Instr.index, asIntOf, run_underlying hu, h1, h3, Sem.run]
  simp only [Run, execOp, hx, hy, Sem.run_bind, h2, Result.andThen_ok]
  rfl
end
theorem xor_low {r : Nat} (h : r < 9223372036854775808) : r ^^^ 9223372036854775808 = 9223372036854775808 + r := by
  rw [show (9223372036854775808 : Nat) = 2 ^ 63 from rfl] at h ⊢
  apply Nat.eq_of_testBit_eq; intro i
  rw [Nat.testBit_xor, Nat.testBit_two_pow]
  rcases Nat.lt_trichotomy i 63 with hi | rfl | hi
  · rw [Nat.testBit_two_pow_add_gt hi]; simp [show ¬ 63 = i by omega]
  · rw [Nat.testBit_two_pow_add_eq]; simp
  · have h1 : (2 ^ 63 + r).testBit i = false := Nat.testBit_lt_two_pow (Nat.lt_of_lt_of_le (show 2 ^ 63 + r < 2 ^ 64 by omega) (Nat.pow_le_pow_right (by decide) (by omega)))
    have h2 : r.testBit i = false := Nat.testBit_lt_two_pow (Nat.lt_of_lt_of_le (show r < 2 ^ 64 by omega) (Nat.pow_le_pow_right (by decide) (by omega)))
    rw [h1, h2]; simp [show ¬ 63 = i by omega]
/-- The highest bit, turned. -/
theorem xor_top {a : Nat} (h : a < 18446744073709551616) : a ^^^ 9223372036854775808 = (a + 9223372036854775808) % 18446744073709551616 := by
  by_cases h1 : a < 9223372036854775808
  · rw [xor_low h1]; omega
  · obtain ⟨r, rfl⟩ : ∃ r, a = 9223372036854775808 + r := ⟨a - 9223372036854775808, by omega⟩
    have hr : r < 9223372036854775808 := by omega
    rw [← xor_low hr, Nat.xor_assoc, Nat.xor_self, Nat.xor_zero, xor_low hr]
    omega
end Go.Proofs.YtdlmcgflgdmjgaaDoor
