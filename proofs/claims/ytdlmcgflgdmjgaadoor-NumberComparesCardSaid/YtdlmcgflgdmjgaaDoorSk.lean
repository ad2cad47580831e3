/- Helps of the small logic: rows of numbers, of structs; whole-number rules with plain bounds; pieces brought to the head. Over any program. -/
import Derived.Test.YtdlmcgflgdmjgaaDoorSj
import Derived.Lib.Overlaps
set_option linter.unusedVariables false
set_option linter.unusedSimpArgs false
namespace Go.Proofs.YtdlmcgflgdmjgaaDoor
open Go.RowKit

/-! ### rows -/
theorem ite_no {c : Prop} [Decidable c] {A B : Prop} (h : ¬ c) (hb : B) : if c then A else B := by rw [if_neg h]; exact hb
theorem ite_yes {c : Prop} [Decidable c] {A B : Prop} (h : c) (ha : A) : if c then A else B := by rw [if_pos h]; exact ha
/-- Bytes as a row's values. -/
abbrev bv (l : List Nat) : List Value := l.map fun (x : Nat) => Value.int .u8 ((x : Nat) : Int)
def Bytes (l : List Nat) : Prop := ∀ x ∈ l, x < 256
instance (l : List Nat) : Decidable (Bytes l) := inferInstanceAs (Decidable (∀ x ∈ l, x < 256))
/-- Numbers as a row's values. -/
abbrev iv (l : List Int) : List Value := l.map fun (x : Int) => Value.int .i64 x
theorem bv_at {l : List Nat} {i x : Nat} (h : l[i]? = some x) : (bv l)[i]? = some (.int .u8 (x : Int)) := by rw [List.getElem?_map, h]; rfl
theorem iv_at {l : List Int} {i : Nat} {x : Int} (h : l[i]? = some x) : (iv l)[i]? = some (.int .i64 x) := by rw [List.getElem?_map, h]; rfl
theorem at1 {xs : List Value} {i : Nat} {u : Value} (h : xs[i]? = some u) : xs[i * 1]? = some u := by rw [Nat.mul_one]; exact h
theorem bv_one (l : List Nat) : ∀ u ∈ bv l, u.oneCell' = true := fun u hu => by obtain ⟨q, _, rfl⟩ := List.mem_map.1 hu; rfl
theorem iv_one (l : List Int) : ∀ u ∈ iv l, u.oneCell' = true := fun u hu => by obtain ⟨q, _, rfl⟩ := List.mem_map.1 hu; rfl
theorem bv_app {l m : List Nat} : bv l ++ bv m = bv (l ++ m) := List.map_append.symm
theorem iv_app {l m : List Int} : iv l ++ iv m = iv (l ++ m) := List.map_append.symm
theorem bv_len (l : List Nat) : (bv l).length = l.length := List.length_map ..
theorem iv_len (l : List Int) : (iv l).length = l.length := List.length_map ..
theorem bv_set1 {l : List Nat} {j x : Nat} : (bv l).set (j * 1) (.int .u8 (x : Int)) = bv (l.set j x) := by rw [Nat.mul_one]; exact List.map_set.symm
theorem iv_set1 {l : List Int} {j : Nat} {x : Int} : (iv l).set (j * 1) (.int .i64 x) = iv (l.set j x) := by rw [Nat.mul_one]; exact List.map_set.symm
theorem Bytes.sub {l : List Nat} (h : Bytes l) {a b : Nat} : Bytes ((l.drop a).take b) := fun x hx => h x (List.mem_of_mem_drop (List.mem_of_mem_take hx))
theorem Bytes.app {l m : List Nat} (h : Bytes l) (h' : Bytes m) : Bytes (l ++ m) := fun x hx => (List.mem_append.1 hx).elim (h x) (h' x)
theorem Bytes.set {l : List Nat} (h : Bytes l) {k z : Nat} (hz : z < 256) : Bytes (l.set k z) := fun x hx => by
  rcases List.mem_or_eq_of_mem_set hx with h1 | rfl
  · exact h x h1
  · exact hz
theorem Bytes.take {l : List Nat} (h : Bytes l) {a : Nat} : Bytes (l.take a) := fun x hx => h x (List.mem_of_mem_take hx)
theorem Bytes.drop {l : List Nat} (h : Bytes l) {a : Nat} : Bytes (l.drop a) := fun x hx => h x (List.mem_of_mem_drop hx)
theorem Bytes.cons {l : List Nat} {a : Nat} (ha : a < 256) (h : Bytes l) : Bytes (a :: l) := fun x hx => by
  rcases List.mem_cons.1 hx with rfl | h1
  · exact ha
  · exact h x h1
theorem Bytes.nil : Bytes [] := fun _ h => by cases h
theorem bv_sub {g : Gh} {ad : Option Addr} {l : List Nat} {a b : Nat} (h : SlG g ad (((bv l).drop (a * 1)).take (b * 1))) : SlG g ad (bv ((l.drop a).take b)) := by
  rw [Nat.mul_one, Nat.mul_one] at h; unfold bv; rw [List.map_take, List.map_drop]; exact h
theorem SlG.takeN {g : Gh} {ad : Option Addr} {xs : List Value} (h : SlG g ad xs) (n : Nat) : SlG g ad (xs.take n) := by
  rcases h with h | ⟨b, off, arr, T, fz, ha, hb, hx⟩
  · exact .inl (by rw [h]; simp)
  · refine .inr ⟨b, off, arr, T, fz, ha, hb, fun j u hu => hx j u ?_⟩
    rw [List.getElem?_take] at hu
    split at hu
    · exact hu
    · cases hu
theorem bv_takeG {g : Gh} {ad : Option Addr} {l : List Nat} {n : Nat} (h : SlG g ad (bv l)) : SlG g ad (bv (l.take n)) := by
  have := h.takeN n; unfold bv at this ⊢; rwa [List.map_take]
theorem iv_takeG {g : Gh} {ad : Option Addr} {l : List Int} {n : Nat} (h : SlG g ad (iv l)) : SlG g ad (iv (l.take n)) := by
  have := h.takeN n; unfold iv at this ⊢; rwa [List.map_take]
theorem bv_subx {l : List Nat} {a b : Nat} : ((bv l).drop (a * 1)).take (b * 1) = bv ((l.drop a).take b) := by
  rw [Nat.mul_one, Nat.mul_one]; unfold bv; rw [List.map_take, List.map_drop]
theorem bv_subxT {l : List Nat} {b : Nat} : ((bv l).drop (0 * 1)).take ((b - 0) * 1) = bv (l.take b) := by rw [bv_subx, List.drop_zero, Nat.sub_zero]
theorem bv_subxD {l : List Nat} {a n : Nat} (hn : n = l.length) : ((bv l).drop (a * 1)).take ((n - a) * 1) = bv (l.drop a) := by
  subst hn; rw [bv_subx, ← List.length_drop, List.take_length]
theorem bv_subT {g : Gh} {ad : Option Addr} {l : List Nat} {b : Nat} (h : SlG g ad (((bv l).drop (0 * 1)).take ((b - 0) * 1))) : SlG g ad (bv (l.take b)) := bv_subxT ▸ h
theorem bv_subD {g : Gh} {ad : Option Addr} {l : List Nat} {a n : Nat} (hn : n = l.length) (h : SlG g ad (((bv l).drop (a * 1)).take ((n - a) * 1))) : SlG g ad (bv (l.drop a)) := bv_subxD hn ▸ h
theorem iv_subx {l : List Int} {a b : Nat} : ((iv l).drop (a * 1)).take (b * 1) = iv ((l.drop a).take b) := by
  rw [Nat.mul_one, Nat.mul_one]; unfold iv; rw [List.map_take, List.map_drop]
theorem iv_subxT {l : List Int} {b : Nat} : ((iv l).drop (0 * 1)).take ((b - 0) * 1) = iv (l.take b) := by rw [iv_subx, List.drop_zero, Nat.sub_zero]
theorem iv_subxD {l : List Int} {a n : Nat} (hn : n = l.length) : ((iv l).drop (a * 1)).take ((n - a) * 1) = iv (l.drop a) := by
  subst hn; rw [iv_subx, ← List.length_drop, List.take_length]
theorem iv_subT {g : Gh} {ad : Option Addr} {l : List Int} {b : Nat} (h : SlG g ad (((iv l).drop (0 * 1)).take ((b - 0) * 1))) : SlG g ad (iv (l.take b)) := iv_subxT ▸ h
theorem iv_subD {g : Gh} {ad : Option Addr} {l : List Int} {a n : Nat} (hn : n = l.length) (h : SlG g ad (((iv l).drop (a * 1)).take ((n - a) * 1))) : SlG g ad (iv (l.drop a)) := iv_subxD hn ▸ h
theorem iv_sub {g : Gh} {ad : Option Addr} {l : List Int} {a b : Nat} (h : SlG g ad (((iv l).drop (a * 1)).take (b * 1))) : SlG g ad (iv ((l.drop a).take b)) := by
  rw [Nat.mul_one, Nat.mul_one] at h; unfold iv; rw [List.map_take, List.map_drop]; exact h
section
variable {α : Type} {c : α → List Value} {m : Nat}
theorem rows_len (hc : ∀ r, (c r).length = m) : ∀ l : List α, (List.flatMap c l).length = l.length * m
  | [] => by simp
  | r :: l => by rw [List.flatMap_cons, List.length_append, hc, rows_len hc l, List.length_cons, Nat.add_mul, Nat.one_mul, Nat.add_comm]
theorem rows_drop (hc : ∀ r, (c r).length = m) : ∀ (l : List α) (a : Nat), (List.flatMap c l).drop (a * m) = List.flatMap c (l.drop a)
  | [], a => by simp
  | r :: l, 0 => by simp
  | r :: l, a + 1 => by
    rw [List.flatMap_cons, List.drop_succ_cons, ← rows_drop hc l a, Nat.add_mul, Nat.one_mul, Nat.add_comm, List.drop_append, List.drop_eq_nil_of_le (by rw [hc]; omega), List.nil_append, hc, Nat.add_sub_cancel_left]
theorem rows_take (hc : ∀ r, (c r).length = m) : ∀ (l : List α) (a : Nat), (List.flatMap c l).take (a * m) = List.flatMap c (l.take a)
  | [], a => by simp
  | r :: l, 0 => by simp
  | r :: l, a + 1 => by
    rw [List.flatMap_cons, List.take_succ_cons, List.flatMap_cons, ← rows_take hc l a, Nat.add_mul, Nat.one_mul, Nat.add_comm, List.take_append, List.take_of_length_le (by rw [hc]; omega), hc, Nat.add_sub_cancel_left]
theorem rows_one (hc : ∀ r, AllOne (c r)) {l : List α} : ∀ u ∈ List.flatMap c l, u.oneCell' = true := fun u hu => by
  obtain ⟨r, _, hr⟩ := List.mem_flatMap.1 hu; exact (hc r).all u hr
theorem rows_app {l l' : List α} : List.flatMap c l ++ List.flatMap c l' = List.flatMap c (l ++ l') := List.flatMap_append.symm
theorem row_take {l : List α} {i : Nat} {x : α} (hx : l[i]? = some x) (hc : ∀ r, (c r).length = m) : ((List.flatMap c l).drop (i * m)).take m = c x := by
  have h1 := rows_drop hc l i
  obtain ⟨hi, hx⟩ := List.getElem?_eq_some_iff.1 hx
  rw [h1, List.drop_eq_getElem_cons hi, List.flatMap_cons, hx, List.take_left' (hc x)]
theorem row_at {l : List α} {i : Nat} {x : α} (hx : l[i]? = some x) (hc : ∀ r, (c r).length = m) {j : Nat} {u : Value} (hu : (c x)[j]? = some u) : (List.flatMap c l)[i * m + j]? = some u := by
  have h := row_take hx hc
  have hj : j < m := by rw [← hc x]; exact (List.getElem?_eq_some_iff.1 hu).1
  rw [← h, List.getElem?_take, if_pos hj, List.getElem?_drop] at hu
  exact hu
theorem row_sub {l : List α} {i : Nat} {x : α} (hx : l[i]? = some x) (hc : ∀ r, (c r).length = m) {j k : Nat} {cs : List Value} (hu : ((c x).drop j).take k = cs) (hk : Nat.ble (j + k) m = true) : ((List.flatMap c l).drop (i * m + j)).take k = cs := by
  have h := row_take hx hc
  have hk := Nat.le_of_ble_eq_true hk
  rw [← hu, ← h, List.drop_take, List.take_take, List.drop_drop, Nat.min_eq_left (by omega)]
theorem rows_sub (hc : ∀ r, (c r).length = m) {g : Gh} {ad : Option Addr} {l : List α} {a b : Nat} (h : SlG g ad (((List.flatMap c l).drop (a * m)).take (b * m))) : SlG g ad (List.flatMap c ((l.drop a).take b)) := by
  rw [rows_drop hc, rows_take hc] at h; exact h
theorem rows_takeG (hc : ∀ r, (c r).length = m) {g : Gh} {ad : Option Addr} {l : List α} {n : Nat} (h : SlG g ad (List.flatMap c l)) : SlG g ad (List.flatMap c (l.take n)) := by
  have := h.takeN (n * m); rwa [rows_take hc] at this
theorem rows_subx (hc : ∀ r, (c r).length = m) {l : List α} {a b : Nat} : ((List.flatMap c l).drop (a * m)).take (b * m) = List.flatMap c ((l.drop a).take b) := by rw [rows_drop hc, rows_take hc]
theorem rows_subxT (hc : ∀ r, (c r).length = m) {l : List α} {b : Nat} : ((List.flatMap c l).drop (0 * m)).take ((b - 0) * m) = List.flatMap c (l.take b) := by rw [rows_subx hc, List.drop_zero, Nat.sub_zero]
theorem rows_subxD (hc : ∀ r, (c r).length = m) {l : List α} {a n : Nat} (hn : n = l.length) : ((List.flatMap c l).drop (a * m)).take ((n - a) * m) = List.flatMap c (l.drop a) := by
  subst hn; rw [rows_subx hc, ← List.length_drop, List.take_length]
theorem rows_subT (hc : ∀ r, (c r).length = m) {g : Gh} {ad : Option Addr} {l : List α} {b : Nat} (h : SlG g ad (((List.flatMap c l).drop (0 * m)).take ((b - 0) * m))) : SlG g ad (List.flatMap c (l.take b)) := rows_subxT hc ▸ h
theorem rows_subD (hc : ∀ r, (c r).length = m) {g : Gh} {ad : Option Addr} {l : List α} {a n : Nat} (hn : n = l.length) (h : SlG g ad (((List.flatMap c l).drop (a * m)).take ((n - a) * m))) : SlG g ad (List.flatMap c (l.drop a)) := rows_subxD hc hn ▸ h
theorem rows_set {l : List α} {i : Nat} {r : α} {cs : List Value} (hc : ∀ r, (c r).length = m) (hr : c r = cs) (hi : i < l.length) : (List.flatMap c l).take (i * m) ++ cs ++ (List.flatMap c l).drop (i * m + cs.length) = List.flatMap c (l.set i r) := by
  subst hr
  have : i * m + (c r).length = (i + 1) * m := by rw [hc, Nat.add_mul, Nat.one_mul]
  rw [this, rows_take hc, rows_drop hc, List.set_eq_take_append_cons_drop, if_pos hi, List.flatMap_append, List.flatMap_cons, List.append_assoc]
end

/-! ### whole numbers -/
theorem wrap_fit_i64 {a : Nat} (h : a < 9223372036854775808) : IntKind.i64.wrap (a : Int) = (a : Int) := wrap_nat .i64 (by simpa [IntKind.bits] using h)
theorem wrap_fit_u8 {a : Nat} (h : a < 256) : IntKind.u8.wrap (a : Int) = (a : Int) := by rw [wrap_u8]; congr 1; exact Nat.mod_eq_of_lt h
theorem wrap_fit_u16 {a : Nat} (h : a < 65536) : IntKind.u16.wrap (a : Int) = (a : Int) := by rw [wrap_u16]; congr 1; exact Nat.mod_eq_of_lt h
theorem wrap_fit_u64 {a : Nat} (h : a < 18446744073709551616) : IntKind.u64.wrap (a : Int) = (a : Int) := by rw [wrap_u (k := .u64) rfl a]; congr 1; exact Nat.mod_eq_of_lt h
section
variable {P : Program} {n : Nat} {f : Nat → Value} {w : World}
variable {d : Option Tmp} {x y : Operand} {ty T T' : TypeId} {pos : String} {aft : Array Edge} {g : Option (Nat × Bool)}
theorem u_conv {k k' : IntKind} {a M : Nat} (hx : ev n f x = .int k (a : Int)) (h : P.underlying T' = some (.int k')) (h2 : (P.underlying T).isSome = true) (hs : k'.signed = false) (hM : 2 ^ k'.bits = M) : Run P n f ⟨d, .convert T T' x, ty, pos, aft, g⟩ w (.int k' ((a % M : Nat) : Int)) := by
  subst hM; have := q_conv (w := w) (d := d) (ty := ty) (pos := pos) (aft := aft) (g := g) hx h h2; rwa [wrap_u hs] at this
theorem u_mul {k : IntKind} {a b M : Nat} (hk : k.signed = false) (hx : ev n f x = .int k (a : Int)) (hy : ev n f y = .int k (b : Int)) (hM : 2 ^ k.bits = M) : Run P n f ⟨d, .binOp .mul T x y T', ty, pos, aft, g⟩ w (.int k ((a * b % M : Nat) : Int)) := by
  subst hM; exact q_mulU hk hx hy
theorem u_add {k : IntKind} {a b M : Nat} (hk : k.signed = false) (hx : ev n f x = .int k (a : Int)) (hy : ev n f y = .int k (b : Int)) (hM : 2 ^ k.bits = M) : Run P n f ⟨d, .binOp .add T x y T', ty, pos, aft, g⟩ w (.int k (((a + b) % M : Nat) : Int)) := by
  subst hM
  have := q_add (P := P) (w := w) (d := d) (T := T) (T' := T') (ty := ty) (pos := pos) (aft := aft) (g := g) hx hy
  rwa [← Int.natCast_add, wrap_u hk] at this
theorem u_shl {k yk : IntKind} {a b M : Nat} (hk : k.signed = false) (hx : ev n f x = .int k (a : Int)) (hy : ev n f y = .int yk (b : Int)) (hb : b ≤ k.bits) (hM : 2 ^ k.bits = M) : Run P n f ⟨d, .binOp .shl T x y T', ty, pos, aft, g⟩ w (.int k ((a * 2 ^ b % M : Nat) : Int)) := by
  subst hM; exact q_shlU hk hx hy hb
theorem q_shlN {k yk : IntKind} {a b : Nat} (hx : ev n f x = .int k (a : Int)) (hy : ev n f y = .int yk (b : Int)) (hb : b ≤ k.bits) (hfit : k.wrap ((a * 2 ^ b : Nat) : Int) = ((a * 2 ^ b : Nat) : Int)) : Run P n f ⟨d, .binOp .shl T x y T', ty, pos, aft, g⟩ w (.int k ((a * 2 ^ b : Nat) : Int)) := by
  have := q_shl (P := P) (w := w) (d := d) (T := T) (T' := T') (ty := ty) (pos := pos) (aft := aft) (g := g) hx hy (Int.natCast_nonneg b)
  have e : k.wrap ((a : Int) * 2 ^ min ((b : Int)).toNat k.bits) = ((a * 2 ^ b : Nat) : Int) := by
    rw [Int.toNat_natCast, Nat.min_eq_left hb, ← hfit]
    congr 1
  rwa [e] at this
theorem q_quoN {k : IntKind} {a b : Nat} (hx : ev n f x = .int k (a : Int)) (hy : ev n f y = .int k (b : Int)) (hb : b ≠ 0) (hfit : k.wrap ((a / b : Nat) : Int) = ((a / b : Nat) : Int)) : Run P n f ⟨d, .binOp .quo T x y T', ty, pos, aft, g⟩ w (.int k ((a / b : Nat) : Int)) := by
  have := q_quo (P := P) (w := w) (d := d) (T := T) (T' := T') (ty := ty) (pos := pos) (aft := aft) (g := g) hx hy (by omega)
  have e : ((a : Int)).tdiv (b : Int) = ((a / b : Nat) : Int) := by rw [Int.tdiv_eq_ediv_of_nonneg (by omega)]; rfl
  rwa [e, hfit] at this
theorem int_nat {k : IntKind} {a : Int} {j : Nat} {v : Value} (h : a = (j : Int)) (hv : v = .int k a) : v = .int k (j : Int) := h ▸ hv
theorem allone {l : List Value} (h : AllOne l) : ∀ u ∈ l, u.oneCell' = true := h.all

theorem und_sl {t e : TypeId} (h : slB P t = some e) : P.underlying t = some (.slice e) := by
  unfold slB at h
  cases hu : P.underlying t with
  | none => simp [hu] at h
  | some d => cases d <;> simp [hu] at h; obtain rfl := h; rfl
theorem eq_sln {t e : TypeId} {ad : Option Addr} {l c : Nat} (h : slB P t = some e) : (Op.equal t (.slice ad l c) (.slice none 0 0)).run P w = .ok ad.isNone w := by
  have hu := und_sl h
  have : ∀ q : Nat, (Op.equalIn (q + 1) t (.slice ad l c) (.slice none 0 0)).run P w = .ok ad.isNone w := fun q => by cases ad <;> simp [Op.equalIn, run_und hu, Sem.run]
  exact this 9999
theorem q_slice_eql {ad : Option Addr} {l c : Nat} (e : TypeId) (hx : ev n f x = .slice ad l c) (hy : ev n f y = .slice none 0 0) (ht : slB P T = some e) : Run P n f ⟨d, .binOp .eql T x y T', ty, pos, aft, g⟩ w (.bool ad.isNone) := by
  simp only [Run, execOp, hx, hy, binOp, eqGuard]; simp [eq_sln ht, Sem.run]
theorem q_slice_neq {ad : Option Addr} {l c : Nat} (e : TypeId) (hx : ev n f x = .slice ad l c) (hy : ev n f y = .slice none 0 0) (ht : slB P T = some e) : Run P n f ⟨d, .binOp .neq T x y T', ty, pos, aft, g⟩ w (.bool (!ad.isNone)) := by
  simp only [Run, execOp, hx, hy, binOp, eqGuard]; simp [eq_sln ht, Sem.run]
end

section
variable {P : Program} {ops : Array Oper} {Q : Exit → Act → World → Prop} {n : Nat} {f : Nat → Value} {w : World} {K : Act → World → Prop} {d : Option Tmp} {ty : TypeId} {pos : String} {aft : Array Edge} {g : Option (Nat × Bool)}
/-- A call whose arguments are seen otherwise. -/
theorem e_callA {fid : FuncId} {args : List Operand} {vs vs' : List Value} {ts : Array TypeId} {R : Ending → World → Prop} (hb : callB P fid = true) (hc : Calls P fid vs.toArray w R) (ha : evl n f args = vs') (he : vs' = vs) (hk : ∀ e w', R e w' → After n f d Q K e w') :
    Oper.wp P ⟨d, .call ⟨.value (.func fid), args.toArray, ts⟩, ty, pos, aft, g⟩ (E n f) w K Q := by
  subst he; exact e_call hb hc ha hk
end
theorem subS_zero {ad : Option Addr} {size m : Nat} : subS ad 0 size m = ad := by
  unfold subS
  split
  · rfl
  · cases ad with
    | none => rfl
    | some a => simp [Addr.add]
section
variable {P : Program} {ops : Array Oper} {Q : Exit → Act → World → Prop} {n : Nat} {f : Nat → Value} {w w0 : World} {D : Nat → Prop} {Γ : List Ch} {K : Act → World → Prop} {dd : Nat} {x y : Operand} {d : Option Tmp} {T Tx ty : TypeId} {pos : String} {aft : Array Edge} {g : Option (Nat × Bool)}
theorem q_sliceX {lo hi mx : Option Operand} {ad ad' : Option Addr} {len cap l h m size len' cap' : Nat} {e : TypeId} (hx : ev n f x = .slice ad len cap) (ht : slB P T = some e) (hz : szB P e = some size)
    (hm : bndIs n f mx cap m) (hh : bndIs n f hi len h) (hl : bndIs n f lo 0 l) (h1 : l ≤ h) (h2 : h ≤ m) (h3 : m ≤ cap) (hno : (mx.isSome && !hi.isSome) = false) (ha : subS ad l size m = ad') (hle : h - l = len') (hc : m - l = cap') :
    Run P n f ⟨d, .slice T x lo hi mx, ty, pos, aft, g⟩ w (.slice ad' len' cap') := by
  subst ha hle hc; exact q_sliceG hx ht hz hm hh hl h1 h2 h3 hno
theorem e_cpyX {e size i m cap lo mx dl dc sl sc N : Nat} {ad ad1 ad2 : Option Addr} {xs ys xs' : List Value} (hS : St w0 D Γ w) (ht : slB P T = some e) (hsz : szB P e = some size) (hpos : 0 < size) (hx : ev n f x = .slice ad1 dl dc) (had : ad1 = subS ad lo size mx) (hi : Γ[i]? = some (.ow e size ad m cap xs))
    (hle : lo + dl ≤ m) (hmx : lo + dl ≤ mx) (hy : ev n f y = .slice ad2 sl sc) (hG : SlG (hw w) ad2 ys) (hl : ys.length = sl * size) (hN : min sl dl = N) (h1 : ∀ u ∈ ys.take (N * size), u.oneCell' = true) (hx' : xs.take (lo * size) ++ ys.take (N * size) ++ xs.drop (lo * size + N * size) = xs')
    (h : ∀ w', St w0 D (Γ.set i (.ow e size ad m cap xs')) w' → K (E n (up f dd (.int .i64 (N : Nat)))) w') :
    Oper.wp P ⟨some dd, .call ⟨.builtin .copy, List.toArray [x, y], List.toArray [T, Tx]⟩, ty, pos, aft, g⟩ (E n f) w K Q := by
  subst had hN; exact e_cpy (l := 0) hS ht hsz hpos hx hi hle hmx hy hG hl h1 hx' h
/-- A slice of no elements. -/
theorem e_buildSlice0 {e m : Nat} (hS : St w0 D Γ w) (ht : slB P T = some e) (hz : szB P e = some m) (h : ∀ b w', St w0 D (.blk b (.cells #[] e) :: Γ) w' → K (E n (up f dd (.slice (some ⟨b, 0, none⟩) 0 0))) w') :
    Oper.wp P ⟨some dd, .buildSlice T 0 (List.toArray []), ty, pos, aft, g⟩ (E n f) w K Q := by
  refine e_new hS rfl ?_ (fun w' hw => h _ w' hw)
  simp [execOp, Instr.buildSlice, run_undSl ht, run_sizeOf hz, Instr.fill, newRow, newObj, Sem.run]
  have h0 : Array.range 0 = (#[] : Array Nat) := rfl
  rw [h0, Array.map_empty]
/-- append(x, make([]T, l)...), that grows always. -/
theorem e_appZ {e size bytes m cap l m' : Nat} {ad : Option Addr} {xs : List Value} {kn : IntKind} {a : Int} (hB : appB P T e size bytes = true) (hTx : P.underlying Tx = some (.int kn)) (hS : St w0 D Γ w) (hx : ev n f x = .slice ad m cap) (hG : SlG (hw w) ad xs) (hlx : xs.length = m * size)
    (hy : ev n f y = .int .i64 a) (hl : a = (l : Int)) (hgr : cap < m + l) (hm' : m + l = m') (h63 : m' ≤ maxLen) (hby : m' * bytes ≤ 140737488355328)
    (h : ∀ b cap' w' zs, zs.length = l * size → St w0 D (.ow e size (some ⟨b, 0, Option.none⟩) m' cap' (xs ++ zs) :: Γ) w' → K (E n (up f dd (.slice (some ⟨b, 0, Option.none⟩) m' cap'))) w') :
    Oper.wp P ⟨some dd, .call ⟨.builtin .append, List.toArray [x, y], List.toArray [T, Tx]⟩, ty, pos, aft, g⟩ (E n f) w K Q := by
  subst hm' hl
  obtain ⟨inf, zv, hu, hif, hs1, hs2, hzz, hz, hpos⟩ := appB_facts hB
  subst hs1 hs2
  have hlm : (l : Int) ≤ 9223372036854775807 := by simp only [maxLen] at h63; omega
  have hw1 : IntKind.i64.wrap (l : Int) = l := by rw [IntKind.wrap_i64]; omega
  have hneg : ¬ ((l : Int) < 0) := by omega
  have hlb : l * inf.bytes ≤ (m + l) * inf.bytes := Nat.mul_le_mul_right _ (by omega)
  have h48i : ¬ (281474976710656 < (l : Int) * (inf.bytes : Int)) := by rw [← Int.natCast_mul]; omega
  have hfit := growslice_fits hgr hby
  have h48' : ¬ (281474976710656 < Builtin.nextslicecap (m + l) cap * inf.bytes) := by omega
  have h63' : ¬ (9223372036854775807 < ((m : Int) + (l : Int))) := by simp only [maxLen] at h63; omega
  have hn : ¬ (m + l ≤ cap) := by omega
  have hGd : SlG (hw w.drew) ad xs := hG
  have hfo := hGd.first (P := P) (size := inf.size) (q := m) (c := cap) hlx
  have hc1 := grownCap_ge w (m + l) cap e
  have hc2 := grownCap_le_maxLen w (m + l) cap e h63
  let zs : Array Value := if l * inf.size = 0 then #[] else Builtin.zeroCells zv.cells l
  have hzl : zs.size = l * inf.size := by
    by_cases h0 : l * inf.size = 0
    · simp [zs, h0]
    · simp [zs, h0, zeroCells_size, hz]
  have hr : (Builtin.append_ #[T, Tx] ty #[.slice ad m cap, .int .i64 l]).run P w = .ok (.slice (some ⟨w.heap.size, 0, none⟩) (m + l) (grownCap w (m + l) cap e))
      (w.drew.alloc (.cells (xs.toArray ++ zs ++ Builtin.zeroCells zv.cells (grownCap w (m + l) cap e - (m + l))) e)) := by
    by_cases h0 : l * inf.size = 0
    · simp [Builtin.append_, run_underlying hu, run_underlying hTx, sizeOf, typeInfo, zeroValue, hif, hzz, asInt, asIntOf, hw1, hn, hneg, h0, h63', h48', h48i, Question.forced, hfo, newRow, grownCap, zs]
    · simp [Builtin.append_, run_underlying hu, run_underlying hTx, sizeOf, typeInfo, zeroValue, hif, hzz, asInt, asIntOf, hw1, hn, hneg, h0, h63', h48', h48i, Question.forced, hfo, newRow, grownCap, zs]
  refine wp_known rfl (ex_append hx hy hr) (h _ _ _ zs.toList (by rw [Array.length_toList]; exact hzl) ?_)
  have hg1 : St w0 D (.blk w.heap.size (.cells (xs.toArray ++ zs ++ Builtin.zeroCells zv.cells (grownCap w (m + l) cap e - (m + l))) e) :: Γ) (w.drew.alloc (.cells (xs.toArray ++ zs ++ Builtin.zeroCells zv.cells (grownCap w (m + l) cap e - (m + l))) e)) := hS.alloc _ |>.of_heap rfl rfl rfl rfl
  have hlen : (xs ++ zs.toList).length = (m + l) * inf.size := by rw [List.length_append, hlx, Array.length_toList, hzl, Nat.add_mul]
  have hg2 := hg1.recast (i := 0) (c' := .ow e inf.size (some ⟨w.heap.size, 0, Option.none⟩) (m + l) (grownCap w (m + l) cap e) (xs ++ zs.toList)) rfl (fun k hk => by obtain ⟨a0, h1, rfl⟩ := hk; injection h1 with h1; subst h1; rfl) fun hsat => ?_
  · exact hg2
  · refine ⟨hlen, hc1, hc2, .inr ⟨_, 0, _, rfl, hsat, ?_, ?_⟩⟩
    · simp only [Array.size_append, zeroCells_size, hz, List.size_toArray, hlx, hzl, Nat.zero_add]
      rw [← Nat.add_mul, ← Nat.add_mul]; exact Nat.mul_le_mul_right _ (by omega)
    · rw [List.drop_zero, Array.toList_append, Array.toList_append, ← hlen]
      exact List.take_left' rfl
end
/-! ### slices.Insert's rows -/
theorem ins_cells {xs ys zs : List Value} {I M N : Nat} (hI : I ≤ N) (hx : xs.length = N) (hy : ys.length = M) (hz : zs.length = M) :
    let X := xs ++ ys
    let X1 := X.take (I + M) ++ (X.drop I).take (N - I) ++ X.drop (I + M + (N - I))
    X1.take I ++ zs.take M ++ X1.drop (I + M) = xs.take I ++ zs ++ xs.drop I := by
  intro X X1
  have e1 : X1.drop (I + M) = xs.drop I := by
    have hX : X.length = N + M := by simp [X, hx, hy]
    have h1 : (X.take (I + M)).length = I + M := by rw [List.length_take, hX]; omega
    have h2 : X.drop (I + M + (N - I)) = [] := List.drop_eq_nil_of_le (by rw [hX]; omega)
    show ((X.take (I + M) ++ (X.drop I).take (N - I)) ++ X.drop (I + M + (N - I))).drop (I + M) = _
    rw [h2, List.append_nil, List.drop_left' h1]
    show ((xs ++ ys).drop I).take (N - I) = _
    rw [List.drop_append_of_le_length (by omega), List.take_append_of_le_length (by rw [List.length_drop]; omega), List.take_of_length_le (by rw [List.length_drop]; omega)]
  have e2 : X1.take I = xs.take I := by
    show ((X.take (I + M) ++ (X.drop I).take (N - I)) ++ X.drop (I + M + (N - I))).take I = _
    have hX : X.length = N + M := by simp [X, hx, hy]
    rw [List.append_assoc, List.take_append_of_le_length (by rw [List.length_take, hX]; omega), List.take_take, Nat.min_eq_left (by omega)]
    exact List.take_append_of_le_length (by omega)
  have h3 : zs.take M = zs := List.take_of_length_le (by omega)
  rw [e1, e2, h3]
theorem ins_cells2 {xs ys zs : List Value} {I M N L : Nat} (hI : I ≤ N) (hx : xs.length = N) (hy : ys.length = L) (hL : L = N + M - I) (hz : zs.length = M) :
    let X := xs.take I ++ ys
    let X1 := X.take I ++ zs.take M ++ X.drop (I + M)
    X1.take (I + M) ++ (xs.drop I).take (N - I) ++ X1.drop (I + M + (N - I)) = xs.take I ++ zs ++ xs.drop I := by
  intro X X1
  have hX : X.length = N + M := by simp only [X, List.length_append, List.length_take, hx, hy]; omega
  have h1 : (X.take I).length = I := by rw [List.length_take, hX]; omega
  have h2 : X.take I = xs.take I := List.take_left' (by rw [List.length_take]; omega)
  have h3 : zs.take M = zs := List.take_of_length_le (by omega)
  have h4 : X1.length = N + M := by simp only [X1, List.length_append, List.length_take, List.length_drop, hX, hz]; omega
  have h5 : X1.drop (I + M + (N - I)) = [] := List.drop_eq_nil_of_le (by omega)
  have h6 : X1.take (I + M) = xs.take I ++ zs := by
    show ((X.take I ++ zs.take M) ++ X.drop (I + M)).take (I + M) = _
    rw [List.take_left' (by rw [List.length_append, h1, h3, hz]), h2, h3]
  have h7 : (xs.drop I).take (N - I) = xs.drop I := List.take_of_length_le (by rw [List.length_drop]; omega)
  rw [h5, h6, h7, List.append_nil]
/-- A slice in plain memory. -/
def SlP (g : Gh) (ad : Option Addr) (xs : List Value) : Prop := xs = [] ∨ ∃ b off arr T, ad = some ⟨b, off, none⟩ ∧ g b = some (.cells arr T (0, 0)) ∧ off + xs.length ≤ arr.size ∧ ∀ j u, xs[j]? = some u → arr[off + j]? = some u
theorem SlP.slg {g : Gh} {ad : Option Addr} {xs : List Value} (h : SlP g ad xs) : SlG g ad xs := by
  rcases h with h | ⟨b, off, arr, T, h1, h2, _, h3⟩
  · exact .inl h
  · exact .inr ⟨b, off, arr, T, (0, 0), h1, h2, h3⟩
section
variable {P : Program} {w : World}
theorem ov_apart {f : FuncId} {tS tR e size la ca lb cb : Nat} {ad ad2 : Option Addr} {zs : List Value} {g : Gh} (hx : ∀ args w, (callFunc f args).run P w = ((Extern.SlicesOverlaps.overlaps #[tS, tS] #[tR] args).run P w).andThen fun v w' => .ok (.value v) w')
    (ht : slB P tS = some e) (hz : szB P e = some size) (hp : 0 < size) (hZ : SlP g ad2 zs) (hg : Gle g (hw w)) (hzl : zs.length = la * size)
    (hA : ad = none ∨ ∃ gb off cur T, ad = some ⟨gb, off, none⟩ ∧ w.heap[gb]? = some (.cells cur T (0, 0)) ∧ cur.size ≠ 0 ∧ ∀ o, g gb ≠ some o) :
    (callFunc f #[.slice ad2 la ca, .slice ad lb cb]).run P w = .ok (.value (.bool false)) w := by
  rw [hx]
  have ht' := und_sl ht
  have hz' : ∀ w, (Go.sizeOf e).run P w = .ok size w := fun w => run_sizeOf hz
  have key : (Extern.SlicesOverlaps.overlaps #[tS, tS] #[tR] #[.slice ad2 la ca, .slice ad lb cb]).run P w = .ok (.bool false) w := by
    by_cases hla : la = 0
    · change Sem.run P (α := Value) (do
        let some t := (#[tS, tS] : Array TypeId)[0]? | stuck "slices.overlaps: no parameter types"
        let .slice elem ← underlying t | stuck "slices.overlaps: slice type expected"
        let size ← sizeOf elem
        match ad2, ad with
        | some a, some b =>
          if la = 0 ∨ lb = 0 ∨ size = 0 then pure (Value.bool false)
          else if a.block != b.block && (← frozen a) && (← frozen b) then unsupported .addressObserved
          else do
            if a.block != b.block then do
              noView a; noView b
              if ← mayBeOne a b then return Value.bool ((← choose (.extern "sameAddr.stringBytes" 2)) == 1)
            pure (Value.bool (a.block == b.block && a.off < b.off + lb * size && b.off < a.off + la * size))
        | _, _ => pure (Value.bool false)) w = _
      cases ad2 <;> cases ad <;> simp [run_underlying ht', hz', hla, Sem.run]
    · have hzp : 0 < zs.length := by rw [hzl]; exact Nat.mul_pos (by omega) hp
      rcases hZ with rfl | ⟨b, off, arr, T, rfl, hb, hle, hxx⟩
      · simp at hzp
      · rcases hA with rfl | ⟨gb, off2, cur, T2, rfl, hgb, hne, hap⟩
        · change Sem.run P (α := Value) (do
            let some t := (#[tS, tS] : Array TypeId)[0]? | stuck "slices.overlaps: no parameter types"
            let .slice elem ← underlying t | stuck "slices.overlaps: slice type expected"
            let size ← sizeOf elem
            match (some ⟨b, off, none⟩ : Option Addr), (none : Option Addr) with
            | some a, some b =>
              if la = 0 ∨ lb = 0 ∨ size = 0 then pure (Value.bool false)
              else if a.block != b.block && (← frozen a) && (← frozen b) then unsupported .addressObserved
              else do
                if a.block != b.block then do
                  noView a; noView b
                  if ← mayBeOne a b then return Value.bool ((← choose (.extern "sameAddr.stringBytes" 2)) == 1)
                pure (Value.bool (a.block == b.block && a.off < b.off + lb * size && b.off < a.off + la * size))
            | _, _ => pure (Value.bool false)) w = _
          simp [run_underlying ht', hz', Sem.run]
        · have hbh : w.heap[b]? = some (.cells arr T (0, 0)) := hg _ _ hb
          refine Lib.run_overlaps_apart w tS tR e ht' size hz' ⟨b, off, none⟩ ⟨gb, off2, none⟩ la ca lb cb (fun he => by have he' : b = gb := he; subst he'; exact hap _ hb) T T2 arr.size cur.size ?_ ?_ hne ?_ ?_
          · simp [World.shape?, hbh]
          · simp [World.shape?, hgb]
          · simp [World.frozen?, hbh]
          · simp [World.frozen?, hbh]
  rw [key]; rfl
end
/-! ### pieces -/
section
variable {w w0 : World} {D : Nat → Prop} {Γ : List Ch}
theorem St.cast {Γ' : List Ch} (h : St w0 D Γ w) (e : Γ = Γ') : St w0 D Γ' w := e ▸ h
theorem St.only (h : St w0 D Γ w) (k : Nat) : St w0 D (Γ.take k) w := h.sub (List.take_sublist k Γ)
theorem St.front (h : St w0 D Γ w) {k : Nat} {c : Ch} {Γ' : List Ch} (hk : Γ[k]? = some c) (he : c :: Γ.eraseIdx k = Γ') : St w0 D Γ' w := by
  subst he
  refine h.perm ?_
  have key : ∀ (l : List Ch) (k : Nat), l[k]? = some c → l.Perm (c :: l.eraseIdx k) := by
    intro l
    induction l with
    | nil => intro k h; simp at h
    | cons a l ih =>
      intro k h
      cases k with
      | zero => simp at h; subst h; exact .refl _
      | succ k => simp at h; exact (List.Perm.cons a (ih k h)).trans (.swap _ _ _)
  exact key Γ k hk
theorem St.blkOw' {e b i size m : Nat} {arr : Array Value} {xs : List Value} (h : St w0 D Γ w) (hi : Γ[i]? = some (.blk b (.cells arr e))) (hx : arr.toList = xs) (hz : arr.size = m * size) (hm : m ≤ maxLen) : St w0 D (Γ.set i (.ow e size (some ⟨b, 0, none⟩) m m xs)) w := by
  subst hx; exact h.blkOw size m hi hz hm
theorem St.owSubX {e size i m cap l hh mx m' cap' : Nat} {ad ad' : Option Addr} {xs xs' : List Value} (h : St w0 D Γ w) (hi : Γ[i]? = some (.ow e size ad m cap xs)) (h1 : l ≤ hh) (h2 : hh ≤ mx) (h3 : mx ≤ cap) (h4 : hh ≤ m)
    (ha : subS ad l size mx = ad') (hm : hh - l = m') (hc : mx - l = cap') (hx : (xs.drop (l * size)).take ((hh - l) * size) = xs') : St w0 D (Γ.set i (.ow e size ad' m' cap' xs')) w := by
  subst ha hm hc hx; exact h.owSub hi h1 h2 h3 h4
variable {a b c d e f g h' i j : Ch}
theorem St.fr1 (h : St w0 D (a :: b :: Γ) w) : St w0 D (b :: a :: Γ) w := h.front (k := 1) rfl rfl
theorem St.fr2 (h : St w0 D (a :: b :: c :: Γ) w) : St w0 D (c :: a :: b :: Γ) w := h.front (k := 2) rfl rfl
theorem St.fr3 (h : St w0 D (a :: b :: c :: d :: Γ) w) : St w0 D (d :: a :: b :: c :: Γ) w := h.front (k := 3) rfl rfl
theorem St.fr4 (h : St w0 D (a :: b :: c :: d :: e :: Γ) w) : St w0 D (e :: a :: b :: c :: d :: Γ) w := h.front (k := 4) rfl rfl
theorem St.fr5 (h : St w0 D (a :: b :: c :: d :: e :: f :: Γ) w) : St w0 D (f :: a :: b :: c :: d :: e :: Γ) w := h.front (k := 5) rfl rfl
theorem St.fr6 (h : St w0 D (a :: b :: c :: d :: e :: f :: g :: Γ) w) : St w0 D (g :: a :: b :: c :: d :: e :: f :: Γ) w := h.front (k := 6) rfl rfl
theorem St.fr7 (h : St w0 D (a :: b :: c :: d :: e :: f :: g :: h' :: Γ) w) : St w0 D (h' :: a :: b :: c :: d :: e :: f :: g :: Γ) w := h.front (k := 7) rfl rfl
theorem St.fr8 (h : St w0 D (a :: b :: c :: d :: e :: f :: g :: h' :: i :: Γ) w) : St w0 D (i :: a :: b :: c :: d :: e :: f :: g :: h' :: Γ) w := h.front (k := 8) rfl rfl
theorem St.fr9 (h : St w0 D (a :: b :: c :: d :: e :: f :: g :: h' :: i :: j :: Γ) w) : St w0 D (j :: a :: b :: c :: d :: e :: f :: g :: h' :: i :: Γ) w := h.front (k := 9) rfl rfl

/-! ### what a call reads besides its pieces -/
def Rog (Γ1 : List Ch) (w : World) (g : Gh) : Prop := ∀ k o, g k = some o → w.heap[k]? = some o ∧ ¬ owns Γ1 k
section
variable {g : Gh} {Γ1 F : List Ch}
theorem Rog.le {w' : World} {Γ' : List Ch} (hg : Rog Γ1 w g) (h : St w (owns Γ1) Γ' w') : Gle g (hw w') := fun k o e => (h.keep k (Array.getElem?_eq_some_iff.1 (hg k o e).1).1 (hg k o e).2).trans (hg k o e).1
theorem owns_meet {i : Nat} {c : Ch} (h : St w0 D (Γ1 ++ F) w) (hi : F[i]? = some c) {k : Nat} (hk : c.own k) : ¬ owns Γ1 k := by
  rintro ⟨d, hd, hdk⟩
  obtain ⟨j, hj⟩ := List.getElem?_of_mem hd
  have hjl : j < Γ1.length := (List.getElem?_eq_some_iff.1 hj).1
  exact h.sat.disj (i := j) (j := Γ1.length + i) (by rw [List.getElem?_append_left hjl]; exact hj) (by rw [List.getElem?_append_right (by omega), Nat.add_sub_cancel_left]; exact hi) (by omega) k hdk hk
theorem St.rogF {i : Nat} (h : St w0 D (Γ1 ++ F) w) (hi : F[i]? = some (.fz g)) : Rog Γ1 w g := fun k o e => by
  have hm : (Γ1 ++ F)[Γ1.length + i]? = some (.fz g) := by rw [List.getElem?_append_right (by omega), Nat.add_sub_cancel_left]; exact hi
  exact ⟨(h.sat.get hm).1 k o e, owns_meet h hi ⟨o, e⟩⟩
theorem St.rogO {e size m cap i : Nat} {ad : Option Addr} {xs : List Value} (h : St w0 D (Γ1 ++ F) w) (hi : F[i]? = some (.ow e size ad m cap xs)) : ∃ g, Rog Γ1 w g ∧ SlG g ad xs := by
  have hm : (Γ1 ++ F)[Γ1.length + i]? = some (.ow e size ad m cap xs) := by rw [List.getElem?_append_right (by omega), Nat.add_sub_cancel_left]; exact hi
  rcases h.owG hm with h0 | ⟨b, off, arr, T, fz, rfl, hb, hx⟩
  · exact ⟨fun _ => none, fun k o e => by (cases e), .inl h0⟩
  · refine ⟨fun k => if k = b then w.heap[k]? else none, fun k o e => ?_, .inr ⟨b, off, arr, T, fz, rfl, (if_pos rfl).trans hb, hx⟩⟩
    by_cases hk : k = b
    · subst hk
      simp at e
      exact ⟨by simpa using e, owns_meet h hi ⟨_, rfl, rfl⟩⟩
    · simp [hk] at e
theorem St.rogP {e size m cap i : Nat} {ad : Option Addr} {xs : List Value} (h : St w0 D (Γ1 ++ F) w) (hi : F[i]? = some (.ow e size ad m cap xs)) : ∃ g, Rog Γ1 w g ∧ SlP g ad xs := by
  have hm : (Γ1 ++ F)[Γ1.length + i]? = some (.ow e size ad m cap xs) := by rw [List.getElem?_append_right (by omega), Nat.add_sub_cancel_left]; exact hi
  obtain ⟨h1, h2, h3, h4⟩ := (h.sat.get hm).1
  rcases h4 with ⟨rfl, h0⟩ | ⟨gb, off, cur, rfl, hg, hle, hx⟩
  · refine ⟨fun _ => none, fun k o e => by (cases e), .inl ?_⟩
    have : m = 0 := by omega
    subst this; exact List.eq_nil_of_length_eq_zero (by simpa using h1)
  · have hmul : m * size ≤ cap * size := Nat.mul_le_mul_right _ h2
    refine ⟨fun k => if k = gb then w.heap[k]? else none, fun k o e => ?_, .inr ⟨gb, off, cur, e, rfl, (if_pos rfl).trans hg, by omega, fun j u hu => ?_⟩⟩
    · by_cases hk : k = gb
      · subst hk
        simp at e
        exact ⟨by simpa using e, owns_meet h hi ⟨_, rfl, rfl⟩⟩
      · simp [hk] at e
    · rw [← hx, List.getElem?_take] at hu
      split at hu
      · rw [List.getElem?_drop] at hu
        simpa using hu
      · cases hu
theorem St.rogB (h : St w0 (fun _ => False) (Γ1 ++ F) w) : Rog Γ1 w (hw w0) := fun k o e => by
  have hk : k < w0.heap.size := (Array.getElem?_eq_some_iff.1 e).1
  refine ⟨h.base k o e, ?_⟩
  rintro ⟨c, hc, hck⟩
  rcases ((h.sat.mem c (List.mem_append_left _ hc)).2 k hck).1 with h1 | h1
  · exact h1
  · omega
theorem St.rogR {Γ0 : List Ch} (h : St w0 (owns Γ0) (Γ1 ++ F) w) (hg : Rog Γ0 w0 g) : Rog Γ1 w g := fun k o e => by
  have hk : k < w0.heap.size := (Array.getElem?_eq_some_iff.1 (hg k o e).1).1
  refine ⟨hg.le h k o e, ?_⟩
  rintro ⟨c, hc, hck⟩
  rcases ((h.sat.mem c (List.mem_append_left _ hc)).2 k hck).1 with h1 | h1
  · exact (hg k o e).2 h1
  · omega
end
theorem St.fz0 (h : St w0 D Γ w) : St w0 D (.fz (fun _ => none) :: Γ) w :=
  ⟨h.os, h.tape, h.output, h.size, h.keep, (fun k o e => by cases e), (fun k hk => by obtain ⟨o, e⟩ := hk; cases e), (fun c _ k hk => by obtain ⟨o, e⟩ := hk; cases e), h.sat⟩
/-- Two frozen pieces are one. -/
theorem St.fzJoin {g1 g2 : Gh} (h : St w0 D (.fz g1 :: .fz g2 :: Γ) w) : ∃ g, Gle g1 g ∧ Gle g2 g ∧ St w0 D (.fz g :: Γ) w := by
  refine ⟨fun k => match g1 k with | some o => some o | none => g2 k, fun k o e => by simp [e], fun k o e => ?_, h.join (c' := .fz _) ?_ ?_⟩
  · cases h1 : g1 k with
    | none => simp only [h1]; exact e
    | some o1 => exact absurd ⟨o, e⟩ (h.sat.2.2.1 (.fz g2) (.head _) k ⟨o1, h1⟩)
  · rintro k ⟨o, e⟩
    cases h1 : g1 k with
    | none => simp only [h1] at e; exact .inr ⟨o, e⟩
    | some o1 => exact .inl ⟨o1, h1⟩
  · intro s1 s2 k o e
    cases h1 : g1 k with
    | none => simp only [h1] at e; exact s2 k o e
    | some o1 => simp only [h1, Option.some.injEq] at e; subst e; exact s1 k _ h1
/-- Pieces as one. -/
def Ch.pk (Γ : List Ch) : Ch := .gen (owns Γ) (Sat 0 (fun _ => True) Γ) (fun w w' hk h => by
  have key : ∀ Δ : List Ch, (∀ c ∈ Δ, c ∈ Γ) → Sat 0 (fun _ => True) Δ w → Sat 0 (fun _ => True) Δ w' := by
    intro Δ
    induction Δ with
    | nil => intro _ _; trivial
    | cons c Δ ih =>
      intro hm hs
      have hc : ∀ k, c.own k → w'.heap[k]? = w.heap[k]? := fun k hk' => hk k ⟨c, hm c (.head _), hk'⟩
      refine ⟨c.loc hc hs.1, fun k hk' => ⟨.inl trivial, ?_⟩, hs.2.2.1, ih (fun d hd => hm d (.tail _ hd)) hs.2.2.2⟩
      have h1 := (hs.2.1 k hk').2
      have h2 := hc k hk'
      rw [Array.getElem?_eq_getElem h1] at h2
      exact (Array.getElem?_eq_some_iff.1 h2).1
  exact key Γ (fun _ h => h) h)
theorem St.unpk {Γ1 : List Ch} (h : St w0 D (.pk Γ1 :: Γ) w) : St w0 D (Γ1 ++ Γ) w := by
  obtain ⟨h1, h2, h3, h4⟩ := h.sat
  refine ⟨h.os, h.tape, h.output, h.size, h.keep, ?_⟩
  have key : ∀ Δ : List Ch, (∀ c ∈ Δ, c ∈ Γ1) → Sat 0 (fun _ => True) Δ w → Sat w0.heap.size D (Δ ++ Γ) w := by
    intro Δ
    induction Δ with
    | nil => intro _ _; exact h4
    | cons c Δ ih =>
      intro hm hs
      refine ⟨hs.1, fun k hk => h2 k ⟨c, hm c (.head _), hk⟩, fun d hd k hk hdk => ?_, ih (fun d hd => hm d (.tail _ hd)) hs.2.2.2⟩
      rcases List.mem_append.1 hd with hd | hd
      · exact hs.2.2.1 d hd k hk hdk
      · exact h3 d hd k ⟨c, hm c (.head _), hk⟩ hdk
  exact key Γ1 (fun _ h => h) h1
theorem St.pk {Γ1 : List Ch} (h : St w0 D (Γ1 ++ Γ) w) : St w0 D (.pk Γ1 :: Γ) w := by
  refine ⟨h.os, h.tape, h.output, h.size, h.keep, ?_⟩
  have key : ∀ Δ : List Ch, Sat w0.heap.size D (Δ ++ Γ) w → Sat 0 (fun _ => True) Δ w ∧ (∀ k, owns Δ k → (D k ∨ w0.heap.size ≤ k) ∧ k < w.heap.size) ∧ (∀ d ∈ Γ, ∀ k, owns Δ k → ¬ d.own k) ∧ Sat w0.heap.size D Γ w := by
    intro Δ
    induction Δ with
    | nil =>
      intro hs
      refine ⟨trivial, ?_, ?_, hs⟩
      · rintro k ⟨c, hc, _⟩; cases hc
      · rintro d _ k ⟨c, hc, _⟩; cases hc
    | cons c Δ ih =>
      intro hs
      obtain ⟨i1, i2, i3, i4⟩ := ih hs.2.2.2
      refine ⟨⟨hs.1, fun k hk => ⟨.inl trivial, (hs.2.1 k hk).2⟩, fun d hd => hs.2.2.1 d (List.mem_append_left _ hd), i1⟩, ?_, ?_, i4⟩
      · rintro k ⟨d, hd, hk⟩
        cases hd with
        | head => exact hs.2.1 k hk
        | tail _ hd => exact i2 k ⟨d, hd, hk⟩
      · rintro e he k ⟨d, hd, hk⟩
        cases hd with
        | head => exact hs.2.2.1 e (List.mem_append_right _ he) k hk
        | tail _ hd => exact i3 e he k ⟨d, hd, hk⟩
  exact key Γ1 h.sat
end
end Go.Proofs.YtdlmcgflgdmjgaaDoor
