/- Short numbers: row.Short, bits.Len64, row.Long. -/
import Derived.Test.YtlplhlncdfhhoaaRb
import Derived.Test.YtlplhlncdfhhoaaBt
set_option linter.unusedVariables false
set_option linter.unusedSimpArgs false
namespace Go.Proofs.Ytlplhlncdfhhoaa
open Go.RowKit
def blen (n : Nat) : Nat := ((List.range 8).filter fun i => decide (2 ^ i ≤ n)).length
theorem blen_facts : ∀ n, n < 128 → blen n ≤ 7 ∧ (1 < blen n ↔ 2 ≤ n) := by decide
section
variable {P : Program} {n : Nat} {f : Nat → Value} {w : World}
variable {d : Option Tmp} {x y : Operand} {ty T T' : TypeId} {pos : String} {aft : Array Edge} {g : Option (Nat × Bool)}
theorem zig_xor {z : Int} (h1 : -9223372036854775808 ≤ z) (h2 : z ≤ 9223372036854775807) : (toU z * 2 ^ 1 % 18446744073709551616) ^^^ (toU (if z < 0 then -1 else 0)) = zig z := by
  rw [toU_sign]
  by_cases h : z < 0
  · rw [if_pos h, xor_ones (by omega)]
    unfold toU zig; rw [if_neg (by omega)]; omega
  · rw [if_neg h, Nat.xor_zero]
    unfold toU zig; rw [if_pos (by omega)]; omega
theorem q_zig {z : Int} (hx : ev n f x = .int .u64 ((toU z * 2 ^ 1 % 18446744073709551616 : Nat) : Int)) (hy : ev n f y = .int .u64 ((toU (if z < 0 then -1 else 0) : Nat) : Int)) (h1 : -9223372036854775808 ≤ z) (h2 : z ≤ 9223372036854775807) :
    Run P n f ⟨d, .binOp .xor T x y T', ty, pos, aft, g⟩ w (.int .u64 ((zig z : Nat) : Int)) := by
  rw [← zig_xor h1 h2]
  exact q_xorN 64 hx hy (by show _ < 18446744073709551616; omega) (toU_lt _) (.inl ⟨rfl, rfl⟩)
theorem q_or128 {a : Nat} (hx : ev n f x = .int .u8 (a : Int)) (hy : ev n f y = .int .u8 128) (ha : a < 256) :
    Run P n f ⟨d, .binOp .or T x y T', ty, pos, aft, g⟩ w (.int .u8 ((a % 128 + 128 : Nat) : Int)) := by
  rw [← or128 ha]
  exact q_orS 8 hx (b := 128) hy (by show _ < 256; omega) (by decide) (.inl ⟨rfl, rfl⟩)
theorem q_unzig {u : Nat} {z : Int} (hx : ev n f x = .int .i64 ((u / 2 ^ 1 : Nat) : Int)) (hy : ev n f y = .int .i64 z) (hz : z = IntKind.i64.wrap (0 - ((u % 2 : Nat) : Int))) (hu : u < 18446744073709551616) :
    Run P n f ⟨d, .binOp .xor T x y T', ty, pos, aft, g⟩ w (.int .i64 (unzig u)) := by
  have h := q_xorSign (P := P) (w := w) (d := d) (T := T) (T' := T') (ty := ty) (pos := pos) (aft := aft) (g := g) (b := u % 2) hx hy (by
    rw [hz]
    rcases (by omega : u % 2 = 0 ∨ u % 2 = 1) with h | h <;> rw [h] <;> rfl) (by omega)
  have e : (if u % 2 = 1 then -((u / 2 ^ 1 : Nat) : Int) - 1 else ((u / 2 ^ 1 : Nat) : Int)) = unzig u := by
    unfold unzig
    rw [Nat.pow_one]
    rcases (by omega : u % 2 = 0 ∨ u % 2 = 1) with h | h
    · rw [if_neg (by omega), if_pos h]
    · rw [if_pos h, if_neg (by omega)]
  rwa [e] at h
end
theorem short_step {p : List Nat} {u v : Nat} (h : p ++ leb u = leb v) (hu : 127 < u) : (p ++ [u % 256 % 128 + 128]) ++ leb (u / 2 ^ 7) = leb v := by
  rw [← h, leb_hi (u := u) (by omega), List.append_assoc]
  have : u % 256 % 128 = u % 128 := by omega
  rw [this]; rfl
theorem short_end {p : List Nat} {u v : Nat} (h : p ++ leb u = leb v) (hu : u ≤ 127) : p ++ [u % 256] = leb v := by
  rw [← h, leb_lo (by omega), Nat.mod_eq_of_lt (by omega)]
/-- What a reader of short numbers hands back. -/
def LongP (b : List Nat) (v : Value) : Prop := ∃ z k ok, v = .tuple #[.int .i64 z, .int .i64 ((k : Nat) : Int), .bool ok] ∧ (ok = true → (∃ r, b = short z ++ r) ∧ k = (short z).length ∧ -9223372036854775808 ≤ z ∧ z ≤ 9223372036854775807) ∧ (ok = false → z = 0 ∧ k = 0 ∧ NoShort b)
theorem LongP.mk {b : List Nat} {z : Int} {k : Nat} {ok : Bool} (h : LongR b z k ok) : LongP b (.tuple #[.int .i64 z, .int .i64 ((k : Nat) : Int), .bool ok]) := ⟨z, k, ok, rfl, h.1, h.2⟩
theorem p7 (i : Nat) : (2 : Nat) ^ (7 * i) = 128 ^ i := by rw [Nat.pow_mul]
theorem p7le {i : Nat} (h : i ≤ 8) : (128 : Nat) ^ i ≤ 72057594037927936 := by
  have := Nat.pow_le_pow_right (n := 128) (by omega) h
  rwa [show (128 : Nat) ^ 8 = 72057594037927936 from by decide] at this
theorem long_acc {b : List Nat} {i x : Nat} (h : i ≤ b.length) (hx : b[i]? = some x) (hi : i ≤ 8 ∨ i = 9 ∧ x % 128 < 2) : lval (b.take i) ||| (x % 128 * 2 ^ (7 * i) % 18446744073709551616) = lval (b.take (i + 1)) ∧ lval (b.take (i + 1)) < 18446744073709551616 := by
  have h1 := lval_take h
  have h4 : x % 128 < 128 := by omega
  rw [lval_next hx]
  have key : x % 128 * 128 ^ i < 18446744073709551616 ∧ lval (b.take i) + 128 ^ i * (x % 128) < 18446744073709551616 := by
    rw [Nat.mul_comm (128 ^ i)]
    rcases hi with hi | ⟨rfl, hi⟩
    · have h2 := p7le hi
      have h3 : x % 128 * 128 ^ i ≤ 127 * 128 ^ i := Nat.mul_le_mul_right _ (by omega)
      omega
    · rw [pow9] at h1 ⊢
      omega
  refine ⟨?_, key.2⟩
  rw [p7, Nat.mod_eq_of_lt key.1, ← p7, or_step (by rw [p7]; exact h1), p7, Nat.mul_comm (128 ^ i)]
attribute [local irreducible] Oper.wp Sem.run Code.wp wpList wpAnyO callFunc execOp Calls
attribute [local irreducible] toU zig unzig short blen lval

set_option maxRecDepth 100000 in
theorem short_ok (z : Int) (hz1 : -9223372036854775808 ≤ z) (hz2 : z ≤ 9223372036854775807) (w : World) : Calls Try.prog 47 #[.int .i64 z] w (PostN w fun v G => ∃ ad cap, v = .slice ad (short z).length cap ∧ G = [.ow 5 1 ad (short z).length cap (bv (short z))]) := by
  have hS := St.start w
  have hsd : short z = leb (zig z) := by unfold short; rfl
  rw [hsd]
  refine c_enter Try.func47 rfl rfl rfl ?_
  refine wp_seq_k (fun K1 hK1 => ?_)
  refine wp_region_lit ?_
  refine l_q rfl rfl (q_assignS rfl) ?_
  refine l_nil ?_
  refine hK1 _ _ ?_
  refine wp_seq_k (fun K2 hK2 => ?_)
  refine wp_region_lit ?_
  refine l_q rfl rfl (q_moveI rfl) ?_
  refine l_q rfl rfl (q_convU (z := z) rfl (by kernel_rfl) rfl) ?_
  refine l_q rfl rfl (u_shl (a := (toU z)) (b := 1) (M := 18446744073709551616) rfl rfl rfl (by decide) (by decide)) ?_
  refine l_q rfl rfl (q_moveI rfl) ?_
  refine l_q rfl rfl (q_sar63 rfl hz1 hz2 rfl) ?_
  refine l_q rfl rfl (q_convU (z := (if z < 0 then -1 else 0)) rfl (by kernel_rfl) rfl) ?_
  refine l_q rfl rfl (q_zig rfl rfl hz1 hz2) ?_
  refine l_q rfl rfl (q_assignI rfl) ?_
  refine l_nil ?_
  refine hK2 _ _ ?_
  refine wp_seq_k (fun K3 hK3 => ?_)
  refine wp_region_lit ?_
  refine l_q rfl rfl (q_assignS rfl) ?_
  refine l_nil ?_
  refine hK3 _ _ ?_
  refine wp_seq_k (fun K4 hK4 => ?_)
  refine wp_block ?_
  have hS5 := hS.ow_nil 5 1; clear hS
  refine c_loop (τ := (List Nat) × Nat × (Option Addr) × Nat) [(3, 4), (12, 21)] (fun x => (fun (p : List Nat) (u : Nat) (ad : Option Addr) (cap : Nat) => [(3, .int .u64 ((u : Nat) : Int)), (4, .slice ad p.length cap)]) x.1 x.2.1 x.2.2.1 x.2.2.2) (fun x w' => (fun (p : List Nat) (u : Nat) (ad : Option Addr) (cap : Nat) => St w (fun _ => False) [.ow 5 1 ad p.length cap (bv p)] w' ∧ p ++ leb u = leb (zig z) ∧ Bytes p ∧ u < 18446744073709551616 ∧ p.length ≤ 10) x.1 x.2.1 x.2.2.1 x.2.2.2) (fun x => (fun (p : List Nat) (u : Nat) (ad : Option Addr) (cap : Nat) => u) x.1 x.2.1 x.2.2.1 x.2.2.2) (⟨[], (zig z), none, 0⟩) ?_ (by refine ⟨rfl, ⟨rfl, trivial⟩⟩) (fun x6 j6 w6 hJ6 K6 hK6 => ?_)
  ·
    exact ⟨hS5, rfl, Bytes.nil, zig_lt hz1 hz2, Nat.zero_le _⟩
  ·
    obtain ⟨p, u, ad, cap⟩ := x6
    obtain ⟨hS6, he, hp, hu, hpl⟩ := hJ6
    try dsimp only at hS6 he hp hu hpl ⊢
    have hl10 := short_len hz1 hz2
    have hle := congrArg List.length he
    rw [List.length_append] at hle
    have hlp := leb_pos u
    have hl10' : (leb (zig z)).length ≤ 10 := leb_len10 (zig_lt hz1 hz2)
    refine wp_seq_k (fun K7 hK7 => ?_)
    refine wp_seq_k (fun K8 hK8 => ?_)
    refine wp_region_lit ?_
    refine l_q rfl rfl (q_moveI rfl) ?_
    refine l_q rfl rfl (q_gtr rfl rfl) ?_
    refine l_nil ?_
    refine hK8 _ _ ?_
    refine c_cond rfl (fun hc9 => ?_) (fun hc9 => ?_)
    ·
      have hc9b := hc9
      try simp only [decide_eq_true_eq, decide_eq_false_iff_not, Bool.not_eq_true', Bool.not_eq_false', Bool.and_eq_true, Bool.or_eq_true, Int.not_lt, Int.not_le, ne_eq, Decidable.not_not] at hc9
      refine wp_skip ?_
      refine hK7 _ _ ?_
      refine wp_seq_k (fun K10 hK10 => ?_)
      refine wp_block ?_
      refine wp_region_lit ?_
      refine l_q rfl rfl (q_moveS rfl) ?_
      refine l_q rfl rfl (q_moveI rfl) ?_
      refine l_q rfl rfl (u_conv (a := u) (k' := .u8) (M := 256) rfl (by kernel_rfl) (by kernel_rfl) rfl (by decide)) ?_
      refine l_q rfl rfl (q_or128 rfl rfl (by omega)) ?_
      refine l_e rfl (fun K hK => ?_)
      refine e_buildSlice1 (e := 5) (zv := .int .u8 0) (xs := [.tmp 19]) hS6 (by kernel_rfl) (by kernel_rfl) (by kernel_rfl) rfl rfl rfl rfl (allone (by repeat' (first | exact trivial | refine ⟨by first | rfl | assumption, ?_⟩))) rfl (fun b11 w11 (hS11 : St _ _ [.blk b11 (.cells #[.int .u8 (((u % 256 % 128 + 128) : Nat) : Int)] 5), .ow 5 1 ad p.length cap (bv p)] _) => ?_)
      clear hS6
      have hB11 : Bytes [(u % 256 % 128 + 128)] := by intro q hq; simp only [List.mem_cons, List.not_mem_nil, or_false] at hq; omega
      have hS11o : St _ _ [.ow 5 1 (some ⟨b11, 0, none⟩) 1 1 (bv [(u % 256 % 128 + 128)]), .ow 5 1 ad p.length cap (bv p)] _ := hS11.blkOw' (i := 0) (m := 1) (size := 1) (xs := bv [(u % 256 % 128 + 128)]) rfl rfl rfl (by decide); clear hS11
      refine hK _ _ ?_; clear hK K
      refine l_e rfl (fun K hK => ?_)
      have hB12 : Bytes (p ++ [(u % 256 % 128 + 128)]) := Bytes.app hp hB11
      refine e_app (e := 5) (size := 1) (bytes := 1) (i := 1) (m' := (p ++ [(u % 256 % 128 + 128)]).length) (by kernel_rfl) hS11o rfl rfl rfl (SlG.src (e := 5) (by kernel_rfl) (hS11o.owG (i := 0) rfl) (by first | (simp only [List.length_append, List.length_map, List.length_cons, List.length_nil, List.length_take, List.length_drop, List.length_set, Nat.mul_one]; done) | (simp only [List.length_append, List.length_map, List.length_cons, List.length_nil, List.length_take, List.length_drop, List.length_set]; omega) | rfl | (simp; done)) (by decide) (bv_one _)) (by first | omega | (simp only [List.length_append, List.length_map, List.length_cons, List.length_nil, List.length_take, List.length_drop, List.length_set] <;> omega) | (simp; done)) bv_app (by first | omega | (simp only [maxLen, List.length_append, List.length_map, List.length_cons, List.length_nil, List.length_take, List.length_drop, List.length_set] <;> omega) | (simp only [maxLen]; omega)) (by first | omega | (simp only [List.length_append, List.length_map, List.length_cons, List.length_nil, List.length_take, List.length_drop, List.length_set] <;> omega)) (fun ad12 cp12 w12 (hS12 : St _ _ [.ow 5 1 (some ⟨b11, 0, none⟩) 1 1 (bv [(u % 256 % 128 + 128)]), .ow 5 1 ad12 ((p ++ [(u % 256 % 128 + 128)]).length) cp12 (bv (p ++ [(u % 256 % 128 + 128)]))] _) => ?_)
      clear hS11o
      refine hK _ _ ?_; clear hK K
      refine l_q rfl rfl (q_assignS rfl) ?_
      refine l_nil ?_
      refine hK10 _ _ ?_
      refine wp_region_lit ?_
      refine l_q rfl rfl (q_moveI rfl) ?_
      refine l_q rfl rfl (q_shrN (k := .u64) (a := u) (b := 7) rfl rfl (by decide)) ?_
      refine l_q rfl rfl (q_assignI rfl) ?_
      refine l_nil ?_
      have hS13 := hS12.fr1; clear hS12
      have hS14 : St _ _ [.ow 5 1 ad12 ((p ++ [(u % 256 % 128 + 128)]).length) cp12 (bv (p ++ [(u % 256 % 128 + 128)]))] _ := hS13.only 1; clear hS13
      refine hK6 _ _ (came (⟨(p ++ [(u % 256 % 128 + 128)]), (u / 2 ^ 7), ad12, cp12⟩) (by repeat' (first | exact Agree.refl _ _ | refine Agree.up ?_ rfl | refine Agree.hav2 ?_ rfl | refine Agree.ups2 ?_ rfl)) (by repeat' (first | exact trivial | refine ⟨by first | rfl | exact int_succ _ | assumption, ?_⟩)) ?_)
      have hs := short_step he (by omega)
      have hls := congrArg List.length hs
      rw [List.length_append] at hls
      exact ⟨⟨hS14, hs, hB12, by (show u / 2 ^ 7 < 18446744073709551616); omega, by (show (p ++ [u % 256 % 128 + 128]).length ≤ 10); omega⟩, by (show u / 2 ^ 7 < u); omega⟩
    ·
      have hc9b := hc9
      try simp only [decide_eq_true_eq, decide_eq_false_iff_not, Bool.not_eq_true', Bool.not_eq_false', Bool.and_eq_true, Bool.or_eq_true, Int.not_lt, Int.not_le, ne_eq, Decidable.not_not] at hc9
      refine wp_exit ?_
      refine hK4 _ _ ?_
      refine wp_seq_k (fun K15 hK15 => ?_)
      refine wp_region_lit ?_
      refine l_q rfl rfl (q_moveS rfl) ?_
      refine l_q rfl rfl (q_moveI rfl) ?_
      refine l_q rfl rfl (u_conv (a := u) (k' := .u8) (M := 256) rfl (by kernel_rfl) (by kernel_rfl) rfl (by decide)) ?_
      refine l_e rfl (fun K hK => ?_)
      refine e_buildSlice1 (e := 5) (zv := .int .u8 0) (xs := [.tmp 24]) hS6 (by kernel_rfl) (by kernel_rfl) (by kernel_rfl) rfl rfl rfl rfl (allone (by repeat' (first | exact trivial | refine ⟨by first | rfl | assumption, ?_⟩))) rfl (fun b16 w16 (hS16 : St _ _ [.blk b16 (.cells #[.int .u8 (((u % 256) : Nat) : Int)] 5), .ow 5 1 ad p.length cap (bv p)] _) => ?_)
      clear hS6
      have hB16 : Bytes [(u % 256)] := by intro q hq; simp only [List.mem_cons, List.not_mem_nil, or_false] at hq; omega
      have hS16o : St _ _ [.ow 5 1 (some ⟨b16, 0, none⟩) 1 1 (bv [(u % 256)]), .ow 5 1 ad p.length cap (bv p)] _ := hS16.blkOw' (i := 0) (m := 1) (size := 1) (xs := bv [(u % 256)]) rfl rfl rfl (by decide); clear hS16
      refine hK _ _ ?_; clear hK K
      refine l_e rfl (fun K hK => ?_)
      have hB17 : Bytes (p ++ [(u % 256)]) := Bytes.app hp hB16
      refine e_app (e := 5) (size := 1) (bytes := 1) (i := 1) (m' := (p ++ [(u % 256)]).length) (by kernel_rfl) hS16o rfl rfl rfl (SlG.src (e := 5) (by kernel_rfl) (hS16o.owG (i := 0) rfl) (by first | (simp only [List.length_append, List.length_map, List.length_cons, List.length_nil, List.length_take, List.length_drop, List.length_set, Nat.mul_one]; done) | (simp only [List.length_append, List.length_map, List.length_cons, List.length_nil, List.length_take, List.length_drop, List.length_set]; omega) | rfl | (simp; done)) (by decide) (bv_one _)) (by first | omega | (simp only [List.length_append, List.length_map, List.length_cons, List.length_nil, List.length_take, List.length_drop, List.length_set] <;> omega) | (simp; done)) bv_app (by first | omega | (simp only [maxLen, List.length_append, List.length_map, List.length_cons, List.length_nil, List.length_take, List.length_drop, List.length_set] <;> omega) | (simp only [maxLen]; omega)) (by first | omega | (simp only [List.length_append, List.length_map, List.length_cons, List.length_nil, List.length_take, List.length_drop, List.length_set] <;> omega)) (fun ad17 cp17 w17 (hS17 : St _ _ [.ow 5 1 (some ⟨b16, 0, none⟩) 1 1 (bv [(u % 256)]), .ow 5 1 ad17 ((p ++ [(u % 256)]).length) cp17 (bv (p ++ [(u % 256)]))] _) => ?_)
      clear hS16o
      refine hK _ _ ?_; clear hK K
      refine l_q rfl rfl (q_assignS rfl) ?_
      refine l_nil ?_
      refine hK15 _ _ ?_
      refine wp_ret ?_
      refine c_ret1 rfl rfl ?_
      have hS18 := hS17.fr1; clear hS17
      have hS19 : St _ _ [.ow 5 1 ad17 ((p ++ [(u % 256)]).length) cp17 (bv (p ++ [(u % 256)]))] _ := hS18.only 1; clear hS18
      have hfe := short_end he (by omega)
      exact ⟨_, _, rfl, ⟨ad17, cp17, congrArg (fun q : List Nat => Value.slice _ q.length _) hfe, congrArg (fun q : List Nat => [Ch.ow 5 1 _ q.length _ (bv q)]) hfe⟩, hS19⟩

set_option maxRecDepth 100000 in
theorem tbl_blen0 : ∀ n, n < 128 → ([0, 1, 2, 2, 3, 3, 3, 3, 4, 4, 4, 4, 4, 4, 4, 4, 5, 5, 5, 5, 5, 5, 5, 5, 5, 5, 5, 5, 5, 5, 5, 5, 6, 6, 6, 6, 6, 6, 6, 6, 6, 6, 6, 6, 6, 6, 6, 6, 6, 6, 6, 6, 6, 6, 6, 6, 6, 6, 6, 6, 6, 6, 6, 6, 7, 7, 7, 7, 7, 7, 7, 7, 7, 7, 7, 7, 7, 7, 7, 7, 7, 7, 7, 7, 7, 7, 7, 7, 7, 7, 7, 7, 7, 7, 7, 7, 7, 7, 7, 7, 7, 7, 7, 7, 7, 7, 7, 7, 7, 7, 7, 7, 7, 7, 7, 7, 7, 7, 7, 7, 7, 7, 7, 7, 7, 7, 7, 7, 8, 8, 8, 8, 8, 8, 8, 8, 8, 8, 8, 8, 8, 8, 8, 8, 8, 8, 8, 8, 8, 8, 8, 8, 8, 8, 8, 8, 8, 8, 8, 8, 8, 8, 8, 8, 8, 8, 8, 8, 8, 8, 8, 8, 8, 8, 8, 8, 8, 8, 8, 8, 8, 8, 8, 8, 8, 8, 8, 8, 8, 8, 8, 8, 8, 8, 8, 8, 8, 8, 8, 8, 8, 8, 8, 8, 8, 8, 8, 8, 8, 8, 8, 8, 8, 8, 8, 8, 8, 8, 8, 8, 8, 8, 8, 8, 8, 8, 8, 8, 8, 8, 8, 8, 8, 8, 8, 8, 8, 8, 8, 8, 8, 8, 8, 8, 8, 8, 8, 8, 8, 8, 8, 8, 8, 8, 8, 8])[n % 256]? = some (blen n) := by unfold blen; decide +kernel
theorem tbl_blen (n : Nat) (h : n < 128) (x : Nat) (hx : ([0, 1, 2, 2, 3, 3, 3, 3, 4, 4, 4, 4, 4, 4, 4, 4, 5, 5, 5, 5, 5, 5, 5, 5, 5, 5, 5, 5, 5, 5, 5, 5, 6, 6, 6, 6, 6, 6, 6, 6, 6, 6, 6, 6, 6, 6, 6, 6, 6, 6, 6, 6, 6, 6, 6, 6, 6, 6, 6, 6, 6, 6, 6, 6, 7, 7, 7, 7, 7, 7, 7, 7, 7, 7, 7, 7, 7, 7, 7, 7, 7, 7, 7, 7, 7, 7, 7, 7, 7, 7, 7, 7, 7, 7, 7, 7, 7, 7, 7, 7, 7, 7, 7, 7, 7, 7, 7, 7, 7, 7, 7, 7, 7, 7, 7, 7, 7, 7, 7, 7, 7, 7, 7, 7, 7, 7, 7, 7, 8, 8, 8, 8, 8, 8, 8, 8, 8, 8, 8, 8, 8, 8, 8, 8, 8, 8, 8, 8, 8, 8, 8, 8, 8, 8, 8, 8, 8, 8, 8, 8, 8, 8, 8, 8, 8, 8, 8, 8, 8, 8, 8, 8, 8, 8, 8, 8, 8, 8, 8, 8, 8, 8, 8, 8, 8, 8, 8, 8, 8, 8, 8, 8, 8, 8, 8, 8, 8, 8, 8, 8, 8, 8, 8, 8, 8, 8, 8, 8, 8, 8, 8, 8, 8, 8, 8, 8, 8, 8, 8, 8, 8, 8, 8, 8, 8, 8, 8, 8, 8, 8, 8, 8, 8, 8, 8, 8, 8, 8, 8, 8, 8, 8, 8, 8, 8, 8, 8, 8, 8, 8, 8, 8, 8, 8, 8, 8])[n % 256]? = some x) : x = blen n := by rw [tbl_blen0 n h] at hx; exact (Option.some.inj hx).symm
set_option maxRecDepth 100000 in
theorem len64_ok (n : Nat) (hn : n < 128) (w : World) : Calls Try.prog 64 #[.int .u64 ((n : Nat) : Int)] w (PostR w fun v => v = .int .i64 ((blen n : Nat) : Int)) := by
  have hS := St.start w
  refine c_enter Try.func64 rfl rfl rfl ?_
  refine wp_seq_k (fun K1 hK1 => ?_)
  refine wp_region_lit ?_
  refine l_q rfl rfl (q_assignI rfl) ?_
  refine l_nil ?_
  refine hK1 _ _ ?_
  refine wp_seq_k (fun K2 hK2 => ?_)
  refine wp_seq_k (fun K3 hK3 => ?_)
  refine wp_region_lit ?_
  refine l_q rfl rfl (q_moveI rfl) ?_
  refine l_q rfl rfl (q_geq rfl rfl) ?_
  refine l_nil ?_
  refine hK3 _ _ ?_
  refine c_condF rfl (decide_eq_false (by omega)) ?_
  refine wp_skip ?_
  refine hK2 _ _ ?_
  refine wp_seq_k (fun K5 hK5 => ?_)
  refine wp_seq_k (fun K6 hK6 => ?_)
  refine wp_region_lit ?_
  refine l_q rfl rfl (q_moveI rfl) ?_
  refine l_q rfl rfl (q_geq rfl rfl) ?_
  refine l_nil ?_
  refine hK6 _ _ ?_
  refine c_condF rfl (decide_eq_false (by omega)) ?_
  refine wp_skip ?_
  refine hK5 _ _ ?_
  refine wp_seq_k (fun K8 hK8 => ?_)
  refine wp_seq_k (fun K9 hK9 => ?_)
  refine wp_region_lit ?_
  refine l_q rfl rfl (q_moveI rfl) ?_
  refine l_q rfl rfl (q_geq rfl rfl) ?_
  refine l_nil ?_
  refine hK9 _ _ ?_
  refine c_condF rfl (decide_eq_false (by omega)) ?_
  refine wp_skip ?_
  refine hK8 _ _ ?_
  refine wp_seq_k (fun K11 hK11 => ?_)
  refine wp_region_lit ?_
  refine l_q rfl rfl (q_moveI rfl) ?_
  refine l_q rfl rfl (q_moveI rfl) ?_
  refine l_q rfl rfl (u_conv (a := n) (k' := .u8) (M := 256) rfl (by kernel_rfl) (by kernel_rfl) rfl (by decide)) ?_
  obtain ⟨x12, hx12⟩ : ∃ x, ([0, 1, 2, 2, 3, 3, 3, 3, 4, 4, 4, 4, 4, 4, 4, 4, 5, 5, 5, 5, 5, 5, 5, 5, 5, 5, 5, 5, 5, 5, 5, 5, 6, 6, 6, 6, 6, 6, 6, 6, 6, 6, 6, 6, 6, 6, 6, 6, 6, 6, 6, 6, 6, 6, 6, 6, 6, 6, 6, 6, 6, 6, 6, 6, 7, 7, 7, 7, 7, 7, 7, 7, 7, 7, 7, 7, 7, 7, 7, 7, 7, 7, 7, 7, 7, 7, 7, 7, 7, 7, 7, 7, 7, 7, 7, 7, 7, 7, 7, 7, 7, 7, 7, 7, 7, 7, 7, 7, 7, 7, 7, 7, 7, 7, 7, 7, 7, 7, 7, 7, 7, 7, 7, 7, 7, 7, 7, 7, 8, 8, 8, 8, 8, 8, 8, 8, 8, 8, 8, 8, 8, 8, 8, 8, 8, 8, 8, 8, 8, 8, 8, 8, 8, 8, 8, 8, 8, 8, 8, 8, 8, 8, 8, 8, 8, 8, 8, 8, 8, 8, 8, 8, 8, 8, 8, 8, 8, 8, 8, 8, 8, 8, 8, 8, 8, 8, 8, 8, 8, 8, 8, 8, 8, 8, 8, 8, 8, 8, 8, 8, 8, 8, 8, 8, 8, 8, 8, 8, 8, 8, 8, 8, 8, 8, 8, 8, 8, 8, 8, 8, 8, 8, 8, 8, 8, 8, 8, 8, 8, 8, 8, 8, 8, 8, 8, 8, 8, 8, 8, 8, 8, 8, 8, 8, 8, 8, 8, 8, 8, 8, 8, 8, 8, 8, 8, 8])[(n % 256)]? = some x := ⟨_, List.getElem?_eq_getElem (by first | omega | (simp only [List.length_append, List.length_map, List.length_cons, List.length_nil, List.length_take, List.length_drop, List.length_set] <;> omega) | (simp <;> omega))⟩
  have hb12 : x12 < 256 := (by decide : Bytes [0, 1, 2, 2, 3, 3, 3, 3, 4, 4, 4, 4, 4, 4, 4, 4, 5, 5, 5, 5, 5, 5, 5, 5, 5, 5, 5, 5, 5, 5, 5, 5, 6, 6, 6, 6, 6, 6, 6, 6, 6, 6, 6, 6, 6, 6, 6, 6, 6, 6, 6, 6, 6, 6, 6, 6, 6, 6, 6, 6, 6, 6, 6, 6, 7, 7, 7, 7, 7, 7, 7, 7, 7, 7, 7, 7, 7, 7, 7, 7, 7, 7, 7, 7, 7, 7, 7, 7, 7, 7, 7, 7, 7, 7, 7, 7, 7, 7, 7, 7, 7, 7, 7, 7, 7, 7, 7, 7, 7, 7, 7, 7, 7, 7, 7, 7, 7, 7, 7, 7, 7, 7, 7, 7, 7, 7, 7, 7, 8, 8, 8, 8, 8, 8, 8, 8, 8, 8, 8, 8, 8, 8, 8, 8, 8, 8, 8, 8, 8, 8, 8, 8, 8, 8, 8, 8, 8, 8, 8, 8, 8, 8, 8, 8, 8, 8, 8, 8, 8, 8, 8, 8, 8, 8, 8, 8, 8, 8, 8, 8, 8, 8, 8, 8, 8, 8, 8, 8, 8, 8, 8, 8, 8, 8, 8, 8, 8, 8, 8, 8, 8, 8, 8, 8, 8, 8, 8, 8, 8, 8, 8, 8, 8, 8, 8, 8, 8, 8, 8, 8, 8, 8, 8, 8, 8, 8, 8, 8, 8, 8, 8, 8, 8, 8, 8, 8, 8, 8, 8, 8, 8, 8, 8, 8, 8, 8, 8, 8, 8, 8, 8, 8, 8, 8, 8, 8]) x12 (List.mem_of_getElem? hx12)
  refine l_q rfl rfl (q_strAt (l := [0, 1, 2, 2, 3, 3, 3, 3, 4, 4, 4, 4, 4, 4, 4, 4, 5, 5, 5, 5, 5, 5, 5, 5, 5, 5, 5, 5, 5, 5, 5, 5, 6, 6, 6, 6, 6, 6, 6, 6, 6, 6, 6, 6, 6, 6, 6, 6, 6, 6, 6, 6, 6, 6, 6, 6, 6, 6, 6, 6, 6, 6, 6, 6, 7, 7, 7, 7, 7, 7, 7, 7, 7, 7, 7, 7, 7, 7, 7, 7, 7, 7, 7, 7, 7, 7, 7, 7, 7, 7, 7, 7, 7, 7, 7, 7, 7, 7, 7, 7, 7, 7, 7, 7, 7, 7, 7, 7, 7, 7, 7, 7, 7, 7, 7, 7, 7, 7, 7, 7, 7, 7, 7, 7, 7, 7, 7, 7, 8, 8, 8, 8, 8, 8, 8, 8, 8, 8, 8, 8, 8, 8, 8, 8, 8, 8, 8, 8, 8, 8, 8, 8, 8, 8, 8, 8, 8, 8, 8, 8, 8, 8, 8, 8, 8, 8, 8, 8, 8, 8, 8, 8, 8, 8, 8, 8, 8, 8, 8, 8, 8, 8, 8, 8, 8, 8, 8, 8, 8, 8, 8, 8, 8, 8, 8, 8, 8, 8, 8, 8, 8, 8, 8, 8, 8, 8, 8, 8, 8, 8, 8, 8, 8, 8, 8, 8, 8, 8, 8, 8, 8, 8, 8, 8, 8, 8, 8, 8, 8, 8, 8, 8, 8, 8, 8, 8, 8, 8, 8, 8, 8, 8, 8, 8, 8, 8, 8, 8, 8, 8, 8, 8, 8, 8, 8, 8]) (i := (n % 256)) (b := x12) rfl rfl (by kernel_rfl) (by first | rfl | omega) (hx12) (by omega)) ?_
  refine l_q rfl rfl (q_convN (a := x12) rfl (by kernel_rfl) (by kernel_rfl) (wrap_fit_i64 (by omega))) ?_
  refine l_q rfl rfl (q_addx rfl rfl (by first | decide | omega) (by first | decide | omega)) ?_
  refine l_q rfl rfl (q_assignI rfl) ?_
  refine l_nil ?_
  refine hK11 _ _ ?_
  refine wp_ret ?_
  refine c_ret1 rfl rfl ?_
  have hbl := tbl_blen n hn _ hx12
  exact ⟨_, rfl, congrArg (Value.int .i64) (by rw [← hbl]; exact Int.zero_add _), hS.drop⟩

theorem q_orV {P : Program} {n : Nat} {f : Nat → Value} {o : Oper} {w : World} {a b : Nat} (h : a = b) (hr : Run P n f o w (.int .u64 ((a : Nat) : Int))) : Run P n f o w (.int .u64 ((b : Nat) : Int)) := by rw [← h]; exact hr

set_option maxRecDepth 100000 in
theorem long_ok (b : List Nat) (hb : Bytes b) (n : Nat) (hn : b.length = n) (ab : Option Addr) (cb : Nat) (hcb : n ≤ cb) (hm : n ≤ 2000000) (w : World) (g : Gh) (hg : Gle g (hw w)) (hG : SlG g ab (bv b)) : Calls Try.prog 53 #[.slice ab n cb] w (PostR w fun v => LongP b v) := by
  have hS := St.start w
  subst hn
  refine c_enter Try.func53 rfl rfl rfl ?_
  refine wp_seq_k (fun K1 hK1 => ?_)
  refine wp_region_lit ?_
  refine l_q rfl rfl (q_assignI rfl) ?_
  refine l_q rfl rfl (q_assignI rfl) ?_
  refine l_q rfl rfl (q_assignB rfl) ?_
  refine l_nil ?_
  refine hK1 _ _ ?_
  refine wp_seq_k (fun K2 hK2 => ?_)
  refine wp_region_lit ?_
  refine l_q rfl rfl (q_assignI rfl) ?_
  refine l_nil ?_
  refine hK2 _ _ ?_
  refine wp_seq_k (fun K3 hK3 => ?_)
  refine wp_seq_k (fun K4 hK4 => ?_)
  refine wp_region_lit ?_
  refine l_q rfl rfl (q_moveS rfl) ?_
  refine l_q rfl rfl (q_lenSl (e := 5) rfl (by kernel_rfl)) ?_
  refine l_q rfl rfl (q_moveI rfl) ?_
  refine l_nil ?_
  refine hK4 _ _ ?_
  refine wp_block ?_
  refine c_loop (τ := Nat) [(2, 8), (11, 51)] (fun x => (fun (i : Nat) => [(5, .int .u64 (((lval (b.take i)) : Nat) : Int)), (11, .int .i64 ((i : Nat) : Int))]) x) (fun x w' => (fun (i : Nat) => St w (fun _ => False) [] w' ∧ LongI b i ∧ i ≤ 9) x) (fun x => (fun (i : Nat) => b.length - i) x) (0) ?_ (by refine ⟨by show _ = Value.int .u64 ((lval [] : Nat) : Int); unfold lval; rfl, ⟨rfl, trivial⟩⟩) (fun i j5 w5 hJ5 K5 hK5 => ?_)
  ·
    exact ⟨hS, LongI.zero b, by omega⟩
  ·
    obtain ⟨hS5, hI, hi9⟩ := hJ5
    try dsimp only at hS5 hI hi9 ⊢
    have hib := hI.le
    have hlv := lval_take hI.le
    have hp9 : (128 : Nat) ^ i ≤ 9223372036854775808 := by rw [← pow9]; exact Nat.pow_le_pow_right (by omega) hi9
    refine wp_seq_k (fun K6 hK6 => ?_)
    refine wp_region_lit ?_
    refine l_q rfl rfl (q_lss rfl rfl) ?_
    refine l_nil ?_
    refine hK6 _ _ ?_
    refine wp_seq_k (fun K7 hK7 => ?_)
    refine c_cond rfl (fun hc8 => ?_) (fun hc8 => ?_)
    ·
      have hc8b := hc8
      try simp only [decide_eq_true_eq, decide_eq_false_iff_not, Bool.not_eq_true', Bool.not_eq_false', Bool.and_eq_true, Bool.or_eq_true, Int.not_lt, Int.not_le, ne_eq, Decidable.not_not] at hc8
      refine wp_skip ?_
      refine hK7 _ _ ?_
      refine wp_seq_k (fun K9 hK9 => ?_)
      refine wp_block ?_
      refine wp_seq_k (fun K10 hK10 => ?_)
      refine wp_region_lit ?_
      refine l_q rfl rfl (q_moveI rfl) ?_
      refine l_q rfl rfl (q_ixG (e := 5) (m := 1) (j := i) rfl rfl (by kernel_rfl) (by kernel_rfl) (by first | rfl | omega) (by omega) hG (by rw [bv_len]; first | omega | (simp only [List.length_append, List.length_map, List.length_cons, List.length_nil, List.length_take, List.length_drop, List.length_set] <;> omega))) ?_
      obtain ⟨x11, hx11⟩ : ∃ x, (b)[i]? = some x := ⟨_, List.getElem?_eq_getElem (by first | omega | (simp only [List.length_append, List.length_map, List.length_cons, List.length_nil, List.length_take, List.length_drop, List.length_set] <;> omega) | (simp <;> omega))⟩
      have hb11 : x11 < 256 := hb x11 (List.mem_of_getElem? hx11)
      refine l_q rfl rfl (q_load1 rfl (by kernel_rfl) (SlG.cell (hG.mono (hg.trans hS5.base)) (Gle.refl _) (at1 (bv_at hx11)))) ?_
      refine l_q rfl rfl (q_assignI rfl) ?_
      refine l_q rfl rfl (q_assignI rfl) ?_
      refine l_nil ?_
      refine hK10 _ _ ?_
      refine wp_seq_k (fun K12 hK12 => ?_)
      refine wp_region_lit ?_
      refine l_q rfl rfl (q_moveI rfl) ?_
      refine l_q rfl rfl (q_andP (a := x11) (j := 7) (M := 128) 8 rfl rfl (by decide) (by decide) (by decide) (by show _ < 256; omega) (.inl ⟨rfl, rfl⟩)) ?_
      refine l_q rfl rfl (q_convN (a := (x11 % 128)) rfl (by kernel_rfl) (by kernel_rfl) (wrap_fit_u64 (by omega))) ?_
      refine l_q rfl rfl (q_assignI rfl) ?_
      refine l_nil ?_
      refine hK12 _ _ ?_
      refine wp_seq_k (fun K13 hK13 => ?_)
      refine wp_seq_k (fun K14 hK14 => ?_)
      have hbf := blen_facts (x11 % 128) (by omega)
      refine wp_region_lit ?_
      refine l_q rfl rfl (q_moveI rfl) ?_
      refine l_e rfl (fun K hK => ?_)
      refine e_call (by kernel_rfl) (len64_ok (x11 % 128) (by omega) _) rfl (after_R hS5 (fun v15 w15 hv15 hS15 => ?_))
      clear hS5
      obtain rfl := hv15
      refine hK _ _ ?_; clear hK K
      refine l_q rfl rfl (q_moveI rfl) ?_
      refine l_q rfl rfl (q_mulx rfl rfl (by first | decide | omega) (by first | decide | omega)) ?_
      refine l_q rfl rfl (q_addx rfl rfl (by first | decide | omega) (by first | decide | omega)) ?_
      refine l_q rfl rfl (q_gtr rfl rfl) ?_
      refine l_nil ?_
      refine hK14 _ _ ?_
      refine c_cond rfl (fun hc16 => ?_) (fun hc16 => ?_)
      ·
        have hc16b := hc16
        try simp only [decide_eq_true_eq, decide_eq_false_iff_not, Bool.not_eq_true', Bool.not_eq_false', Bool.and_eq_true, Bool.or_eq_true, Int.not_lt, Int.not_le, ne_eq, Decidable.not_not] at hc16
        refine wp_seq_k (fun K17 hK17 => ?_)
        refine wp_region_lit ?_
        refine l_q rfl rfl (q_assignI rfl) ?_
        refine l_q rfl rfl (q_assignI rfl) ?_
        refine l_q rfl rfl (q_assignB rfl) ?_
        refine l_nil ?_
        refine hK17 _ _ ?_
        refine wp_ret ?_
        refine c_ret3 rfl rfl rfl rfl ?_
        have hno : NoShort b := by
          first
            | exact hI.late hx11 (by omega) (by omega)
            | exact hI.zeroB hx11 (by omega) (by omega)
            | (rw [show i = b.length from by omega] at hI; exact hI.none)
        exact ⟨_, rfl, LongP.mk (LongR.no hno), hS15.drop⟩
      ·
        have hc16b := hc16
        try simp only [decide_eq_true_eq, decide_eq_false_iff_not, Bool.not_eq_true', Bool.not_eq_false', Bool.and_eq_true, Bool.or_eq_true, Int.not_lt, Int.not_le, ne_eq, Decidable.not_not] at hc16
        refine wp_skip ?_
        refine hK13 _ _ ?_
        refine wp_seq_k (fun K18 hK18 => ?_)
        have hacc := long_acc hI.le hx11 (by omega)
        refine wp_region_lit ?_
        refine l_q rfl rfl (q_moveI rfl) ?_
        refine l_q rfl rfl (q_moveI rfl) ?_
        refine l_q rfl rfl (q_moveI rfl) ?_
        refine l_q rfl rfl (q_mulx rfl rfl (by first | decide | omega) (by first | decide | omega)) ?_
        refine l_q rfl rfl (u_shl (a := (x11 % 128)) (b := (7 * i)) (M := 18446744073709551616) rfl rfl (int_nat (by omega) rfl) (by show _ ≤ 64; omega) (by decide)) ?_
        refine l_q rfl rfl (q_orV hacc.1 (q_orS 64 rfl rfl (by show _ < 18446744073709551616; omega) (by show _ < 18446744073709551616; omega) (.inl ⟨rfl, rfl⟩))) ?_
        refine l_q rfl rfl (q_assignI rfl) ?_
        refine l_nil ?_
        refine hK18 _ _ ?_
        refine wp_seq_k (fun K19 hK19 => ?_)
        refine wp_seq_k (fun K20 hK20 => ?_)
        refine wp_region_lit ?_
        refine l_q rfl rfl (q_moveI rfl) ?_
        refine l_q rfl rfl (q_lss rfl rfl) ?_
        refine l_nil ?_
        refine hK20 _ _ ?_
        refine c_cond rfl (fun hc21 => ?_) (fun hc21 => ?_)
        ·
          have hc21b := hc21
          try simp only [decide_eq_true_eq, decide_eq_false_iff_not, Bool.not_eq_true', Bool.not_eq_false', Bool.and_eq_true, Bool.or_eq_true, Int.not_lt, Int.not_le, ne_eq, Decidable.not_not] at hc21
          refine wp_seq_k (fun K22 hK22 => ?_)
          refine wp_seq_k (fun K23 hK23 => ?_)
          refine wp_region_lit ?_
          refine l_q rfl rfl (q_moveI rfl) ?_
          refine l_q rfl rfl (q_eql rfl rfl) ?_
          refine l_q rfl rfl (q_moveB rfl) ?_
          refine g_splitL (t := 35) rfl (fun hg24 => ?_) (fun hg24 => ?_)
          ·
            have hg24b := hg24
            try simp only [decide_eq_true_eq, decide_eq_false_iff_not, Bool.not_eq_true', Bool.not_eq_false', Bool.and_eq_true, Bool.or_eq_true, Int.not_lt, Int.not_le, ne_eq, Decidable.not_not] at hg24
            refine l_on rfl rfl hg24b ?_
            refine l_q rfl rfl (q_moveI rfl) ?_
            refine l_on rfl rfl hg24b ?_
            refine l_q rfl rfl (q_gtr rfl rfl) ?_
            refine l_q rfl rfl (q_pickT rfl hg24b rfl) ?_
            refine l_nil ?_
            refine hK23 _ _ ?_
            refine c_cond rfl (fun hc25 => ?_) (fun hc25 => ?_)
            ·
              have hc25b := hc25
              try simp only [decide_eq_true_eq, decide_eq_false_iff_not, Bool.not_eq_true', Bool.not_eq_false', Bool.and_eq_true, Bool.or_eq_true, Int.not_lt, Int.not_le, ne_eq, Decidable.not_not] at hc25
              refine wp_exit ?_
              refine hK3 _ _ ?_
              refine wp_seq_k (fun K26 hK26 => ?_)
              refine wp_region_lit ?_
              refine l_q rfl rfl (q_assignI rfl) ?_
              refine l_q rfl rfl (q_assignI rfl) ?_
              refine l_q rfl rfl (q_assignB rfl) ?_
              refine l_nil ?_
              refine hK26 _ _ ?_
              refine wp_ret ?_
              refine c_ret3 rfl rfl rfl rfl ?_
              have hno : NoShort b := by
                first
                  | exact hI.late hx11 (by omega) (by omega)
                  | exact hI.zeroB hx11 (by omega) (by omega)
                  | (rw [show i = b.length from by omega] at hI; exact hI.none)
              exact ⟨_, rfl, LongP.mk (LongR.no hno), hS15.drop⟩
            ·
              have hc25b := hc25
              try simp only [decide_eq_true_eq, decide_eq_false_iff_not, Bool.not_eq_true', Bool.not_eq_false', Bool.and_eq_true, Bool.or_eq_true, Int.not_lt, Int.not_le, ne_eq, Decidable.not_not] at hc25
              refine wp_skip ?_
              refine hK22 _ _ ?_
              refine wp_seq_k (fun K27 hK27 => ?_)
              refine wp_region_lit ?_
              refine l_q rfl rfl (q_moveI rfl) ?_
              refine l_q rfl rfl (q_shrN (k := .u64) (a := (lval (b.take (i + 1)))) (b := 1) rfl rfl (by decide)) ?_
              refine l_q rfl rfl (q_convN (a := ((lval (b.take (i + 1))) / 2 ^ 1)) rfl (by kernel_rfl) (by kernel_rfl) (wrap_fit_i64 (by omega))) ?_
              refine l_q rfl rfl (q_moveI rfl) ?_
              refine l_q rfl rfl (q_andP (a := (lval (b.take (i + 1)))) (j := 1) (M := 2) 64 rfl rfl (by decide) (by decide) (by decide) (by show _ < 18446744073709551616; omega) (.inl ⟨rfl, rfl⟩)) ?_
              refine l_q rfl rfl (q_convN (a := ((lval (b.take (i + 1))) % 2)) rfl (by kernel_rfl) (by kernel_rfl) (wrap_fit_i64 (by omega))) ?_
              refine l_q rfl rfl (q_neg rfl) ?_
              refine l_q rfl rfl (q_unzig rfl rfl rfl hacc.2) ?_
              refine l_q rfl rfl (q_moveI rfl) ?_
              refine l_q rfl rfl (q_addx rfl rfl (by first | decide | omega) (by first | decide | omega)) ?_
              refine l_q rfl rfl (q_assignI rfl) ?_
              refine l_q rfl rfl (q_assignI rfl) ?_
              refine l_q rfl rfl (q_assignB rfl) ?_
              refine l_nil ?_
              refine hK27 _ _ ?_
              refine wp_ret ?_
              refine c_ret3 rfl rfl rfl rfl ?_
              exact ⟨_, rfl, LongP.mk (hI.yes hb hx11 (by omega) (by omega) hacc.2), hS15.drop⟩
          ·
            have hg24b := hg24
            try simp only [decide_eq_true_eq, decide_eq_false_iff_not, Bool.not_eq_true', Bool.not_eq_false', Bool.and_eq_true, Bool.or_eq_true, Int.not_lt, Int.not_le, ne_eq, Decidable.not_not] at hg24
            refine l_off rfl rfl rfl hg24b ?_
            refine l_off rfl rfl rfl hg24b ?_
            refine l_q rfl rfl (q_pickF rfl hg24b rfl) ?_
            refine l_nil ?_
            refine hK23 _ _ ?_
            refine c_condF rfl rfl ?_
            refine wp_skip ?_
            refine hK22 _ _ ?_
            refine wp_seq_k (fun K29 hK29 => ?_)
            refine wp_region_lit ?_
            refine l_q rfl rfl (q_moveI rfl) ?_
            refine l_q rfl rfl (q_shrN (k := .u64) (a := (lval (b.take (i + 1)))) (b := 1) rfl rfl (by decide)) ?_
            refine l_q rfl rfl (q_convN (a := ((lval (b.take (i + 1))) / 2 ^ 1)) rfl (by kernel_rfl) (by kernel_rfl) (wrap_fit_i64 (by omega))) ?_
            refine l_q rfl rfl (q_moveI rfl) ?_
            refine l_q rfl rfl (q_andP (a := (lval (b.take (i + 1)))) (j := 1) (M := 2) 64 rfl rfl (by decide) (by decide) (by decide) (by show _ < 18446744073709551616; omega) (.inl ⟨rfl, rfl⟩)) ?_
            refine l_q rfl rfl (q_convN (a := ((lval (b.take (i + 1))) % 2)) rfl (by kernel_rfl) (by kernel_rfl) (wrap_fit_i64 (by omega))) ?_
            refine l_q rfl rfl (q_neg rfl) ?_
            refine l_q rfl rfl (q_unzig rfl rfl rfl hacc.2) ?_
            refine l_q rfl rfl (q_moveI rfl) ?_
            refine l_q rfl rfl (q_addx rfl rfl (by first | decide | omega) (by first | decide | omega)) ?_
            refine l_q rfl rfl (q_assignI rfl) ?_
            refine l_q rfl rfl (q_assignI rfl) ?_
            refine l_q rfl rfl (q_assignB rfl) ?_
            refine l_nil ?_
            refine hK29 _ _ ?_
            refine wp_ret ?_
            refine c_ret3 rfl rfl rfl rfl ?_
            exact ⟨_, rfl, LongP.mk (hI.yes hb hx11 (by omega) (by omega) hacc.2), hS15.drop⟩
        ·
          have hc21b := hc21
          try simp only [decide_eq_true_eq, decide_eq_false_iff_not, Bool.not_eq_true', Bool.not_eq_false', Bool.and_eq_true, Bool.or_eq_true, Int.not_lt, Int.not_le, ne_eq, Decidable.not_not] at hc21
          refine wp_skip ?_
          refine hK19 _ _ ?_
          refine wp_seq_k (fun K30 hK30 => ?_)
          refine wp_region_lit ?_
          refine l_q rfl rfl (q_moveI rfl) ?_
          refine l_q rfl rfl (q_eql rfl rfl) ?_
          refine l_nil ?_
          refine hK30 _ _ ?_
          refine c_cond rfl (fun hc31 => ?_) (fun hc31 => ?_)
          ·
            have hc31b := hc31
            try simp only [decide_eq_true_eq, decide_eq_false_iff_not, Bool.not_eq_true', Bool.not_eq_false', Bool.and_eq_true, Bool.or_eq_true, Int.not_lt, Int.not_le, ne_eq, Decidable.not_not] at hc31
            refine wp_exit ?_
            refine hK3 _ _ ?_
            refine wp_seq_k (fun K32 hK32 => ?_)
            refine wp_region_lit ?_
            refine l_q rfl rfl (q_assignI rfl) ?_
            refine l_q rfl rfl (q_assignI rfl) ?_
            refine l_q rfl rfl (q_assignB rfl) ?_
            refine l_nil ?_
            refine hK32 _ _ ?_
            refine wp_ret ?_
            refine c_ret3 rfl rfl rfl rfl ?_
            have hno : NoShort b := by
              first
                | exact hI.late hx11 (by omega) (by omega)
                | exact hI.zeroB hx11 (by omega) (by omega)
                | (rw [show i = b.length from by omega] at hI; exact hI.none)
            exact ⟨_, rfl, LongP.mk (LongR.no hno), hS15.drop⟩
          ·
            have hc31b := hc31
            try simp only [decide_eq_true_eq, decide_eq_false_iff_not, Bool.not_eq_true', Bool.not_eq_false', Bool.and_eq_true, Bool.or_eq_true, Int.not_lt, Int.not_le, ne_eq, Decidable.not_not] at hc31
            refine wp_skip ?_
            refine hK9 _ _ ?_
            refine wp_region_lit ?_
            refine l_q rfl rfl (q_addx rfl rfl (by first | decide | omega) (by first | decide | omega)) ?_
            refine l_q rfl rfl (q_moveI rfl) ?_
            refine l_nil ?_
            refine hK5 _ _ (came ((i + 1)) (by repeat' (first | exact Agree.refl _ _ | refine Agree.up ?_ rfl | refine Agree.hav2 ?_ rfl | refine Agree.ups2 ?_ rfl)) (by repeat' (first | exact trivial | refine ⟨by first | rfl | exact int_succ _ | assumption, ?_⟩)) ?_)
            have hlt : i < b.length := (List.getElem?_eq_some_iff.1 hx11).1
            exact ⟨⟨hS15, hI.next hx11 (by omega), (by show i + 1 ≤ 9; omega)⟩, by (show b.length - (i + 1) < b.length - i); omega⟩
    ·
      have hc8b := hc8
      try simp only [decide_eq_true_eq, decide_eq_false_iff_not, Bool.not_eq_true', Bool.not_eq_false', Bool.and_eq_true, Bool.or_eq_true, Int.not_lt, Int.not_le, ne_eq, Decidable.not_not] at hc8
      refine wp_exit ?_
      refine hK3 _ _ ?_
      refine wp_seq_k (fun K33 hK33 => ?_)
      refine wp_region_lit ?_
      refine l_q rfl rfl (q_assignI rfl) ?_
      refine l_q rfl rfl (q_assignI rfl) ?_
      refine l_q rfl rfl (q_assignB rfl) ?_
      refine l_nil ?_
      refine hK33 _ _ ?_
      refine wp_ret ?_
      refine c_ret3 rfl rfl rfl rfl ?_
      have hno : NoShort b := by
        first
          | exact hI.late hx0 (by omega) (by omega)
          | exact hI.zeroB hx0 (by omega) (by omega)
          | (rw [show i = b.length from by omega] at hI; exact hI.none)
      exact ⟨_, rfl, LongP.mk (LongR.no hno), hS5.drop⟩

end Go.Proofs.Ytlplhlncdfhhoaa
