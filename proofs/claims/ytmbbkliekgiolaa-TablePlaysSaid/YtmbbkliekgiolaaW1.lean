/- The check of bytes: package wal's and the document's. -/
import Derived.Test.YtmbbkliekgiolaaProg
import Derived.Test.YtmbbkliekgiolaaSk
import Derived.Test.YtmbbkliekgiolaaCrc
set_option linter.unusedVariables false
set_option linter.unusedSimpArgs false
namespace Go.Proofs.Ytmbbkliekgiolaa
open Go.RowKit
/-- What a slice that is only read holds. -/
def SlR (S : Nat → Prop) (w : World) (ad : Option Addr) (cs : List Value) : Prop := cs = [] ∨ ∃ b off arr T fz, ad = some ⟨b, off, none⟩ ∧ S b ∧ w.heap[b]? = some (.cells arr T fz) ∧ ∀ j u, cs[j]? = some u → arr[off + j]? = some u
theorem SlR.mono {S S' : Nat → Prop} {w w' : World} (hs : ∀ k, S k → S' k ∧ w'.heap[k]? = w.heap[k]?) {ad : Option Addr} {cs : List Value} (h : SlR S w ad cs) : SlR S' w' ad cs := by
  rcases h with h | ⟨b, off, arr, T, fz, h1, h2, h3, h4⟩
  · exact .inl h
  · exact .inr ⟨b, off, arr, T, fz, h1, (hs b h2).1, (hs b h2).2.trans h3, h4⟩
theorem SlR.reads {S : Nat → Prop} {w : World} {ad : Option Addr} {cs : List Value} (h : SlR S w ad cs) : Reads w ad cs := by
  rcases h with h | ⟨b, off, arr, T, fz, h1, h2, h3, h4⟩
  · exact .inl h
  · exact .inr ⟨b, off, h1, fun j u hu => cell_blk h3 (h4 j u hu)⟩
theorem SlR.ro {w0 w : World} {D : Nat → Prop} {Γ : List Ch} {ad : Option Addr} {cs : List Value} (h : SlR (Ro w0 D) w0 ad cs) (hS : St w0 D Γ w) : SlR (Ro w0 D) w ad cs := h.mono fun _ hk => ⟨hk, hk.same hS⟩
theorem SlR.nextR {w0 w : World} {D : Nat → Prop} {Γ : List Ch} {ad : Option Addr} {cs : List Value} (h : SlR (Ro w0 D) w0 ad cs) (hS : St w0 D Γ w) : SlR (Ro w (fun _ => False)) w ad cs := h.mono fun _ hk => ⟨hk.nextR hS, hk.same hS⟩
/-- An element's cell. -/
theorem SlR.at {S : Nat → Prop} {w : World} {ad : Option Addr} {cs : List Value} (h : SlR S w ad cs) {i : Nat} {u : Value} (hu : cs[i]? = some u) : ∃ b off, ad = some ⟨b, off, none⟩ ∧ w.cell? ⟨b, off + i, none⟩ = some u := by
  rcases h with h | ⟨b, off, arr, T, fz, h1, h2, h3, h4⟩
  · rw [h] at hu; simp at hu
  · exact ⟨b, off, h1, cell_blk h3 (h4 i u hu)⟩
theorem crc_snoc {l : List Nat} {i x c : Nat} (h : l[i]? = some x) : crc c (l.take (i + 1)) = by1 (crc c (l.take i)) x := by
  rw [List.take_add_one, h]
  simp [crc, List.foldl_append]
theorem crc_take_lt {l : List Nat} (hl : Bytes l) (i : Nat) : crc 65535 (l.take i) < 65536 := crc_lt (fun x hx => hl x (List.mem_of_mem_take hx)) (by omega)
theorem cs_val {c : Nat} (hc : c < 65536) : (c * 2 ^ 1 % 65536) ^^^ (c / 2 ^ 15 * 4129 % 65536) = cs c := by
  unfold cs
  rw [show (2 : Nat) ^ 1 = 2 from rfl, show (2 : Nat) ^ 15 = 32768 from rfl]
  rcases top_le hc with h | h <;> rw [h]
theorem cell_i {w : World} {b off k : Nat} {v : Value} (h : w.cell? ⟨b, off + k, none⟩ = some v) : w.cell? ⟨b, off + (k : Int).toNat * 1, none⟩ = some v := by rw [Nat.mul_one]; exact h
theorem crc_nil {l : List Nat} {c : Nat} : crc c (l.take 0) = c := by rw [List.take_zero]; rfl
theorem csN_0 (c : Nat) : csN 0 c = c := rfl
theorem csN_s (k c : Nat) : csN (k + 1) c = cs (csN k c) := rfl
theorem by1_eq (c x : Nat) : csN 8 (c ^^^ x * 256) = by1 c x := rfl
attribute [local irreducible] Oper.wp Sem.run Code.wp wpList wpAnyO callFunc execOp Calls cs cb by1 crc csN cbN

set_option maxRecDepth 100000 in
theorem wCheck_ok (l : List Nat) (hl : Bytes l) (hn : l.length ≤ 1000000000) (ad : Option Addr) (cap : Nat) (w : World) (hR : SlR (Ro w fun _ => False) w ad (bv l)) : Calls Try.prog 26 #[.slice ad l.length cap] w (PostR w fun v => v = .int .u16 ((crc 65535 l : Nat) : Int)) := by
  have hS := St.start w
  refine c_enter Try.func26 rfl rfl rfl ?_
  refine wp_seq_k (fun K1 hK1 => ?_)
  refine wp_region_lit ?_
  first | refine l_q rfl rfl (q_assignI rfl) ?_ | refine l_q rfl rfl (q_assign rfl) ?_
  refine l_nil ?_
  refine hK1 _ _ ?_
  refine wp_seq_k (fun K2 hK2 => ?_)
  refine wp_region_lit ?_
  first | refine l_q rfl rfl (q_assignI rfl) ?_ | refine l_q rfl rfl (q_assign rfl) ?_
  refine l_nil ?_
  refine hK2 _ _ ?_
  refine wp_seq_k (fun K3 hK3 => ?_)
  refine wp_seq_k (fun K4 hK4 => ?_)
  refine wp_region_lit ?_
  first | refine l_q rfl rfl (q_moveS rfl) ?_ | refine l_q rfl rfl (q_move rfl) ?_
  refine l_q rfl rfl (q_lenSl (e := 5) rfl (by kernel_rfl)) ?_
  first | refine l_q rfl rfl (q_moveI rfl) ?_ | refine l_q rfl rfl (q_move rfl) ?_
  refine l_nil ?_
  refine hK4 _ _ ?_
  refine wp_block ?_
  refine c_loop (τ := Nat × Nat) [(3, 3), (5, 6), (9, 28)] (fun x => [(3, .int .u16 ((x.2 : Nat) : Int)), (9, .int .i64 ((x.1 : Nat) : Int))]) (fun x w' => St w (fun _ => False) [] w' ∧ x.1 ≤ l.length ∧ x.2 = crc 65535 (l.take x.1)) (fun x => l.length - x.1) ((0, 65535)) ?_ (by repeat' (first | exact trivial | refine ⟨by first | rfl | exact int_succ _, ?_⟩)) (fun x5 j5 w5 hJ5 K5 hK5 => ?_)
  ·
    exact ⟨hS, Nat.zero_le _, crc_nil.symm⟩
  ·
    obtain ⟨i, c⟩ := x5; obtain ⟨hS5, hi, hc⟩ := hJ5; dsimp only at hi hc hS5 ⊢
    refine wp_seq_k (fun K6 hK6 => ?_)
    refine wp_region_lit ?_
    refine l_q rfl rfl (q_lss rfl rfl) ?_
    refine l_nil ?_
    refine hK6 _ _ ?_
    refine wp_seq_k (fun K7 hK7 => ?_)
    refine c_cond rfl (fun hc8 => ?_) (fun hc8 => ?_)
    ·
      have hc8b := hc8
      try simp only [decide_eq_true_eq, decide_eq_false_iff_not, Bool.not_eq_true', Bool.not_eq_false', Bool.and_eq_true, Bool.or_eq_true, Int.not_lt, Int.not_le, ne_eq, Decidable.not_not] at hc8
      have hlt := hc8
      obtain ⟨x, hx⟩ : ∃ x, l[i]? = some x := ⟨_, List.getElem?_eq_getElem (by omega)⟩
      have hx8 : x < 256 := hl x (List.mem_of_getElem? hx)
      have hc16 : c < 65536 := by rw [hc]; exact crc_take_lt hl i
      obtain ⟨rb, ro, re, rx⟩ := (hR.ro hS5).at (i := i) (u := _) (bv_at hx)
      subst re
      refine wp_skip ?_
      refine hK7 _ _ ?_
      refine wp_seq_k (fun K9 hK9 => ?_)
      refine wp_block ?_
      refine wp_seq_k (fun K10 hK10 => ?_)
      refine wp_region_lit ?_
      refine l_q rfl rfl (q_indexAddr (e := 5) (m := 1) rfl rfl (by kernel_rfl) (by kernel_rfl) (by first | decide | omega) (by first | decide | omega)) ?_
      refine l_q rfl rfl (q_load1 rfl (by kernel_rfl) (cell_i rx)) ?_
      first | refine l_q rfl rfl (q_assignI rfl) ?_ | refine l_q rfl rfl (q_assign rfl) ?_
      refine l_nil ?_
      refine hK10 _ _ ?_
      refine wp_seq_k (fun K11 hK11 => ?_)
      refine wp_region_lit ?_
      first | refine l_q rfl rfl (q_moveI rfl) ?_ | refine l_q rfl rfl (q_move rfl) ?_
      first | refine l_q rfl rfl (q_moveI rfl) ?_ | refine l_q rfl rfl (q_move rfl) ?_
      refine l_q rfl rfl (q_convN (a := x) rfl (by kernel_rfl) (by kernel_rfl) (wrap_nat .u16 (Nat.lt_trans hx8 (by decide)))) ?_
      refine l_q rfl rfl (q_shlU (a := x) (b := 8) rfl rfl rfl (by decide)) ?_
      refine l_q rfl rfl (q_xorN (a := c) (b := x * 2 ^ 8 % 2 ^ IntKind.u16.bits) 16 rfl rfl hc16 (Nat.mod_lt _ (by decide)) (.inl ⟨rfl, rfl⟩)) ?_
      first | refine l_q rfl rfl (q_assignI rfl) ?_ | refine l_q rfl rfl (q_assign rfl) ?_
      refine l_nil ?_
      refine hK11 _ _ ?_
      refine wp_seq_k (fun K12 hK12 => ?_)
      refine wp_region_lit ?_
      first | refine l_q rfl rfl (q_moveI rfl) ?_ | refine l_q rfl rfl (q_move rfl) ?_
      refine l_nil ?_
      refine hK12 _ _ ?_
      refine wp_block ?_
      refine c_loop (τ := Nat × Nat) [(3, 3), (6, 6), (18, 27)] (fun y => [(3, .int .u16 ((y.2 : Nat) : Int)), (18, .int .i64 ((y.1 : Nat) : Int))]) (fun y w' => St w (fun _ => False) [] w' ∧ y.1 ≤ 8 ∧ y.2 = csN y.1 (c ^^^ x * 256)) (fun y => 8 - y.1) ((0, c ^^^ (x * 2 ^ 8 % 2 ^ IntKind.u16.bits))) ?_ (by repeat' (first | exact trivial | refine ⟨by first | rfl | exact int_succ _, ?_⟩)) (fun x13 j13 w13 hJ13 K13 hK13 => ?_)
      ·
        exact ⟨hS5, Nat.zero_le _, by rw [csN_0]; exact congrArg (c ^^^ ·) (Nat.mod_eq_of_lt (by (show x * 256 < 65536); omega))⟩
      ·
        obtain ⟨k, e⟩ := x13; obtain ⟨hS13, hk, he⟩ := hJ13; dsimp only at hk he hS13 ⊢
        have hcx : c ^^^ x * 256 < 65536 := xor_lt hc16 (by omega)
        have he16 : e < 65536 := by rw [he]; exact csN_lt hcx k
        refine wp_seq_k (fun K14 hK14 => ?_)
        refine wp_region_lit ?_
        refine l_q rfl rfl (q_lss rfl rfl) ?_
        refine l_nil ?_
        refine hK14 _ _ ?_
        refine wp_seq_k (fun K15 hK15 => ?_)
        refine c_cond rfl (fun hc16 => ?_) (fun hc16 => ?_)
        ·
          have hc16b := hc16
          try simp only [decide_eq_true_eq, decide_eq_false_iff_not, Bool.not_eq_true', Bool.not_eq_false', Bool.and_eq_true, Bool.or_eq_true, Int.not_lt, Int.not_le, ne_eq, Decidable.not_not] at hc16
          have hlk := hc16
          refine wp_skip ?_
          refine hK15 _ _ ?_
          refine wp_seq_k (fun K17 hK17 => ?_)
          refine wp_block ?_
          refine wp_seq_k (fun K18 hK18 => ?_)
          refine wp_region_lit ?_
          first | refine l_q rfl rfl (q_moveI rfl) ?_ | refine l_q rfl rfl (q_move rfl) ?_
          refine l_q rfl rfl (q_shrN (a := e) (b := 15) rfl rfl (by decide)) ?_
          first | refine l_q rfl rfl (q_assignI rfl) ?_ | refine l_q rfl rfl (q_assign rfl) ?_
          refine l_nil ?_
          refine hK18 _ _ ?_
          refine wp_region_lit ?_
          first | refine l_q rfl rfl (q_moveI rfl) ?_ | refine l_q rfl rfl (q_move rfl) ?_
          refine l_q rfl rfl (q_shlU (a := e) (b := 1) rfl rfl rfl (by decide)) ?_
          first | refine l_q rfl rfl (q_moveI rfl) ?_ | refine l_q rfl rfl (q_move rfl) ?_
          refine l_q rfl rfl (q_mulU (a := e / 2 ^ 15) (b := 4129) rfl rfl rfl) ?_
          refine l_q rfl rfl (q_xorN (a := e * 2 ^ 1 % 2 ^ IntKind.u16.bits) (b := e / 2 ^ 15 * 4129 % 2 ^ IntKind.u16.bits) 16 rfl rfl (Nat.mod_lt _ (by decide)) (Nat.mod_lt _ (by decide)) (.inl ⟨rfl, rfl⟩)) ?_
          first | refine l_q rfl rfl (q_assignI rfl) ?_ | refine l_q rfl rfl (q_assign rfl) ?_
          refine l_nil ?_
          refine hK17 _ _ ?_
          refine wp_region_lit ?_
          first | refine l_q rfl rfl (q_addx rfl rfl (by first | decide | omega) (by first | decide | omega)) ?_ | refine l_q rfl rfl (q_add rfl rfl) ?_
          first | refine l_q rfl rfl (q_moveI rfl) ?_ | refine l_q rfl rfl (q_move rfl) ?_
          refine l_nil ?_
          refine hK13 _ _ (came ((k + 1, (e * 2 ^ 1 % 2 ^ IntKind.u16.bits) ^^^ (e / 2 ^ 15 * 4129 % 2 ^ IntKind.u16.bits))) (by repeat' (first | exact Agree.refl _ _ | refine Agree.up ?_ rfl | refine Agree.hav2 ?_ rfl | refine Agree.ups2 ?_ rfl)) (by repeat' (first | exact trivial | refine ⟨by first | rfl | exact int_succ _, ?_⟩)) ?_)
          exact ⟨⟨hS13, by (show k + 1 ≤ 8); omega, (cs_val he16).trans (by rw [csN_s, ← he])⟩, by (show 8 - (k + 1) < 8 - k); omega⟩
        ·
          have hc16b := hc16
          try simp only [decide_eq_true_eq, decide_eq_false_iff_not, Bool.not_eq_true', Bool.not_eq_false', Bool.and_eq_true, Bool.or_eq_true, Int.not_lt, Int.not_le, ne_eq, Decidable.not_not] at hc16
          have hlk := hc16
          obtain rfl : k = 8 := by omega
          subst he
          refine wp_exit ?_
          refine hK9 _ _ ?_
          refine wp_region_lit ?_
          first | refine l_q rfl rfl (q_addx rfl rfl (by first | decide | omega) (by first | decide | omega)) ?_ | refine l_q rfl rfl (q_add rfl rfl) ?_
          first | refine l_q rfl rfl (q_moveI rfl) ?_ | refine l_q rfl rfl (q_move rfl) ?_
          refine l_nil ?_
          refine hK5 _ _ (came ((i + 1, csN 8 (c ^^^ x * 256))) (by repeat' (first | exact Agree.refl _ _ | refine Agree.up ?_ rfl | refine Agree.hav2 ?_ rfl | refine Agree.ups2 ?_ rfl)) (by repeat' (first | exact trivial | refine ⟨by first | rfl | exact int_succ _, ?_⟩)) ?_)
          exact ⟨⟨hS13, by (show i + 1 ≤ l.length); omega, by (show csN 8 (c ^^^ x * 256) = crc 65535 (l.take (i + 1))); rw [crc_snoc hx, ← hc, by1_eq]⟩, by (show l.length - (i + 1) < l.length - i); omega⟩
    ·
      have hc8b := hc8
      try simp only [decide_eq_true_eq, decide_eq_false_iff_not, Bool.not_eq_true', Bool.not_eq_false', Bool.and_eq_true, Bool.or_eq_true, Int.not_lt, Int.not_le, ne_eq, Decidable.not_not] at hc8
      have hge := hc8
      have hall : l.take i = l := List.take_of_length_le (by omega)
      rw [hall] at hc
      subst hc
      refine wp_exit ?_
      refine hK3 _ _ ?_
      refine wp_seq_k (fun K19 hK19 => ?_)
      refine wp_region_lit ?_
      first | refine l_q rfl rfl (q_moveI rfl) ?_ | refine l_q rfl rfl (q_move rfl) ?_
      first | refine l_q rfl rfl (q_assignI rfl) ?_ | refine l_q rfl rfl (q_assign rfl) ?_
      refine l_nil ?_
      refine hK19 _ _ ?_
      refine wp_ret ?_
      refine c_ret1 rfl rfl ?_
      exact ⟨_, rfl, rfl, hS5.drop⟩

theorem cbN_0 {x c : Nat} : cbN x 0 c = c := by unfold cbN; rfl
theorem cbN_s {x j c : Nat} : cbN x (j + 1) c = cb (cbN x j c) (x / 2 ^ (7 - j) % 2) := by conv => lhs; unfold cbN
theorem q_convV {P : Program} {n : Nat} {f : Nat → Value} {w : World} {d : Option Tmp} {x : Operand} {ty T T' : TypeId} {pos : String} {aft : Array Edge} {g : Option (Nat × Bool)} {k k' : IntKind} {a : Int} {b : Nat} (hx : ev n f x = .int k a) (h : P.underlying T' = some (.int k')) (h2 : (P.underlying T).isSome = true) (hw : k'.wrap a = (b : Int)) : Run P n f ⟨d, .convert T T' x, ty, pos, aft, g⟩ w (.int k' (b : Int)) := by
  have := q_conv (w := w) (d := d) (ty := ty) (pos := pos) (aft := aft) (g := g) hx h h2
  rwa [hw] at this
theorem SlR.cell_at {S : Nat → Prop} {w : World} {b off : Nat} {cs : List Value} {i : Nat} {u : Value} (h : SlR S w (some ⟨b, off, none⟩) cs) (hu : cs[i]? = some u) : w.cell? ⟨b, off + i, none⟩ = some u := by
  obtain ⟨b', o', h1, h2⟩ := h.at hu
  injection h1 with h1
  injection h1 with h1 h3
  subst h1 h3
  exact h2

set_option maxRecDepth 100000 in
theorem rCheck_ok (l : List Nat) (hl : Bytes l) (hn : l.length ≤ 1000000000) (ad : Option Addr) (cap : Nat) (w : World) (hR : SlR (Ro w fun _ => False) w ad (bv l)) : Calls Try.prog 27 #[.slice ad l.length cap] w (PostR w fun v => v = .int .u16 ((crc 65535 l : Nat) : Int)) := by
  have hS := St.start w
  refine c_enter Try.func27 rfl rfl rfl ?_
  refine wp_seq_k (fun K1 hK1 => ?_)
  refine wp_region_lit ?_
  first | refine l_q rfl rfl (q_assignI rfl) ?_ | refine l_q rfl rfl (q_assign rfl) ?_
  refine l_nil ?_
  refine hK1 _ _ ?_
  refine wp_seq_k (fun K2 hK2 => ?_)
  refine wp_region_lit ?_
  first | refine l_q rfl rfl (q_assignI rfl) ?_ | refine l_q rfl rfl (q_assign rfl) ?_
  refine l_nil ?_
  refine hK2 _ _ ?_
  refine wp_seq_k (fun K3 hK3 => ?_)
  refine wp_seq_k (fun K4 hK4 => ?_)
  refine wp_region_lit ?_
  first | refine l_q rfl rfl (q_assignI rfl) ?_ | refine l_q rfl rfl (q_assign rfl) ?_
  refine l_nil ?_
  refine hK4 _ _ ?_
  refine wp_block ?_
  refine c_loop (τ := Nat × Nat) [(3, 37)] (fun x => [(3, .int .i64 ((x.2 : Nat) : Int)), (4, .int .i64 ((x.1 : Nat) : Int))]) (fun x w' => St w (fun _ => False) [] w' ∧ x.1 ≤ l.length ∧ x.2 = crc 65535 (l.take x.1)) (fun x => l.length - x.1) ((0, 65535)) ?_ (by repeat' (first | exact trivial | refine ⟨by first | rfl | exact int_succ _, ?_⟩)) (fun x5 j5 w5 hJ5 K5 hK5 => ?_)
  ·
    exact ⟨hS, Nat.zero_le _, crc_nil.symm⟩
  ·
    obtain ⟨i, c⟩ := x5; obtain ⟨hS5, hi, hc⟩ := hJ5; dsimp only at hi hc hS5 ⊢
    refine wp_seq_k (fun K6 hK6 => ?_)
    refine wp_seq_k (fun K7 hK7 => ?_)
    refine wp_region_lit ?_
    first | refine l_q rfl rfl (q_moveI rfl) ?_ | refine l_q rfl rfl (q_move rfl) ?_
    first | refine l_q rfl rfl (q_moveS rfl) ?_ | refine l_q rfl rfl (q_move rfl) ?_
    refine l_q rfl rfl (q_lenSl (e := 5) rfl (by kernel_rfl)) ?_
    refine l_q rfl rfl (q_lss rfl rfl) ?_
    refine l_nil ?_
    refine hK7 _ _ ?_
    refine c_cond rfl (fun hc8 => ?_) (fun hc8 => ?_)
    ·
      have hc8b := hc8
      try simp only [decide_eq_true_eq, decide_eq_false_iff_not, Bool.not_eq_true', Bool.not_eq_false', Bool.and_eq_true, Bool.or_eq_true, Int.not_lt, Int.not_le, ne_eq, Decidable.not_not] at hc8
      have hlt := hc8
      obtain ⟨x, hx⟩ : ∃ x, l[i]? = some x := ⟨_, List.getElem?_eq_getElem (by omega)⟩
      have hx8 : x < 256 := hl x (List.mem_of_getElem? hx)
      have hc16 : c < 65536 := by rw [hc]; exact crc_take_lt hl i
      obtain ⟨rb, ro, re, rx0⟩ := hR.at (i := i) (u := _) (bv_at hx)
      subst re
      refine wp_skip ?_
      refine hK6 _ _ ?_
      refine wp_seq_k (fun K9 hK9 => ?_)
      refine wp_block ?_
      refine wp_seq_k (fun K10 hK10 => ?_)
      refine wp_region_lit ?_
      first | refine l_q rfl rfl (q_assignI rfl) ?_ | refine l_q rfl rfl (q_assign rfl) ?_
      refine l_nil ?_
      refine hK10 _ _ ?_
      refine wp_block ?_
      refine c_loop (τ := Nat × Nat × Int) [(3, 3), (5, 7), (14, 37)] (fun y => [(3, .int .i64 ((y.2.1 : Nat) : Int)), (5, .int .i64 y.2.2)]) (fun y w' => St w (fun _ => False) [] w' ∧ y.1 ≤ 8 ∧ y.2.1 = cbN x y.1 c ∧ y.2.2 = 7 - (y.1 : Int)) (fun y => 8 - y.1) ((0, c, 7)) ?_ (by repeat' (first | exact trivial | refine ⟨by first | rfl | exact int_succ _, ?_⟩)) (fun x11 j11 w11 hJ11 K11 hK11 => ?_)
      ·
        exact ⟨hS5, Nat.zero_le _, cbN_0.symm, rfl⟩
      ·
        obtain ⟨k, e, t⟩ := x11; obtain ⟨hS11, hk, he, ht⟩ := hJ11; dsimp only at hk he ht hS11 ⊢
        have he16 : e < 65536 := by rw [he]; exact (cbN_eq hc16 hx8 k hk).1
        refine wp_seq_k (fun K12 hK12 => ?_)
        refine wp_seq_k (fun K13 hK13 => ?_)
        refine wp_region_lit ?_
        first | refine l_q rfl rfl (q_moveI rfl) ?_ | refine l_q rfl rfl (q_move rfl) ?_
        refine l_q rfl rfl (q_geq rfl rfl) ?_
        refine l_nil ?_
        refine hK13 _ _ ?_
        refine c_cond rfl (fun hc14 => ?_) (fun hc14 => ?_)
        ·
          have hc14b := hc14
          try simp only [decide_eq_true_eq, decide_eq_false_iff_not, Bool.not_eq_true', Bool.not_eq_false', Bool.and_eq_true, Bool.or_eq_true, Int.not_lt, Int.not_le, ne_eq, Decidable.not_not] at hc14
          have hlk := hc14
          have htk : t = ((7 - k : Nat) : Int) := by omega
          refine wp_skip ?_
          refine hK12 _ _ ?_
          refine wp_seq_k (fun K15 hK15 => ?_)
          refine wp_block ?_
          refine wp_seq_k (fun K16 hK16 => ?_)
          refine wp_region_lit ?_
          first | refine l_q rfl rfl (q_moveI rfl) ?_ | refine l_q rfl rfl (q_move rfl) ?_
          refine l_q rfl rfl (q_shrN (a := e) (b := 15) rfl rfl (by decide)) ?_
          refine l_q rfl rfl (q_remN (a := e / 2 ^ 15) (b := 2) rfl rfl (by decide)) ?_
          first | refine l_q rfl rfl (q_assignI rfl) ?_ | refine l_q rfl rfl (q_assign rfl) ?_
          refine l_nil ?_
          refine hK16 _ _ ?_
          refine wp_seq_k (fun K17 hK17 => ?_)
          refine wp_region_lit ?_
          first | refine l_q rfl rfl (q_moveS rfl) ?_ | refine l_q rfl rfl (q_move rfl) ?_
          first | refine l_q rfl rfl (q_moveI rfl) ?_ | refine l_q rfl rfl (q_move rfl) ?_
          refine l_q rfl rfl (q_indexAddr (e := 5) (m := 1) rfl rfl (by kernel_rfl) (by kernel_rfl) (by first | decide | omega) (by first | decide | omega)) ?_
          refine l_q rfl rfl (q_load1 rfl (by kernel_rfl) (cell_i ((hR.ro hS11).cell_at (bv_at hx)))) ?_
          refine l_q rfl rfl (q_convN (a := x) rfl (by kernel_rfl) (by kernel_rfl) (wrap_nat .i64 (Nat.lt_trans hx8 (by decide)))) ?_
          first | refine l_q rfl rfl (q_moveI rfl) ?_ | refine l_q rfl rfl (q_move rfl) ?_
          refine l_q rfl rfl (q_convV (b := 7 - k) rfl (by kernel_rfl) (by kernel_rfl) (by rw [htk]; exact wrap_nat .u64 (Nat.lt_of_le_of_lt (Nat.sub_le 7 k) (by decide)))) ?_
          refine l_q rfl rfl (q_shrN (a := x) (b := 7 - k) rfl rfl (Nat.le_trans (Nat.sub_le 7 k) (by decide))) ?_
          refine l_q rfl rfl (q_remN (a := x / 2 ^ (7 - k)) (b := 2) rfl rfl (by decide)) ?_
          first | refine l_q rfl rfl (q_assignI rfl) ?_ | refine l_q rfl rfl (q_assign rfl) ?_
          refine l_nil ?_
          refine hK17 _ _ ?_
          refine wp_seq_k (fun K18 hK18 => ?_)
          refine wp_region_lit ?_
          first | refine l_q rfl rfl (q_moveI rfl) ?_ | refine l_q rfl rfl (q_move rfl) ?_
          first | refine l_q rfl rfl (q_mulx rfl rfl (by first | decide | omega) (by first | decide | omega)) ?_ | refine l_q rfl rfl (q_mul rfl rfl) ?_
          refine l_q rfl rfl (q_remN (a := e * 2) (b := 65536) rfl rfl (by decide)) ?_
          first | refine l_q rfl rfl (q_assignI rfl) ?_ | refine l_q rfl rfl (q_assign rfl) ?_
          refine l_nil ?_
          refine hK18 _ _ ?_
          refine wp_seq_k (fun K19 hK19 => ?_)
          refine wp_region_lit ?_
          first | refine l_q rfl rfl (q_moveI rfl) ?_ | refine l_q rfl rfl (q_move rfl) ?_
          first | refine l_q rfl rfl (q_moveI rfl) ?_ | refine l_q rfl rfl (q_move rfl) ?_
          refine l_q rfl rfl (q_neq rfl rfl) ?_
          refine l_nil ?_
          refine hK19 _ _ ?_
          refine c_cond rfl (fun hc20 => ?_) (fun hc20 => ?_)
          ·
            have hc20b := hc20
            try simp only [decide_eq_true_eq, decide_eq_false_iff_not, Bool.not_eq_true', Bool.not_eq_false', Bool.and_eq_true, Bool.or_eq_true, Int.not_lt, Int.not_le, ne_eq, Decidable.not_not] at hc20
            have hbit := hc20
            refine wp_region_lit ?_
            first | refine l_q rfl rfl (q_moveI rfl) ?_ | refine l_q rfl rfl (q_move rfl) ?_
            refine l_q rfl rfl (q_xorN (a := e * 2 % 65536) (b := 4129) 16 rfl rfl (Nat.mod_lt _ (by decide)) (by decide) (.inr (by decide))) ?_
            first | refine l_q rfl rfl (q_assignI rfl) ?_ | refine l_q rfl rfl (q_assign rfl) ?_
            refine l_nil ?_
            refine hK15 _ _ ?_
            refine wp_region_lit ?_
            first | refine l_q rfl rfl (q_moveI rfl) ?_ | refine l_q rfl rfl (q_move rfl) ?_
            first | refine l_q rfl rfl (q_subx rfl rfl (by first | decide | omega) (by first | decide | omega)) ?_ | refine l_q rfl rfl (q_sub rfl rfl) ?_
            first | refine l_q rfl rfl (q_assignI rfl) ?_ | refine l_q rfl rfl (q_assign rfl) ?_
            refine l_nil ?_
            refine hK11 _ _ (came ((k + 1, (e * 2 % 65536) ^^^ 4129, t - 1)) (by repeat' (first | exact Agree.refl _ _ | refine Agree.up ?_ rfl | refine Agree.hav2 ?_ rfl | refine Agree.ups2 ?_ rfl)) (by repeat' (first | exact trivial | refine ⟨by first | rfl | exact int_succ _, ?_⟩)) ?_)
            exact ⟨⟨hS11, by (show k + 1 ≤ 8); omega, by (show _ = cbN x (k + 1) c); rw [cbN_s, ← he, cb, if_pos (fun hh => hbit (congrArg Int.ofNat hh))], by (show t - 1 = 7 - ((k + 1 : Nat) : Int)); omega⟩, by (show 8 - (k + 1) < 8 - k); omega⟩
          ·
            have hc20b := hc20
            try simp only [decide_eq_true_eq, decide_eq_false_iff_not, Bool.not_eq_true', Bool.not_eq_false', Bool.and_eq_true, Bool.or_eq_true, Int.not_lt, Int.not_le, ne_eq, Decidable.not_not] at hc20
            have hbit := hc20
            refine wp_skip ?_
            refine hK15 _ _ ?_
            refine wp_region_lit ?_
            first | refine l_q rfl rfl (q_moveI rfl) ?_ | refine l_q rfl rfl (q_move rfl) ?_
            first | refine l_q rfl rfl (q_subx rfl rfl (by first | decide | omega) (by first | decide | omega)) ?_ | refine l_q rfl rfl (q_sub rfl rfl) ?_
            first | refine l_q rfl rfl (q_assignI rfl) ?_ | refine l_q rfl rfl (q_assign rfl) ?_
            refine l_nil ?_
            refine hK11 _ _ (came ((k + 1, e * 2 % 65536, t - 1)) (by repeat' (first | exact Agree.refl _ _ | refine Agree.up ?_ rfl | refine Agree.hav2 ?_ rfl | refine Agree.ups2 ?_ rfl)) (by repeat' (first | exact trivial | refine ⟨by first | rfl | exact int_succ _, ?_⟩)) ?_)
            exact ⟨⟨hS11, by (show k + 1 ≤ 8); omega, by (show _ = cbN x (k + 1) c); rw [cbN_s, ← he, cb, if_neg (fun hh => hh (Int.ofNat.inj hbit))], by (show t - 1 = 7 - ((k + 1 : Nat) : Int)); omega⟩, by (show 8 - (k + 1) < 8 - k); omega⟩
        ·
          have hc14b := hc14
          try simp only [decide_eq_true_eq, decide_eq_false_iff_not, Bool.not_eq_true', Bool.not_eq_false', Bool.and_eq_true, Bool.or_eq_true, Int.not_lt, Int.not_le, ne_eq, Decidable.not_not] at hc14
          have hlk := hc14
          obtain rfl : k = 8 := by omega
          subst he
          refine wp_exit ?_
          refine hK9 _ _ ?_
          refine wp_region_lit ?_
          first | refine l_q rfl rfl (q_moveI rfl) ?_ | refine l_q rfl rfl (q_move rfl) ?_
          first | refine l_q rfl rfl (q_addx rfl rfl (by first | decide | omega) (by first | decide | omega)) ?_ | refine l_q rfl rfl (q_add rfl rfl) ?_
          first | refine l_q rfl rfl (q_assignI rfl) ?_ | refine l_q rfl rfl (q_assign rfl) ?_
          refine l_nil ?_
          refine hK5 _ _ (came ((i + 1, cbN x 8 c)) (by repeat' (first | exact Agree.refl _ _ | refine Agree.up ?_ rfl | refine Agree.hav2 ?_ rfl | refine Agree.ups2 ?_ rfl)) (by repeat' (first | exact trivial | refine ⟨by first | rfl | exact int_succ _, ?_⟩)) ?_)
          exact ⟨⟨hS11, by (show i + 1 ≤ l.length); omega, by (show cbN x 8 c = crc 65535 (l.take (i + 1))); rw [crc_snoc hx, ← hc, by1_bits hc16 hx8]⟩, by (show l.length - (i + 1) < l.length - i); omega⟩
    ·
      have hc8b := hc8
      try simp only [decide_eq_true_eq, decide_eq_false_iff_not, Bool.not_eq_true', Bool.not_eq_false', Bool.and_eq_true, Bool.or_eq_true, Int.not_lt, Int.not_le, ne_eq, Decidable.not_not] at hc8
      have hge := hc8
      have hall : l.take i = l := List.take_of_length_le (by omega)
      rw [hall] at hc
      have hc16 : c < 65536 := by rw [hc]; exact crc_lt hl (by omega)
      subst hc
      refine wp_exit ?_
      refine hK3 _ _ ?_
      refine wp_seq_k (fun K21 hK21 => ?_)
      refine wp_region_lit ?_
      first | refine l_q rfl rfl (q_moveI rfl) ?_ | refine l_q rfl rfl (q_move rfl) ?_
      refine l_q rfl rfl (q_convN (a := crc 65535 l) rfl (by kernel_rfl) (by kernel_rfl) (by rw [wrap_u16, Nat.mod_eq_of_lt hc16])) ?_
      first | refine l_q rfl rfl (q_assignI rfl) ?_ | refine l_q rfl rfl (q_assign rfl) ?_
      refine l_nil ?_
      refine hK21 _ _ ?_
      refine wp_ret ?_
      refine c_ret1 rfl rfl ?_
      exact ⟨_, rfl, rfl, hS5.drop⟩

end Go.Proofs.Ytmbbkliekgiolaa
