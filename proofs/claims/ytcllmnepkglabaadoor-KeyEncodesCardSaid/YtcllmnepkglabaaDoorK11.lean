/- Package key: take. -/
import Derived.Test.YtcllmnepkglabaaDoorK10
import Derived.Lib.EndianBits
import Derived.Test.YtcllmnepkglabaaDoorSa
set_option linter.unusedVariables false
set_option linter.unusedSimpArgs false
namespace Go.Proofs.YtcllmnepkglabaaDoor
open Go.RowKit
/-- Bytes as a number. -/
def f8 (l : List Nat) : Nat := l.foldl (fun u x => u * 256 + x) 0
theorem f8_app (l : List Nat) (x : Nat) : f8 (l ++ [x]) = f8 l * 256 + x := by unfold f8; rw [List.foldl_append]; rfl
theorem f8_lt : ∀ (n : Nat) (l : List Nat), Bytes l → l.length ≤ n → f8 l < 256 ^ n
  | 0, l, _, h => by have : l = [] := List.eq_nil_of_length_eq_zero (by omega); subst this; decide
  | n + 1, l, hB, h => by
    rcases List.eq_nil_or_concat l with rfl | ⟨l', x, rfl⟩
    · exact Nat.pow_pos (by decide)
    · rw [List.concat_eq_append] at *
      rw [f8_app, Nat.pow_succ]
      have h1 := f8_lt n l' (fun y hy => hB y (List.mem_append_left _ hy)) (by rw [List.length_append, List.length_singleton] at h; omega)
      have h2 := hB x (List.mem_append_right _ (.head _))
      omega
theorem or_add {a c : Nat} (hc : c < 256) : (a * 256) ||| c = a * 256 + c := by
  have := Nat.two_pow_add_eq_or_of_lt (i := 8) (b := c) hc a
  rw [Nat.mul_comm a 256]; exact this.symm
theorem f8_step {l : List Nat} {i x : Nat} (hl : Bytes l) (hx : l[i]? = some x) (hi : i < 8) : (f8 (l.take i) * 2 ^ 8 % 18446744073709551616) ||| x = f8 (l.take (i + 1)) := by
  have h1 := f8_lt 7 (l.take i) hl.take (by rw [List.length_take]; omega)
  have h2 := hl x (List.mem_of_getElem? hx)
  rw [List.take_add_one, hx]
  show _ = f8 (l.take i ++ [x])
  rw [f8_app, Nat.mod_eq_of_lt (by have : (256 : Nat) ^ 7 = 72057594037927936 := by decide
                                   omega), show (2 : Nat) ^ 8 = 256 from rfl, or_add h2]
theorem be8_f8 {l : List Nat} (hl : Bytes l) (h8 : l.length = 8) : be8 (f8 l) = l ∧ f8 l < 18446744073709551616 := by
  have h1 := f8_lt 8 l hl (by omega)
  refine ⟨?_, by have : (256 : Nat) ^ 8 = 18446744073709551616 := by decide
                 omega⟩
  match l, h8 with
  | [a, b, c, d, e, f, g, h], _ =>
    have ha := hl a (by simp); have hb := hl b (by simp); have hc := hl c (by simp); have hd := hl d (by simp)
    have he := hl e (by simp); have hf := hl f (by simp); have hg := hl g (by simp); have hh := hl h (by simp)
    unfold be8 f8
    simp only [List.foldl_cons, List.foldl_nil, List.cons.injEq, and_true]
    refine ⟨?_, ?_, ?_, ?_, ?_, ?_, ?_, ?_⟩ <;> omega
/-- No value's bytes begin these. -/
def NoTake (b : List Nat) : Prop := ∀ a r, VOk a → rightB a = true → b ≠ encV a ++ r
def TkOk (b : List Nat) (a : Vl) (r : List Nat) (ok : Bool) : Prop := (ok = true → rightB a = true ∧ b = encV a ++ r) ∧ (ok = false → NoTake b)
def TakeP (g : Gh) (b : List Nat) (v : Value) : Prop := ∃ ok a r oa oc, v = .tuple #[.agg (vl a).toArray, .slice oa (List.length r) oc, .bool ok] ∧ VOk a ∧ Bytes r ∧ r.length ≤ oc ∧ SlG g oa (bv r) ∧ (ok = true → rightB a = true ∧ b = encV a ++ r) ∧ (ok = false → NoTake b)
theorem TakeP.mk {g : Gh} {b : List Nat} {a : Vl} {r : List Nat} {oa : Option Addr} {m oc : Nat} {ok : Bool} (ha : VOk a) (hm : r.length = m) (hr : Bytes r) (hc : m ≤ oc) (hG : SlG g oa (bv r)) (h : TkOk b a r ok) : TakeP g b (.tuple #[.agg (vl a).toArray, .slice oa m oc, .bool ok]) := by
  subst hm; exact ⟨ok, a, r, oa, oc, rfl, ha, hr, hc, hG, h.1, h.2⟩
theorem cons_of {b : List Nat} {x : Nat} (hx : b[0]? = some x) : b = x :: b.drop 1 := by
  match b, hx with
  | y :: b, hx => simp at hx; subst hx; rfl
theorem tk_head {b r : List Nat} {x : Nat} {a : Vl} (hx : b[0]? = some x) (hr : rightB a = true) (h : b = encV a ++ r) : a.1 = (x : Int) ∧ b.drop 1 = encB a ++ r := by
  obtain ⟨k0, k5, _, _⟩ := right_k hr
  have h2 := cons_of hx
  rw [h] at h2
  have h3 : a.1.toNat % 256 = x ∧ encB a ++ r = (encV a ++ r).drop 1 := List.cons.inj h2
  exact ⟨by omega, by rw [h3.2, ← h]⟩
theorem tk_no {b r : List Nat} {ok : Bool} {a : Vl} (h : NoTake b) (ho : ok = false) : TkOk b a r ok := ⟨(fun h' => by rw [ho] at h'; cases h'), fun _ => h⟩
theorem tk_yes {b r : List Nat} {a : Vl} (h : b = encV a ++ r) (hno : rightB a = false → NoTake b) : TkOk b a r (rightB a) := ⟨fun h' => ⟨h', h⟩, hno⟩
theorem encV_of {x : Nat} {z : Int} {s : List Nat} {b : List Nat} (hx : b[0]? = some x) (hB : x < 256) {r : List Nat} (h : b.drop 1 = encB ((x : Int), z, s) ++ r) : b = encV ((x : Int), z, s) ++ r := by
  rw [cons_of hx]
  show x :: b.drop 1 = ((x : Int).toNat % 256) :: (encB ((x : Int), z, s) ++ r)
  rw [h, Int.toNat_natCast, Nat.mod_eq_of_lt hB]
theorem tk0 {b : List Nat} {x : Nat} (hx : b[0]? = some x) (h : x = 0) : TkOk b ((x : Int), 0, []) (b.drop 1) (rightB ((x : Int), 0, [])) := by
  subst h
  exact tk_yes (encV_of hx (by omega) rfl) (fun h => by simp [rightB] at h)
theorem tk1 {b : List Nat} {x c : Nat} (hx : b[0]? = some x) (h : x = 1) (hc : (b.drop 1)[0]? = some c) (hcB : c < 256) : TkOk b ((x : Int), (c : Int), []) ((b.drop 1).drop 1) (rightB ((x : Int), (c : Int), [])) := by
  subst h
  have h1 := cons_of hc
  by_cases hr : rightB (((1 : Nat) : Int), (c : Int), []) = true
  · refine tk_yes (encV_of hx (by omega) ?_) (fun h => by rw [hr] at h; cases h)
    rw [encB1 rfl]
    show b.drop 1 = ((c : Int).toNat % 256) :: (b.drop 1).drop 1
    rw [Int.toNat_natCast, Nat.mod_eq_of_lt hcB]; exact h1
  · refine tk_no ?_ (by simpa using hr)
    intro a r ha hra he
    obtain ⟨k, h2⟩ := tk_head hx hra he
    rw [encB1 k, h1] at h2
    obtain ⟨_, _, k1, _⟩ := right_k hra
    have h3 := k1 k
    have h4 : c = a.2.1.toNat % 256 := (List.cons.inj h2).1
    apply hr
    have h5 : c = 0 ∨ c = 1 := by omega
    rcases h5 with rfl | rfl <;> rfl
theorem tk1n {b r : List Nat} {x : Nat} {a : Vl} (hx : b[0]? = some x) (h : x = 1) (hl : ¬0 < b.length - 1) : TkOk b a r false := by
  refine tk_no ?_ rfl
  intro a r ha hra he
  obtain ⟨k, h2⟩ := tk_head hx hra he
  rw [encB1 (by omega)] at h2
  have h3 := congrArg List.length h2
  rw [List.length_drop] at h3; simp at h3; omega
theorem tk2 {b : List Nat} {x : Nat} {z : Int} (hb : Bytes b) (hx : b[0]? = some x) (h : x = 2 ∨ x = 3) (hl : 8 ≤ (b.drop 1).length) (hz : z = (f8 ((b.drop 1).take 8) : Int) - 9223372036854775808) : TkOk b ((x : Int), z, []) ((b.drop 1).drop 8) (rightB ((x : Int), z, [])) ∧ (-9223372036854775808 ≤ z ∧ z ≤ 9223372036854775807) := by
  obtain ⟨h1, h2⟩ := be8_f8 (l := (b.drop 1).take 8) hb.drop.take (by rw [List.length_take]; omega)
  have hb' : bia z = f8 ((b.drop 1).take 8) := by
    have := bia_eq (z := z) (by omega)
    omega
  refine ⟨tk_yes (encV_of hx (by omega) ?_) (fun h' => ?_), by omega⟩
  · rw [encB2 (by show (x : Int) = 2 ∨ (x : Int) = 3; omega)]
    show b.drop 1 = be8 (bia z) ++ (b.drop 1).drop 8
    rw [hb', h1, List.take_append_drop]
  · rcases h with rfl | rfl <;> simp [rightB] at h'
theorem tk2n {b r : List Nat} {x : Nat} {a : Vl} (hx : b[0]? = some x) (h : x = 2 ∨ x = 3) (hl : ¬8 ≤ b.length - 1) : TkOk b a r false := by
  refine tk_no ?_ rfl
  intro a r ha hra he
  obtain ⟨k, h2⟩ := tk_head hx hra he
  rw [encB2 (by omega)] at h2
  have h3 := congrArg List.length h2
  rw [List.length_drop] at h3; simp [be8] at h3; omega
theorem tk4 {b r : List Nat} {x : Nat} {s : List Nat} (hx : b[0]? = some x) (h : x = 4 ∨ x = 5) (ht : b.drop 1 = esc s ++ 0 :: 1 :: r) : TkOk b ((x : Int), 0, s) r (rightB ((x : Int), 0, s)) := by
  refine tk_yes (encV_of hx (by omega) ?_) (fun h' => ?_)
  · rw [encB4 (by show (x : Int) = 4 ∨ (x : Int) = 5; omega), List.append_assoc]; exact ht
  · intro a r' ha hra he
    obtain ⟨k, h2⟩ := tk_head hx hra he
    rw [encB4 (by omega), List.append_assoc, ht] at h2
    obtain ⟨h3, _⟩ := esc_inj h2
    obtain ⟨_, _, _, s4⟩ := right_s hra
    have : a = ((x : Int), 0, s) := vl_ext k (s4 (by omega)) h3.symm
    rw [this, h'] at hra; cases hra
theorem tk4n {b r : List Nat} {x : Nat} {a : Vl} (hx : b[0]? = some x) (h : x = 4 ∨ x = 5) (ht : ∀ s r, b.drop 1 ≠ esc s ++ 0 :: 1 :: r) : TkOk b a r false := by
  refine tk_no ?_ rfl
  intro a r ha hra he
  obtain ⟨k, h2⟩ := tk_head hx hra he
  rw [encB4 (by omega), List.append_assoc] at h2
  exact ht _ _ h2
theorem tk6 {b r : List Nat} {x : Nat} (hx : b[0]? = some x) (h : ¬x = 0 ∧ ¬x = 1 ∧ ¬x = 2 ∧ ¬x = 3 ∧ ¬x = 4 ∧ ¬x = 5) : TkOk b ((x : Int), 0, []) r (rightB ((x : Int), 0, [])) := by
  refine tk_no ?_ ?_
  · intro a r ha hra he
    obtain ⟨k, h2⟩ := tk_head hx hra he
    obtain ⟨k0, k5, _, _⟩ := right_k hra
    omega
  · unfold rightB
    simp only
    rw [if_neg (by omega), if_neg (by omega), if_neg (by omega), if_neg (by omega)]
theorem vok_mk {x z : Int} {s : List Nat} (hs : Bytes s) (h1 : -9223372036854775808 ≤ x ∧ x ≤ 9223372036854775807) (h2 : -9223372036854775808 ≤ z ∧ z ≤ 9223372036854775807) : VOk (x, z, s) := ⟨hs, h1, h2⟩
theorem topZ {u : Nat} (h : u < 18446744073709551616) : IntKind.i64.wrap (IntKind.u64.wrap ((u : Int) - 9223372036854775808)) = (u : Int) - 9223372036854775808 := by
  rw [IntKind.wrap_u64, IntKind.wrap_i64]
  try unfold wrap64
  omega
attribute [local irreducible] Oper.wp Sem.run Code.wp wpList wpAnyO callFunc execOp Calls
attribute [local irreducible] enc encR rightB toU encV nxB nxN fewB rightL vls vlt
attribute [local irreducible] cmpZ cmB orL vcmp rcmp esc f8

set_option maxRecDepth 100000 in
theorem take_ok (b : List Nat) (hb : Bytes b) (n : Nat) (hn : b.length = n) (ab : Option Addr) (cb : Nat) (hcb : n ≤ cb) (hm : n ≤ 1000000) (hp : 0 < n) (w : World) (g : Gh) (hg : Gle g (hw w)) (hG : SlG g ab (bv b)) : Calls Tryd.prog 31 #[.slice ab n cb] w (PostR w fun v => TakeP g b v) := by
  have hS := St.start w
  subst hn
  refine c_enter Tryd.func31 rfl rfl rfl ?_
  refine wp_seq_k (fun K1 hK1 => ?_)
  refine wp_region_lit ?_
  refine l_e rfl (fun K hK => ?_)
  refine e_alloc (zv := .agg #[.int .i64 0, .int .i64 0, .string ⟨#[]⟩]) hS (by kernel_rfl) (fun b2 w2 (hS2 : St _ _ [.blk b2 (.cells #[.int .i64 (0 : Int), .int .i64 (0 : Int), .string (bs [])] 31)] _) => ?_)
  clear hS
  refine hK _ _ ?_; clear hK K
  refine l_q rfl rfl (q_assignS rfl) ?_
  refine l_q rfl rfl (q_assignB rfl) ?_
  refine l_nil ?_
  refine hK1 _ _ ?_
  refine wp_seq_k (fun K3 hK3 => ?_)
  refine wp_region_lit ?_
  refine l_q rfl rfl (q_moveS rfl) ?_
  refine l_q rfl rfl (q_ixG (e := 5) (m := 1) (j := 0) rfl rfl (by kernel_rfl) (by kernel_rfl) (by first | rfl | omega) (by omega) hG (by rw [bv_len]; first | omega | (simp only [List.length_append, List.length_map, List.length_cons, List.length_nil, List.length_take, List.length_drop, List.length_set] <;> omega))) ?_
  obtain ⟨x4, hx4⟩ : ∃ x, (b)[0]? = some x := ⟨_, List.getElem?_eq_getElem (by first | omega | (simp only [List.length_append, List.length_map, List.length_cons, List.length_nil, List.length_take, List.length_drop, List.length_set] <;> omega) | (simp <;> omega))⟩
  have hb4 : x4 < 256 := hb x4 (List.mem_of_getElem? hx4)
  refine l_q rfl rfl (q_load1 rfl (by kernel_rfl) (SlG.cell (hG.mono (hg.trans hS2.base)) (Gle.refl _) (at1 (bv_at hx4)))) ?_
  refine l_q rfl rfl (q_convN (a := x4) rfl (by kernel_rfl) (by kernel_rfl) (wrap_fit_i64 (by omega))) ?_
  refine l_q rfl rfl (q_build (ps := [(0, 1), (1, 1), (2, 1)]) (zv := .agg #[.int .i64 0, .int .i64 0, .string ⟨#[]⟩]) (by kernel_rfl) (by kernel_rfl) rfl (by repeat' (first | exact trivial | refine ⟨fun _ => by first | rfl | assumption | exact one_if (by assumption), ?_⟩ | refine ⟨fun ⟨_, h⟩ => by simp at h, ?_⟩)) rfl) ?_
  refine l_e rfl (fun K hK => ?_)
  refine e_alloc (zv := .agg #[.int .i64 0, .int .i64 0, .string ⟨#[]⟩]) hS2 (by kernel_rfl) (fun b5 w5 (hS5 : St _ _ [.blk b5 (.cells #[.int .i64 (0 : Int), .int .i64 (0 : Int), .string (bs [])] 31), .blk b2 (.cells #[.int .i64 (0 : Int), .int .i64 (0 : Int), .string (bs [])] 31)] _) => ?_)
  clear hS2
  refine hK _ _ ?_; clear hK K
  refine l_e rfl (fun K hK => ?_)
  refine e_storeA hS5 rfl rfl (by kernel_rfl) (by repeat' (first | exact trivial | refine ⟨by first | rfl | assumption | exact one_if (by assumption), ?_⟩)) (i := 0) rfl rfl (fun w6 (hS6 : St _ _ [.blk b5 (.cells #[.int .i64 ((x4 : Nat) : Int), .int .i64 (0 : Int), .string (bs [])] 31), .blk b2 (.cells #[.int .i64 (0 : Int), .int .i64 (0 : Int), .string (bs [])] 31)] _) => ?_)
  clear hS5
  refine hK _ _ ?_; clear hK K
  refine l_nil ?_
  refine hK3 _ _ ?_
  refine wp_seq_k (fun K7 hK7 => ?_)
  refine wp_region_lit ?_
  refine l_q rfl rfl (q_moveS rfl) ?_
  refine l_q rfl rfl (q_sliceX (e := 5) (size := 1) (l := 1) (h := b.length) (m := cb) (ad' := (subS ab 1 1 cb)) (len' := (b.length - 1)) (cap' := (cb - 1)) rfl (by kernel_rfl) (by kernel_rfl) rfl rfl ⟨_, int_nat (by first | rfl | omega) rfl⟩ (by omega) (by first | omega | (simp only [List.length_append, List.length_map, List.length_cons, List.length_nil, List.length_take, List.length_drop, List.length_set] <;> omega)) (by first | omega | (simp only [List.length_append, List.length_map, List.length_cons, List.length_nil, List.length_take, List.length_drop, List.length_set] <;> omega)) rfl rfl rfl rfl) ?_
  refine l_q rfl rfl (q_assignS rfl) ?_
  refine l_nil ?_
  refine hK7 _ _ ?_
  refine wp_seq_k (fun K8 hK8 => ?_)
  refine wp_region_lit ?_
  refine l_q rfl rfl (q_assignB rfl) ?_
  refine l_nil ?_
  refine hK8 _ _ ?_
  refine wp_seq_k (fun K9 hK9 => ?_)
  refine wp_seq_k (fun K10 hK10 => ?_)
  refine wp_region_lit ?_
  refine l_q rfl rfl (q_fieldAddr (ft := 29) (o := 0) rfl (by kernel_rfl)) ?_
  refine l_q rfl rfl (q_load1 rfl (by kernel_rfl) (hS6.cell (i := 0) rfl rfl)) ?_
  refine l_nil ?_
  refine hK10 _ _ ?_
  refine wp_block ?_
  refine wp_seq_k (fun K11 hK11 => ?_)
  refine wp_region_lit ?_
  refine l_q rfl rfl (q_eql rfl rfl) ?_
  refine l_q rfl rfl (q_assignB rfl) ?_
  refine l_nil ?_
  refine hK11 _ _ ?_
  refine c_cond rfl (fun hc12 => ?_) (fun hc12 => ?_)
  ·
    have hc12b := hc12
    try simp only [decide_eq_true_eq, decide_eq_false_iff_not, Bool.not_eq_true', Bool.not_eq_false', Bool.and_eq_true, Bool.or_eq_true, Int.not_lt, Int.not_le, ne_eq, Decidable.not_not] at hc12
    refine wp_skip ?_
    refine hK9 _ _ ?_
    refine wp_seq_k (fun K13 hK13 => ?_)
    refine r_any (by kernel_rfl) hS6 (fun w14 hS14 => ?_)
    clear hS6
    refine o_held (i := 0) [7, 8, 9] (fun _ _ => trivial) rfl rfl (by kernel_rfl) (goes0 rfl) (QOk.then QOk.body) (q_loadA (m := 3) rfl (by kernel_rfl) (by kernel_rfl) (hS14.blk (i := 0) rfl) rfl rfl) ?_
    refine o_pure (i := 1) (fun j w => ⟨(fun _ _ => trivial) j w, fun _ h => h⟩) rfl rfl (by kernel_rfl) (goes0 rfl) (QOk.then QOk.body) (fun w => q_moveS rfl) ?_
    refine o_pure (i := 2) (fun j w => ⟨(fun _ _ => trivial) j w, fun _ h => h⟩) rfl rfl (by kernel_rfl) (goes0 rfl) (QOk.then QOk.body) (fun w => q_moveB rfl) ?_
    refine o_pure (i := 3) (fun j w => ⟨(fun _ _ => trivial) j w, fun _ h => h⟩) rfl rfl (by kernel_rfl) (goes0 rfl) (QOk.then QOk.body) (fun w => q_moveB rfl) ?_
    refine o_held (i := 4) [5, 6, 7, 8, 9] (fun j w => ⟨(fun _ _ => trivial) j w, fun _ h => h⟩) rfl rfl (by kernel_rfl) (goes1 rfl rfl rfl) (QOk.then QOk.body) (q_loadA (m := 3) rfl (by kernel_rfl) (by kernel_rfl) (hS14.blk (i := 0) rfl) rfl rfl) ?_
    refine o_eff (i := 5) (by kernel_rfl) rfl (goes1 rfl rfl rfl) (fun K hK => ?_)
    refine e_call (by kernel_rfl) (right_ok (((x4 : Nat) : Int), (0 : Int), []) Bytes.nil _) rfl (after_R hS14 (fun v15 w15 hv15 hS15 => ?_))
    clear hS14
    obtain rfl := hv15
    refine hK _ _ ⟨⟨trivial, fun _ _ => by first | exact q_loadA (m := 3) rfl (by kernel_rfl) (by kernel_rfl) (hS15.blk (i := 0) rfl) rfl rfl⟩, fun h => absurd h (by decide)⟩ ?_; clear hK K
    refine o_pure (i := 6) (fun j w => ⟨(fun j w => ⟨(fun _ _ => trivial) j w, fun _ h => h⟩) j w, fun _ h => h⟩) rfl rfl (by kernel_rfl) (goes0 rfl) (QOk.then QOk.body) (fun w => q_pickT rfl rfl rfl) ?_
    refine o_eff (i := 7) (by kernel_rfl) rfl (goes0 rfl) (fun K hK => ?_)
    refine e_storeA hS15 rfl rfl (by kernel_rfl) (by repeat' (first | exact trivial | refine ⟨by first | rfl | assumption | exact one_if (by assumption), ?_⟩)) (i := 1) rfl rfl (fun w16 (hS16 : St _ _ [.blk b5 (.cells #[.int .i64 ((x4 : Nat) : Int), .int .i64 (0 : Int), .string (bs [])] 31), .blk b2 (.cells #[.int .i64 ((x4 : Nat) : Int), .int .i64 (0 : Int), .string (bs [])] 31)] _) => ?_)
    clear hS15
    refine hK _ _ ⟨⟨trivial, fun h => absurd h (by decide)⟩, fun h => absurd h (by decide)⟩ ?_; clear hK K
    refine o_pure (i := 8) (fun j w => ⟨(fun j w => ⟨(fun _ _ => trivial) j w, fun _ h => h⟩) j w, fun _ h => h⟩) rfl rfl (by kernel_rfl) (goes0 rfl) (QOk.then QOk.body) (fun w => q_assignS rfl) ?_
    refine o_pure (i := 9) (fun j w => ⟨(fun j w => ⟨(fun _ _ => trivial) j w, fun _ h => h⟩) j w, fun _ h => h⟩) rfl rfl (by kernel_rfl) (goes0 rfl) (QOk.then QOk.body) (fun w => q_assignB rfl) ?_
    refine o_done (by kernel_rfl) ?_
    refine hK13 _ _ ?_
    refine wp_ret ?_
    refine c_retCTT (m := 3) rfl (by kernel_rfl) (by kernel_rfl) rfl (hS16.blk (i := 1) rfl) rfl rfl rfl ?_
    exact ⟨_, rfl, TakeP.mk (a := (((x4 : Nat) : Int), (0 : Int), [])) (vok_mk Bytes.nil ⟨by omega, by omega⟩ ⟨by omega, by omega⟩) (by first | rfl | simp only [List.length_drop] | (simp only [List.length_drop] <;> omega)) (Bytes.drop hb) (by omega) (bv_subD (by first | omega | (simp only [List.length_append, List.length_map, List.length_cons, List.length_nil, List.length_take, List.length_drop, List.length_set] <;> omega)) (SlG.sub (l := 1) (size := 1) (m := cb) (n := b.length - 1) hG (by first | omega | (simp only [List.length_append, List.length_map, List.length_cons, List.length_nil, List.length_take, List.length_drop, List.length_set] <;> omega)) (by decide))) (by first | exact tk0 hx4 (by omega) | exact tk1n hx4 (by omega) (by omega) | exact tk2n hx4 (by omega) (by omega)), hS16.drop⟩
  ·
    have hc12b := hc12
    try simp only [decide_eq_true_eq, decide_eq_false_iff_not, Bool.not_eq_true', Bool.not_eq_false', Bool.and_eq_true, Bool.or_eq_true, Int.not_lt, Int.not_le, ne_eq, Decidable.not_not] at hc12
    refine wp_seq_k (fun K17 hK17 => ?_)
    refine wp_region_lit ?_
    refine l_q rfl rfl (q_eql rfl rfl) ?_
    refine l_q rfl rfl (q_assignB rfl) ?_
    refine l_nil ?_
    refine hK17 _ _ ?_
    refine c_cond rfl (fun hc18 => ?_) (fun hc18 => ?_)
    ·
      have hc18b := hc18
      try simp only [decide_eq_true_eq, decide_eq_false_iff_not, Bool.not_eq_true', Bool.not_eq_false', Bool.and_eq_true, Bool.or_eq_true, Int.not_lt, Int.not_le, ne_eq, Decidable.not_not] at hc18
      refine wp_seq_k (fun K19 hK19 => ?_)
      refine wp_region_lit ?_
      refine l_q rfl rfl (q_moveS rfl) ?_
      refine l_q rfl rfl (q_lenSl (e := 5) rfl (by kernel_rfl)) ?_
      refine l_q rfl rfl (q_gtr rfl rfl) ?_
      refine l_q rfl rfl (q_assignB rfl) ?_
      refine l_nil ?_
      refine hK19 _ _ ?_
      refine wp_seq_k (fun K20 hK20 => ?_)
      refine wp_region_lit ?_
      refine l_q rfl rfl (q_moveB rfl) ?_
      refine l_nil ?_
      refine hK20 _ _ ?_
      refine c_cond rfl (fun hc21 => ?_) (fun hc21 => ?_)
      ·
        have hc21b := hc21
        try simp only [decide_eq_true_eq, decide_eq_false_iff_not, Bool.not_eq_true', Bool.not_eq_false', Bool.and_eq_true, Bool.or_eq_true, Int.not_lt, Int.not_le, ne_eq, Decidable.not_not] at hc21
        refine r_any (by kernel_rfl) hS6 (fun w22 hS22 => ?_)
        clear hS6
        refine o_pure (i := 0) (fun _ _ => trivial) rfl rfl (by kernel_rfl) (goes0 rfl) (QOk.inBlock (QOk.then QOk.body)) (fun w => q_moveS rfl) ?_
        refine o_pure (i := 1) (fun _ _ => trivial) rfl rfl (by kernel_rfl) (goes0 rfl) (QOk.inBlock (QOk.then QOk.body)) (fun w => q_ixG (e := 5) (m := 1) (j := 0) rfl rfl (by kernel_rfl) (by kernel_rfl) (by first | rfl | omega) (by omega) (bv_subD (by first | omega | (simp only [List.length_append, List.length_map, List.length_cons, List.length_nil, List.length_take, List.length_drop, List.length_set] <;> omega)) (SlG.sub (l := 1) (size := 1) (m := cb) (n := b.length - 1) hG (by first | omega | (simp only [List.length_append, List.length_map, List.length_cons, List.length_nil, List.length_take, List.length_drop, List.length_set] <;> omega)) (by decide))) (by rw [bv_len]; first | omega | (simp only [List.length_append, List.length_map, List.length_cons, List.length_nil, List.length_take, List.length_drop, List.length_set] <;> omega))) ?_
        obtain ⟨x23, hx23⟩ : ∃ x, ((b.drop 1))[0]? = some x := ⟨_, List.getElem?_eq_getElem (by first | omega | (simp only [List.length_append, List.length_map, List.length_cons, List.length_nil, List.length_take, List.length_drop, List.length_set] <;> omega) | (simp <;> omega))⟩
        have hb23 : x23 < 256 := (Bytes.drop hb) x23 (List.mem_of_getElem? hx23)
        refine o_held (i := 2) [3, 6, 7, 8] (fun _ _ => trivial) rfl rfl (by kernel_rfl) (goes0 rfl) (QOk.inBlock (QOk.then QOk.body)) (q_load1 rfl (by kernel_rfl) (SlG.cell ((bv_subD (by first | omega | (simp only [List.length_append, List.length_map, List.length_cons, List.length_nil, List.length_take, List.length_drop, List.length_set] <;> omega)) (SlG.sub (l := 1) (size := 1) (m := cb) (n := b.length - 1) hG (by first | omega | (simp only [List.length_append, List.length_map, List.length_cons, List.length_nil, List.length_take, List.length_drop, List.length_set] <;> omega)) (by decide))).mono (hg.trans hS22.base)) (Gle.refl _) (at1 (bv_at hx23)))) ?_
        refine o_pure (i := 3) (fun j w => ⟨(fun _ _ => trivial) j w, fun _ h => h⟩) rfl rfl (by kernel_rfl) (goes0 rfl) (QOk.inBlock (QOk.then QOk.body)) (fun w => q_convN (a := x23) rfl (by kernel_rfl) (by kernel_rfl) (wrap_fit_i64 (by omega))) ?_
        refine o_pure (i := 4) (fun j w => ⟨(fun _ _ => trivial) j w, fun _ h => h⟩) rfl rfl (by kernel_rfl) (goes0 rfl) (QOk.inBlock (QOk.then QOk.body)) (fun w => q_moveS rfl) ?_
        refine o_pure (i := 5) (fun j w => ⟨(fun _ _ => trivial) j w, fun _ h => h⟩) rfl rfl (by kernel_rfl) (goes0 rfl) (QOk.inBlock (QOk.then QOk.body)) (fun w => q_sliceX (e := 5) (size := 1) (l := 1) (h := (b.length - 1)) (m := (cb - 1)) (ad' := (subS (subS ab 1 1 cb) 1 1 (cb - 1))) (len' := ((b.length - 1) - 1)) (cap' := ((cb - 1) - 1)) rfl (by kernel_rfl) (by kernel_rfl) rfl rfl ⟨_, int_nat (by first | rfl | omega) rfl⟩ (by omega) (by first | omega | (simp only [List.length_append, List.length_map, List.length_cons, List.length_nil, List.length_take, List.length_drop, List.length_set] <;> omega)) (by first | omega | (simp only [List.length_append, List.length_map, List.length_cons, List.length_nil, List.length_take, List.length_drop, List.length_set] <;> omega)) rfl rfl rfl rfl) ?_
        refine o_pure (i := 6) (fun j w => ⟨(fun _ _ => trivial) j w, fun _ h => h⟩) rfl rfl (by kernel_rfl) (goes0 rfl) (QOk.inBlock (QOk.then QOk.body)) (fun w => q_fieldAddr (ft := 2) (o := 1) rfl (by kernel_rfl)) ?_
        refine o_eff (i := 7) (by kernel_rfl) rfl (goes0 rfl) (fun K hK => ?_)
        refine e_store1 hS22 rfl rfl (by kernel_rfl) (by first | rfl | assumption) (i := 0) rfl rfl (fun w24 (hS24 : St _ _ [.blk b5 (.cells #[.int .i64 ((x4 : Nat) : Int), .int .i64 ((x23 : Nat) : Int), .string (bs [])] 31), .blk b2 (.cells #[.int .i64 (0 : Int), .int .i64 (0 : Int), .string (bs [])] 31)] _) => ?_)
        clear hS22
        refine hK _ _ ⟨trivial, fun h => absurd h (by decide)⟩ ?_; clear hK K
        refine o_pure (i := 8) (fun j w => ⟨(fun _ _ => trivial) j w, fun _ h => h⟩) rfl rfl (by kernel_rfl) (goes0 rfl) (QOk.inBlock (QOk.then QOk.body)) (fun w => q_assignS rfl) ?_
        refine o_done (by kernel_rfl) ?_
        refine hK9 _ _ ?_
        refine wp_seq_k (fun K25 hK25 => ?_)
        refine r_any (by kernel_rfl) hS24 (fun w26 hS26 => ?_)
        clear hS24
        refine o_held (i := 0) [7, 8, 9] (fun _ _ => trivial) rfl rfl (by kernel_rfl) (goes0 rfl) (QOk.then QOk.body) (q_loadA (m := 3) rfl (by kernel_rfl) (by kernel_rfl) (hS26.blk (i := 0) rfl) rfl rfl) ?_
        refine o_pure (i := 1) (fun j w => ⟨(fun _ _ => trivial) j w, fun _ h => h⟩) rfl rfl (by kernel_rfl) (goes0 rfl) (QOk.then QOk.body) (fun w => q_moveS rfl) ?_
        refine o_pure (i := 2) (fun j w => ⟨(fun _ _ => trivial) j w, fun _ h => h⟩) rfl rfl (by kernel_rfl) (goes0 rfl) (QOk.then QOk.body) (fun w => q_moveB rfl) ?_
        refine o_pure (i := 3) (fun j w => ⟨(fun _ _ => trivial) j w, fun _ h => h⟩) rfl rfl (by kernel_rfl) (goes0 rfl) (QOk.then QOk.body) (fun w => q_moveB rfl) ?_
        refine o_held (i := 4) [5, 6, 7, 8, 9] (fun j w => ⟨(fun _ _ => trivial) j w, fun _ h => h⟩) rfl rfl (by kernel_rfl) (goes1 rfl rfl hc21b) (QOk.then QOk.body) (q_loadA (m := 3) rfl (by kernel_rfl) (by kernel_rfl) (hS26.blk (i := 0) rfl) rfl rfl) ?_
        refine o_eff (i := 5) (by kernel_rfl) rfl (goes1 rfl rfl hc21b) (fun K hK => ?_)
        refine e_call (by kernel_rfl) (right_ok (((x4 : Nat) : Int), ((x23 : Nat) : Int), []) Bytes.nil _) rfl (after_R hS26 (fun v27 w27 hv27 hS27 => ?_))
        clear hS26
        obtain rfl := hv27
        refine hK _ _ ⟨⟨trivial, fun _ _ => by first | exact q_loadA (m := 3) rfl (by kernel_rfl) (by kernel_rfl) (hS27.blk (i := 0) rfl) rfl rfl⟩, fun h => absurd h (by decide)⟩ ?_; clear hK K
        refine o_pure (i := 6) (fun j w => ⟨(fun j w => ⟨(fun _ _ => trivial) j w, fun _ h => h⟩) j w, fun _ h => h⟩) rfl rfl (by kernel_rfl) (goes0 rfl) (QOk.then QOk.body) (fun w => q_pickT rfl hc21b rfl) ?_
        refine o_eff (i := 7) (by kernel_rfl) rfl (goes0 rfl) (fun K hK => ?_)
        refine e_storeA hS27 rfl rfl (by kernel_rfl) (by repeat' (first | exact trivial | refine ⟨by first | rfl | assumption | exact one_if (by assumption), ?_⟩)) (i := 1) rfl rfl (fun w28 (hS28 : St _ _ [.blk b5 (.cells #[.int .i64 ((x4 : Nat) : Int), .int .i64 ((x23 : Nat) : Int), .string (bs [])] 31), .blk b2 (.cells #[.int .i64 ((x4 : Nat) : Int), .int .i64 ((x23 : Nat) : Int), .string (bs [])] 31)] _) => ?_)
        clear hS27
        refine hK _ _ ⟨⟨trivial, fun h => absurd h (by decide)⟩, fun h => absurd h (by decide)⟩ ?_; clear hK K
        refine o_pure (i := 8) (fun j w => ⟨(fun j w => ⟨(fun _ _ => trivial) j w, fun _ h => h⟩) j w, fun _ h => h⟩) rfl rfl (by kernel_rfl) (goes0 rfl) (QOk.then QOk.body) (fun w => q_assignS rfl) ?_
        refine o_pure (i := 9) (fun j w => ⟨(fun j w => ⟨(fun _ _ => trivial) j w, fun _ h => h⟩) j w, fun _ h => h⟩) rfl rfl (by kernel_rfl) (goes0 rfl) (QOk.then QOk.body) (fun w => q_assignB rfl) ?_
        refine o_done (by kernel_rfl) ?_
        refine hK25 _ _ ?_
        refine wp_ret ?_
        refine c_retCTT (m := 3) rfl (by kernel_rfl) (by kernel_rfl) rfl (hS28.blk (i := 1) rfl) rfl rfl rfl ?_
        exact ⟨_, rfl, TakeP.mk (a := (((x4 : Nat) : Int), ((x23 : Nat) : Int), [])) (vok_mk Bytes.nil ⟨by omega, by omega⟩ ⟨by omega, by omega⟩) (by first | rfl | simp only [List.length_drop] | (simp only [List.length_drop] <;> omega)) (Bytes.drop (Bytes.drop hb)) (by omega) (bv_subD (by first | omega | (simp only [List.length_append, List.length_map, List.length_cons, List.length_nil, List.length_take, List.length_drop, List.length_set] <;> omega)) (SlG.sub (l := 1) (size := 1) (m := (cb - 1)) (n := (b.length - 1) - 1) (bv_subD (by first | omega | (simp only [List.length_append, List.length_map, List.length_cons, List.length_nil, List.length_take, List.length_drop, List.length_set] <;> omega)) (SlG.sub (l := 1) (size := 1) (m := cb) (n := b.length - 1) hG (by first | omega | (simp only [List.length_append, List.length_map, List.length_cons, List.length_nil, List.length_take, List.length_drop, List.length_set] <;> omega)) (by decide))) (by first | omega | (simp only [List.length_append, List.length_map, List.length_cons, List.length_nil, List.length_take, List.length_drop, List.length_set] <;> omega)) (by decide))) (by first | exact tk1 hx4 (by omega) hx23 (by omega) | exact tk0 hx4 (by omega) | exact tk1n hx4 (by omega) (by omega) | exact tk2n hx4 (by omega) (by omega)), hS28.drop⟩
      ·
        have hc21b := hc21
        try simp only [decide_eq_true_eq, decide_eq_false_iff_not, Bool.not_eq_true', Bool.not_eq_false', Bool.and_eq_true, Bool.or_eq_true, Int.not_lt, Int.not_le, ne_eq, Decidable.not_not] at hc21
        refine wp_skip ?_
        refine hK9 _ _ ?_
        refine wp_seq_k (fun K29 hK29 => ?_)
        refine r_any (by kernel_rfl) hS6 (fun w30 hS30 => ?_)
        clear hS6
        refine o_held (i := 0) [7, 8, 9] (fun _ _ => trivial) rfl rfl (by kernel_rfl) (goes0 rfl) (QOk.then QOk.body) (q_loadA (m := 3) rfl (by kernel_rfl) (by kernel_rfl) (hS30.blk (i := 0) rfl) rfl rfl) ?_
        refine o_pure (i := 1) (fun j w => ⟨(fun _ _ => trivial) j w, fun _ h => h⟩) rfl rfl (by kernel_rfl) (goes0 rfl) (QOk.then QOk.body) (fun w => q_moveS rfl) ?_
        refine o_pure (i := 2) (fun j w => ⟨(fun _ _ => trivial) j w, fun _ h => h⟩) rfl rfl (by kernel_rfl) (goes0 rfl) (QOk.then QOk.body) (fun w => q_moveB rfl) ?_
        refine o_pure (i := 3) (fun j w => ⟨(fun _ _ => trivial) j w, fun _ h => h⟩) rfl rfl (by kernel_rfl) (goes0 rfl) (QOk.then QOk.body) (fun w => q_moveB rfl) ?_
        refine g_splitO (t := 73) rfl (fun hg31 => ?_) (fun hg31 => ?_)
        ·
          have hg31b := hg31
          try simp only [decide_eq_true_eq, decide_eq_false_iff_not, Bool.not_eq_true', Bool.not_eq_false', Bool.and_eq_true, Bool.or_eq_true, Int.not_lt, Int.not_le, ne_eq, Decidable.not_not] at hg31
          refine o_held (i := 4) [5, 6, 7, 8, 9] (fun j w => ⟨(fun _ _ => trivial) j w, fun _ h => h⟩) rfl rfl (by kernel_rfl) (goes1 rfl rfl hg31b) (QOk.then QOk.body) (q_loadA (m := 3) rfl (by kernel_rfl) (by kernel_rfl) (hS30.blk (i := 0) rfl) rfl rfl) ?_
          refine o_eff (i := 5) (by kernel_rfl) rfl (goes1 rfl rfl hg31b) (fun K hK => ?_)
          refine e_call (by kernel_rfl) (right_ok (((x4 : Nat) : Int), (0 : Int), []) Bytes.nil _) rfl (after_R hS30 (fun v32 w32 hv32 hS32 => ?_))
          clear hS30
          obtain rfl := hv32
          refine hK _ _ ⟨⟨trivial, fun _ _ => by first | exact q_loadA (m := 3) rfl (by kernel_rfl) (by kernel_rfl) (hS32.blk (i := 0) rfl) rfl rfl⟩, fun h => absurd h (by decide)⟩ ?_; clear hK K
          refine o_pure (i := 6) (fun j w => ⟨(fun j w => ⟨(fun _ _ => trivial) j w, fun _ h => h⟩) j w, fun _ h => h⟩) rfl rfl (by kernel_rfl) (goes0 rfl) (QOk.then QOk.body) (fun w => q_pickT rfl hg31b rfl) ?_
          refine o_eff (i := 7) (by kernel_rfl) rfl (goes0 rfl) (fun K hK => ?_)
          refine e_storeA hS32 rfl rfl (by kernel_rfl) (by repeat' (first | exact trivial | refine ⟨by first | rfl | assumption | exact one_if (by assumption), ?_⟩)) (i := 1) rfl rfl (fun w33 (hS33 : St _ _ [.blk b5 (.cells #[.int .i64 ((x4 : Nat) : Int), .int .i64 (0 : Int), .string (bs [])] 31), .blk b2 (.cells #[.int .i64 ((x4 : Nat) : Int), .int .i64 (0 : Int), .string (bs [])] 31)] _) => ?_)
          clear hS32
          refine hK _ _ ⟨⟨trivial, fun h => absurd h (by decide)⟩, fun h => absurd h (by decide)⟩ ?_; clear hK K
          refine o_pure (i := 8) (fun j w => ⟨(fun j w => ⟨(fun _ _ => trivial) j w, fun _ h => h⟩) j w, fun _ h => h⟩) rfl rfl (by kernel_rfl) (goes0 rfl) (QOk.then QOk.body) (fun w => q_assignS rfl) ?_
          refine o_pure (i := 9) (fun j w => ⟨(fun j w => ⟨(fun _ _ => trivial) j w, fun _ h => h⟩) j w, fun _ h => h⟩) rfl rfl (by kernel_rfl) (goes0 rfl) (QOk.then QOk.body) (fun w => q_assignB rfl) ?_
          refine o_done (by kernel_rfl) ?_
          refine hK29 _ _ ?_
          refine wp_ret ?_
          refine c_retCTT (m := 3) rfl (by kernel_rfl) (by kernel_rfl) rfl (hS33.blk (i := 1) rfl) rfl rfl rfl ?_
          exact ⟨_, rfl, TakeP.mk (a := (((x4 : Nat) : Int), (0 : Int), [])) (vok_mk Bytes.nil ⟨by omega, by omega⟩ ⟨by omega, by omega⟩) (by first | rfl | simp only [List.length_drop] | (simp only [List.length_drop] <;> omega)) (Bytes.drop hb) (by omega) (bv_subD (by first | omega | (simp only [List.length_append, List.length_map, List.length_cons, List.length_nil, List.length_take, List.length_drop, List.length_set] <;> omega)) (SlG.sub (l := 1) (size := 1) (m := cb) (n := b.length - 1) hG (by first | omega | (simp only [List.length_append, List.length_map, List.length_cons, List.length_nil, List.length_take, List.length_drop, List.length_set] <;> omega)) (by decide))) (by first | exact tk0 hx4 (by omega) | exact tk1n hx4 (by omega) (by omega) | exact tk2n hx4 (by omega) (by omega)), hS33.drop⟩
        ·
          have hg31b := hg31
          try simp only [decide_eq_true_eq, decide_eq_false_iff_not, Bool.not_eq_true', Bool.not_eq_false', Bool.and_eq_true, Bool.or_eq_true, Int.not_lt, Int.not_le, ne_eq, Decidable.not_not] at hg31
          refine o_off (i := 4) (fun j w => ⟨(fun _ _ => trivial) j w, fun _ h => h⟩) rfl rfl (by kernel_rfl) rfl rfl hg31b (QOk.then QOk.body) ?_
          refine o_off (i := 5) (fun j w => ⟨(fun _ _ => trivial) j w, fun _ h => h⟩) rfl rfl (by kernel_rfl) rfl rfl hg31b (QOk.then QOk.body) ?_
          refine o_pure (i := 6) (fun j w => ⟨(fun _ _ => trivial) j w, fun _ h => h⟩) rfl rfl (by kernel_rfl) (goes0 rfl) (QOk.then QOk.body) (fun w => q_pickF rfl hg31b rfl) ?_
          refine o_eff (i := 7) (by kernel_rfl) rfl (goes0 rfl) (fun K hK => ?_)
          refine e_storeA hS30 rfl rfl (by kernel_rfl) (by repeat' (first | exact trivial | refine ⟨by first | rfl | assumption | exact one_if (by assumption), ?_⟩)) (i := 1) rfl rfl (fun w34 (hS34 : St _ _ [.blk b5 (.cells #[.int .i64 ((x4 : Nat) : Int), .int .i64 (0 : Int), .string (bs [])] 31), .blk b2 (.cells #[.int .i64 ((x4 : Nat) : Int), .int .i64 (0 : Int), .string (bs [])] 31)] _) => ?_)
          clear hS30
          refine hK _ _ ⟨trivial, fun h => absurd h (by decide)⟩ ?_; clear hK K
          refine o_pure (i := 8) (fun j w => ⟨(fun _ _ => trivial) j w, fun _ h => h⟩) rfl rfl (by kernel_rfl) (goes0 rfl) (QOk.then QOk.body) (fun w => q_assignS rfl) ?_
          refine o_pure (i := 9) (fun j w => ⟨(fun _ _ => trivial) j w, fun _ h => h⟩) rfl rfl (by kernel_rfl) (goes0 rfl) (QOk.then QOk.body) (fun w => q_assignB rfl) ?_
          refine o_done (by kernel_rfl) ?_
          refine hK29 _ _ ?_
          refine wp_ret ?_
          refine c_retCTT (m := 3) rfl (by kernel_rfl) (by kernel_rfl) rfl (hS34.blk (i := 1) rfl) rfl rfl rfl ?_
          exact ⟨_, rfl, TakeP.mk (a := (((x4 : Nat) : Int), (0 : Int), [])) (vok_mk Bytes.nil ⟨by omega, by omega⟩ ⟨by omega, by omega⟩) (by first | rfl | simp only [List.length_drop] | (simp only [List.length_drop] <;> omega)) (Bytes.drop hb) (by omega) (bv_subD (by first | omega | (simp only [List.length_append, List.length_map, List.length_cons, List.length_nil, List.length_take, List.length_drop, List.length_set] <;> omega)) (SlG.sub (l := 1) (size := 1) (m := cb) (n := b.length - 1) hG (by first | omega | (simp only [List.length_append, List.length_map, List.length_cons, List.length_nil, List.length_take, List.length_drop, List.length_set] <;> omega)) (by decide))) (by first | exact tk0 hx4 (by omega) | exact tk1n hx4 (by omega) (by omega) | exact tk2n hx4 (by omega) (by omega)), hS34.drop⟩
    ·
      have hc18b := hc18
      try simp only [decide_eq_true_eq, decide_eq_false_iff_not, Bool.not_eq_true', Bool.not_eq_false', Bool.and_eq_true, Bool.or_eq_true, Int.not_lt, Int.not_le, ne_eq, Decidable.not_not] at hc18
      refine wp_seq_k (fun K35 hK35 => ?_)
      refine wp_seq_k (fun K36 hK36 => ?_)
      refine wp_region_lit ?_
      refine l_q rfl rfl (q_eql rfl rfl) ?_
      refine l_q rfl rfl (q_assignB rfl) ?_
      refine l_nil ?_
      refine hK36 _ _ ?_
      refine c_cond rfl (fun hc37 => ?_) (fun hc37 => ?_)
      ·
        have hc37b := hc37
        try simp only [decide_eq_true_eq, decide_eq_false_iff_not, Bool.not_eq_true', Bool.not_eq_false', Bool.and_eq_true, Bool.or_eq_true, Int.not_lt, Int.not_le, ne_eq, Decidable.not_not] at hc37
        refine wp_skip ?_
        refine hK35 _ _ ?_
        refine c_condT rfl hc37b ?_
        refine wp_seq_k (fun K39 hK39 => ?_)
        refine wp_region_lit ?_
        refine l_q rfl rfl (q_moveS rfl) ?_
        refine l_q rfl rfl (q_lenSl (e := 5) rfl (by kernel_rfl)) ?_
        refine l_q rfl rfl (q_geq rfl rfl) ?_
        refine l_q rfl rfl (q_assignB rfl) ?_
        refine l_nil ?_
        refine hK39 _ _ ?_
        refine wp_seq_k (fun K40 hK40 => ?_)
        refine wp_region_lit ?_
        refine l_q rfl rfl (q_moveB rfl) ?_
        refine l_nil ?_
        refine hK40 _ _ ?_
        refine c_cond rfl (fun hc41 => ?_) (fun hc41 => ?_)
        ·
          have hc41b := hc41
          try simp only [decide_eq_true_eq, decide_eq_false_iff_not, Bool.not_eq_true', Bool.not_eq_false', Bool.and_eq_true, Bool.or_eq_true, Int.not_lt, Int.not_le, ne_eq, Decidable.not_not] at hc41
          refine wp_seq_k (fun K42 hK42 => ?_)
          refine wp_region_lit ?_
          refine l_q rfl rfl (q_assignI rfl) ?_
          refine l_nil ?_
          refine hK42 _ _ ?_
          refine wp_seq_k (fun K43 hK43 => ?_)
          refine wp_seq_k (fun K44 hK44 => ?_)
          refine wp_region_lit ?_
          refine l_q rfl rfl (q_moveS rfl) ?_
          refine l_q rfl rfl (q_sliceX (e := 5) (size := 1) (l := 0) (h := 8) (m := (cb - 1)) (ad' := (subS ab 1 1 cb)) (len' := 8) (cap' := (cb - 1)) rfl (by kernel_rfl) (by kernel_rfl) rfl ⟨_, int_nat (by first | rfl | omega) rfl⟩ rfl (by omega) (by first | omega | (simp only [List.length_append, List.length_map, List.length_cons, List.length_nil, List.length_take, List.length_drop, List.length_set] <;> omega)) (by first | omega | (simp only [List.length_append, List.length_map, List.length_cons, List.length_nil, List.length_take, List.length_drop, List.length_set] <;> omega)) rfl subS_zero (Nat.sub_zero _) (Nat.sub_zero _)) ?_
          refine l_q rfl rfl (q_lenSl (e := 5) rfl (by kernel_rfl)) ?_
          refine l_q rfl rfl (q_moveI rfl) ?_
          refine l_nil ?_
          refine hK44 _ _ ?_
          refine wp_block ?_
          refine c_loop (τ := Nat) [(7, 7), (9, 9), (44, 53)] (fun x => (fun (i : Nat) => [(7, .int .u64 (((f8 (((b.drop 1).take 8).take i)) : Nat) : Int)), (44, .int .i64 ((i : Nat) : Int))]) x) (fun x w' => (fun (i : Nat) => St w (fun _ => False) [.blk b5 (.cells #[.int .i64 ((x4 : Nat) : Int), .int .i64 (0 : Int), .string (bs [])] 31), .blk b2 (.cells #[.int .i64 (0 : Int), .int .i64 (0 : Int), .string (bs [])] 31)] w' ∧ i ≤ 8) x) (fun x => (fun (i : Nat) => 8 - i) x) (0) ?_ (by refine ⟨by show _ = Value.int .u64 ((f8 [] : Nat) : Int); unfold f8; rfl, ⟨rfl, trivial⟩⟩) (fun i j45 w45 hJ45 K45 hK45 => ?_)
          ·
            exact ⟨hS6, Nat.zero_le _⟩
          ·
            obtain ⟨hS45, hi⟩ := hJ45
            try dsimp only at hS45 hi ⊢
            have h8l : ((b.drop 1).take 8).length = 8 := by rw [List.length_take, List.length_drop]; omega
            have hf7 := f8_lt 8 (((b.drop 1).take 8).take i) hb.drop.take.take (by rw [List.length_take, List.length_take]; omega)
            have h2568 : (256 : Nat) ^ 8 = 18446744073709551616 := by decide
            refine wp_seq_k (fun K46 hK46 => ?_)
            refine wp_region_lit ?_
            refine l_q rfl rfl (q_lss rfl rfl) ?_
            refine l_nil ?_
            refine hK46 _ _ ?_
            refine wp_seq_k (fun K47 hK47 => ?_)
            refine c_cond rfl (fun hc48 => ?_) (fun hc48 => ?_)
            ·
              have hc48b := hc48
              try simp only [decide_eq_true_eq, decide_eq_false_iff_not, Bool.not_eq_true', Bool.not_eq_false', Bool.and_eq_true, Bool.or_eq_true, Int.not_lt, Int.not_le, ne_eq, Decidable.not_not] at hc48
              refine wp_skip ?_
              refine hK47 _ _ ?_
              refine wp_seq_k (fun K49 hK49 => ?_)
              refine wp_block ?_
              refine wp_seq_k (fun K50 hK50 => ?_)
              refine wp_region_lit ?_
              refine l_q rfl rfl (q_ixG (e := 5) (m := 1) (j := i) rfl rfl (by kernel_rfl) (by kernel_rfl) (by first | rfl | omega) (by omega) (bv_takeG (n := 8) (bv_subD (by first | omega | (simp only [List.length_append, List.length_map, List.length_cons, List.length_nil, List.length_take, List.length_drop, List.length_set] <;> omega)) (SlG.sub (l := 1) (size := 1) (m := cb) (n := b.length - 1) hG (by first | omega | (simp only [List.length_append, List.length_map, List.length_cons, List.length_nil, List.length_take, List.length_drop, List.length_set] <;> omega)) (by decide)))) (by rw [bv_len]; first | omega | (simp only [List.length_append, List.length_map, List.length_cons, List.length_nil, List.length_take, List.length_drop, List.length_set] <;> omega))) ?_
              obtain ⟨x51, hx51⟩ : ∃ x, (((b.drop 1).take 8))[i]? = some x := ⟨_, List.getElem?_eq_getElem (by first | omega | (simp only [List.length_append, List.length_map, List.length_cons, List.length_nil, List.length_take, List.length_drop, List.length_set] <;> omega) | (simp <;> omega))⟩
              have hb51 : x51 < 256 := (Bytes.take (Bytes.drop hb)) x51 (List.mem_of_getElem? hx51)
              refine l_q rfl rfl (q_load1 rfl (by kernel_rfl) (SlG.cell ((bv_takeG (n := 8) (bv_subD (by first | omega | (simp only [List.length_append, List.length_map, List.length_cons, List.length_nil, List.length_take, List.length_drop, List.length_set] <;> omega)) (SlG.sub (l := 1) (size := 1) (m := cb) (n := b.length - 1) hG (by first | omega | (simp only [List.length_append, List.length_map, List.length_cons, List.length_nil, List.length_take, List.length_drop, List.length_set] <;> omega)) (by decide)))).mono (hg.trans hS45.base)) (Gle.refl _) (at1 (bv_at hx51)))) ?_
              refine l_q rfl rfl (q_assignI rfl) ?_
              refine l_nil ?_
              refine hK50 _ _ ?_
              refine wp_region_lit ?_
              refine l_q rfl rfl (q_moveI rfl) ?_
              refine l_q rfl rfl (u_shl (a := (f8 (((b.drop 1).take 8).take i))) (b := 8) (M := 18446744073709551616) rfl rfl rfl (by decide) (by decide)) ?_
              refine l_q rfl rfl (q_moveI rfl) ?_
              refine l_q rfl rfl (q_convN (a := x51) rfl (by kernel_rfl) (by kernel_rfl) (wrap_fit_u64 (by omega))) ?_
              refine l_q rfl rfl (q_orN (a := ((f8 (((b.drop 1).take 8).take i)) * 2 ^ 8 % 18446744073709551616)) (b := x51) rfl rfl rfl (by first | (show _ < 18446744073709551616; omega) | omega) (by first | (show _ < 18446744073709551616; omega) | omega)) ?_
              refine l_q rfl rfl (q_assignI rfl) ?_
              refine l_nil ?_
              refine hK49 _ _ ?_
              refine wp_region_lit ?_
              refine l_q rfl rfl (q_addx rfl rfl (by first | decide | omega) (by first | decide | omega)) ?_
              refine l_q rfl rfl (q_moveI rfl) ?_
              refine l_nil ?_
              refine hK45 _ _ (came ((i + 1)) (by repeat' (first | exact Agree.refl _ _ | refine Agree.up ?_ rfl | refine Agree.hav2 ?_ rfl | refine Agree.ups2 ?_ rfl)) (by repeat' (first | exact trivial | refine ⟨by first | exact congrArg (fun n : Nat => Value.int .u64 (n : Int)) (f8_step hb.drop.take hx51 (by omega)) | exact int_succ _ | rfl, ?_⟩)) ?_)
              exact ⟨⟨hS45, (by show i + 1 ≤ 8; omega)⟩, by (show 8 - (i + 1) < 8 - i); omega⟩
            ·
              have hc48b := hc48
              try simp only [decide_eq_true_eq, decide_eq_false_iff_not, Bool.not_eq_true', Bool.not_eq_false', Bool.and_eq_true, Bool.or_eq_true, Int.not_lt, Int.not_le, ne_eq, Decidable.not_not] at hc48
              refine wp_exit ?_
              refine hK43 _ _ ?_
              refine r_any (by kernel_rfl) hS45 (fun w52 hS52 => ?_)
              clear hS45
              refine o_pure (i := 0) (fun _ _ => trivial) rfl rfl (by kernel_rfl) (goes0 rfl) (QOk.inBlock (QOk.then QOk.body)) (fun w => q_moveI rfl) ?_
              refine o_pure (i := 1) (fun _ _ => trivial) rfl rfl (by kernel_rfl) (goes0 rfl) (QOk.inBlock (QOk.then QOk.body)) (fun w => q_sub rfl rfl) ?_
              refine o_pure (i := 2) (fun _ _ => trivial) rfl rfl (by kernel_rfl) (goes0 rfl) (QOk.inBlock (QOk.then QOk.body)) (fun w => q_conv (k' := .i64) rfl (by kernel_rfl) rfl) ?_
              refine o_pure (i := 3) (fun _ _ => trivial) rfl rfl (by kernel_rfl) (goes0 rfl) (QOk.inBlock (QOk.then QOk.body)) (fun w => q_moveS rfl) ?_
              refine o_pure (i := 4) (fun _ _ => trivial) rfl rfl (by kernel_rfl) (goes0 rfl) (QOk.inBlock (QOk.then QOk.body)) (fun w => q_sliceX (e := 5) (size := 1) (l := 8) (h := (b.length - 1)) (m := (cb - 1)) (ad' := (subS (subS ab 1 1 cb) 8 1 (cb - 1))) (len' := ((b.length - 1) - 8)) (cap' := ((cb - 1) - 8)) rfl (by kernel_rfl) (by kernel_rfl) rfl rfl ⟨_, int_nat (by first | rfl | omega) rfl⟩ (by omega) (by first | omega | (simp only [List.length_append, List.length_map, List.length_cons, List.length_nil, List.length_take, List.length_drop, List.length_set] <;> omega)) (by first | omega | (simp only [List.length_append, List.length_map, List.length_cons, List.length_nil, List.length_take, List.length_drop, List.length_set] <;> omega)) rfl rfl rfl rfl) ?_
              refine o_pure (i := 5) (fun _ _ => trivial) rfl rfl (by kernel_rfl) (goes0 rfl) (QOk.inBlock (QOk.then QOk.body)) (fun w => q_fieldAddr (ft := 2) (o := 1) rfl (by kernel_rfl)) ?_
              refine o_eff (i := 6) (by kernel_rfl) rfl (goes0 rfl) (fun K hK => ?_)
              refine e_store1 hS52 rfl rfl (by kernel_rfl) (by first | rfl | assumption) (i := 0) rfl rfl (fun w53 (hS53 : St _ _ [.blk b5 (.cells #[.int .i64 ((x4 : Nat) : Int), .int .i64 (IntKind.i64.wrap (IntKind.u64.wrap ((((f8 (((b.drop 1).take 8).take i)) : Nat) : Int) - (9223372036854775808 : Int)))), .string (bs [])] 31), .blk b2 (.cells #[.int .i64 (0 : Int), .int .i64 (0 : Int), .string (bs [])] 31)] _) => ?_)
              clear hS52
              refine hK _ _ trivial ?_; clear hK K
              refine o_pure (i := 7) (fun _ _ => trivial) rfl rfl (by kernel_rfl) (goes0 rfl) (QOk.inBlock (QOk.then QOk.body)) (fun w => q_assignS rfl) ?_
              refine o_done (by kernel_rfl) ?_
              refine hK9 _ _ ?_
              refine wp_seq_k (fun K54 hK54 => ?_)
              refine r_any (by kernel_rfl) hS53 (fun w55 hS55 => ?_)
              clear hS53
              refine o_held (i := 0) [7, 8, 9] (fun _ _ => trivial) rfl rfl (by kernel_rfl) (goes0 rfl) (QOk.then QOk.body) (q_loadA (m := 3) rfl (by kernel_rfl) (by kernel_rfl) (hS55.blk (i := 0) rfl) rfl rfl) ?_
              refine o_pure (i := 1) (fun j w => ⟨(fun _ _ => trivial) j w, fun _ h => h⟩) rfl rfl (by kernel_rfl) (goes0 rfl) (QOk.then QOk.body) (fun w => q_moveS rfl) ?_
              refine o_pure (i := 2) (fun j w => ⟨(fun _ _ => trivial) j w, fun _ h => h⟩) rfl rfl (by kernel_rfl) (goes0 rfl) (QOk.then QOk.body) (fun w => q_moveB rfl) ?_
              refine o_pure (i := 3) (fun j w => ⟨(fun _ _ => trivial) j w, fun _ h => h⟩) rfl rfl (by kernel_rfl) (goes0 rfl) (QOk.then QOk.body) (fun w => q_moveB rfl) ?_
              refine o_held (i := 4) [5, 6, 7, 8, 9] (fun j w => ⟨(fun _ _ => trivial) j w, fun _ h => h⟩) rfl rfl (by kernel_rfl) (goes1 rfl rfl hc41b) (QOk.then QOk.body) (q_loadA (m := 3) rfl (by kernel_rfl) (by kernel_rfl) (hS55.blk (i := 0) rfl) rfl rfl) ?_
              refine o_eff (i := 5) (by kernel_rfl) rfl (goes1 rfl rfl hc41b) (fun K hK => ?_)
              refine e_call (by kernel_rfl) (right_ok (((x4 : Nat) : Int), (IntKind.i64.wrap (IntKind.u64.wrap ((((f8 (((b.drop 1).take 8).take i)) : Nat) : Int) - (9223372036854775808 : Int)))), []) Bytes.nil _) rfl (after_R hS55 (fun v56 w56 hv56 hS56 => ?_))
              clear hS55
              obtain rfl := hv56
              refine hK _ _ ⟨⟨trivial, fun _ _ => by first | exact q_loadA (m := 3) rfl (by kernel_rfl) (by kernel_rfl) (hS56.blk (i := 0) rfl) rfl rfl⟩, fun h => absurd h (by decide)⟩ ?_; clear hK K
              refine o_pure (i := 6) (fun j w => ⟨(fun j w => ⟨(fun _ _ => trivial) j w, fun _ h => h⟩) j w, fun _ h => h⟩) rfl rfl (by kernel_rfl) (goes0 rfl) (QOk.then QOk.body) (fun w => q_pickT rfl hc41b rfl) ?_
              refine o_eff (i := 7) (by kernel_rfl) rfl (goes0 rfl) (fun K hK => ?_)
              refine e_storeA hS56 rfl rfl (by kernel_rfl) (by repeat' (first | exact trivial | refine ⟨by first | rfl | assumption | exact one_if (by assumption), ?_⟩)) (i := 1) rfl rfl (fun w57 (hS57 : St _ _ [.blk b5 (.cells #[.int .i64 ((x4 : Nat) : Int), .int .i64 (IntKind.i64.wrap (IntKind.u64.wrap ((((f8 (((b.drop 1).take 8).take i)) : Nat) : Int) - (9223372036854775808 : Int)))), .string (bs [])] 31), .blk b2 (.cells #[.int .i64 ((x4 : Nat) : Int), .int .i64 (IntKind.i64.wrap (IntKind.u64.wrap ((((f8 (((b.drop 1).take 8).take i)) : Nat) : Int) - (9223372036854775808 : Int)))), .string (bs [])] 31)] _) => ?_)
              clear hS56
              refine hK _ _ ⟨⟨trivial, fun h => absurd h (by decide)⟩, fun h => absurd h (by decide)⟩ ?_; clear hK K
              refine o_pure (i := 8) (fun j w => ⟨(fun j w => ⟨(fun _ _ => trivial) j w, fun _ h => h⟩) j w, fun _ h => h⟩) rfl rfl (by kernel_rfl) (goes0 rfl) (QOk.then QOk.body) (fun w => q_assignS rfl) ?_
              refine o_pure (i := 9) (fun j w => ⟨(fun j w => ⟨(fun _ _ => trivial) j w, fun _ h => h⟩) j w, fun _ h => h⟩) rfl rfl (by kernel_rfl) (goes0 rfl) (QOk.then QOk.body) (fun w => q_assignB rfl) ?_
              refine o_done (by kernel_rfl) ?_
              refine hK54 _ _ ?_
              refine wp_ret ?_
              refine c_retCTT (m := 3) rfl (by kernel_rfl) (by kernel_rfl) rfl (hS57.blk (i := 1) rfl) rfl rfl rfl ?_
              have h8l : ((b.drop 1).take 8).length = 8 := by rw [List.length_take, List.length_drop]; omega
              have hti : ((b.drop 1).take 8).take i = ((b.drop 1).take 8) := List.take_of_length_le (by omega)
              have hz : (IntKind.i64.wrap (IntKind.u64.wrap ((((f8 (((b.drop 1).take 8).take i)) : Nat) : Int) - (9223372036854775808 : Int)))) = (f8 ((b.drop 1).take 8) : Int) - 9223372036854775808 := by rw [hti]; exact topZ (be8_f8 hb.drop.take h8l).2
              have h2 := tk2 hb hx4 (by omega) (by rw [List.length_drop]; omega) hz
              exact ⟨_, rfl, TakeP.mk (a := (((x4 : Nat) : Int), (IntKind.i64.wrap (IntKind.u64.wrap ((((f8 (((b.drop 1).take 8).take i)) : Nat) : Int) - (9223372036854775808 : Int)))), [])) (vok_mk Bytes.nil ⟨by omega, by omega⟩ h2.2) (by first | rfl | simp only [List.length_drop] | (simp only [List.length_drop] <;> omega)) (Bytes.drop (Bytes.drop hb)) (by omega) (bv_subD (by first | omega | (simp only [List.length_append, List.length_map, List.length_cons, List.length_nil, List.length_take, List.length_drop, List.length_set] <;> omega)) (SlG.sub (l := 8) (size := 1) (m := (cb - 1)) (n := (b.length - 1) - 8) (bv_subD (by first | omega | (simp only [List.length_append, List.length_map, List.length_cons, List.length_nil, List.length_take, List.length_drop, List.length_set] <;> omega)) (SlG.sub (l := 1) (size := 1) (m := cb) (n := b.length - 1) hG (by first | omega | (simp only [List.length_append, List.length_map, List.length_cons, List.length_nil, List.length_take, List.length_drop, List.length_set] <;> omega)) (by decide))) (by first | omega | (simp only [List.length_append, List.length_map, List.length_cons, List.length_nil, List.length_take, List.length_drop, List.length_set] <;> omega)) (by decide))) (by first | exact h2.1), hS57.drop⟩
        ·
          have hc41b := hc41
          try simp only [decide_eq_true_eq, decide_eq_false_iff_not, Bool.not_eq_true', Bool.not_eq_false', Bool.and_eq_true, Bool.or_eq_true, Int.not_lt, Int.not_le, ne_eq, Decidable.not_not] at hc41
          refine wp_skip ?_
          refine hK9 _ _ ?_
          refine wp_seq_k (fun K58 hK58 => ?_)
          refine r_any (by kernel_rfl) hS6 (fun w59 hS59 => ?_)
          clear hS6
          refine o_held (i := 0) [7, 8, 9] (fun _ _ => trivial) rfl rfl (by kernel_rfl) (goes0 rfl) (QOk.then QOk.body) (q_loadA (m := 3) rfl (by kernel_rfl) (by kernel_rfl) (hS59.blk (i := 0) rfl) rfl rfl) ?_
          refine o_pure (i := 1) (fun j w => ⟨(fun _ _ => trivial) j w, fun _ h => h⟩) rfl rfl (by kernel_rfl) (goes0 rfl) (QOk.then QOk.body) (fun w => q_moveS rfl) ?_
          refine o_pure (i := 2) (fun j w => ⟨(fun _ _ => trivial) j w, fun _ h => h⟩) rfl rfl (by kernel_rfl) (goes0 rfl) (QOk.then QOk.body) (fun w => q_moveB rfl) ?_
          refine o_pure (i := 3) (fun j w => ⟨(fun _ _ => trivial) j w, fun _ h => h⟩) rfl rfl (by kernel_rfl) (goes0 rfl) (QOk.then QOk.body) (fun w => q_moveB rfl) ?_
          refine g_splitO (t := 73) rfl (fun hg60 => ?_) (fun hg60 => ?_)
          ·
            have hg60b := hg60
            try simp only [decide_eq_true_eq, decide_eq_false_iff_not, Bool.not_eq_true', Bool.not_eq_false', Bool.and_eq_true, Bool.or_eq_true, Int.not_lt, Int.not_le, ne_eq, Decidable.not_not] at hg60
            refine o_held (i := 4) [5, 6, 7, 8, 9] (fun j w => ⟨(fun _ _ => trivial) j w, fun _ h => h⟩) rfl rfl (by kernel_rfl) (goes1 rfl rfl hg60b) (QOk.then QOk.body) (q_loadA (m := 3) rfl (by kernel_rfl) (by kernel_rfl) (hS59.blk (i := 0) rfl) rfl rfl) ?_
            refine o_eff (i := 5) (by kernel_rfl) rfl (goes1 rfl rfl hg60b) (fun K hK => ?_)
            refine e_call (by kernel_rfl) (right_ok (((x4 : Nat) : Int), (0 : Int), []) Bytes.nil _) rfl (after_R hS59 (fun v61 w61 hv61 hS61 => ?_))
            clear hS59
            obtain rfl := hv61
            refine hK _ _ ⟨⟨trivial, fun _ _ => by first | exact q_loadA (m := 3) rfl (by kernel_rfl) (by kernel_rfl) (hS61.blk (i := 0) rfl) rfl rfl⟩, fun h => absurd h (by decide)⟩ ?_; clear hK K
            refine o_pure (i := 6) (fun j w => ⟨(fun j w => ⟨(fun _ _ => trivial) j w, fun _ h => h⟩) j w, fun _ h => h⟩) rfl rfl (by kernel_rfl) (goes0 rfl) (QOk.then QOk.body) (fun w => q_pickT rfl hg60b rfl) ?_
            refine o_eff (i := 7) (by kernel_rfl) rfl (goes0 rfl) (fun K hK => ?_)
            refine e_storeA hS61 rfl rfl (by kernel_rfl) (by repeat' (first | exact trivial | refine ⟨by first | rfl | assumption | exact one_if (by assumption), ?_⟩)) (i := 1) rfl rfl (fun w62 (hS62 : St _ _ [.blk b5 (.cells #[.int .i64 ((x4 : Nat) : Int), .int .i64 (0 : Int), .string (bs [])] 31), .blk b2 (.cells #[.int .i64 ((x4 : Nat) : Int), .int .i64 (0 : Int), .string (bs [])] 31)] _) => ?_)
            clear hS61
            refine hK _ _ ⟨⟨trivial, fun h => absurd h (by decide)⟩, fun h => absurd h (by decide)⟩ ?_; clear hK K
            refine o_pure (i := 8) (fun j w => ⟨(fun j w => ⟨(fun _ _ => trivial) j w, fun _ h => h⟩) j w, fun _ h => h⟩) rfl rfl (by kernel_rfl) (goes0 rfl) (QOk.then QOk.body) (fun w => q_assignS rfl) ?_
            refine o_pure (i := 9) (fun j w => ⟨(fun j w => ⟨(fun _ _ => trivial) j w, fun _ h => h⟩) j w, fun _ h => h⟩) rfl rfl (by kernel_rfl) (goes0 rfl) (QOk.then QOk.body) (fun w => q_assignB rfl) ?_
            refine o_done (by kernel_rfl) ?_
            refine hK58 _ _ ?_
            refine wp_ret ?_
            refine c_retCTT (m := 3) rfl (by kernel_rfl) (by kernel_rfl) rfl (hS62.blk (i := 1) rfl) rfl rfl rfl ?_
            exact ⟨_, rfl, TakeP.mk (a := (((x4 : Nat) : Int), (0 : Int), [])) (vok_mk Bytes.nil ⟨by omega, by omega⟩ ⟨by omega, by omega⟩) (by first | rfl | simp only [List.length_drop] | (simp only [List.length_drop] <;> omega)) (Bytes.drop hb) (by omega) (bv_subD (by first | omega | (simp only [List.length_append, List.length_map, List.length_cons, List.length_nil, List.length_take, List.length_drop, List.length_set] <;> omega)) (SlG.sub (l := 1) (size := 1) (m := cb) (n := b.length - 1) hG (by first | omega | (simp only [List.length_append, List.length_map, List.length_cons, List.length_nil, List.length_take, List.length_drop, List.length_set] <;> omega)) (by decide))) (by first | exact tk0 hx4 (by omega) | exact tk1n hx4 (by omega) (by omega) | exact tk2n hx4 (by omega) (by omega)), hS62.drop⟩
          ·
            have hg60b := hg60
            try simp only [decide_eq_true_eq, decide_eq_false_iff_not, Bool.not_eq_true', Bool.not_eq_false', Bool.and_eq_true, Bool.or_eq_true, Int.not_lt, Int.not_le, ne_eq, Decidable.not_not] at hg60
            refine o_off (i := 4) (fun j w => ⟨(fun _ _ => trivial) j w, fun _ h => h⟩) rfl rfl (by kernel_rfl) rfl rfl hg60b (QOk.then QOk.body) ?_
            refine o_off (i := 5) (fun j w => ⟨(fun _ _ => trivial) j w, fun _ h => h⟩) rfl rfl (by kernel_rfl) rfl rfl hg60b (QOk.then QOk.body) ?_
            refine o_pure (i := 6) (fun j w => ⟨(fun _ _ => trivial) j w, fun _ h => h⟩) rfl rfl (by kernel_rfl) (goes0 rfl) (QOk.then QOk.body) (fun w => q_pickF rfl hg60b rfl) ?_
            refine o_eff (i := 7) (by kernel_rfl) rfl (goes0 rfl) (fun K hK => ?_)
            refine e_storeA hS59 rfl rfl (by kernel_rfl) (by repeat' (first | exact trivial | refine ⟨by first | rfl | assumption | exact one_if (by assumption), ?_⟩)) (i := 1) rfl rfl (fun w63 (hS63 : St _ _ [.blk b5 (.cells #[.int .i64 ((x4 : Nat) : Int), .int .i64 (0 : Int), .string (bs [])] 31), .blk b2 (.cells #[.int .i64 ((x4 : Nat) : Int), .int .i64 (0 : Int), .string (bs [])] 31)] _) => ?_)
            clear hS59
            refine hK _ _ ⟨trivial, fun h => absurd h (by decide)⟩ ?_; clear hK K
            refine o_pure (i := 8) (fun j w => ⟨(fun _ _ => trivial) j w, fun _ h => h⟩) rfl rfl (by kernel_rfl) (goes0 rfl) (QOk.then QOk.body) (fun w => q_assignS rfl) ?_
            refine o_pure (i := 9) (fun j w => ⟨(fun _ _ => trivial) j w, fun _ h => h⟩) rfl rfl (by kernel_rfl) (goes0 rfl) (QOk.then QOk.body) (fun w => q_assignB rfl) ?_
            refine o_done (by kernel_rfl) ?_
            refine hK58 _ _ ?_
            refine wp_ret ?_
            refine c_retCTT (m := 3) rfl (by kernel_rfl) (by kernel_rfl) rfl (hS63.blk (i := 1) rfl) rfl rfl rfl ?_
            exact ⟨_, rfl, TakeP.mk (a := (((x4 : Nat) : Int), (0 : Int), [])) (vok_mk Bytes.nil ⟨by omega, by omega⟩ ⟨by omega, by omega⟩) (by first | rfl | simp only [List.length_drop] | (simp only [List.length_drop] <;> omega)) (Bytes.drop hb) (by omega) (bv_subD (by first | omega | (simp only [List.length_append, List.length_map, List.length_cons, List.length_nil, List.length_take, List.length_drop, List.length_set] <;> omega)) (SlG.sub (l := 1) (size := 1) (m := cb) (n := b.length - 1) hG (by first | omega | (simp only [List.length_append, List.length_map, List.length_cons, List.length_nil, List.length_take, List.length_drop, List.length_set] <;> omega)) (by decide))) (by first | exact tk0 hx4 (by omega) | exact tk1n hx4 (by omega) (by omega) | exact tk2n hx4 (by omega) (by omega)), hS63.drop⟩
      ·
        have hc37b := hc37
        try simp only [decide_eq_true_eq, decide_eq_false_iff_not, Bool.not_eq_true', Bool.not_eq_false', Bool.and_eq_true, Bool.or_eq_true, Int.not_lt, Int.not_le, ne_eq, Decidable.not_not] at hc37
        refine wp_region_lit ?_
        refine l_q rfl rfl (q_eql rfl rfl) ?_
        refine l_q rfl rfl (q_assignB rfl) ?_
        refine l_nil ?_
        refine hK35 _ _ ?_
        refine c_cond rfl (fun hc64 => ?_) (fun hc64 => ?_)
        ·
          have hc64b := hc64
          try simp only [decide_eq_true_eq, decide_eq_false_iff_not, Bool.not_eq_true', Bool.not_eq_false', Bool.and_eq_true, Bool.or_eq_true, Int.not_lt, Int.not_le, ne_eq, Decidable.not_not] at hc64
          refine wp_seq_k (fun K65 hK65 => ?_)
          refine wp_region_lit ?_
          refine l_q rfl rfl (q_moveS rfl) ?_
          refine l_q rfl rfl (q_lenSl (e := 5) rfl (by kernel_rfl)) ?_
          refine l_q rfl rfl (q_geq rfl rfl) ?_
          refine l_q rfl rfl (q_assignB rfl) ?_
          refine l_nil ?_
          refine hK65 _ _ ?_
          refine wp_seq_k (fun K66 hK66 => ?_)
          refine wp_region_lit ?_
          refine l_q rfl rfl (q_moveB rfl) ?_
          refine l_nil ?_
          refine hK66 _ _ ?_
          refine c_cond rfl (fun hc67 => ?_) (fun hc67 => ?_)
          ·
            have hc67b := hc67
            try simp only [decide_eq_true_eq, decide_eq_false_iff_not, Bool.not_eq_true', Bool.not_eq_false', Bool.and_eq_true, Bool.or_eq_true, Int.not_lt, Int.not_le, ne_eq, Decidable.not_not] at hc67
            refine wp_seq_k (fun K68 hK68 => ?_)
            refine wp_region_lit ?_
            refine l_q rfl rfl (q_assignI rfl) ?_
            refine l_nil ?_
            refine hK68 _ _ ?_
            refine wp_seq_k (fun K69 hK69 => ?_)
            refine wp_seq_k (fun K70 hK70 => ?_)
            refine wp_region_lit ?_
            refine l_q rfl rfl (q_moveS rfl) ?_
            refine l_q rfl rfl (q_sliceX (e := 5) (size := 1) (l := 0) (h := 8) (m := (cb - 1)) (ad' := (subS ab 1 1 cb)) (len' := 8) (cap' := (cb - 1)) rfl (by kernel_rfl) (by kernel_rfl) rfl ⟨_, int_nat (by first | rfl | omega) rfl⟩ rfl (by omega) (by first | omega | (simp only [List.length_append, List.length_map, List.length_cons, List.length_nil, List.length_take, List.length_drop, List.length_set] <;> omega)) (by first | omega | (simp only [List.length_append, List.length_map, List.length_cons, List.length_nil, List.length_take, List.length_drop, List.length_set] <;> omega)) rfl subS_zero (Nat.sub_zero _) (Nat.sub_zero _)) ?_
            refine l_q rfl rfl (q_lenSl (e := 5) rfl (by kernel_rfl)) ?_
            refine l_q rfl rfl (q_moveI rfl) ?_
            refine l_nil ?_
            refine hK70 _ _ ?_
            refine wp_block ?_
            refine c_loop (τ := Nat) [(7, 7), (9, 9), (44, 53)] (fun x => (fun (i : Nat) => [(7, .int .u64 (((f8 (((b.drop 1).take 8).take i)) : Nat) : Int)), (44, .int .i64 ((i : Nat) : Int))]) x) (fun x w' => (fun (i : Nat) => St w (fun _ => False) [.blk b5 (.cells #[.int .i64 ((x4 : Nat) : Int), .int .i64 (0 : Int), .string (bs [])] 31), .blk b2 (.cells #[.int .i64 (0 : Int), .int .i64 (0 : Int), .string (bs [])] 31)] w' ∧ i ≤ 8) x) (fun x => (fun (i : Nat) => 8 - i) x) (0) ?_ (by refine ⟨by show _ = Value.int .u64 ((f8 [] : Nat) : Int); unfold f8; rfl, ⟨rfl, trivial⟩⟩) (fun i j71 w71 hJ71 K71 hK71 => ?_)
            ·
              exact ⟨hS6, Nat.zero_le _⟩
            ·
              obtain ⟨hS71, hi⟩ := hJ71
              try dsimp only at hS71 hi ⊢
              have h8l : ((b.drop 1).take 8).length = 8 := by rw [List.length_take, List.length_drop]; omega
              have hf7 := f8_lt 8 (((b.drop 1).take 8).take i) hb.drop.take.take (by rw [List.length_take, List.length_take]; omega)
              have h2568 : (256 : Nat) ^ 8 = 18446744073709551616 := by decide
              refine wp_seq_k (fun K72 hK72 => ?_)
              refine wp_region_lit ?_
              refine l_q rfl rfl (q_lss rfl rfl) ?_
              refine l_nil ?_
              refine hK72 _ _ ?_
              refine wp_seq_k (fun K73 hK73 => ?_)
              refine c_cond rfl (fun hc74 => ?_) (fun hc74 => ?_)
              ·
                have hc74b := hc74
                try simp only [decide_eq_true_eq, decide_eq_false_iff_not, Bool.not_eq_true', Bool.not_eq_false', Bool.and_eq_true, Bool.or_eq_true, Int.not_lt, Int.not_le, ne_eq, Decidable.not_not] at hc74
                refine wp_skip ?_
                refine hK73 _ _ ?_
                refine wp_seq_k (fun K75 hK75 => ?_)
                refine wp_block ?_
                refine wp_seq_k (fun K76 hK76 => ?_)
                refine wp_region_lit ?_
                refine l_q rfl rfl (q_ixG (e := 5) (m := 1) (j := i) rfl rfl (by kernel_rfl) (by kernel_rfl) (by first | rfl | omega) (by omega) (bv_takeG (n := 8) (bv_subD (by first | omega | (simp only [List.length_append, List.length_map, List.length_cons, List.length_nil, List.length_take, List.length_drop, List.length_set] <;> omega)) (SlG.sub (l := 1) (size := 1) (m := cb) (n := b.length - 1) hG (by first | omega | (simp only [List.length_append, List.length_map, List.length_cons, List.length_nil, List.length_take, List.length_drop, List.length_set] <;> omega)) (by decide)))) (by rw [bv_len]; first | omega | (simp only [List.length_append, List.length_map, List.length_cons, List.length_nil, List.length_take, List.length_drop, List.length_set] <;> omega))) ?_
                obtain ⟨x77, hx77⟩ : ∃ x, (((b.drop 1).take 8))[i]? = some x := ⟨_, List.getElem?_eq_getElem (by first | omega | (simp only [List.length_append, List.length_map, List.length_cons, List.length_nil, List.length_take, List.length_drop, List.length_set] <;> omega) | (simp <;> omega))⟩
                have hb77 : x77 < 256 := (Bytes.take (Bytes.drop hb)) x77 (List.mem_of_getElem? hx77)
                refine l_q rfl rfl (q_load1 rfl (by kernel_rfl) (SlG.cell ((bv_takeG (n := 8) (bv_subD (by first | omega | (simp only [List.length_append, List.length_map, List.length_cons, List.length_nil, List.length_take, List.length_drop, List.length_set] <;> omega)) (SlG.sub (l := 1) (size := 1) (m := cb) (n := b.length - 1) hG (by first | omega | (simp only [List.length_append, List.length_map, List.length_cons, List.length_nil, List.length_take, List.length_drop, List.length_set] <;> omega)) (by decide)))).mono (hg.trans hS71.base)) (Gle.refl _) (at1 (bv_at hx77)))) ?_
                refine l_q rfl rfl (q_assignI rfl) ?_
                refine l_nil ?_
                refine hK76 _ _ ?_
                refine wp_region_lit ?_
                refine l_q rfl rfl (q_moveI rfl) ?_
                refine l_q rfl rfl (u_shl (a := (f8 (((b.drop 1).take 8).take i))) (b := 8) (M := 18446744073709551616) rfl rfl rfl (by decide) (by decide)) ?_
                refine l_q rfl rfl (q_moveI rfl) ?_
                refine l_q rfl rfl (q_convN (a := x77) rfl (by kernel_rfl) (by kernel_rfl) (wrap_fit_u64 (by omega))) ?_
                refine l_q rfl rfl (q_orN (a := ((f8 (((b.drop 1).take 8).take i)) * 2 ^ 8 % 18446744073709551616)) (b := x77) rfl rfl rfl (by first | (show _ < 18446744073709551616; omega) | omega) (by first | (show _ < 18446744073709551616; omega) | omega)) ?_
                refine l_q rfl rfl (q_assignI rfl) ?_
                refine l_nil ?_
                refine hK75 _ _ ?_
                refine wp_region_lit ?_
                refine l_q rfl rfl (q_addx rfl rfl (by first | decide | omega) (by first | decide | omega)) ?_
                refine l_q rfl rfl (q_moveI rfl) ?_
                refine l_nil ?_
                refine hK71 _ _ (came ((i + 1)) (by repeat' (first | exact Agree.refl _ _ | refine Agree.up ?_ rfl | refine Agree.hav2 ?_ rfl | refine Agree.ups2 ?_ rfl)) (by repeat' (first | exact trivial | refine ⟨by first | exact congrArg (fun n : Nat => Value.int .u64 (n : Int)) (f8_step hb.drop.take hx77 (by omega)) | exact int_succ _ | rfl, ?_⟩)) ?_)
                exact ⟨⟨hS71, (by show i + 1 ≤ 8; omega)⟩, by (show 8 - (i + 1) < 8 - i); omega⟩
              ·
                have hc74b := hc74
                try simp only [decide_eq_true_eq, decide_eq_false_iff_not, Bool.not_eq_true', Bool.not_eq_false', Bool.and_eq_true, Bool.or_eq_true, Int.not_lt, Int.not_le, ne_eq, Decidable.not_not] at hc74
                refine wp_exit ?_
                refine hK69 _ _ ?_
                refine r_any (by kernel_rfl) hS71 (fun w78 hS78 => ?_)
                clear hS71
                refine o_pure (i := 0) (fun _ _ => trivial) rfl rfl (by kernel_rfl) (goes0 rfl) (QOk.inBlock (QOk.then QOk.body)) (fun w => q_moveI rfl) ?_
                refine o_pure (i := 1) (fun _ _ => trivial) rfl rfl (by kernel_rfl) (goes0 rfl) (QOk.inBlock (QOk.then QOk.body)) (fun w => q_sub rfl rfl) ?_
                refine o_pure (i := 2) (fun _ _ => trivial) rfl rfl (by kernel_rfl) (goes0 rfl) (QOk.inBlock (QOk.then QOk.body)) (fun w => q_conv (k' := .i64) rfl (by kernel_rfl) rfl) ?_
                refine o_pure (i := 3) (fun _ _ => trivial) rfl rfl (by kernel_rfl) (goes0 rfl) (QOk.inBlock (QOk.then QOk.body)) (fun w => q_moveS rfl) ?_
                refine o_pure (i := 4) (fun _ _ => trivial) rfl rfl (by kernel_rfl) (goes0 rfl) (QOk.inBlock (QOk.then QOk.body)) (fun w => q_sliceX (e := 5) (size := 1) (l := 8) (h := (b.length - 1)) (m := (cb - 1)) (ad' := (subS (subS ab 1 1 cb) 8 1 (cb - 1))) (len' := ((b.length - 1) - 8)) (cap' := ((cb - 1) - 8)) rfl (by kernel_rfl) (by kernel_rfl) rfl rfl ⟨_, int_nat (by first | rfl | omega) rfl⟩ (by omega) (by first | omega | (simp only [List.length_append, List.length_map, List.length_cons, List.length_nil, List.length_take, List.length_drop, List.length_set] <;> omega)) (by first | omega | (simp only [List.length_append, List.length_map, List.length_cons, List.length_nil, List.length_take, List.length_drop, List.length_set] <;> omega)) rfl rfl rfl rfl) ?_
                refine o_pure (i := 5) (fun _ _ => trivial) rfl rfl (by kernel_rfl) (goes0 rfl) (QOk.inBlock (QOk.then QOk.body)) (fun w => q_fieldAddr (ft := 2) (o := 1) rfl (by kernel_rfl)) ?_
                refine o_eff (i := 6) (by kernel_rfl) rfl (goes0 rfl) (fun K hK => ?_)
                refine e_store1 hS78 rfl rfl (by kernel_rfl) (by first | rfl | assumption) (i := 0) rfl rfl (fun w79 (hS79 : St _ _ [.blk b5 (.cells #[.int .i64 ((x4 : Nat) : Int), .int .i64 (IntKind.i64.wrap (IntKind.u64.wrap ((((f8 (((b.drop 1).take 8).take i)) : Nat) : Int) - (9223372036854775808 : Int)))), .string (bs [])] 31), .blk b2 (.cells #[.int .i64 (0 : Int), .int .i64 (0 : Int), .string (bs [])] 31)] _) => ?_)
                clear hS78
                refine hK _ _ trivial ?_; clear hK K
                refine o_pure (i := 7) (fun _ _ => trivial) rfl rfl (by kernel_rfl) (goes0 rfl) (QOk.inBlock (QOk.then QOk.body)) (fun w => q_assignS rfl) ?_
                refine o_done (by kernel_rfl) ?_
                refine hK9 _ _ ?_
                refine wp_seq_k (fun K80 hK80 => ?_)
                refine r_any (by kernel_rfl) hS79 (fun w81 hS81 => ?_)
                clear hS79
                refine o_held (i := 0) [7, 8, 9] (fun _ _ => trivial) rfl rfl (by kernel_rfl) (goes0 rfl) (QOk.then QOk.body) (q_loadA (m := 3) rfl (by kernel_rfl) (by kernel_rfl) (hS81.blk (i := 0) rfl) rfl rfl) ?_
                refine o_pure (i := 1) (fun j w => ⟨(fun _ _ => trivial) j w, fun _ h => h⟩) rfl rfl (by kernel_rfl) (goes0 rfl) (QOk.then QOk.body) (fun w => q_moveS rfl) ?_
                refine o_pure (i := 2) (fun j w => ⟨(fun _ _ => trivial) j w, fun _ h => h⟩) rfl rfl (by kernel_rfl) (goes0 rfl) (QOk.then QOk.body) (fun w => q_moveB rfl) ?_
                refine o_pure (i := 3) (fun j w => ⟨(fun _ _ => trivial) j w, fun _ h => h⟩) rfl rfl (by kernel_rfl) (goes0 rfl) (QOk.then QOk.body) (fun w => q_moveB rfl) ?_
                refine o_held (i := 4) [5, 6, 7, 8, 9] (fun j w => ⟨(fun _ _ => trivial) j w, fun _ h => h⟩) rfl rfl (by kernel_rfl) (goes1 rfl rfl hc67b) (QOk.then QOk.body) (q_loadA (m := 3) rfl (by kernel_rfl) (by kernel_rfl) (hS81.blk (i := 0) rfl) rfl rfl) ?_
                refine o_eff (i := 5) (by kernel_rfl) rfl (goes1 rfl rfl hc67b) (fun K hK => ?_)
                refine e_call (by kernel_rfl) (right_ok (((x4 : Nat) : Int), (IntKind.i64.wrap (IntKind.u64.wrap ((((f8 (((b.drop 1).take 8).take i)) : Nat) : Int) - (9223372036854775808 : Int)))), []) Bytes.nil _) rfl (after_R hS81 (fun v82 w82 hv82 hS82 => ?_))
                clear hS81
                obtain rfl := hv82
                refine hK _ _ ⟨⟨trivial, fun _ _ => by first | exact q_loadA (m := 3) rfl (by kernel_rfl) (by kernel_rfl) (hS82.blk (i := 0) rfl) rfl rfl⟩, fun h => absurd h (by decide)⟩ ?_; clear hK K
                refine o_pure (i := 6) (fun j w => ⟨(fun j w => ⟨(fun _ _ => trivial) j w, fun _ h => h⟩) j w, fun _ h => h⟩) rfl rfl (by kernel_rfl) (goes0 rfl) (QOk.then QOk.body) (fun w => q_pickT rfl hc67b rfl) ?_
                refine o_eff (i := 7) (by kernel_rfl) rfl (goes0 rfl) (fun K hK => ?_)
                refine e_storeA hS82 rfl rfl (by kernel_rfl) (by repeat' (first | exact trivial | refine ⟨by first | rfl | assumption | exact one_if (by assumption), ?_⟩)) (i := 1) rfl rfl (fun w83 (hS83 : St _ _ [.blk b5 (.cells #[.int .i64 ((x4 : Nat) : Int), .int .i64 (IntKind.i64.wrap (IntKind.u64.wrap ((((f8 (((b.drop 1).take 8).take i)) : Nat) : Int) - (9223372036854775808 : Int)))), .string (bs [])] 31), .blk b2 (.cells #[.int .i64 ((x4 : Nat) : Int), .int .i64 (IntKind.i64.wrap (IntKind.u64.wrap ((((f8 (((b.drop 1).take 8).take i)) : Nat) : Int) - (9223372036854775808 : Int)))), .string (bs [])] 31)] _) => ?_)
                clear hS82
                refine hK _ _ ⟨⟨trivial, fun h => absurd h (by decide)⟩, fun h => absurd h (by decide)⟩ ?_; clear hK K
                refine o_pure (i := 8) (fun j w => ⟨(fun j w => ⟨(fun _ _ => trivial) j w, fun _ h => h⟩) j w, fun _ h => h⟩) rfl rfl (by kernel_rfl) (goes0 rfl) (QOk.then QOk.body) (fun w => q_assignS rfl) ?_
                refine o_pure (i := 9) (fun j w => ⟨(fun j w => ⟨(fun _ _ => trivial) j w, fun _ h => h⟩) j w, fun _ h => h⟩) rfl rfl (by kernel_rfl) (goes0 rfl) (QOk.then QOk.body) (fun w => q_assignB rfl) ?_
                refine o_done (by kernel_rfl) ?_
                refine hK80 _ _ ?_
                refine wp_ret ?_
                refine c_retCTT (m := 3) rfl (by kernel_rfl) (by kernel_rfl) rfl (hS83.blk (i := 1) rfl) rfl rfl rfl ?_
                have h8l : ((b.drop 1).take 8).length = 8 := by rw [List.length_take, List.length_drop]; omega
                have hti : ((b.drop 1).take 8).take i = ((b.drop 1).take 8) := List.take_of_length_le (by omega)
                have hz : (IntKind.i64.wrap (IntKind.u64.wrap ((((f8 (((b.drop 1).take 8).take i)) : Nat) : Int) - (9223372036854775808 : Int)))) = (f8 ((b.drop 1).take 8) : Int) - 9223372036854775808 := by rw [hti]; exact topZ (be8_f8 hb.drop.take h8l).2
                have h2 := tk2 hb hx4 (by omega) (by rw [List.length_drop]; omega) hz
                exact ⟨_, rfl, TakeP.mk (a := (((x4 : Nat) : Int), (IntKind.i64.wrap (IntKind.u64.wrap ((((f8 (((b.drop 1).take 8).take i)) : Nat) : Int) - (9223372036854775808 : Int)))), [])) (vok_mk Bytes.nil ⟨by omega, by omega⟩ h2.2) (by first | rfl | simp only [List.length_drop] | (simp only [List.length_drop] <;> omega)) (Bytes.drop (Bytes.drop hb)) (by omega) (bv_subD (by first | omega | (simp only [List.length_append, List.length_map, List.length_cons, List.length_nil, List.length_take, List.length_drop, List.length_set] <;> omega)) (SlG.sub (l := 8) (size := 1) (m := (cb - 1)) (n := (b.length - 1) - 8) (bv_subD (by first | omega | (simp only [List.length_append, List.length_map, List.length_cons, List.length_nil, List.length_take, List.length_drop, List.length_set] <;> omega)) (SlG.sub (l := 1) (size := 1) (m := cb) (n := b.length - 1) hG (by first | omega | (simp only [List.length_append, List.length_map, List.length_cons, List.length_nil, List.length_take, List.length_drop, List.length_set] <;> omega)) (by decide))) (by first | omega | (simp only [List.length_append, List.length_map, List.length_cons, List.length_nil, List.length_take, List.length_drop, List.length_set] <;> omega)) (by decide))) (by first | exact h2.1), hS83.drop⟩
          ·
            have hc67b := hc67
            try simp only [decide_eq_true_eq, decide_eq_false_iff_not, Bool.not_eq_true', Bool.not_eq_false', Bool.and_eq_true, Bool.or_eq_true, Int.not_lt, Int.not_le, ne_eq, Decidable.not_not] at hc67
            refine wp_skip ?_
            refine hK9 _ _ ?_
            refine wp_seq_k (fun K84 hK84 => ?_)
            refine r_any (by kernel_rfl) hS6 (fun w85 hS85 => ?_)
            clear hS6
            refine o_held (i := 0) [7, 8, 9] (fun _ _ => trivial) rfl rfl (by kernel_rfl) (goes0 rfl) (QOk.then QOk.body) (q_loadA (m := 3) rfl (by kernel_rfl) (by kernel_rfl) (hS85.blk (i := 0) rfl) rfl rfl) ?_
            refine o_pure (i := 1) (fun j w => ⟨(fun _ _ => trivial) j w, fun _ h => h⟩) rfl rfl (by kernel_rfl) (goes0 rfl) (QOk.then QOk.body) (fun w => q_moveS rfl) ?_
            refine o_pure (i := 2) (fun j w => ⟨(fun _ _ => trivial) j w, fun _ h => h⟩) rfl rfl (by kernel_rfl) (goes0 rfl) (QOk.then QOk.body) (fun w => q_moveB rfl) ?_
            refine o_pure (i := 3) (fun j w => ⟨(fun _ _ => trivial) j w, fun _ h => h⟩) rfl rfl (by kernel_rfl) (goes0 rfl) (QOk.then QOk.body) (fun w => q_moveB rfl) ?_
            refine g_splitO (t := 73) rfl (fun hg86 => ?_) (fun hg86 => ?_)
            ·
              have hg86b := hg86
              try simp only [decide_eq_true_eq, decide_eq_false_iff_not, Bool.not_eq_true', Bool.not_eq_false', Bool.and_eq_true, Bool.or_eq_true, Int.not_lt, Int.not_le, ne_eq, Decidable.not_not] at hg86
              refine o_held (i := 4) [5, 6, 7, 8, 9] (fun j w => ⟨(fun _ _ => trivial) j w, fun _ h => h⟩) rfl rfl (by kernel_rfl) (goes1 rfl rfl hg86b) (QOk.then QOk.body) (q_loadA (m := 3) rfl (by kernel_rfl) (by kernel_rfl) (hS85.blk (i := 0) rfl) rfl rfl) ?_
              refine o_eff (i := 5) (by kernel_rfl) rfl (goes1 rfl rfl hg86b) (fun K hK => ?_)
              refine e_call (by kernel_rfl) (right_ok (((x4 : Nat) : Int), (0 : Int), []) Bytes.nil _) rfl (after_R hS85 (fun v87 w87 hv87 hS87 => ?_))
              clear hS85
              obtain rfl := hv87
              refine hK _ _ ⟨⟨trivial, fun _ _ => by first | exact q_loadA (m := 3) rfl (by kernel_rfl) (by kernel_rfl) (hS87.blk (i := 0) rfl) rfl rfl⟩, fun h => absurd h (by decide)⟩ ?_; clear hK K
              refine o_pure (i := 6) (fun j w => ⟨(fun j w => ⟨(fun _ _ => trivial) j w, fun _ h => h⟩) j w, fun _ h => h⟩) rfl rfl (by kernel_rfl) (goes0 rfl) (QOk.then QOk.body) (fun w => q_pickT rfl hg86b rfl) ?_
              refine o_eff (i := 7) (by kernel_rfl) rfl (goes0 rfl) (fun K hK => ?_)
              refine e_storeA hS87 rfl rfl (by kernel_rfl) (by repeat' (first | exact trivial | refine ⟨by first | rfl | assumption | exact one_if (by assumption), ?_⟩)) (i := 1) rfl rfl (fun w88 (hS88 : St _ _ [.blk b5 (.cells #[.int .i64 ((x4 : Nat) : Int), .int .i64 (0 : Int), .string (bs [])] 31), .blk b2 (.cells #[.int .i64 ((x4 : Nat) : Int), .int .i64 (0 : Int), .string (bs [])] 31)] _) => ?_)
              clear hS87
              refine hK _ _ ⟨⟨trivial, fun h => absurd h (by decide)⟩, fun h => absurd h (by decide)⟩ ?_; clear hK K
              refine o_pure (i := 8) (fun j w => ⟨(fun j w => ⟨(fun _ _ => trivial) j w, fun _ h => h⟩) j w, fun _ h => h⟩) rfl rfl (by kernel_rfl) (goes0 rfl) (QOk.then QOk.body) (fun w => q_assignS rfl) ?_
              refine o_pure (i := 9) (fun j w => ⟨(fun j w => ⟨(fun _ _ => trivial) j w, fun _ h => h⟩) j w, fun _ h => h⟩) rfl rfl (by kernel_rfl) (goes0 rfl) (QOk.then QOk.body) (fun w => q_assignB rfl) ?_
              refine o_done (by kernel_rfl) ?_
              refine hK84 _ _ ?_
              refine wp_ret ?_
              refine c_retCTT (m := 3) rfl (by kernel_rfl) (by kernel_rfl) rfl (hS88.blk (i := 1) rfl) rfl rfl rfl ?_
              exact ⟨_, rfl, TakeP.mk (a := (((x4 : Nat) : Int), (0 : Int), [])) (vok_mk Bytes.nil ⟨by omega, by omega⟩ ⟨by omega, by omega⟩) (by first | rfl | simp only [List.length_drop] | (simp only [List.length_drop] <;> omega)) (Bytes.drop hb) (by omega) (bv_subD (by first | omega | (simp only [List.length_append, List.length_map, List.length_cons, List.length_nil, List.length_take, List.length_drop, List.length_set] <;> omega)) (SlG.sub (l := 1) (size := 1) (m := cb) (n := b.length - 1) hG (by first | omega | (simp only [List.length_append, List.length_map, List.length_cons, List.length_nil, List.length_take, List.length_drop, List.length_set] <;> omega)) (by decide))) (by first | exact tk0 hx4 (by omega) | exact tk1n hx4 (by omega) (by omega) | exact tk2n hx4 (by omega) (by omega)), hS88.drop⟩
            ·
              have hg86b := hg86
              try simp only [decide_eq_true_eq, decide_eq_false_iff_not, Bool.not_eq_true', Bool.not_eq_false', Bool.and_eq_true, Bool.or_eq_true, Int.not_lt, Int.not_le, ne_eq, Decidable.not_not] at hg86
              refine o_off (i := 4) (fun j w => ⟨(fun _ _ => trivial) j w, fun _ h => h⟩) rfl rfl (by kernel_rfl) rfl rfl hg86b (QOk.then QOk.body) ?_
              refine o_off (i := 5) (fun j w => ⟨(fun _ _ => trivial) j w, fun _ h => h⟩) rfl rfl (by kernel_rfl) rfl rfl hg86b (QOk.then QOk.body) ?_
              refine o_pure (i := 6) (fun j w => ⟨(fun _ _ => trivial) j w, fun _ h => h⟩) rfl rfl (by kernel_rfl) (goes0 rfl) (QOk.then QOk.body) (fun w => q_pickF rfl hg86b rfl) ?_
              refine o_eff (i := 7) (by kernel_rfl) rfl (goes0 rfl) (fun K hK => ?_)
              refine e_storeA hS85 rfl rfl (by kernel_rfl) (by repeat' (first | exact trivial | refine ⟨by first | rfl | assumption | exact one_if (by assumption), ?_⟩)) (i := 1) rfl rfl (fun w89 (hS89 : St _ _ [.blk b5 (.cells #[.int .i64 ((x4 : Nat) : Int), .int .i64 (0 : Int), .string (bs [])] 31), .blk b2 (.cells #[.int .i64 ((x4 : Nat) : Int), .int .i64 (0 : Int), .string (bs [])] 31)] _) => ?_)
              clear hS85
              refine hK _ _ ⟨trivial, fun h => absurd h (by decide)⟩ ?_; clear hK K
              refine o_pure (i := 8) (fun j w => ⟨(fun _ _ => trivial) j w, fun _ h => h⟩) rfl rfl (by kernel_rfl) (goes0 rfl) (QOk.then QOk.body) (fun w => q_assignS rfl) ?_
              refine o_pure (i := 9) (fun j w => ⟨(fun _ _ => trivial) j w, fun _ h => h⟩) rfl rfl (by kernel_rfl) (goes0 rfl) (QOk.then QOk.body) (fun w => q_assignB rfl) ?_
              refine o_done (by kernel_rfl) ?_
              refine hK84 _ _ ?_
              refine wp_ret ?_
              refine c_retCTT (m := 3) rfl (by kernel_rfl) (by kernel_rfl) rfl (hS89.blk (i := 1) rfl) rfl rfl rfl ?_
              exact ⟨_, rfl, TakeP.mk (a := (((x4 : Nat) : Int), (0 : Int), [])) (vok_mk Bytes.nil ⟨by omega, by omega⟩ ⟨by omega, by omega⟩) (by first | rfl | simp only [List.length_drop] | (simp only [List.length_drop] <;> omega)) (Bytes.drop hb) (by omega) (bv_subD (by first | omega | (simp only [List.length_append, List.length_map, List.length_cons, List.length_nil, List.length_take, List.length_drop, List.length_set] <;> omega)) (SlG.sub (l := 1) (size := 1) (m := cb) (n := b.length - 1) hG (by first | omega | (simp only [List.length_append, List.length_map, List.length_cons, List.length_nil, List.length_take, List.length_drop, List.length_set] <;> omega)) (by decide))) (by first | exact tk0 hx4 (by omega) | exact tk1n hx4 (by omega) (by omega) | exact tk2n hx4 (by omega) (by omega)), hS89.drop⟩
        ·
          have hc64b := hc64
          try simp only [decide_eq_true_eq, decide_eq_false_iff_not, Bool.not_eq_true', Bool.not_eq_false', Bool.and_eq_true, Bool.or_eq_true, Int.not_lt, Int.not_le, ne_eq, Decidable.not_not] at hc64
          refine wp_seq_k (fun K90 hK90 => ?_)
          refine wp_seq_k (fun K91 hK91 => ?_)
          refine wp_region_lit ?_
          refine l_q rfl rfl (q_eql rfl rfl) ?_
          refine l_q rfl rfl (q_assignB rfl) ?_
          refine l_nil ?_
          refine hK91 _ _ ?_
          refine c_cond rfl (fun hc92 => ?_) (fun hc92 => ?_)
          ·
            have hc92b := hc92
            try simp only [decide_eq_true_eq, decide_eq_false_iff_not, Bool.not_eq_true', Bool.not_eq_false', Bool.and_eq_true, Bool.or_eq_true, Int.not_lt, Int.not_le, ne_eq, Decidable.not_not] at hc92
            refine wp_skip ?_
            refine hK90 _ _ ?_
            refine c_condT rfl hc92b ?_
            refine wp_region_lit ?_
            refine l_q rfl rfl (q_moveS rfl) ?_
            refine l_e rfl (fun K hK => ?_)
            refine e_call (by kernel_rfl) (text_ok (b.drop 1) (Bytes.drop hb) (b.length - 1) (by first | omega | (simp only [List.length_append, List.length_map, List.length_cons, List.length_nil, List.length_take, List.length_drop, List.length_set] <;> omega)) _ _ (by first | omega | (simp only [List.length_append, List.length_map, List.length_cons, List.length_nil, List.length_take, List.length_drop, List.length_set] <;> omega)) (by first | omega | (simp only [List.length_append, List.length_map, List.length_cons, List.length_nil, List.length_take, List.length_drop, List.length_set] <;> omega)) _ _ (hg.trans hS6.base) (bv_subD (by first | omega | (simp only [List.length_append, List.length_map, List.length_cons, List.length_nil, List.length_take, List.length_drop, List.length_set] <;> omega)) (SlG.sub (l := 1) (size := 1) (m := cb) (n := b.length - 1) hG (by first | omega | (simp only [List.length_append, List.length_map, List.length_cons, List.length_nil, List.length_take, List.length_drop, List.length_set] <;> omega)) (by decide)))) rfl (after_R hS6 (fun v94 w94 hv94 hS94 => ?_))
            clear hS6
            obtain ⟨ok94, s94, r94, oa94, oc94, rfl, hbs94, hbr94, hrc94, hGr94, hT94, hF94⟩ := hv94
            refine hK _ _ ?_; clear hK K
            refine l_q rfl rfl (q_move rfl) ?_
            refine l_q rfl rfl (q_extract rfl rfl) ?_
            refine l_q rfl rfl (q_extract rfl rfl) ?_
            refine l_q rfl rfl (q_extract rfl rfl) ?_
            refine l_q rfl rfl (q_fieldAddr (ft := 9) (o := 2) rfl (by kernel_rfl)) ?_
            refine l_e rfl (fun K hK => ?_)
            refine e_store1 hS94 rfl rfl (by kernel_rfl) (by first | rfl | assumption) (i := 0) rfl rfl (fun w95 (hS95 : St _ _ [.blk b5 (.cells #[.int .i64 ((x4 : Nat) : Int), .int .i64 (0 : Int), .string (bs s94)] 31), .blk b2 (.cells #[.int .i64 (0 : Int), .int .i64 (0 : Int), .string (bs [])] 31)] _) => ?_)
            clear hS94
            refine hK _ _ ?_; clear hK K
            refine l_q rfl rfl (q_assignS rfl) ?_
            refine l_q rfl rfl (q_assignB rfl) ?_
            refine l_nil ?_
            refine hK9 _ _ ?_
            refine wp_seq_k (fun K96 hK96 => ?_)
            refine r_any (by kernel_rfl) hS95 (fun w97 hS97 => ?_)
            clear hS95
            refine o_held (i := 0) [7, 8, 9] (fun _ _ => trivial) rfl rfl (by kernel_rfl) (goes0 rfl) (QOk.then QOk.body) (q_loadA (m := 3) rfl (by kernel_rfl) (by kernel_rfl) (hS97.blk (i := 0) rfl) rfl rfl) ?_
            refine o_pure (i := 1) (fun j w => ⟨(fun _ _ => trivial) j w, fun _ h => h⟩) rfl rfl (by kernel_rfl) (goes0 rfl) (QOk.then QOk.body) (fun w => q_moveS rfl) ?_
            refine o_pure (i := 2) (fun j w => ⟨(fun _ _ => trivial) j w, fun _ h => h⟩) rfl rfl (by kernel_rfl) (goes0 rfl) (QOk.then QOk.body) (fun w => q_moveB rfl) ?_
            refine o_pure (i := 3) (fun j w => ⟨(fun _ _ => trivial) j w, fun _ h => h⟩) rfl rfl (by kernel_rfl) (goes0 rfl) (QOk.then QOk.body) (fun w => q_moveB rfl) ?_
            refine g_splitO (t := 73) rfl (fun hg98 => ?_) (fun hg98 => ?_)
            ·
              have hg98b := hg98
              try simp only [decide_eq_true_eq, decide_eq_false_iff_not, Bool.not_eq_true', Bool.not_eq_false', Bool.and_eq_true, Bool.or_eq_true, Int.not_lt, Int.not_le, ne_eq, Decidable.not_not] at hg98
              refine o_held (i := 4) [5, 6, 7, 8, 9] (fun j w => ⟨(fun _ _ => trivial) j w, fun _ h => h⟩) rfl rfl (by kernel_rfl) (goes1 rfl rfl hg98b) (QOk.then QOk.body) (q_loadA (m := 3) rfl (by kernel_rfl) (by kernel_rfl) (hS97.blk (i := 0) rfl) rfl rfl) ?_
              refine o_eff (i := 5) (by kernel_rfl) rfl (goes1 rfl rfl hg98b) (fun K hK => ?_)
              refine e_call (by kernel_rfl) (right_ok (((x4 : Nat) : Int), (0 : Int), s94) hbs94 _) rfl (after_R hS97 (fun v99 w99 hv99 hS99 => ?_))
              clear hS97
              obtain rfl := hv99
              refine hK _ _ ⟨⟨trivial, fun _ _ => by first | exact q_loadA (m := 3) rfl (by kernel_rfl) (by kernel_rfl) (hS99.blk (i := 0) rfl) rfl rfl⟩, fun h => absurd h (by decide)⟩ ?_; clear hK K
              refine o_pure (i := 6) (fun j w => ⟨(fun j w => ⟨(fun _ _ => trivial) j w, fun _ h => h⟩) j w, fun _ h => h⟩) rfl rfl (by kernel_rfl) (goes0 rfl) (QOk.then QOk.body) (fun w => q_pickT rfl hg98b rfl) ?_
              refine o_eff (i := 7) (by kernel_rfl) rfl (goes0 rfl) (fun K hK => ?_)
              refine e_storeA hS99 rfl rfl (by kernel_rfl) (by repeat' (first | exact trivial | refine ⟨by first | rfl | assumption | exact one_if (by assumption), ?_⟩)) (i := 1) rfl rfl (fun w100 (hS100 : St _ _ [.blk b5 (.cells #[.int .i64 ((x4 : Nat) : Int), .int .i64 (0 : Int), .string (bs s94)] 31), .blk b2 (.cells #[.int .i64 ((x4 : Nat) : Int), .int .i64 (0 : Int), .string (bs s94)] 31)] _) => ?_)
              clear hS99
              refine hK _ _ ⟨⟨trivial, fun h => absurd h (by decide)⟩, fun h => absurd h (by decide)⟩ ?_; clear hK K
              refine o_pure (i := 8) (fun j w => ⟨(fun j w => ⟨(fun _ _ => trivial) j w, fun _ h => h⟩) j w, fun _ h => h⟩) rfl rfl (by kernel_rfl) (goes0 rfl) (QOk.then QOk.body) (fun w => q_assignS rfl) ?_
              refine o_pure (i := 9) (fun j w => ⟨(fun j w => ⟨(fun _ _ => trivial) j w, fun _ h => h⟩) j w, fun _ h => h⟩) rfl rfl (by kernel_rfl) (goes0 rfl) (QOk.then QOk.body) (fun w => q_assignB rfl) ?_
              refine o_done (by kernel_rfl) ?_
              refine hK96 _ _ ?_
              refine wp_ret ?_
              refine c_retCTT (m := 3) rfl (by kernel_rfl) (by kernel_rfl) rfl (hS100.blk (i := 1) rfl) rfl rfl rfl ?_
              exact ⟨_, rfl, TakeP.mk (a := (((x4 : Nat) : Int), (0 : Int), s94)) (vok_mk hbs94 ⟨by omega, by omega⟩ ⟨by omega, by omega⟩) (by first | rfl | simp only [List.length_drop] | (simp only [List.length_drop] <;> omega)) hbr94 (by omega) hGr94 (by first | exact tk4 hx4 (by omega) (hT94 (by assumption)) | exact tk4n hx4 (by omega) (hF94 (by assumption))), hS100.drop⟩
            ·
              have hg98b := hg98
              try simp only [decide_eq_true_eq, decide_eq_false_iff_not, Bool.not_eq_true', Bool.not_eq_false', Bool.and_eq_true, Bool.or_eq_true, Int.not_lt, Int.not_le, ne_eq, Decidable.not_not] at hg98
              refine o_off (i := 4) (fun j w => ⟨(fun _ _ => trivial) j w, fun _ h => h⟩) rfl rfl (by kernel_rfl) rfl rfl hg98b (QOk.then QOk.body) ?_
              refine o_off (i := 5) (fun j w => ⟨(fun _ _ => trivial) j w, fun _ h => h⟩) rfl rfl (by kernel_rfl) rfl rfl hg98b (QOk.then QOk.body) ?_
              refine o_pure (i := 6) (fun j w => ⟨(fun _ _ => trivial) j w, fun _ h => h⟩) rfl rfl (by kernel_rfl) (goes0 rfl) (QOk.then QOk.body) (fun w => q_pickF rfl hg98b rfl) ?_
              refine o_eff (i := 7) (by kernel_rfl) rfl (goes0 rfl) (fun K hK => ?_)
              refine e_storeA hS97 rfl rfl (by kernel_rfl) (by repeat' (first | exact trivial | refine ⟨by first | rfl | assumption | exact one_if (by assumption), ?_⟩)) (i := 1) rfl rfl (fun w101 (hS101 : St _ _ [.blk b5 (.cells #[.int .i64 ((x4 : Nat) : Int), .int .i64 (0 : Int), .string (bs s94)] 31), .blk b2 (.cells #[.int .i64 ((x4 : Nat) : Int), .int .i64 (0 : Int), .string (bs s94)] 31)] _) => ?_)
              clear hS97
              refine hK _ _ ⟨trivial, fun h => absurd h (by decide)⟩ ?_; clear hK K
              refine o_pure (i := 8) (fun j w => ⟨(fun _ _ => trivial) j w, fun _ h => h⟩) rfl rfl (by kernel_rfl) (goes0 rfl) (QOk.then QOk.body) (fun w => q_assignS rfl) ?_
              refine o_pure (i := 9) (fun j w => ⟨(fun _ _ => trivial) j w, fun _ h => h⟩) rfl rfl (by kernel_rfl) (goes0 rfl) (QOk.then QOk.body) (fun w => q_assignB rfl) ?_
              refine o_done (by kernel_rfl) ?_
              refine hK96 _ _ ?_
              refine wp_ret ?_
              refine c_retCTT (m := 3) rfl (by kernel_rfl) (by kernel_rfl) rfl (hS101.blk (i := 1) rfl) rfl rfl rfl ?_
              exact ⟨_, rfl, TakeP.mk (a := (((x4 : Nat) : Int), (0 : Int), s94)) (vok_mk hbs94 ⟨by omega, by omega⟩ ⟨by omega, by omega⟩) (by first | rfl | simp only [List.length_drop] | (simp only [List.length_drop] <;> omega)) hbr94 (by omega) hGr94 (by first | exact tk4 hx4 (by omega) (hT94 (by assumption)) | exact tk4n hx4 (by omega) (hF94 (by assumption))), hS101.drop⟩
          ·
            have hc92b := hc92
            try simp only [decide_eq_true_eq, decide_eq_false_iff_not, Bool.not_eq_true', Bool.not_eq_false', Bool.and_eq_true, Bool.or_eq_true, Int.not_lt, Int.not_le, ne_eq, Decidable.not_not] at hc92
            refine wp_region_lit ?_
            refine l_q rfl rfl (q_eql rfl rfl) ?_
            refine l_q rfl rfl (q_assignB rfl) ?_
            refine l_nil ?_
            refine hK90 _ _ ?_
            refine c_cond rfl (fun hc102 => ?_) (fun hc102 => ?_)
            ·
              have hc102b := hc102
              try simp only [decide_eq_true_eq, decide_eq_false_iff_not, Bool.not_eq_true', Bool.not_eq_false', Bool.and_eq_true, Bool.or_eq_true, Int.not_lt, Int.not_le, ne_eq, Decidable.not_not] at hc102
              refine wp_region_lit ?_
              refine l_q rfl rfl (q_moveS rfl) ?_
              refine l_e rfl (fun K hK => ?_)
              refine e_call (by kernel_rfl) (text_ok (b.drop 1) (Bytes.drop hb) (b.length - 1) (by first | omega | (simp only [List.length_append, List.length_map, List.length_cons, List.length_nil, List.length_take, List.length_drop, List.length_set] <;> omega)) _ _ (by first | omega | (simp only [List.length_append, List.length_map, List.length_cons, List.length_nil, List.length_take, List.length_drop, List.length_set] <;> omega)) (by first | omega | (simp only [List.length_append, List.length_map, List.length_cons, List.length_nil, List.length_take, List.length_drop, List.length_set] <;> omega)) _ _ (hg.trans hS6.base) (bv_subD (by first | omega | (simp only [List.length_append, List.length_map, List.length_cons, List.length_nil, List.length_take, List.length_drop, List.length_set] <;> omega)) (SlG.sub (l := 1) (size := 1) (m := cb) (n := b.length - 1) hG (by first | omega | (simp only [List.length_append, List.length_map, List.length_cons, List.length_nil, List.length_take, List.length_drop, List.length_set] <;> omega)) (by decide)))) rfl (after_R hS6 (fun v103 w103 hv103 hS103 => ?_))
              clear hS6
              obtain ⟨ok103, s103, r103, oa103, oc103, rfl, hbs103, hbr103, hrc103, hGr103, hT103, hF103⟩ := hv103
              refine hK _ _ ?_; clear hK K
              refine l_q rfl rfl (q_move rfl) ?_
              refine l_q rfl rfl (q_extract rfl rfl) ?_
              refine l_q rfl rfl (q_extract rfl rfl) ?_
              refine l_q rfl rfl (q_extract rfl rfl) ?_
              refine l_q rfl rfl (q_fieldAddr (ft := 9) (o := 2) rfl (by kernel_rfl)) ?_
              refine l_e rfl (fun K hK => ?_)
              refine e_store1 hS103 rfl rfl (by kernel_rfl) (by first | rfl | assumption) (i := 0) rfl rfl (fun w104 (hS104 : St _ _ [.blk b5 (.cells #[.int .i64 ((x4 : Nat) : Int), .int .i64 (0 : Int), .string (bs s103)] 31), .blk b2 (.cells #[.int .i64 (0 : Int), .int .i64 (0 : Int), .string (bs [])] 31)] _) => ?_)
              clear hS103
              refine hK _ _ ?_; clear hK K
              refine l_q rfl rfl (q_assignS rfl) ?_
              refine l_q rfl rfl (q_assignB rfl) ?_
              refine l_nil ?_
              refine hK9 _ _ ?_
              refine wp_seq_k (fun K105 hK105 => ?_)
              refine r_any (by kernel_rfl) hS104 (fun w106 hS106 => ?_)
              clear hS104
              refine o_held (i := 0) [7, 8, 9] (fun _ _ => trivial) rfl rfl (by kernel_rfl) (goes0 rfl) (QOk.then QOk.body) (q_loadA (m := 3) rfl (by kernel_rfl) (by kernel_rfl) (hS106.blk (i := 0) rfl) rfl rfl) ?_
              refine o_pure (i := 1) (fun j w => ⟨(fun _ _ => trivial) j w, fun _ h => h⟩) rfl rfl (by kernel_rfl) (goes0 rfl) (QOk.then QOk.body) (fun w => q_moveS rfl) ?_
              refine o_pure (i := 2) (fun j w => ⟨(fun _ _ => trivial) j w, fun _ h => h⟩) rfl rfl (by kernel_rfl) (goes0 rfl) (QOk.then QOk.body) (fun w => q_moveB rfl) ?_
              refine o_pure (i := 3) (fun j w => ⟨(fun _ _ => trivial) j w, fun _ h => h⟩) rfl rfl (by kernel_rfl) (goes0 rfl) (QOk.then QOk.body) (fun w => q_moveB rfl) ?_
              refine g_splitO (t := 73) rfl (fun hg107 => ?_) (fun hg107 => ?_)
              ·
                have hg107b := hg107
                try simp only [decide_eq_true_eq, decide_eq_false_iff_not, Bool.not_eq_true', Bool.not_eq_false', Bool.and_eq_true, Bool.or_eq_true, Int.not_lt, Int.not_le, ne_eq, Decidable.not_not] at hg107
                refine o_held (i := 4) [5, 6, 7, 8, 9] (fun j w => ⟨(fun _ _ => trivial) j w, fun _ h => h⟩) rfl rfl (by kernel_rfl) (goes1 rfl rfl hg107b) (QOk.then QOk.body) (q_loadA (m := 3) rfl (by kernel_rfl) (by kernel_rfl) (hS106.blk (i := 0) rfl) rfl rfl) ?_
                refine o_eff (i := 5) (by kernel_rfl) rfl (goes1 rfl rfl hg107b) (fun K hK => ?_)
                refine e_call (by kernel_rfl) (right_ok (((x4 : Nat) : Int), (0 : Int), s103) hbs103 _) rfl (after_R hS106 (fun v108 w108 hv108 hS108 => ?_))
                clear hS106
                obtain rfl := hv108
                refine hK _ _ ⟨⟨trivial, fun _ _ => by first | exact q_loadA (m := 3) rfl (by kernel_rfl) (by kernel_rfl) (hS108.blk (i := 0) rfl) rfl rfl⟩, fun h => absurd h (by decide)⟩ ?_; clear hK K
                refine o_pure (i := 6) (fun j w => ⟨(fun j w => ⟨(fun _ _ => trivial) j w, fun _ h => h⟩) j w, fun _ h => h⟩) rfl rfl (by kernel_rfl) (goes0 rfl) (QOk.then QOk.body) (fun w => q_pickT rfl hg107b rfl) ?_
                refine o_eff (i := 7) (by kernel_rfl) rfl (goes0 rfl) (fun K hK => ?_)
                refine e_storeA hS108 rfl rfl (by kernel_rfl) (by repeat' (first | exact trivial | refine ⟨by first | rfl | assumption | exact one_if (by assumption), ?_⟩)) (i := 1) rfl rfl (fun w109 (hS109 : St _ _ [.blk b5 (.cells #[.int .i64 ((x4 : Nat) : Int), .int .i64 (0 : Int), .string (bs s103)] 31), .blk b2 (.cells #[.int .i64 ((x4 : Nat) : Int), .int .i64 (0 : Int), .string (bs s103)] 31)] _) => ?_)
                clear hS108
                refine hK _ _ ⟨⟨trivial, fun h => absurd h (by decide)⟩, fun h => absurd h (by decide)⟩ ?_; clear hK K
                refine o_pure (i := 8) (fun j w => ⟨(fun j w => ⟨(fun _ _ => trivial) j w, fun _ h => h⟩) j w, fun _ h => h⟩) rfl rfl (by kernel_rfl) (goes0 rfl) (QOk.then QOk.body) (fun w => q_assignS rfl) ?_
                refine o_pure (i := 9) (fun j w => ⟨(fun j w => ⟨(fun _ _ => trivial) j w, fun _ h => h⟩) j w, fun _ h => h⟩) rfl rfl (by kernel_rfl) (goes0 rfl) (QOk.then QOk.body) (fun w => q_assignB rfl) ?_
                refine o_done (by kernel_rfl) ?_
                refine hK105 _ _ ?_
                refine wp_ret ?_
                refine c_retCTT (m := 3) rfl (by kernel_rfl) (by kernel_rfl) rfl (hS109.blk (i := 1) rfl) rfl rfl rfl ?_
                exact ⟨_, rfl, TakeP.mk (a := (((x4 : Nat) : Int), (0 : Int), s103)) (vok_mk hbs103 ⟨by omega, by omega⟩ ⟨by omega, by omega⟩) (by first | rfl | simp only [List.length_drop] | (simp only [List.length_drop] <;> omega)) hbr103 (by omega) hGr103 (by first | exact tk4 hx4 (by omega) (hT103 (by assumption)) | exact tk4n hx4 (by omega) (hF103 (by assumption))), hS109.drop⟩
              ·
                have hg107b := hg107
                try simp only [decide_eq_true_eq, decide_eq_false_iff_not, Bool.not_eq_true', Bool.not_eq_false', Bool.and_eq_true, Bool.or_eq_true, Int.not_lt, Int.not_le, ne_eq, Decidable.not_not] at hg107
                refine o_off (i := 4) (fun j w => ⟨(fun _ _ => trivial) j w, fun _ h => h⟩) rfl rfl (by kernel_rfl) rfl rfl hg107b (QOk.then QOk.body) ?_
                refine o_off (i := 5) (fun j w => ⟨(fun _ _ => trivial) j w, fun _ h => h⟩) rfl rfl (by kernel_rfl) rfl rfl hg107b (QOk.then QOk.body) ?_
                refine o_pure (i := 6) (fun j w => ⟨(fun _ _ => trivial) j w, fun _ h => h⟩) rfl rfl (by kernel_rfl) (goes0 rfl) (QOk.then QOk.body) (fun w => q_pickF rfl hg107b rfl) ?_
                refine o_eff (i := 7) (by kernel_rfl) rfl (goes0 rfl) (fun K hK => ?_)
                refine e_storeA hS106 rfl rfl (by kernel_rfl) (by repeat' (first | exact trivial | refine ⟨by first | rfl | assumption | exact one_if (by assumption), ?_⟩)) (i := 1) rfl rfl (fun w110 (hS110 : St _ _ [.blk b5 (.cells #[.int .i64 ((x4 : Nat) : Int), .int .i64 (0 : Int), .string (bs s103)] 31), .blk b2 (.cells #[.int .i64 ((x4 : Nat) : Int), .int .i64 (0 : Int), .string (bs s103)] 31)] _) => ?_)
                clear hS106
                refine hK _ _ ⟨trivial, fun h => absurd h (by decide)⟩ ?_; clear hK K
                refine o_pure (i := 8) (fun j w => ⟨(fun _ _ => trivial) j w, fun _ h => h⟩) rfl rfl (by kernel_rfl) (goes0 rfl) (QOk.then QOk.body) (fun w => q_assignS rfl) ?_
                refine o_pure (i := 9) (fun j w => ⟨(fun _ _ => trivial) j w, fun _ h => h⟩) rfl rfl (by kernel_rfl) (goes0 rfl) (QOk.then QOk.body) (fun w => q_assignB rfl) ?_
                refine o_done (by kernel_rfl) ?_
                refine hK105 _ _ ?_
                refine wp_ret ?_
                refine c_retCTT (m := 3) rfl (by kernel_rfl) (by kernel_rfl) rfl (hS110.blk (i := 1) rfl) rfl rfl rfl ?_
                exact ⟨_, rfl, TakeP.mk (a := (((x4 : Nat) : Int), (0 : Int), s103)) (vok_mk hbs103 ⟨by omega, by omega⟩ ⟨by omega, by omega⟩) (by first | rfl | simp only [List.length_drop] | (simp only [List.length_drop] <;> omega)) hbr103 (by omega) hGr103 (by first | exact tk4 hx4 (by omega) (hT103 (by assumption)) | exact tk4n hx4 (by omega) (hF103 (by assumption))), hS110.drop⟩
            ·
              have hc102b := hc102
              try simp only [decide_eq_true_eq, decide_eq_false_iff_not, Bool.not_eq_true', Bool.not_eq_false', Bool.and_eq_true, Bool.or_eq_true, Int.not_lt, Int.not_le, ne_eq, Decidable.not_not] at hc102
              refine wp_skip ?_
              refine hK9 _ _ ?_
              refine wp_seq_k (fun K111 hK111 => ?_)
              refine r_any (by kernel_rfl) hS6 (fun w112 hS112 => ?_)
              clear hS6
              refine o_held (i := 0) [7, 8, 9] (fun _ _ => trivial) rfl rfl (by kernel_rfl) (goes0 rfl) (QOk.then QOk.body) (q_loadA (m := 3) rfl (by kernel_rfl) (by kernel_rfl) (hS112.blk (i := 0) rfl) rfl rfl) ?_
              refine o_pure (i := 1) (fun j w => ⟨(fun _ _ => trivial) j w, fun _ h => h⟩) rfl rfl (by kernel_rfl) (goes0 rfl) (QOk.then QOk.body) (fun w => q_moveS rfl) ?_
              refine o_pure (i := 2) (fun j w => ⟨(fun _ _ => trivial) j w, fun _ h => h⟩) rfl rfl (by kernel_rfl) (goes0 rfl) (QOk.then QOk.body) (fun w => q_moveB rfl) ?_
              refine o_pure (i := 3) (fun j w => ⟨(fun _ _ => trivial) j w, fun _ h => h⟩) rfl rfl (by kernel_rfl) (goes0 rfl) (QOk.then QOk.body) (fun w => q_moveB rfl) ?_
              refine o_held (i := 4) [5, 6, 7, 8, 9] (fun j w => ⟨(fun _ _ => trivial) j w, fun _ h => h⟩) rfl rfl (by kernel_rfl) (goes1 rfl rfl rfl) (QOk.then QOk.body) (q_loadA (m := 3) rfl (by kernel_rfl) (by kernel_rfl) (hS112.blk (i := 0) rfl) rfl rfl) ?_
              refine o_eff (i := 5) (by kernel_rfl) rfl (goes1 rfl rfl rfl) (fun K hK => ?_)
              refine e_call (by kernel_rfl) (right_ok (((x4 : Nat) : Int), (0 : Int), []) Bytes.nil _) rfl (after_R hS112 (fun v113 w113 hv113 hS113 => ?_))
              clear hS112
              obtain rfl := hv113
              refine hK _ _ ⟨⟨trivial, fun _ _ => by first | exact q_loadA (m := 3) rfl (by kernel_rfl) (by kernel_rfl) (hS113.blk (i := 0) rfl) rfl rfl⟩, fun h => absurd h (by decide)⟩ ?_; clear hK K
              refine o_pure (i := 6) (fun j w => ⟨(fun j w => ⟨(fun _ _ => trivial) j w, fun _ h => h⟩) j w, fun _ h => h⟩) rfl rfl (by kernel_rfl) (goes0 rfl) (QOk.then QOk.body) (fun w => q_pickT rfl rfl rfl) ?_
              refine o_eff (i := 7) (by kernel_rfl) rfl (goes0 rfl) (fun K hK => ?_)
              refine e_storeA hS113 rfl rfl (by kernel_rfl) (by repeat' (first | exact trivial | refine ⟨by first | rfl | assumption | exact one_if (by assumption), ?_⟩)) (i := 1) rfl rfl (fun w114 (hS114 : St _ _ [.blk b5 (.cells #[.int .i64 ((x4 : Nat) : Int), .int .i64 (0 : Int), .string (bs [])] 31), .blk b2 (.cells #[.int .i64 ((x4 : Nat) : Int), .int .i64 (0 : Int), .string (bs [])] 31)] _) => ?_)
              clear hS113
              refine hK _ _ ⟨⟨trivial, fun h => absurd h (by decide)⟩, fun h => absurd h (by decide)⟩ ?_; clear hK K
              refine o_pure (i := 8) (fun j w => ⟨(fun j w => ⟨(fun _ _ => trivial) j w, fun _ h => h⟩) j w, fun _ h => h⟩) rfl rfl (by kernel_rfl) (goes0 rfl) (QOk.then QOk.body) (fun w => q_assignS rfl) ?_
              refine o_pure (i := 9) (fun j w => ⟨(fun j w => ⟨(fun _ _ => trivial) j w, fun _ h => h⟩) j w, fun _ h => h⟩) rfl rfl (by kernel_rfl) (goes0 rfl) (QOk.then QOk.body) (fun w => q_assignB rfl) ?_
              refine o_done (by kernel_rfl) ?_
              refine hK111 _ _ ?_
              refine wp_ret ?_
              refine c_retCTT (m := 3) rfl (by kernel_rfl) (by kernel_rfl) rfl (hS114.blk (i := 1) rfl) rfl rfl rfl ?_
              exact ⟨_, rfl, TakeP.mk (a := (((x4 : Nat) : Int), (0 : Int), [])) (vok_mk Bytes.nil ⟨by omega, by omega⟩ ⟨by omega, by omega⟩) (by first | rfl | simp only [List.length_drop] | (simp only [List.length_drop] <;> omega)) (Bytes.drop hb) (by omega) (bv_subD (by first | omega | (simp only [List.length_append, List.length_map, List.length_cons, List.length_nil, List.length_take, List.length_drop, List.length_set] <;> omega)) (SlG.sub (l := 1) (size := 1) (m := cb) (n := b.length - 1) hG (by first | omega | (simp only [List.length_append, List.length_map, List.length_cons, List.length_nil, List.length_take, List.length_drop, List.length_set] <;> omega)) (by decide))) (by first | exact tk6 hx4 (by refine ⟨?_, ?_, ?_, ?_, ?_, ?_⟩ <;> omega)), hS114.drop⟩

end Go.Proofs.YtcllmnepkglabaaDoor
