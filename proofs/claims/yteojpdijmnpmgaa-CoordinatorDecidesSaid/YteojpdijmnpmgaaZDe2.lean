/- Texts that the claim needs, part 2. -/
import Derived.Test.YteojpdijmnpmgaaZDe1
set_option linter.unusedVariables false
set_option linter.unusedSimpArgs false
namespace Go.Proofs.Yteojpdijmnpmgaa
open Go.RowKit
/-- What a row's Encode answers. -/
def rowE (l : List Vl) : List Nat × Int := if l.length ≤ 16 ∧ ∀ v ∈ l, rightB v = true then (encRow l, 0) else ([], 51)
theorem rowE_yes {l : List Vl} (h : l.length ≤ 16) (h2 : ∀ v ∈ l, rightB v = true) : rowE l = (encRow l, 0) := if_pos ⟨h, h2⟩
theorem rowE_no1 {l : List Vl} (h : 16 < l.length) : rowE l = ([], 51) := if_neg fun h' => by omega
theorem rowE_no2 {l : List Vl} {v : Vl} {i : Nat} (hv : l[i]? = some v) (h : rightB v = false) : rowE l = ([], 51) := if_neg fun h' => by
  have := h'.2 v (List.mem_of_getElem? hv); rw [h] at this; cases this
theorem rowE_bytes {l : List Vl} (h : VsOk l) : Bytes (rowE l).1 := by
  unfold rowE
  split
  · exact encRow_bytes h
  · exact Bytes.nil
theorem renc_len {v : Vl} (h : rightB v = true) (hv : VOk v) : (renc v).length ≤ 211 := by
  obtain ⟨_, _, _, _, _, h4⟩ := rightr h
  unfold renc rencb
  rw [List.length_cons]
  repeat' split
  · simp
  · have := short_len hv.2.2.1 hv.2.2.2; omega
  · have h5 := (h4 (by assumption)).2
    have := short_len (n := (v.2.2.length : Int)) (by omega) (by omega)
    rw [List.length_append]; omega
  · simp
theorem rencs_len {l : List Vl} (hv : VsOk l) (h : ∀ v ∈ l, rightB v = true) : (rencs l).length ≤ 211 * l.length := by
  induction l with
  | nil => simp [rencs]
  | cons a l ih =>
    rw [rencs_cons, List.length_append, List.length_cons]
    have := renc_len (h a (.head _)) (hv a (.head _))
    have := ih (fun v hm => hv v (.tail _ hm)) (fun v hm => h v (.tail _ hm))
    omega
theorem rowE_len {L : List Vl} (hv : VsOk L) : (rowE L).1.length ≤ 3377 := by
  unfold rowE
  split
  · rename_i h
    have := rencs_len hv h.2
    show (rencs L).length + 1 ≤ 3377
    omega
  · simp
theorem tk_next {l : List Vl} {i : Nat} {v : Vl} (h : l[i]? = some v) : l.take (i + 1) = l.take i ++ [v] := by rw [List.take_add_one, h]; rfl
theorem row_i1 {l : List Vl} {i x : Nat} {v : Vl} {p : List Nat} (hp : p = x :: rencs (l.take i)) (hv : l[i]? = some v) {q : List Nat} (hq : q = p ++ renc v) : q = x :: rencs (l.take (i + 1)) := by
  rw [hq, hp, tk_next hv, rencs_app, rencs_one]; rfl
theorem renc_0 {v : Vl} (h : ¬v.1 = 1 ∧ ¬v.1 = 2 ∧ ¬v.1 = 3 ∧ ¬v.1 = 4 ∧ ¬v.1 = 5) (p : List Nat) : p ++ [v.1.toNat % 256] = p ++ renc v := by
  unfold renc rencb; rw [if_neg (by omega), if_neg (by omega), if_neg (by omega)]
theorem renc_1 {v : Vl} (h : v.1 = 1) (p : List Nat) : (p ++ [v.1.toNat % 256]) ++ [v.2.1.toNat % 256] = p ++ renc v := by
  unfold renc; rw [rencb1 h, List.append_assoc]; rfl
theorem renc_2 {v : Vl} (h : v.1 = 2 ∨ v.1 = 3) (p : List Nat) : (p ++ [v.1.toNat % 256]) ++ short v.2.1 = p ++ renc v := by
  unfold renc; rw [rencb2 h, List.append_assoc]; rfl
theorem renc_4 {v : Vl} (h : v.1 = 4 ∨ v.1 = 5) (p : List Nat) : ((p ++ [v.1.toNat % 256]) ++ short ((v.2.2.length : Nat) : Int)) ++ v.2.2 = p ++ renc v := by
  unfold renc; rw [rencb4 h]; simp
theorem wrap8 {z : Int} (h : 0 ≤ z) : IntKind.u8.wrap z = ((z.toNat % 256 : Nat) : Int) := by
  have e : z = ((z.toNat : Nat) : Int) := by omega
  rw [e, wrap_u8, Int.toNat_natCast]
section
variable {P : Program} {n : Nat} {f : Nat → Value} {w : World} {d : Option Tmp} {x : Operand} {ty T T' : TypeId} {pos : String} {aft : Array Edge} {g : Option (Nat × Bool)}
/-- A number's lowest byte. -/
theorem q_conv8 {k : IntKind} {z : Int} (hx : ev n f x = .int k z) (h : P.underlying T' = some (.int .u8)) (h2 : (P.underlying T).isSome = true) (h0 : 0 ≤ z) : Run P n f ⟨d, .convert T T' x, ty, pos, aft, g⟩ w (.int .u8 ((z.toNat % 256 : Nat) : Int)) := by
  have := q_conv (w := w) (d := d) (ty := ty) (pos := pos) (aft := aft) (g := g) hx h h2
  rwa [wrap8 h0] at this
end
attribute [local irreducible] Oper.wp Sem.run Code.wp wpList wpAnyO callFunc execOp Calls
attribute [local irreducible] toU short rencs renc rowE encRow rightB
set_option maxRecDepth 100000 in
theorem rowEnc_ok (L : List Vl) (hL : VsOk L) (n : Nat) (hn : L.length = n) (hm : n ≤ 2000000) (al : Option Addr) (cl : Nat) (w : World) (hG : SlG (hw w) al (List.flatMap vl L)) : Calls Try.prog 54 #[.slice al n cl] w (PostN w fun v G => ∃ oa oc, v = .tuple #[.slice oa (rowE L).1.length oc, .int .i64 (rowE L).2] ∧ G = [.ow 5 1 oa (rowE L).1.length oc (bv (rowE L).1)]) := by
 have hS := St.start w
 subst hn
 refine c_enter Try.func54 rfl rfl rfl ?_
 refine wp_seq_k (fun K1 hK1 => ?_)
 refine wp_region_lit ?_
 refine l_q rfl rfl (q_assignS rfl) ?_
 refine l_q rfl rfl (q_assignI rfl) ?_
 refine l_nil ?_
 refine hK1 _ _ ?_
 refine wp_seq_k (fun K2 hK2 => ?_)
 refine wp_seq_k (fun K3 hK3 => ?_)
 refine wp_region_lit ?_
 refine l_q rfl rfl (q_moveS rfl) ?_
 refine l_q rfl rfl (q_lenSl (e := 106) rfl (by kernel_rfl)) ?_
 refine l_q rfl rfl (q_gtr rfl rfl) ?_
 refine l_nil ?_
 refine hK3 _ _ ?_
 refine c_cond rfl (fun hc4 => ?_) (fun hc4 => ?_)
 have hc4b := hc4
 try simp only [zbb] at hc4
 refine wp_seq_k (fun K5 hK5 => ?_)
 refine wp_region_lit ?_
 refine l_q rfl rfl (q_assignS rfl) ?_
 refine l_q rfl rfl (q_assignI rfl) ?_
 refine l_nil ?_
 refine hK5 _ _ ?_
 refine wp_ret ?_
 refine c_ret2 rfl rfl rfl ?_
 have hne : rowE L = ([], 51) := by first | exact rowE_no1 (by omega) | exact rowE_no2 hx0 (by assumption)
 exact ⟨_, _, rfl, ⟨none, 0, by rw [hne]; rfl, by rw [hne]; rfl⟩, hS.drop.ow_nil _ _⟩
 have hc4b := hc4
 try simp only [zbb] at hc4
 refine wp_skip ?_
 refine hK2 _ _ ?_
 refine wp_seq_k (fun K6 hK6 => ?_)
 refine wp_region_lit ?_
 refine l_q rfl rfl (q_moveS rfl) ?_
 refine l_q rfl rfl (q_lenSl (e := 106) rfl (by kernel_rfl)) ?_
 refine l_q rfl rfl (u_conv (a := L.length) (k' := .u8) (M := 256) rfl (by kernel_rfl) (by kernel_rfl) rfl (by decide)) ?_
 refine l_e rfl (fun K hK => ?_)
 refine e_buildSlice1 (e := 5) (zv := .int .u8 0) (xs := [.tmp 12]) hS (by kernel_rfl) (by kernel_rfl) (by kernel_rfl) rfl rfl rfl rfl (allone (by repeat' (first | exact trivial | refine ⟨by first | rfl | assumption, ?_⟩))) rfl (fun b7 w7 (hS7 : St _ _ [.blk b7 (.cells #[.int .u8 (((L.length % 256) : Nat) : Int)] 5)] _) => ?_)
 clear hS
 have hB7 : Bytes [(L.length % 256)] := by intro q hq; simp only [List.mem_cons, List.not_mem_nil, or_false] at hq; omega
 have hS7o : St _ _ [.ow 5 1 (some ⟨b7, 0, none⟩) 1 1 (bv [(L.length % 256)])] _ := hS7.blkOw' (i := 0) (m := 1) (size := 1) (xs := bv [(L.length % 256)]) rfl rfl rfl (by decide); clear hS7
 refine hK _ _ ?_; clear hK K
 refine l_q rfl rfl (q_assignS rfl) ?_
 refine l_nil ?_
 refine hK6 _ _ ?_
 refine wp_seq_k (fun K8 hK8 => ?_)
 refine wp_seq_k (fun K9 hK9 => ?_)
 refine wp_region_lit ?_
 refine l_q rfl rfl (q_moveS rfl) ?_
 refine l_q rfl rfl (q_lenSl (e := 106) rfl (by kernel_rfl)) ?_
 refine l_q rfl rfl (q_moveI rfl) ?_
 refine l_nil ?_
 refine hK9 _ _ ?_
 refine wp_block ?_
 refine c_loop (τ := Nat × (List Nat) × (Option Addr) × Nat) [(2, 4), (6, 6), (16, 61)] (fun x => (fun (i : Nat) (p : List Nat) (ad : Option Addr) (cap : Nat) => [(4, .slice ad p.length cap), (16, .int .i64 (i : Int))]) x.1 x.2.1 x.2.2.1 x.2.2.2) (fun x w' => (fun (i : Nat) (p : List Nat) (ad : Option Addr) (cap : Nat) => St w (fun _ => False) [.ow 5 1 ad p.length cap (bv p)] w' ∧ i ≤ L.length ∧ p = (L.length % 256) :: rencs (L.take i) ∧ Bytes p ∧ (∀ v ∈ L.take i, rightB v = true) ∧ p.length ≤ 1 + 211 * i) x.1 x.2.1 x.2.2.1 x.2.2.2) (fun x => (fun (i : Nat) (p : List Nat) (ad : Option Addr) (cap : Nat) => L.length - i) x.1 x.2.1 x.2.2.1 x.2.2.2) (⟨0, [(L.length % 256)], (some ⟨b7, 0, none⟩), 1⟩) ?_ (by repeat' (first | exact trivial | refine ⟨by first | rfl | exact int_succ _ | assumption, ?_⟩)) (fun x10 j10 w10 hJ10 K10 hK10 => ?_)
 exact ⟨hS7o, Nat.zero_le _, by unfold rencs; rfl, hB7, fun v hv => (by simp at hv), by simp⟩
 obtain ⟨i, p, ad, cap⟩ := x10
 obtain ⟨hS10, hi, he, hp, hr, hpl⟩ := hJ10
 try dsimp only at hS10 hi he hp hr hpl ⊢
 refine wp_seq_k (fun K11 hK11 => ?_)
 refine wp_region_lit ?_
 refine l_q rfl rfl (q_lss rfl rfl) ?_
 refine l_nil ?_
 refine hK11 _ _ ?_
 refine wp_seq_k (fun K12 hK12 => ?_)
 refine c_cond rfl (fun hc13 => ?_) (fun hc13 => ?_)
 have hc13b := hc13
 try simp only [zbb] at hc13
 refine wp_skip ?_
 refine hK12 _ _ ?_
 refine wp_seq_k (fun K14 hK14 => ?_)
 refine wp_block ?_
 refine wp_seq_k (fun K15 hK15 => ?_)
 refine wp_region_lit ?_
 refine l_q rfl rfl (q_ixG (e := 106) (m := 3) (j := i) rfl rfl (by kernel_rfl) (by kernel_rfl) (by first | rfl | omega) (by omega) hG (by rw [rows_len (c := vl) (m := 3) (fun _ => rfl)]; first | omega | (simp only [zll] <;> omega))) ?_
 obtain ⟨x16, hx16⟩ : ∃ x, (L)[i]? = some x := ⟨_, List.getElem?_eq_getElem (by first | omega | (simp only [zll] <;> omega) | (simp <;> omega))⟩
 have hvb_x16 := (hL x16 (List.mem_of_getElem? hx16)).2
 refine l_q rfl rfl (q_loadGA (m := 3) rfl (by kernel_rfl) (by kernel_rfl) (hG.mono hS10.base) (row_take hx16 (c := vl) (m := 3) (fun _ => rfl)) rfl (by decide)) ?_
 refine l_e rfl (fun K hK => ?_)
 refine e_alloc (zv := .agg #[.int .i64 0, .int .i64 0, .string ⟨#[]⟩]) hS10 (by kernel_rfl) (fun b17 w17 (hS17 : St _ _ [.blk b17 (.cells #[.int .i64 (0 : Int), .int .i64 (0 : Int), .string (bs [])] 106), .ow 5 1 ad p.length cap (bv p)] _) => ?_)
 clear hS10
 refine hK _ _ ?_; clear hK K
 refine l_e rfl (fun K hK => ?_)
 refine e_storeA hS17 rfl rfl (by kernel_rfl) (by repeat' (first | exact trivial | refine ⟨by first | rfl | assumption | exact one_if (by assumption), ?_⟩)) (i := 0) rfl rfl (fun w18 (hS18 : St _ _ [.blk b17 (.cells #[.int .i64 x16.1, .int .i64 x16.2.1, .string (bs x16.2.2)] 106), _] _) => ?_)
 clear hS17
 refine hK _ _ ?_; clear hK K
 refine l_nil ?_
 refine hK15 _ _ ?_
 refine wp_seq_k (fun K19 hK19 => ?_)
 refine wp_seq_k (fun K20 hK20 => ?_)
 refine wp_region_lit ?_
 refine l_q rfl rfl (q_loadA (m := 3) rfl (by kernel_rfl) (by kernel_rfl) (hS18.blk (i := 0) rfl) rfl rfl) ?_
 refine l_e rfl (fun K hK => ?_)
 refine e_call (by kernel_rfl) (right_ok (x16.1, x16.2.1, x16.2.2) (hL x16 (List.mem_of_getElem? hx16)).1 _) rfl (after_R hS18 (fun v21 w21 hv21 hS21 => ?_))
 clear hS18
 obtain rfl := hv21
 refine hK _ _ ?_; clear hK K
 refine l_q rfl rfl (q_not rfl) ?_
 refine l_nil ?_
 refine hK20 _ _ ?_
 refine c_cond rfl (fun hc22 => ?_) (fun hc22 => ?_)
 have hc22b := hc22
 try simp only [zbb] at hc22
 refine wp_seq_k (fun K23 hK23 => ?_)
 refine wp_region_lit ?_
 refine l_q rfl rfl (q_assignS rfl) ?_
 refine l_q rfl rfl (q_assignI rfl) ?_
 refine l_nil ?_
 refine hK23 _ _ ?_
 refine wp_ret ?_
 refine c_ret2 rfl rfl rfl ?_
 have hne : rowE L = ([], 51) := by first | exact rowE_no1 (by omega) | exact rowE_no2 hx16 (by assumption)
 exact ⟨_, _, rfl, ⟨none, 0, by rw [hne]; rfl, by rw [hne]; rfl⟩, hS21.drop.ow_nil _ _⟩
 have hc22b := hc22
 try simp only [zbb] at hc22
 have hrt : rightB x16 = true := hc22
 have hrr := rightr hrt
 refine wp_skip ?_
 refine hK19 _ _ ?_
 refine wp_seq_k (fun K24 hK24 => ?_)
 refine wp_region_lit ?_
 refine l_q rfl rfl (q_moveS rfl) ?_
 refine l_q rfl rfl (q_fieldAddr (ft := 104) (o := 0) rfl (by kernel_rfl)) ?_
 refine l_q rfl rfl (q_load1 rfl (by kernel_rfl) (hS21.cell (i := 0) rfl rfl)) ?_
 refine l_q rfl rfl (q_conv8 rfl (by kernel_rfl) (by kernel_rfl) (by omega)) ?_
 refine l_e rfl (fun K hK => ?_)
 refine e_buildSlice1 (e := 5) (zv := .int .u8 0) (xs := [.tmp 26]) hS21 (by kernel_rfl) (by kernel_rfl) (by kernel_rfl) rfl rfl rfl rfl (allone (by repeat' (first | exact trivial | refine ⟨by first | rfl | assumption, ?_⟩))) rfl (fun b25 w25 (hS25 : St _ _ [.blk b25 (.cells #[.int .u8 (((x16.1.toNat % 256) : Nat) : Int)] 5), _, _] _) => ?_)
 clear hS21
 have hB25 : Bytes [(x16.1.toNat % 256)] := by intro q hq; simp only [List.mem_cons, List.not_mem_nil, or_false] at hq; omega
 have hS25o : St _ _ [.ow 5 1 (some ⟨b25, 0, none⟩) 1 1 (bv [(x16.1.toNat % 256)]), _, _] _ := hS25.blkOw' (i := 0) (m := 1) (size := 1) (xs := bv [(x16.1.toNat % 256)]) rfl rfl rfl (by decide); clear hS25
 refine hK _ _ ?_; clear hK K
 refine l_e rfl (fun K hK => ?_)
 have hB26 : Bytes (p ++ [(x16.1.toNat % 256)]) := Bytes.app hp hB25
 refine e_app (e := 5) (size := 1) (bytes := 1) (i := 2) (m' := (p ++ [(x16.1.toNat % 256)]).length) (by kernel_rfl) hS25o rfl rfl rfl (SlG.src (e := 5) (by kernel_rfl) (hS25o.owG (i := 0) rfl) (by first | (simp only [zll, Nat.mul_one]; done) | (simp only [zll]; omega) | rfl | (simp; done)) (by decide) (bv_one _)) (by first | omega | (simp only [zll] <;> omega) | (simp; done)) bv_app (by first | omega | (simp only [maxLen, zll] <;> omega) | (simp only [maxLen]; omega)) (by first | omega | (simp only [zll] <;> omega)) (fun ad26 cp26 w26 (hS26 : St _ _ [_, _, .ow 5 1 ad26 ((p ++ [(x16.1.toNat % 256)]).length) cp26 (bv (p ++ [(x16.1.toNat % 256)]))] _) => ?_)
 clear hS25o
 refine hK _ _ ?_; clear hK K
 refine l_q rfl rfl (q_assignS rfl) ?_
 refine l_nil ?_
 refine hK24 _ _ ?_
 refine wp_seq_k (fun K27 hK27 => ?_)
 refine wp_region_lit ?_
 refine l_q rfl rfl (q_fieldAddr (ft := 104) (o := 0) rfl (by kernel_rfl)) ?_
 refine l_q rfl rfl (q_load1 rfl (by kernel_rfl) (hS26.cell (i := 1) rfl rfl)) ?_
 refine l_nil ?_
 refine hK27 _ _ ?_
 refine wp_block ?_
 refine wp_seq_k (fun K28 hK28 => ?_)
 refine wp_block ?_
 refine wp_block ?_
 refine wp_seq_k (fun K29 hK29 => ?_)
 refine wp_block ?_
 refine wp_block ?_
 refine wp_seq_k (fun K30 hK30 => ?_)
 refine wp_block ?_
 refine wp_seq_k (fun K31 hK31 => ?_)
 refine wp_seq_k (fun K32 hK32 => ?_)
 refine wp_seq_k (fun K33 hK33 => ?_)
 refine wp_region_lit ?_
 refine l_q rfl rfl (q_eql rfl rfl) ?_
 refine l_q rfl rfl (q_assignB rfl) ?_
 refine l_nil ?_
 refine hK33 _ _ ?_
 refine c_cond rfl (fun hc34 => ?_) (fun hc34 => ?_)
 have hc34b := hc34
 try simp only [zbb] at hc34
 refine wp_exit ?_
 refine hK30 _ _ ?_
 refine wp_seq_k (fun K35 hK35 => ?_)
 have hb1 := (hrr.2.2.2.1 (by omega)).1
 refine wp_region_lit ?_
 refine l_q rfl rfl (q_moveS rfl) ?_
 refine l_q rfl rfl (q_fieldAddr (ft := 2) (o := 1) rfl (by kernel_rfl)) ?_
 refine l_q rfl rfl (q_load1 rfl (by kernel_rfl) (hS26.cell (i := 1) rfl rfl)) ?_
 refine l_q rfl rfl (q_conv8 rfl (by kernel_rfl) (by kernel_rfl) (by omega)) ?_
 refine l_e rfl (fun K hK => ?_)
 refine e_buildSlice1 (e := 5) (zv := .int .u8 0) (xs := [.tmp 44]) hS26 (by kernel_rfl) (by kernel_rfl) (by kernel_rfl) rfl rfl rfl rfl (allone (by repeat' (first | exact trivial | refine ⟨by first | rfl | assumption, ?_⟩))) rfl (fun b36 w36 (hS36 : St _ _ [.blk b36 (.cells #[.int .u8 (((x16.2.1.toNat % 256) : Nat) : Int)] 5), _, _, _] _) => ?_)
 clear hS26
 have hB36 : Bytes [(x16.2.1.toNat % 256)] := by intro q hq; simp only [List.mem_cons, List.not_mem_nil, or_false] at hq; omega
 have hS36o : St _ _ [.ow 5 1 (some ⟨b36, 0, none⟩) 1 1 (bv [(x16.2.1.toNat % 256)]), _, _, _] _ := hS36.blkOw' (i := 0) (m := 1) (size := 1) (xs := bv [(x16.2.1.toNat % 256)]) rfl rfl rfl (by decide); clear hS36
 refine hK _ _ ?_; clear hK K
 refine l_e rfl (fun K hK => ?_)
 have hB37 : Bytes ((p ++ [(x16.1.toNat % 256)]) ++ [(x16.2.1.toNat % 256)]) := Bytes.app hB26 hB36
 refine e_app (e := 5) (size := 1) (bytes := 1) (i := 3) (m' := ((p ++ [(x16.1.toNat % 256)]) ++ [(x16.2.1.toNat % 256)]).length) (by kernel_rfl) hS36o rfl rfl rfl (SlG.src (e := 5) (by kernel_rfl) (hS36o.owG (i := 0) rfl) (by first | (simp only [zll, Nat.mul_one]; done) | (simp only [zll]; omega) | rfl | (simp; done)) (by decide) (bv_one _)) (by first | omega | (simp only [zll] <;> omega) | (simp; done)) bv_app (by first | omega | (simp only [maxLen, zll] <;> omega) | (simp only [maxLen]; omega)) (by first | omega | (simp only [zll] <;> omega)) (fun ad37 cp37 w37 (hS37 : St _ _ [_, _, _, .ow 5 1 ad37 (((p ++ [(x16.1.toNat % 256)]) ++ [(x16.2.1.toNat % 256)]).length) cp37 (bv ((p ++ [(x16.1.toNat % 256)]) ++ [(x16.2.1.toNat % 256)]))] _) => ?_)
 clear hS36o
 refine hK _ _ ?_; clear hK K
 refine l_q rfl rfl (q_assignS rfl) ?_
 refine l_nil ?_
 refine hK35 _ _ ?_
 refine wp_exit ?_
 refine hK14 _ _ ?_
 refine wp_region_lit ?_
 refine l_q rfl rfl (q_addx rfl rfl (by first | decide | omega) (by first | decide | omega)) ?_
 refine l_q rfl rfl (q_moveI rfl) ?_
 refine l_nil ?_
 have hS38 := hS37.fr3; clear hS37
 have hS39 : St _ _ [_] _ := hS38.only 1; clear hS38
 refine hK10 _ _ (came (⟨(i + 1), ((p ++ [(x16.1.toNat % 256)]) ++ [(x16.2.1.toNat % 256)]), ad37, cp37⟩) (by repeat' (first | exact Agree.refl _ _ | refine Agree.up ?_ rfl | refine Agree.hav2 ?_ rfl | refine Agree.ups2 ?_ rfl)) (by repeat' (first | exact trivial | refine ⟨by first | rfl | exact int_succ _ | assumption, ?_⟩)) ?_)
 have hq1 := renc_1 (v := x16) (by omega) p
 have hq := row_i1 he hx16 (hq1)
 have hrl := renc_len hrt (hL x16 (List.mem_of_getElem? hx16))
 have hql := congrArg List.length hq1
 rw [List.length_append (bs := renc _)] at hql
 exact ⟨⟨hS39, (by show i + 1 ≤ L.length; omega), hq, hB37, (by rw [tk_next hx16]; intro v hv; rcases List.mem_append.1 hv with hv | hv; exact hr v hv; rw [List.mem_singleton] at hv; subst hv; exact hrt), by (show ((p ++ [(x16.1.toNat % 256)]) ++ [(x16.2.1.toNat % 256)]).length ≤ 1 + 211 * (i + 1)); omega⟩, by (show L.length - (i + 1) < L.length - i); omega⟩
 have hc34b := hc34
 try simp only [zbb] at hc34
 refine wp_skip ?_
 refine hK32 _ _ ?_
 refine wp_seq_k (fun K40 hK40 => ?_)
 refine wp_seq_k (fun K41 hK41 => ?_)
 refine wp_region_lit ?_
 refine l_q rfl rfl (q_eql rfl rfl) ?_
 refine l_q rfl rfl (q_assignB rfl) ?_
 refine l_nil ?_
 refine hK41 _ _ ?_
 refine c_cond rfl (fun hc42 => ?_) (fun hc42 => ?_)
 have hc42b := hc42
 try simp only [zbb] at hc42
 refine wp_exit ?_
 refine hK29 _ _ ?_
 refine wp_seq_k (fun K43 hK43 => ?_)
 have hsl := short_len hvb_x16.2.1 hvb_x16.2.2
 refine wp_region_lit ?_
 refine l_q rfl rfl (q_moveS rfl) ?_
 refine l_q rfl rfl (q_fieldAddr (ft := 2) (o := 1) rfl (by kernel_rfl)) ?_
 refine l_q rfl rfl (q_load1 rfl (by kernel_rfl) (hS26.cell (i := 1) rfl rfl)) ?_
 refine l_e rfl (fun K hK => ?_)
 refine e_call (by kernel_rfl) (short_ok x16.2.1 (by omega) (by omega) _) rfl (after_N hS26 (fun v44 G44 w44 hv44 hS44 => ?_))
 clear hS26
 obtain ⟨ad44, cp44, rfl, rfl⟩ := hv44
 have hS45 : St _ _ [.ow 5 1 ad44 ((short x16.2.1).length) cp44 (bv (short x16.2.1)), _, _, _] _ := hS44; clear hS44
 refine hK _ _ ?_; clear hK K
 refine l_e rfl (fun K hK => ?_)
 have hB46 : Bytes ((p ++ [(x16.1.toNat % 256)]) ++ (short x16.2.1)) := Bytes.app hB26 (short_bytes x16.2.1)
 refine e_app (e := 5) (size := 1) (bytes := 1) (i := 3) (m' := ((p ++ [(x16.1.toNat % 256)]) ++ (short x16.2.1)).length) (by kernel_rfl) hS45 rfl rfl rfl (SlG.src (e := 5) (by kernel_rfl) (hS45.owG (i := 0) rfl) (by first | (simp only [zll, Nat.mul_one]; done) | (simp only [zll]; omega) | rfl | (simp; done)) (by decide) (bv_one _)) (by first | omega | (simp only [zll] <;> omega) | (simp; done)) bv_app (by first | omega | (simp only [maxLen, zll] <;> omega) | (simp only [maxLen]; omega)) (by first | omega | (simp only [zll] <;> omega)) (fun ad46 cp46 w46 (hS46 : St _ _ [_, _, _, .ow 5 1 ad46 (((p ++ [(x16.1.toNat % 256)]) ++ (short x16.2.1)).length) cp46 (bv ((p ++ [(x16.1.toNat % 256)]) ++ (short x16.2.1)))] _) => ?_)
 clear hS45
 refine hK _ _ ?_; clear hK K
 refine l_q rfl rfl (q_assignS rfl) ?_
 refine l_nil ?_
 refine hK43 _ _ ?_
 refine wp_exit ?_
 refine hK14 _ _ ?_
 refine wp_region_lit ?_
 refine l_q rfl rfl (q_addx rfl rfl (by first | decide | omega) (by first | decide | omega)) ?_
 refine l_q rfl rfl (q_moveI rfl) ?_
 refine l_nil ?_
 have hS47 := hS46.fr3; clear hS46
 have hS48 : St _ _ [_] _ := hS47.only 1; clear hS47
 refine hK10 _ _ (came (⟨(i + 1), ((p ++ [(x16.1.toNat % 256)]) ++ (short x16.2.1)), ad46, cp46⟩) (by repeat' (first | exact Agree.refl _ _ | refine Agree.up ?_ rfl | refine Agree.hav2 ?_ rfl | refine Agree.ups2 ?_ rfl)) (by repeat' (first | exact trivial | refine ⟨by first | rfl | exact int_succ _ | assumption, ?_⟩)) ?_)
 have hq1 := renc_2 (v := x16) (by omega) p
 have hq := row_i1 he hx16 (hq1)
 have hrl := renc_len hrt (hL x16 (List.mem_of_getElem? hx16))
 have hql := congrArg List.length hq1
 rw [List.length_append (bs := renc _)] at hql
 exact ⟨⟨hS48, (by show i + 1 ≤ L.length; omega), hq, hB46, (by rw [tk_next hx16]; intro v hv; rcases List.mem_append.1 hv with hv | hv; exact hr v hv; rw [List.mem_singleton] at hv; subst hv; exact hrt), by (show ((p ++ [(x16.1.toNat % 256)]) ++ (short x16.2.1)).length ≤ 1 + 211 * (i + 1)); omega⟩, by (show L.length - (i + 1) < L.length - i); omega⟩
 have hc42b := hc42
 try simp only [zbb] at hc42
 refine wp_skip ?_
 refine hK40 _ _ ?_
 refine wp_seq_k (fun K49 hK49 => ?_)
 refine wp_seq_k (fun K50 hK50 => ?_)
 refine wp_region_lit ?_
 refine l_q rfl rfl (q_eql rfl rfl) ?_
 refine l_q rfl rfl (q_assignB rfl) ?_
 refine l_nil ?_
 refine hK50 _ _ ?_
 refine c_cond rfl (fun hc51 => ?_) (fun hc51 => ?_)
 have hc51b := hc51
 try simp only [zbb] at hc51
 refine wp_exit ?_
 refine hK29 _ _ ?_
 refine wp_seq_k (fun K52 hK52 => ?_)
 have hsl := short_len hvb_x16.2.1 hvb_x16.2.2
 refine wp_region_lit ?_
 refine l_q rfl rfl (q_moveS rfl) ?_
 refine l_q rfl rfl (q_fieldAddr (ft := 2) (o := 1) rfl (by kernel_rfl)) ?_
 refine l_q rfl rfl (q_load1 rfl (by kernel_rfl) (hS26.cell (i := 1) rfl rfl)) ?_
 refine l_e rfl (fun K hK => ?_)
 refine e_call (by kernel_rfl) (short_ok x16.2.1 (by omega) (by omega) _) rfl (after_N hS26 (fun v53 G53 w53 hv53 hS53 => ?_))
 clear hS26
 obtain ⟨ad53, cp53, rfl, rfl⟩ := hv53
 have hS54 : St _ _ [.ow 5 1 ad53 ((short x16.2.1).length) cp53 (bv (short x16.2.1)), _, _, _] _ := hS53; clear hS53
 refine hK _ _ ?_; clear hK K
 refine l_e rfl (fun K hK => ?_)
 have hB55 : Bytes ((p ++ [(x16.1.toNat % 256)]) ++ (short x16.2.1)) := Bytes.app hB26 (short_bytes x16.2.1)
 refine e_app (e := 5) (size := 1) (bytes := 1) (i := 3) (m' := ((p ++ [(x16.1.toNat % 256)]) ++ (short x16.2.1)).length) (by kernel_rfl) hS54 rfl rfl rfl (SlG.src (e := 5) (by kernel_rfl) (hS54.owG (i := 0) rfl) (by first | (simp only [zll, Nat.mul_one]; done) | (simp only [zll]; omega) | rfl | (simp; done)) (by decide) (bv_one _)) (by first | omega | (simp only [zll] <;> omega) | (simp; done)) bv_app (by first | omega | (simp only [maxLen, zll] <;> omega) | (simp only [maxLen]; omega)) (by first | omega | (simp only [zll] <;> omega)) (fun ad55 cp55 w55 (hS55 : St _ _ [_, _, _, .ow 5 1 ad55 (((p ++ [(x16.1.toNat % 256)]) ++ (short x16.2.1)).length) cp55 (bv ((p ++ [(x16.1.toNat % 256)]) ++ (short x16.2.1)))] _) => ?_)
 clear hS54
 refine hK _ _ ?_; clear hK K
 refine l_q rfl rfl (q_assignS rfl) ?_
 refine l_nil ?_
 refine hK52 _ _ ?_
 refine wp_exit ?_
 refine hK14 _ _ ?_
 refine wp_region_lit ?_
 refine l_q rfl rfl (q_addx rfl rfl (by first | decide | omega) (by first | decide | omega)) ?_
 refine l_q rfl rfl (q_moveI rfl) ?_
 refine l_nil ?_
 have hS56 := hS55.fr3; clear hS55
 have hS57 : St _ _ [_] _ := hS56.only 1; clear hS56
 refine hK10 _ _ (came (⟨(i + 1), ((p ++ [(x16.1.toNat % 256)]) ++ (short x16.2.1)), ad55, cp55⟩) (by repeat' (first | exact Agree.refl _ _ | refine Agree.up ?_ rfl | refine Agree.hav2 ?_ rfl | refine Agree.ups2 ?_ rfl)) (by repeat' (first | exact trivial | refine ⟨by first | rfl | exact int_succ _ | assumption, ?_⟩)) ?_)
 have hq1 := renc_2 (v := x16) (by omega) p
 have hq := row_i1 he hx16 (hq1)
 have hrl := renc_len hrt (hL x16 (List.mem_of_getElem? hx16))
 have hql := congrArg List.length hq1
 rw [List.length_append (bs := renc _)] at hql
 exact ⟨⟨hS57, (by show i + 1 ≤ L.length; omega), hq, hB55, (by rw [tk_next hx16]; intro v hv; rcases List.mem_append.1 hv with hv | hv; exact hr v hv; rw [List.mem_singleton] at hv; subst hv; exact hrt), by (show ((p ++ [(x16.1.toNat % 256)]) ++ (short x16.2.1)).length ≤ 1 + 211 * (i + 1)); omega⟩, by (show L.length - (i + 1) < L.length - i); omega⟩
 have hc51b := hc51
 try simp only [zbb] at hc51
 refine wp_skip ?_
 refine hK49 _ _ ?_
 refine wp_seq_k (fun K58 hK58 => ?_)
 refine wp_seq_k (fun K59 hK59 => ?_)
 refine wp_region_lit ?_
 refine l_q rfl rfl (q_eql rfl rfl) ?_
 refine l_q rfl rfl (q_assignB rfl) ?_
 refine l_nil ?_
 refine hK59 _ _ ?_
 refine c_cond rfl (fun hc60 => ?_) (fun hc60 => ?_)
 have hc60b := hc60
 try simp only [zbb] at hc60
 refine wp_exit ?_
 refine hK28 _ _ ?_
 refine wp_seq_k (fun K61 hK61 => ?_)
 have hs4 := (hrr.2.2.2.2.2 (by omega)).2
 have hsl := short_len (n := ((x16.2.2.length : Nat) : Int)) (by omega) (by omega)
 refine r_any (by kernel_rfl) hS26 (fun w62 hS62 => ?_)
 clear hS26
 refine o_pure (i := 0) (fun _ _ => trivial) rfl rfl (by kernel_rfl) (goes0 rfl) (QOk.then (QOk.inBlock (QOk.inBlock (QOk.then (QOk.then (QOk.inBlock (QOk.then QOk.body))))))) (fun w => q_moveS rfl) ?_
 refine o_pure (i := 1) (fun _ _ => trivial) rfl rfl (by kernel_rfl) (goes0 rfl) (QOk.then (QOk.inBlock (QOk.inBlock (QOk.then (QOk.then (QOk.inBlock (QOk.then QOk.body))))))) (fun w => q_fieldAddr (ft := 9) (o := 2) rfl (by kernel_rfl)) ?_
 refine o_held (i := 2) [3, 4, 5, 8, 9] (fun _ _ => trivial) rfl rfl (by kernel_rfl) (goes0 rfl) (QOk.then (QOk.inBlock (QOk.inBlock (QOk.then (QOk.then (QOk.inBlock (QOk.then QOk.body))))))) (q_load1 rfl (by kernel_rfl) (hS62.cell (i := 1) rfl rfl)) ?_
 refine o_pure (i := 3) (fun j w => ⟨(fun _ _ => trivial) j w, fun _ h => h⟩) rfl rfl (by kernel_rfl) (goes0 rfl) (QOk.then (QOk.inBlock (QOk.inBlock (QOk.then (QOk.then (QOk.inBlock (QOk.then QOk.body))))))) (fun w => q_lenStrB (l := x16.2.2) rfl (by kernel_rfl)) ?_
 refine o_pure (i := 6) (fun j w => ⟨(fun _ _ => trivial) j w, fun _ h => h⟩) rfl rfl (by kernel_rfl) (goes0 rfl) (QOk.then (QOk.inBlock (QOk.inBlock (QOk.then (QOk.then (QOk.inBlock (QOk.then QOk.body))))))) (fun w => q_fieldAddr (ft := 9) (o := 2) rfl (by kernel_rfl)) ?_
 refine o_held (i := 7) [8, 9] (fun j w => ⟨(fun _ _ => trivial) j w, fun _ h => h⟩) rfl rfl (by kernel_rfl) (goes0 rfl) (QOk.then (QOk.inBlock (QOk.inBlock (QOk.then (QOk.then (QOk.inBlock (QOk.then QOk.body))))))) (q_load1 rfl (by kernel_rfl) (hS62.cell (i := 1) rfl rfl)) ?_
 refine o_eff (i := 4) (by kernel_rfl) rfl (goes0 rfl) (fun K hK => ?_)
 refine e_call (by kernel_rfl) (short_ok ((x16.2.2.length : Nat) : Int) (by omega) (by omega) _) rfl (after_N hS62 (fun v63 G63 w63 hv63 hS63 => ?_))
 clear hS62
 obtain ⟨ad63, cp63, rfl, rfl⟩ := hv63
 have hS64 : St _ _ [.ow 5 1 ad63 ((short ((x16.2.2.length : Nat) : Int)).length) cp63 (bv (short ((x16.2.2.length : Nat) : Int))), _, _, _] _ := hS63; clear hS63
 refine hK _ _ ⟨⟨trivial, fun h => absurd h (by decide)⟩, fun _ _ => by first | exact q_load1 rfl (by kernel_rfl) (hS64.cell (i := 2) rfl rfl)⟩ ?_; clear hK K
 refine o_eff (i := 5) (by kernel_rfl) rfl (goes0 rfl) (fun K hK => ?_)
 have hB65 : Bytes ((p ++ [(x16.1.toNat % 256)]) ++ (short ((x16.2.2.length : Nat) : Int))) := Bytes.app hB26 (short_bytes ((x16.2.2.length : Nat) : Int))
 refine e_app (e := 5) (size := 1) (bytes := 1) (i := 3) (m' := ((p ++ [(x16.1.toNat % 256)]) ++ (short ((x16.2.2.length : Nat) : Int))).length) (by kernel_rfl) hS64 rfl rfl rfl (SlG.src (e := 5) (by kernel_rfl) (hS64.owG (i := 0) rfl) (by first | (simp only [zll, Nat.mul_one]; done) | (simp only [zll]; omega) | rfl | (simp; done)) (by decide) (bv_one _)) (by first | omega | (simp only [zll] <;> omega) | (simp; done)) bv_app (by first | omega | (simp only [maxLen, zll] <;> omega) | (simp only [maxLen]; omega)) (by first | omega | (simp only [zll] <;> omega)) (fun ad65 cp65 w65 (hS65 : St _ _ [_, _, _, .ow 5 1 ad65 (((p ++ [(x16.1.toNat % 256)]) ++ (short ((x16.2.2.length : Nat) : Int))).length) cp65 (bv ((p ++ [(x16.1.toNat % 256)]) ++ (short ((x16.2.2.length : Nat) : Int))))] _) => ?_)
 clear hS64
 refine hK _ _ ⟨⟨trivial, fun h => absurd h (by decide)⟩, fun _ _ => by first | exact q_load1 rfl (by kernel_rfl) (hS65.cell (i := 2) rfl rfl)⟩ ?_; clear hK K
 refine o_eff (i := 8) (by kernel_rfl) rfl (goes0 rfl) (fun K hK => ?_)
 have hB66 : Bytes (((p ++ [(x16.1.toNat % 256)]) ++ (short ((x16.2.2.length : Nat) : Int))) ++ x16.2.2) := Bytes.app hB65 (hL x16 (List.mem_of_getElem? hx16)).1
 refine e_app (e := 5) (size := 1) (bytes := 1) (i := 3) (m' := (((p ++ [(x16.1.toNat % 256)]) ++ (short ((x16.2.2.length : Nat) : Int))) ++ x16.2.2).length) (by kernel_rfl) hS65 rfl rfl rfl (src_str (l := x16.2.2) (by kernel_rfl) (hL x16 (List.mem_of_getElem? hx16)).1) (by first | omega | (simp only [zll] <;> omega) | (simp; done)) bv_app (by first | omega | (simp only [maxLen, zll] <;> omega) | (simp only [maxLen]; omega)) (by first | omega | (simp only [zll] <;> omega)) (fun ad66 cp66 w66 (hS66 : St _ _ [_, _, _, .ow 5 1 ad66 ((((p ++ [(x16.1.toNat % 256)]) ++ (short ((x16.2.2.length : Nat) : Int))) ++ x16.2.2).length) cp66 (bv (((p ++ [(x16.1.toNat % 256)]) ++ (short ((x16.2.2.length : Nat) : Int))) ++ x16.2.2))] _) => ?_)
 clear hS65
 refine hK _ _ ⟨⟨trivial, fun h => absurd h (by decide)⟩, fun h => absurd h (by decide)⟩ ?_; clear hK K
 refine o_pure (i := 9) (fun j w => ⟨(fun j w => ⟨(fun _ _ => trivial) j w, fun _ h => h⟩) j w, fun _ h => h⟩) rfl rfl (by kernel_rfl) (goes0 rfl) (QOk.then (QOk.inBlock (QOk.inBlock (QOk.then (QOk.then (QOk.inBlock (QOk.then QOk.body))))))) (fun w => q_assignS rfl) ?_
 refine o_done (by kernel_rfl) ?_
 refine hK61 _ _ ?_
 refine wp_exit ?_
 refine hK14 _ _ ?_
 refine wp_region_lit ?_
 refine l_q rfl rfl (q_addx rfl rfl (by first | decide | omega) (by first | decide | omega)) ?_
 refine l_q rfl rfl (q_moveI rfl) ?_
 refine l_nil ?_
 have hS67 := hS66.fr3; clear hS66
 have hS68 : St _ _ [_] _ := hS67.only 1; clear hS67
 refine hK10 _ _ (came (⟨(i + 1), (((p ++ [(x16.1.toNat % 256)]) ++ (short ((x16.2.2.length : Nat) : Int))) ++ x16.2.2), ad66, cp66⟩) (by repeat' (first | exact Agree.refl _ _ | refine Agree.up ?_ rfl | refine Agree.hav2 ?_ rfl | refine Agree.ups2 ?_ rfl)) (by repeat' (first | exact trivial | refine ⟨by first | rfl | exact int_succ _ | assumption, ?_⟩)) ?_)
 have hq1 := renc_4 (v := x16) (by omega) p
 have hq := row_i1 he hx16 (hq1)
 have hrl := renc_len hrt (hL x16 (List.mem_of_getElem? hx16))
 have hql := congrArg List.length hq1
 rw [List.length_append (bs := renc _)] at hql
 exact ⟨⟨hS68, (by show i + 1 ≤ L.length; omega), hq, hB66, (by rw [tk_next hx16]; intro v hv; rcases List.mem_append.1 hv with hv | hv; exact hr v hv; rw [List.mem_singleton] at hv; subst hv; exact hrt), by (show (((p ++ [(x16.1.toNat % 256)]) ++ (short ((x16.2.2.length : Nat) : Int))) ++ x16.2.2).length ≤ 1 + 211 * (i + 1)); omega⟩, by (show L.length - (i + 1) < L.length - i); omega⟩
 have hc60b := hc60
 try simp only [zbb] at hc60
 refine wp_skip ?_
 refine hK58 _ _ ?_
 refine wp_seq_k (fun K69 hK69 => ?_)
 refine wp_region_lit ?_
 refine l_q rfl rfl (q_eql rfl rfl) ?_
 refine l_q rfl rfl (q_assignB rfl) ?_
 refine l_nil ?_
 refine hK69 _ _ ?_
 refine c_cond rfl (fun hc70 => ?_) (fun hc70 => ?_)
 have hc70b := hc70
 try simp only [zbb] at hc70
 refine wp_exit ?_
 refine hK28 _ _ ?_
 refine wp_seq_k (fun K71 hK71 => ?_)
 have hs4 := (hrr.2.2.2.2.2 (by omega)).2
 have hsl := short_len (n := ((x16.2.2.length : Nat) : Int)) (by omega) (by omega)
 refine r_any (by kernel_rfl) hS26 (fun w72 hS72 => ?_)
 clear hS26
 refine o_pure (i := 0) (fun _ _ => trivial) rfl rfl (by kernel_rfl) (goes0 rfl) (QOk.then (QOk.inBlock (QOk.inBlock (QOk.then (QOk.then (QOk.inBlock (QOk.then QOk.body))))))) (fun w => q_moveS rfl) ?_
 refine o_pure (i := 1) (fun _ _ => trivial) rfl rfl (by kernel_rfl) (goes0 rfl) (QOk.then (QOk.inBlock (QOk.inBlock (QOk.then (QOk.then (QOk.inBlock (QOk.then QOk.body))))))) (fun w => q_fieldAddr (ft := 9) (o := 2) rfl (by kernel_rfl)) ?_
 refine o_held (i := 2) [3, 4, 5, 8, 9] (fun _ _ => trivial) rfl rfl (by kernel_rfl) (goes0 rfl) (QOk.then (QOk.inBlock (QOk.inBlock (QOk.then (QOk.then (QOk.inBlock (QOk.then QOk.body))))))) (q_load1 rfl (by kernel_rfl) (hS72.cell (i := 1) rfl rfl)) ?_
 refine o_pure (i := 3) (fun j w => ⟨(fun _ _ => trivial) j w, fun _ h => h⟩) rfl rfl (by kernel_rfl) (goes0 rfl) (QOk.then (QOk.inBlock (QOk.inBlock (QOk.then (QOk.then (QOk.inBlock (QOk.then QOk.body))))))) (fun w => q_lenStrB (l := x16.2.2) rfl (by kernel_rfl)) ?_
 refine o_pure (i := 6) (fun j w => ⟨(fun _ _ => trivial) j w, fun _ h => h⟩) rfl rfl (by kernel_rfl) (goes0 rfl) (QOk.then (QOk.inBlock (QOk.inBlock (QOk.then (QOk.then (QOk.inBlock (QOk.then QOk.body))))))) (fun w => q_fieldAddr (ft := 9) (o := 2) rfl (by kernel_rfl)) ?_
 refine o_held (i := 7) [8, 9] (fun j w => ⟨(fun _ _ => trivial) j w, fun _ h => h⟩) rfl rfl (by kernel_rfl) (goes0 rfl) (QOk.then (QOk.inBlock (QOk.inBlock (QOk.then (QOk.then (QOk.inBlock (QOk.then QOk.body))))))) (q_load1 rfl (by kernel_rfl) (hS72.cell (i := 1) rfl rfl)) ?_
 refine o_eff (i := 4) (by kernel_rfl) rfl (goes0 rfl) (fun K hK => ?_)
 refine e_call (by kernel_rfl) (short_ok ((x16.2.2.length : Nat) : Int) (by omega) (by omega) _) rfl (after_N hS72 (fun v73 G73 w73 hv73 hS73 => ?_))
 clear hS72
 obtain ⟨ad73, cp73, rfl, rfl⟩ := hv73
 have hS74 : St _ _ [.ow 5 1 ad73 ((short ((x16.2.2.length : Nat) : Int)).length) cp73 (bv (short ((x16.2.2.length : Nat) : Int))), _, _, _] _ := hS73; clear hS73
 refine hK _ _ ⟨⟨trivial, fun h => absurd h (by decide)⟩, fun _ _ => by first | exact q_load1 rfl (by kernel_rfl) (hS74.cell (i := 2) rfl rfl)⟩ ?_; clear hK K
 refine o_eff (i := 5) (by kernel_rfl) rfl (goes0 rfl) (fun K hK => ?_)
 have hB75 : Bytes ((p ++ [(x16.1.toNat % 256)]) ++ (short ((x16.2.2.length : Nat) : Int))) := Bytes.app hB26 (short_bytes ((x16.2.2.length : Nat) : Int))
 refine e_app (e := 5) (size := 1) (bytes := 1) (i := 3) (m' := ((p ++ [(x16.1.toNat % 256)]) ++ (short ((x16.2.2.length : Nat) : Int))).length) (by kernel_rfl) hS74 rfl rfl rfl (SlG.src (e := 5) (by kernel_rfl) (hS74.owG (i := 0) rfl) (by first | (simp only [zll, Nat.mul_one]; done) | (simp only [zll]; omega) | rfl | (simp; done)) (by decide) (bv_one _)) (by first | omega | (simp only [zll] <;> omega) | (simp; done)) bv_app (by first | omega | (simp only [maxLen, zll] <;> omega) | (simp only [maxLen]; omega)) (by first | omega | (simp only [zll] <;> omega)) (fun ad75 cp75 w75 (hS75 : St _ _ [_, _, _, .ow 5 1 ad75 (((p ++ [(x16.1.toNat % 256)]) ++ (short ((x16.2.2.length : Nat) : Int))).length) cp75 (bv ((p ++ [(x16.1.toNat % 256)]) ++ (short ((x16.2.2.length : Nat) : Int))))] _) => ?_)
 clear hS74
 refine hK _ _ ⟨⟨trivial, fun h => absurd h (by decide)⟩, fun _ _ => by first | exact q_load1 rfl (by kernel_rfl) (hS75.cell (i := 2) rfl rfl)⟩ ?_; clear hK K
 refine o_eff (i := 8) (by kernel_rfl) rfl (goes0 rfl) (fun K hK => ?_)
 have hB76 : Bytes (((p ++ [(x16.1.toNat % 256)]) ++ (short ((x16.2.2.length : Nat) : Int))) ++ x16.2.2) := Bytes.app hB75 (hL x16 (List.mem_of_getElem? hx16)).1
 refine e_app (e := 5) (size := 1) (bytes := 1) (i := 3) (m' := (((p ++ [(x16.1.toNat % 256)]) ++ (short ((x16.2.2.length : Nat) : Int))) ++ x16.2.2).length) (by kernel_rfl) hS75 rfl rfl rfl (src_str (l := x16.2.2) (by kernel_rfl) (hL x16 (List.mem_of_getElem? hx16)).1) (by first | omega | (simp only [zll] <;> omega) | (simp; done)) bv_app (by first | omega | (simp only [maxLen, zll] <;> omega) | (simp only [maxLen]; omega)) (by first | omega | (simp only [zll] <;> omega)) (fun ad76 cp76 w76 (hS76 : St _ _ [_, _, _, .ow 5 1 ad76 ((((p ++ [(x16.1.toNat % 256)]) ++ (short ((x16.2.2.length : Nat) : Int))) ++ x16.2.2).length) cp76 (bv (((p ++ [(x16.1.toNat % 256)]) ++ (short ((x16.2.2.length : Nat) : Int))) ++ x16.2.2))] _) => ?_)
 clear hS75
 refine hK _ _ ⟨⟨trivial, fun h => absurd h (by decide)⟩, fun h => absurd h (by decide)⟩ ?_; clear hK K
 refine o_pure (i := 9) (fun j w => ⟨(fun j w => ⟨(fun _ _ => trivial) j w, fun _ h => h⟩) j w, fun _ h => h⟩) rfl rfl (by kernel_rfl) (goes0 rfl) (QOk.then (QOk.inBlock (QOk.inBlock (QOk.then (QOk.then (QOk.inBlock (QOk.then QOk.body))))))) (fun w => q_assignS rfl) ?_
 refine o_done (by kernel_rfl) ?_
 refine hK71 _ _ ?_
 refine wp_exit ?_
 refine hK14 _ _ ?_
 refine wp_region_lit ?_
 refine l_q rfl rfl (q_addx rfl rfl (by first | decide | omega) (by first | decide | omega)) ?_
 refine l_q rfl rfl (q_moveI rfl) ?_
 refine l_nil ?_
 have hS77 := hS76.fr3; clear hS76
 have hS78 : St _ _ [_] _ := hS77.only 1; clear hS77
 refine hK10 _ _ (came (⟨(i + 1), (((p ++ [(x16.1.toNat % 256)]) ++ (short ((x16.2.2.length : Nat) : Int))) ++ x16.2.2), ad76, cp76⟩) (by repeat' (first | exact Agree.refl _ _ | refine Agree.up ?_ rfl | refine Agree.hav2 ?_ rfl | refine Agree.ups2 ?_ rfl)) (by repeat' (first | exact trivial | refine ⟨by first | rfl | exact int_succ _ | assumption, ?_⟩)) ?_)
 have hq1 := renc_4 (v := x16) (by omega) p
 have hq := row_i1 he hx16 (hq1)
 have hrl := renc_len hrt (hL x16 (List.mem_of_getElem? hx16))
 have hql := congrArg List.length hq1
 rw [List.length_append (bs := renc _)] at hql
 exact ⟨⟨hS78, (by show i + 1 ≤ L.length; omega), hq, hB76, (by rw [tk_next hx16]; intro v hv; rcases List.mem_append.1 hv with hv | hv; exact hr v hv; rw [List.mem_singleton] at hv; subst hv; exact hrt), by (show (((p ++ [(x16.1.toNat % 256)]) ++ (short ((x16.2.2.length : Nat) : Int))) ++ x16.2.2).length ≤ 1 + 211 * (i + 1)); omega⟩, by (show L.length - (i + 1) < L.length - i); omega⟩
 have hc70b := hc70
 try simp only [zbb] at hc70
 refine wp_skip ?_
 refine hK31 _ _ ?_
 refine wp_exit ?_
 refine hK14 _ _ ?_
 refine wp_region_lit ?_
 refine l_q rfl rfl (q_addx rfl rfl (by first | decide | omega) (by first | decide | omega)) ?_
 refine l_q rfl rfl (q_moveI rfl) ?_
 refine l_nil ?_
 have hS79 := hS26.fr2; clear hS26
 have hS80 : St _ _ [_] _ := hS79.only 1; clear hS79
 refine hK10 _ _ (came (⟨(i + 1), (p ++ [(x16.1.toNat % 256)]), ad26, cp26⟩) (by repeat' (first | exact Agree.refl _ _ | refine Agree.up ?_ rfl | refine Agree.hav2 ?_ rfl | refine Agree.ups2 ?_ rfl)) (by repeat' (first | exact trivial | refine ⟨by first | rfl | exact int_succ _ | assumption, ?_⟩)) ?_)
 have hq1 := renc_0 (v := x16) ⟨by omega, by omega, by omega, by omega, by omega⟩ p
 have hq := row_i1 he hx16 (hq1)
 have hrl := renc_len hrt (hL x16 (List.mem_of_getElem? hx16))
 have hql := congrArg List.length hq1
 rw [List.length_append (bs := renc _)] at hql
 exact ⟨⟨hS80, (by show i + 1 ≤ L.length; omega), hq, hB26, (by rw [tk_next hx16]; intro v hv; rcases List.mem_append.1 hv with hv | hv; exact hr v hv; rw [List.mem_singleton] at hv; subst hv; exact hrt), by (show (p ++ [(x16.1.toNat % 256)]).length ≤ 1 + 211 * (i + 1)); omega⟩, by (show L.length - (i + 1) < L.length - i); omega⟩
 have hc13b := hc13
 try simp only [zbb] at hc13
 refine wp_exit ?_
 refine hK8 _ _ ?_
 refine wp_seq_k (fun K81 hK81 => ?_)
 refine wp_region_lit ?_
 refine l_q rfl rfl (q_moveS rfl) ?_
 refine l_q rfl rfl (q_assignS rfl) ?_
 refine l_q rfl rfl (q_assignI rfl) ?_
 refine l_nil ?_
 refine hK81 _ _ ?_
 refine wp_ret ?_
 refine c_ret2 rfl rfl rfl ?_
 have hti : L.take i = L := List.take_of_length_le (by omega)
 rw [hti] at he hr
 have hne : rowE L = (p, 0) := by rw [rowE_yes (by omega) hr, he]; unfold encRow; rfl
 exact ⟨_, _, rfl, ⟨ad, cap, (by rw [hne]; rfl), by rw [hne]⟩, hS10⟩
end Go.Proofs.Yteojpdijmnpmgaa
namespace Go.Proofs.Yteojpdijmnpmgaa
open Go.RowKit
theorem q_bv {P : Program} {n : Nat} {f : Nat → Value} {o : Oper} {w : World} {b c : Bool} (h : b = c) (hr : Run P n f o w (.bool b)) : Run P n f o w (.bool c) := h ▸ hr
theorem long_or (b : List Nat) : (∃ z r, -9223372036854775808 ≤ z ∧ z ≤ 9223372036854775807 ∧ b = short z ++ r) ∨ NoShort b := by
  rcases Classical.em (∃ z r, -9223372036854775808 ≤ z ∧ z ≤ 9223372036854775807 ∧ b = short z ++ r) with h | h
  · exact .inl h
  · exact .inr fun n r h1 h2 e => h ⟨n, r, h1, h2, e⟩
attribute [local irreducible] Oper.wp Sem.run Code.wp wpList wpAnyO callFunc execOp Calls
attribute [local irreducible] toU short rencs renc rowE encRow rightB zig unzig decRw
set_option maxRecDepth 100000 in
theorem take_yes (bo bb : Nat) (r : List Nat) (hr : Bytes r) (hm : r.length ≤ 2000000) (k : Nat) (hk : k ≤ r.length) (ra : Option Addr) (rc : Nat) (hrc : r.length ≤ rc) (w : World) (g : Gh) (hg : Rog [.blk bo (.cells #[.bool true] 4), .blk bb (.cells #[.slice ra r.length rc] 58)] w g) (hG : SlG g ra (bv r)) (hS : St w (owns [.blk bo (.cells #[.bool true] 4), .blk bb (.cells #[.slice ra r.length rc] 58)]) [.blk bo (.cells #[.bool true] 4), .blk bb (.cells #[.slice ra r.length rc] 58)] w) : Calls Try.prog 66 #[.int .i64 (k : Int), .pointer (some ⟨bo, 0, none⟩), .pointer (some ⟨bb, 0, none⟩)] w (Post w [.blk bo (.cells #[.bool true] 4), .blk bb (.cells #[.slice ra r.length rc] 58)] fun v G => ∃ ra' rc', v = .slice ra k rc ∧ G = [.blk bo (.cells #[.bool true] 4), .blk bb (.cells #[.slice ra' (r.drop k).length rc'] 58)] ∧ SlG g ra' (bv (r.drop k)) ∧ (r.drop k).length ≤ rc') := by
 refine c_enter Try.func66 rfl rfl rfl ?_
 refine wp_seq_k (fun K1 hK1 => ?_)
 refine wp_region_lit ?_
 refine l_q rfl rfl (q_assignS rfl) ?_
 refine l_nil ?_
 refine hK1 _ _ ?_
 refine wp_seq_k (fun K2 hK2 => ?_)
 refine wp_seq_k (fun K3 hK3 => ?_)
 refine wp_region_lit ?_
 refine l_q rfl rfl (q_load1 rfl (by kernel_rfl) (hS.cell (i := 0) rfl rfl)) ?_
 refine l_q rfl rfl (q_moveB rfl) ?_
 refine l_on rfl rfl rfl ?_
 refine l_q rfl rfl (q_moveI rfl) ?_
 refine l_on rfl rfl rfl ?_
 refine l_q rfl rfl (q_bv (c := true) (decide_eq_true (by omega)) (q_geq rfl rfl)) ?_
 refine l_q rfl rfl (q_pickT rfl rfl rfl) ?_
 refine l_q rfl rfl (q_moveB rfl) ?_
 refine l_on rfl rfl rfl ?_
 refine l_q rfl rfl (q_moveI rfl) ?_
 refine l_on rfl rfl rfl ?_
 refine l_q rfl rfl (q_load1 rfl (by kernel_rfl) (hS.cell (i := 1) rfl rfl)) ?_
 refine l_on rfl rfl rfl ?_
 refine l_q rfl rfl (q_lenSl (e := 5) rfl (by kernel_rfl)) ?_
 refine l_on rfl rfl rfl ?_
 refine l_q rfl rfl (q_bv (c := true) (decide_eq_true (by omega)) (q_leq rfl rfl)) ?_
 refine l_q rfl rfl (q_pickT rfl rfl rfl) ?_
 refine l_e rfl (fun K hK => ?_)
 refine e_store1 hS rfl rfl (by kernel_rfl) (by first | rfl | assumption) (i := 0) rfl rfl (fun w4 (hS4 : St _ _ [.blk bo (.cells #[.bool true] 4), .blk bb (.cells #[.slice ra r.length rc] 58)] _) => ?_)
 clear hS
 refine hK _ _ ?_; clear hK K
 refine l_nil ?_
 refine hK3 _ _ ?_
 refine wp_seq_k (fun K5 hK5 => ?_)
 refine wp_region_lit ?_
 refine l_q rfl rfl (q_load1 rfl (by kernel_rfl) (hS4.cell (i := 0) rfl rfl)) ?_
 refine l_q rfl rfl (q_not rfl) ?_
 refine l_nil ?_
 refine hK5 _ _ ?_
 refine c_condF rfl rfl ?_
 refine wp_skip ?_
 refine hK2 _ _ ?_
 refine wp_seq_k (fun K7 hK7 => ?_)
 refine wp_region_lit ?_
 refine l_q rfl rfl (q_load1 rfl (by kernel_rfl) (hS4.cell (i := 1) rfl rfl)) ?_
 refine l_q rfl rfl (q_moveI rfl) ?_
 refine l_q rfl rfl (q_sliceX (e := 5) (size := 1) (l := 0) (h := k) (m := rc) (ad' := ra) (len' := k) (cap' := rc) rfl (by kernel_rfl) (by kernel_rfl) rfl ⟨_, int_nat (by first | rfl | omega) rfl⟩ rfl (by omega) (by first | omega | (simp only [zll] <;> omega)) (by first | omega | (simp only [zll] <;> omega)) rfl subS_zero (Nat.sub_zero _) (Nat.sub_zero _)) ?_
 refine l_q rfl rfl (q_assignS rfl) ?_
 refine l_nil ?_
 refine hK7 _ _ ?_
 refine wp_seq_k (fun K8 hK8 => ?_)
 refine wp_region_lit ?_
 refine l_q rfl rfl (q_load1 rfl (by kernel_rfl) (hS4.cell (i := 1) rfl rfl)) ?_
 refine l_q rfl rfl (q_moveI rfl) ?_
 refine l_q rfl rfl (q_sliceX (e := 5) (size := 1) (l := k) (h := r.length) (m := rc) (ad' := (subS ra k 1 rc)) (len' := (r.length - k)) (cap' := (rc - k)) rfl (by kernel_rfl) (by kernel_rfl) rfl rfl ⟨_, int_nat (by first | rfl | omega) rfl⟩ (by omega) (by first | omega | (simp only [zll] <;> omega)) (by first | omega | (simp only [zll] <;> omega)) rfl rfl rfl rfl) ?_
 refine l_e rfl (fun K hK => ?_)
 refine e_store1 hS4 rfl rfl (by kernel_rfl) (by first | rfl | assumption) (i := 1) rfl rfl (fun w9 (hS9 : St _ _ [_, .blk bb (.cells #[.slice (subS ra k 1 rc) (r.length - k) (rc - k)] 58)] _) => ?_)
 clear hS4
 refine hK _ _ ?_; clear hK K
 refine l_nil ?_
 refine hK8 _ _ ?_
 refine wp_seq_k (fun K10 hK10 => ?_)
 refine wp_region_lit ?_
 refine l_q rfl rfl (q_moveS rfl) ?_
 refine l_q rfl rfl (q_assignS rfl) ?_
 refine l_nil ?_
 refine hK10 _ _ ?_
 refine wp_ret ?_
 refine c_ret1 rfl rfl ?_
 exact ⟨_, _, rfl, ⟨_, _, rfl, (by rw [List.length_drop]), (bv_subD (by first | omega | (simp only [zll] <;> omega)) (SlG.sub (l := k) (size := 1) (m := rc) (n := r.length - k) hG (by first | omega | (simp only [zll] <;> omega)) (by decide))), (by rw [List.length_drop]; omega)⟩, hS9⟩
set_option maxRecDepth 100000 in
theorem take_no (bo bb : Nat) (r : List Nat) (hr : Bytes r) (hm : r.length ≤ 2000000) (ok : Bool) (z : Int) (hz : ok = false ∨ (z < 0 ∨ (r.length : Int) < z)) (ra : Option Addr) (rc : Nat) (hrc : r.length ≤ rc) (w : World) (g : Gh) (hg : Rog [.blk bo (.cells #[.bool ok] 4), .blk bb (.cells #[.slice ra r.length rc] 58)] w g) (hG : SlG g ra (bv r)) (hS : St w (owns [.blk bo (.cells #[.bool ok] 4), .blk bb (.cells #[.slice ra r.length rc] 58)]) [.blk bo (.cells #[.bool ok] 4), .blk bb (.cells #[.slice ra r.length rc] 58)] w) : Calls Try.prog 66 #[.int .i64 z, .pointer (some ⟨bo, 0, none⟩), .pointer (some ⟨bb, 0, none⟩)] w (Post w [.blk bo (.cells #[.bool ok] 4), .blk bb (.cells #[.slice ra r.length rc] 58)] fun v G => ∃ nb, v = .slice (some ⟨nb, 0, none⟩) 1 1 ∧ G = [.blk bo (.cells #[.bool false] 4), .blk bb (.cells #[.slice ra r.length rc] 58), .ow 5 1 (some ⟨nb, 0, none⟩) 1 1 (bv [0])]) := by
 refine c_enter Try.func66 rfl rfl rfl ?_
 refine wp_seq_k (fun K1 hK1 => ?_)
 refine wp_region_lit ?_
 refine l_q rfl rfl (q_assignS rfl) ?_
 refine l_nil ?_
 refine hK1 _ _ ?_
 refine wp_seq_k (fun K2 hK2 => ?_)
 refine wp_seq_k (fun K3 hK3 => ?_)
 refine wp_region_lit ?_
 refine l_q rfl rfl (q_load1 rfl (by kernel_rfl) (hS.cell (i := 0) rfl rfl)) ?_
 refine l_q rfl rfl (q_moveB rfl) ?_
 refine g_splitL (t := 7) rfl (fun hg4 => ?_) (fun hg4 => ?_)
 have hg4b := hg4
 try simp only [zbb] at hg4
 have hz' := hz.resolve_left (by rw [hg4]; simp)
 refine l_on rfl rfl hg4b ?_
 refine l_q rfl rfl (q_moveI rfl) ?_
 refine l_on rfl rfl hg4b ?_
 refine l_q rfl rfl (q_geq rfl rfl) ?_
 refine l_q rfl rfl (q_pickT rfl hg4b rfl) ?_
 refine l_q rfl rfl (q_moveB rfl) ?_
 refine g_splitL (t := 11) rfl (fun hg5 => ?_) (fun hg5 => ?_)
 have hg5b := hg5
 try simp only [zbb] at hg5
 refine l_on rfl rfl hg5b ?_
 refine l_q rfl rfl (q_moveI rfl) ?_
 refine l_on rfl rfl hg5b ?_
 refine l_q rfl rfl (q_load1 rfl (by kernel_rfl) (hS.cell (i := 1) rfl rfl)) ?_
 refine l_on rfl rfl hg5b ?_
 refine l_q rfl rfl (q_lenSl (e := 5) rfl (by kernel_rfl)) ?_
 refine l_on rfl rfl hg5b ?_
 refine l_q rfl rfl (q_bv (c := false) (decide_eq_false (by omega)) (q_leq rfl rfl)) ?_
 refine l_q rfl rfl (q_pickT rfl hg5b rfl) ?_
 refine l_e rfl (fun K hK => ?_)
 refine e_store1 hS rfl rfl (by kernel_rfl) (by first | rfl | assumption) (i := 0) rfl rfl (fun w6 (hS6 : St _ _ [.blk bo (.cells #[.bool false] 4), .blk bb (.cells #[.slice ra r.length rc] 58)] _) => ?_)
 clear hS
 refine hK _ _ ?_; clear hK K
 refine l_nil ?_
 refine hK3 _ _ ?_
 refine wp_seq_k (fun K7 hK7 => ?_)
 refine wp_region_lit ?_
 refine l_q rfl rfl (q_load1 rfl (by kernel_rfl) (hS6.cell (i := 0) rfl rfl)) ?_
 refine l_q rfl rfl (q_not rfl) ?_
 refine l_nil ?_
 refine hK7 _ _ ?_
 refine c_condT rfl rfl ?_
 refine wp_seq_k (fun K9 hK9 => ?_)
 refine wp_region_lit ?_
 refine l_e rfl (fun K hK => ?_)
 refine e_buildSlice1 (e := 5) (zv := .int .u8 0) (xs := [_]) hS6 (by kernel_rfl) (by kernel_rfl) (by kernel_rfl) rfl rfl rfl rfl (allone (by repeat' (first | exact trivial | refine ⟨by first | rfl | assumption, ?_⟩))) rfl (fun b10 w10 (hS10 : St _ _ [.blk b10 (.cells #[.int .u8 (0 : Int)] 5), _, _] _) => ?_)
 clear hS6
 have hB10 : Bytes [0] := by intro q hq; simp only [List.mem_cons, List.not_mem_nil, or_false] at hq; omega
 have hS10o : St _ _ [.ow 5 1 (some ⟨b10, 0, none⟩) 1 1 (bv [0]), _, _] _ := hS10.blkOw' (i := 0) (m := 1) (size := 1) (xs := bv [0]) rfl rfl rfl (by decide); clear hS10
 refine hK _ _ ?_; clear hK K
 refine l_q rfl rfl (q_assignS rfl) ?_
 refine l_nil ?_
 refine hK9 _ _ ?_
 refine wp_ret ?_
 refine c_ret1 rfl rfl ?_
 have hS11 := hS10o.fr2; clear hS10o
 have hS12 := hS11.fr2; clear hS11
 exact ⟨_, _, rfl, ⟨_, rfl, rfl⟩, hS12⟩
 have hg5b := hg5
 try simp only [zbb] at hg5
 refine l_off rfl rfl rfl hg5b ?_
 refine l_off rfl rfl rfl hg5b ?_
 refine l_off rfl rfl rfl hg5b ?_
 refine l_off rfl rfl rfl hg5b ?_
 refine l_q rfl rfl (q_pickF rfl hg5b rfl) ?_
 refine l_e rfl (fun K hK => ?_)
 refine e_store1 hS rfl rfl (by kernel_rfl) (by first | rfl | assumption) (i := 0) rfl rfl (fun w13 (hS13 : St _ _ [_, _] _) => ?_)
 clear hS
 refine hK _ _ ?_; clear hK K
 refine l_nil ?_
 refine hK3 _ _ ?_
 refine wp_seq_k (fun K14 hK14 => ?_)
 refine wp_region_lit ?_
 refine l_q rfl rfl (q_load1 rfl (by kernel_rfl) (hS13.cell (i := 0) rfl rfl)) ?_
 refine l_q rfl rfl (q_not rfl) ?_
 refine l_nil ?_
 refine hK14 _ _ ?_
 refine c_condT rfl rfl ?_
 refine wp_seq_k (fun K16 hK16 => ?_)
 refine wp_region_lit ?_
 refine l_e rfl (fun K hK => ?_)
 refine e_buildSlice1 (e := 5) (zv := .int .u8 0) (xs := [_]) hS13 (by kernel_rfl) (by kernel_rfl) (by kernel_rfl) rfl rfl rfl rfl (allone (by repeat' (first | exact trivial | refine ⟨by first | rfl | assumption, ?_⟩))) rfl (fun b17 w17 (hS17 : St _ _ [.blk b17 (.cells #[.int .u8 (0 : Int)] 5), _, _] _) => ?_)
 clear hS13
 have hB17 : Bytes [0] := by intro q hq; simp only [List.mem_cons, List.not_mem_nil, or_false] at hq; omega
 have hS17o : St _ _ [.ow 5 1 (some ⟨b17, 0, none⟩) 1 1 (bv [0]), _, _] _ := hS17.blkOw' (i := 0) (m := 1) (size := 1) (xs := bv [0]) rfl rfl rfl (by decide); clear hS17
 refine hK _ _ ?_; clear hK K
 refine l_q rfl rfl (q_assignS rfl) ?_
 refine l_nil ?_
 refine hK16 _ _ ?_
 refine wp_ret ?_
 refine c_ret1 rfl rfl ?_
 have hS18 := hS17o.fr2; clear hS17o
 have hS19 := hS18.fr2; clear hS18
 exact ⟨_, _, rfl, ⟨_, rfl, rfl⟩, hS19⟩
 have hg4b := hg4
 try simp only [zbb] at hg4
 refine l_off rfl rfl rfl hg4b ?_
 refine l_off rfl rfl rfl hg4b ?_
 refine l_q rfl rfl (q_pickF rfl hg4b rfl) ?_
 refine l_q rfl rfl (q_moveB rfl) ?_
 refine l_off rfl rfl rfl rfl ?_
 refine l_off rfl rfl rfl rfl ?_
 refine l_off rfl rfl rfl rfl ?_
 refine l_off rfl rfl rfl rfl ?_
 refine l_q rfl rfl (q_pickF rfl rfl rfl) ?_
 refine l_e rfl (fun K hK => ?_)
 refine e_store1 hS rfl rfl (by kernel_rfl) (by first | rfl | assumption) (i := 0) rfl rfl (fun w20 (hS20 : St _ _ [_, _] _) => ?_)
 clear hS
 refine hK _ _ ?_; clear hK K
 refine l_nil ?_
 refine hK3 _ _ ?_
 refine wp_seq_k (fun K21 hK21 => ?_)
 refine wp_region_lit ?_
 refine l_q rfl rfl (q_load1 rfl (by kernel_rfl) (hS20.cell (i := 0) rfl rfl)) ?_
 refine l_q rfl rfl (q_not rfl) ?_
 refine l_nil ?_
 refine hK21 _ _ ?_
 refine c_condT rfl rfl ?_
 refine wp_seq_k (fun K23 hK23 => ?_)
 refine wp_region_lit ?_
 refine l_e rfl (fun K hK => ?_)
 refine e_buildSlice1 (e := 5) (zv := .int .u8 0) (xs := [_]) hS20 (by kernel_rfl) (by kernel_rfl) (by kernel_rfl) rfl rfl rfl rfl (allone (by repeat' (first | exact trivial | refine ⟨by first | rfl | assumption, ?_⟩))) rfl (fun b24 w24 (hS24 : St _ _ [.blk b24 (.cells #[.int .u8 (0 : Int)] 5), _, _] _) => ?_)
 clear hS20
 have hB24 : Bytes [0] := by intro q hq; simp only [List.mem_cons, List.not_mem_nil, or_false] at hq; omega
 have hS24o : St _ _ [.ow 5 1 (some ⟨b24, 0, none⟩) 1 1 (bv [0]), _, _] _ := hS24.blkOw' (i := 0) (m := 1) (size := 1) (xs := bv [0]) rfl rfl rfl (by decide); clear hS24
 refine hK _ _ ?_; clear hK K
 refine l_q rfl rfl (q_assignS rfl) ?_
 refine l_nil ?_
 refine hK23 _ _ ?_
 refine wp_ret ?_
 refine c_ret1 rfl rfl ?_
 have hS25 := hS24o.fr2; clear hS24o
 have hS26 := hS25.fr2; clear hS25
 exact ⟨_, _, rfl, ⟨_, rfl, rfl⟩, hS26⟩
end Go.Proofs.Yteojpdijmnpmgaa
namespace Go.Proofs.Yteojpdijmnpmgaa
open Go.RowKit
theorem longY {b q : List Nat} {z : Int} (hb : Bytes b) (hz1 : -9223372036854775808 ≤ z) (hz2 : z ≤ 9223372036854775807) (e : b = short z ++ q) (n : Nat) (hn : b.length = n) (ab : Option Addr) (cb : Nat) (hcb : n ≤ cb) (hm : n ≤ 2000000) (w : World) (g : Gh) (hg : Gle g (hw w)) (hG : SlG g ab (bv b)) :
    Calls Try.prog 68 #[.slice ab n cb] w (PostR w fun v => v = .tuple #[.int .i64 z, .int .i64 (((short z).length : Nat) : Int), .bool true]) :=
  (long_ok b hb n hn ab cb hcb hm w g hg hG).mono fun _ w' ⟨v, he, hP, hS⟩ => ⟨v, he, by
    obtain ⟨z', k, ok, rfl, hT, hF⟩ := hP
    cases ok with
    | false => exact absurd e ((hF rfl).2.2 z q hz1 hz2)
    | true =>
      obtain ⟨⟨r', e'⟩, hk, _⟩ := hT rfl
      obtain ⟨h1, _⟩ := short_inj (e'.symm.trans e)
      rw [hk, h1], hS⟩
theorem longN {b : List Nat} (hb : Bytes b) (hno : NoShort b) (n : Nat) (hn : b.length = n) (ab : Option Addr) (cb : Nat) (hcb : n ≤ cb) (hm : n ≤ 2000000) (w : World) (g : Gh) (hg : Gle g (hw w)) (hG : SlG g ab (bv b)) :
    Calls Try.prog 68 #[.slice ab n cb] w (PostR w fun v => v = .tuple #[.int .i64 0, .int .i64 0, .bool false]) :=
  (long_ok b hb n hn ab cb hcb hm w g hg hG).mono fun _ w' ⟨v, he, hP, hS⟩ => ⟨v, he, by
    obtain ⟨z', k, ok, rfl, hT, hF⟩ := hP
    cases ok with
    | false => obtain ⟨h1, h2, _⟩ := hF rfl; rw [h1, h2]; rfl
    | true =>
      obtain ⟨⟨r', e'⟩, _, h1, h2⟩ := hT rfl
      exact absurd e' (hno z' r' h1 h2), hS⟩
def RowI (b : List Nat) (l : List Vl) (rest : List Nat) (n : Nat) (ok : Bool) : Prop := (ok = true → ∃ x, x < 256 ∧ b = x :: (rencs l ++ rest) ∧ RrOk l ∧ l.length ≤ 16 ∧ x = l.length + n) ∧ (ok = false → NoRow b)
theorem RowI.start {b : List Nat} {x : Nat} (hx : b[0]? = some x) (hB : x < 256) : RowI b [] (b.drop 1) x true :=
  ⟨fun _ => ⟨x, hB, cons_at hx, RrOk.nil, Nat.zero_le _, (Nat.zero_add x).symm⟩, fun h => by cases h⟩
theorem RowI.none {b rest : List Nat} {n : Nat} (hb : ¬0 < b.length) : RowI b [] rest n false := by
  have : b = [] := List.eq_nil_of_length_eq_zero (by omega)
  subst this
  exact ⟨(fun h => by cases h), fun _ => norow_nil⟩
theorem RowI.next {b rest r : List Nat} {l : List Vl} {n : Nat} {a : Vl} {t ok' : Bool} (h : RowI b l rest n true) (hn : 0 < n) (ha : VOk a) (ht : TkR rest a r t) (hok : ok' = (t && decide ((l.length : Int) < 16))) : RowI b (l ++ [a]) r (n - 1) ok' := by
  obtain ⟨x, hx, he, hR, h16, hl⟩ := h.1 rfl
  subst hok
  cases t with
  | false => exact ⟨(fun h => by cases h), fun _ => row_fail he hR (by omega) hx (.inl (ht.2 rfl))⟩
  | true =>
    obtain ⟨hr, hb⟩ := ht.1 rfl
    refine ⟨fun h => ?_, fun h => row_fail he hR (by omega) hx (.inr ?_)⟩
    · have : (l.length : Int) < 16 := of_decide_eq_true (by simpa using h)
      refine ⟨x, hx, row_next he hb, hR.app (RrOk.one ha hr), ?_, ?_⟩ <;> rw [List.length_append, List.length_singleton] <;> omega
    · have : ¬ (l.length : Int) < 16 := of_decide_eq_false (by simpa using h)
      omega
theorem take1 {l : List Nat} {x : Nat} (h : (l.take 1)[0]? = some x) : l[0]? = some x := by
  cases l with
  | nil => simp at h
  | cons a l => simpa using h
theorem noval_emp {b : List Nat} (h : ¬0 < b.length) : NoVal b := by
  have : b = [] := List.eq_nil_of_length_eq_zero (by omega)
  rw [this]; exact noval_nil
theorem tkr06 {b : List Nat} {x : Nat} (hx : b[0]? = some x) (h : ¬x = 1 ∧ ¬x = 2 ∧ ¬x = 3 ∧ ¬x = 4 ∧ ¬x = 5) : TkR b (((x : Nat) : Int), 0, []) (b.drop 1) (rightB (((x : Nat) : Int), 0, [])) := by
  by_cases h0 : x = 0
  · exact tkr_yes (val_null hx h0) fun h' => by subst h0; simp [rightB] at h'
  · have : rightB (((x : Nat) : Int), 0, []) = false := by
      unfold rightB; simp only
      rw [if_neg (by omega), if_neg (by omega), if_neg (by omega), if_neg (by omega)]
    rw [this]; exact tkr_no (noval_kind hx (by omega))
theorem tkr1 {b : List Nat} {x c : Nat} (hx : b[0]? = some x) (h : x = 1) (hc : (b.drop 1)[0]? = some c) (hB : c < 256) : TkR b (((x : Nat) : Int), ((c : Nat) : Int), []) ((b.drop 1).drop 1) (rightB (((x : Nat) : Int), ((c : Nat) : Int), [])) :=
  tkr_yes (val_bool hx h hc hB) fun h' => noval_bool hx h fun d hd => by
    rw [hc] at hd; injection hd with hd; subst hd; subst h
    constructor <;> (intro e; subst e; simp [rightB] at h')
theorem tkr1n {b r : List Nat} {x : Nat} {a : Vl} (hx : b[0]? = some x) (h : x = 1) (hn : ¬0 < (b.drop 1).length) : TkR b a r false :=
  tkr_no (noval_bool hx h fun c hc => by
    have : b.drop 1 = [] := List.eq_nil_of_length_eq_zero (by omega)
    rw [this] at hc; cases hc)
theorem tkr2 {b r : List Nat} {x : Nat} {n : Int} (hx : b[0]? = some x) (h : x = 2 ∨ x = 3) (h2 : b.drop 1 = short n ++ r) : TkR b (((x : Nat) : Int), n, []) r (rightB (((x : Nat) : Int), n, [])) :=
  tkr_yes (val_num hx h h2) fun h' => by rcases h with rfl | rfl <;> simp [rightB] at h'
theorem tkr4 {b r : List Nat} {x k : Nat} (hx : b[0]? = some x) (h : x = 4 ∨ x = 5) (h2 : b.drop 1 = short ((k : Nat) : Int) ++ r) (hk : k ≤ r.length) : TkR b (((x : Nat) : Int), 0, r.take k) (r.drop k) (rightB (((x : Nat) : Int), 0, r.take k)) := by
  have hl : (r.take k).length = k := by rw [List.length_take]; omega
  have hv := val_text (s := r.take k) hx h h2 (by rw [hl]) ⟨r.drop k, (List.take_append_drop k r).symm⟩
  rw [hl] at hv
  refine tkr_yes hv fun h' => noval_long hx h h2 (.inr (.inr ?_))
  rcases h with rfl | rfl <;> simp [rightB] at h' <;> omega
theorem vok_of {x z : Int} {s : List Nat} (hs : Bytes s) (h1 : -9223372036854775808 ≤ x ∧ x ≤ 9223372036854775807) (h2 : -9223372036854775808 ≤ z ∧ z ≤ 9223372036854775807) : VOk (x, z, s) := ⟨hs, h1, h2⟩
attribute [local irreducible] Oper.wp Sem.run Code.wp wpList wpAnyO callFunc execOp Calls
attribute [local irreducible] toU short rencs renc rowE encRow rightB zig unzig decRw
set_option maxRecDepth 100000 in
theorem number_yes (bo bb bt : Nat) (r : List Nat) (hr : Bytes r) (hm : r.length ≤ 2000000) (z : Int) (q : List Nat) (hz1 : -9223372036854775808 ≤ z) (hz2 : z ≤ 9223372036854775807) (he : r = short z ++ q) (ra : Option Addr) (rc : Nat) (hrc : r.length ≤ rc) (w : World) (g : Gh) (hg : Rog [.blk bo (.cells #[.bool true] 4), .blk bb (.cells #[.slice ra r.length rc] 58), .blk bt (.cells #[.func (.func 66) #[] #[.pointer (some ⟨bo, 0, none⟩), .pointer (some ⟨bb, 0, none⟩)]] 116)] w g) (hG : SlG g ra (bv r)) (hS : St w (owns [.blk bo (.cells #[.bool true] 4), .blk bb (.cells #[.slice ra r.length rc] 58), .blk bt (.cells #[.func (.func 66) #[] #[.pointer (some ⟨bo, 0, none⟩), .pointer (some ⟨bb, 0, none⟩)]] 116)]) [.blk bo (.cells #[.bool true] 4), .blk bb (.cells #[.slice ra r.length rc] 58), .blk bt (.cells #[.func (.func 66) #[] #[.pointer (some ⟨bo, 0, none⟩), .pointer (some ⟨bb, 0, none⟩)]] 116)] w) : Calls Try.prog 67 #[.pointer (some ⟨bb, 0, none⟩), .pointer (some ⟨bo, 0, none⟩), .pointer (some ⟨bt, 0, none⟩)] w (Post w [.blk bo (.cells #[.bool true] 4), .blk bb (.cells #[.slice ra r.length rc] 58), .blk bt (.cells #[.func (.func 66) #[] #[.pointer (some ⟨bo, 0, none⟩), .pointer (some ⟨bb, 0, none⟩)]] 116)] fun v G => ∃ ra' rc', v = .int .i64 z ∧ G = [.blk bo (.cells #[.bool true] 4), .blk bb (.cells #[.slice ra' q.length rc'] 58), .blk bt (.cells #[.func (.func 66) #[] #[.pointer (some ⟨bo, 0, none⟩), .pointer (some ⟨bb, 0, none⟩)]] 116)] ∧ SlG g ra' (bv q) ∧ q.length ≤ rc') := by
 refine c_enter Try.func67 rfl rfl rfl ?_
 refine wp_seq_k (fun K1 hK1 => ?_)
 refine wp_region_lit ?_
 refine l_q rfl rfl (q_assignI rfl) ?_
 refine l_nil ?_
 refine hK1 _ _ ?_
 refine wp_seq_k (fun K2 hK2 => ?_)
 refine wp_region_lit ?_
 refine l_q rfl rfl (q_load1 rfl (by kernel_rfl) (hS.cell (i := 1) rfl rfl)) ?_
 refine l_e rfl (fun K hK => ?_)
 refine e_call (by kernel_rfl) (longY hr hz1 hz2 he r.length (by first | omega | (simp only [zll] <;> omega)) _ _ (by first | omega | (simp only [zll] <;> omega)) (by first | omega | (simp only [zll] <;> omega)) _ _ (Gle.refl _) (hG.mono (hg.le hS))) rfl (after_R hS (fun v3 w3 hv3 hS3 => ?_))
 clear hS
 obtain rfl := hv3
 refine hK _ _ ?_; clear hK K
 refine l_q rfl rfl (q_move rfl) ?_
 refine l_q rfl rfl (q_extract rfl rfl) ?_
 refine l_q rfl rfl (q_extract rfl rfl) ?_
 refine l_q rfl rfl (q_extract rfl rfl) ?_
 refine l_q rfl rfl (q_assignI rfl) ?_
 refine l_q rfl rfl (q_assignI rfl) ?_
 refine l_q rfl rfl (q_assignB rfl) ?_
 refine l_nil ?_
 refine hK2 _ _ ?_
 refine wp_seq_k (fun K4 hK4 => ?_)
 refine wp_region_lit ?_
 refine l_q rfl rfl (q_load1 rfl (by kernel_rfl) (hS3.cell (i := 0) rfl rfl)) ?_
 refine l_q rfl rfl (q_moveB rfl) ?_
 refine l_on rfl rfl rfl ?_
 refine l_q rfl rfl (q_moveB rfl) ?_
 refine l_q rfl rfl (q_pickT rfl rfl rfl) ?_
 refine l_e rfl (fun K hK => ?_)
 refine e_store1 hS3 rfl rfl (by kernel_rfl) (by first | rfl | assumption) (i := 0) rfl rfl (fun w5 (hS5 : St _ _ [.blk bo (.cells #[.bool true] 4), .blk bb (.cells #[.slice ra r.length rc] 58), .blk bt (.cells #[.func (.func 66) #[] #[.pointer (some ⟨bo, 0, none⟩), .pointer (some ⟨bb, 0, none⟩)]] 116)] _) => ?_)
 clear hS3
 refine hK _ _ ?_; clear hK K
 refine l_nil ?_
 refine hK4 _ _ ?_
 refine wp_seq_k (fun K6 hK6 => ?_)
 have hrl := congrArg List.length he
 rw [List.length_append] at hrl
 refine wp_region_lit ?_
 refine l_q rfl rfl (q_load1 rfl (by kernel_rfl) (hS5.cell (i := 2) rfl rfl)) ?_
 refine l_q rfl rfl (q_moveI rfl) ?_
 refine l_e rfl (fun K hK => ?_)
 refine e_callV (by kernel_rfl) rfl (take_yes bo bb r hr (by first | omega | (simp only [zll] <;> omega)) ((short z).length) (by omega) _ _ (by omega) _ _ (St.rogR (Γ1 := [_, _]) hS5 hg) hG (St.begin (Γ := [_, _]) hS5)) rfl (after_M (Γ1 := [_, _]) hS5 (fun v7 G7 w7 hv7 hS7 => ?_))
 clear hS5
 obtain ⟨ra7, rc7, rfl, rfl, hGr7, hrc7⟩ := hv7
 have hS8 : St _ _ [_, .blk bb (.cells #[.slice ra7 ((r.drop ((short z).length)).length) rc7] 58), _] _ := hS7; clear hS7
 have hld7 := List.length_drop (i := (short z).length) (l := r)
 refine hK _ _ ?_; clear hK K
 refine l_nil ?_
 refine hK6 _ _ ?_
 refine wp_seq_k (fun K9 hK9 => ?_)
 refine wp_region_lit ?_
 refine l_q rfl rfl (q_moveI rfl) ?_
 refine l_q rfl rfl (q_assignI rfl) ?_
 refine l_nil ?_
 refine hK9 _ _ ?_
 refine wp_ret ?_
 refine c_ret1 rfl rfl ?_
 have hdq : r.drop (short z).length = q := by rw [he]; exact List.drop_left
 exact ⟨_, _, rfl, ⟨ra7, rc7, rfl, (by rw [← hdq]), hdq ▸ hGr7, (by rw [← hdq]; assumption)⟩, hS8⟩
set_option maxRecDepth 100000 in
theorem number_no (bo bb bt : Nat) (r : List Nat) (hr : Bytes r) (hm : r.length ≤ 2000000) (hno : NoShort r) (ra : Option Addr) (rc : Nat) (hrc : r.length ≤ rc) (w : World) (g : Gh) (hg : Rog [.blk bo (.cells #[.bool true] 4), .blk bb (.cells #[.slice ra r.length rc] 58), .blk bt (.cells #[.func (.func 66) #[] #[.pointer (some ⟨bo, 0, none⟩), .pointer (some ⟨bb, 0, none⟩)]] 116)] w g) (hG : SlG g ra (bv r)) (hS : St w (owns [.blk bo (.cells #[.bool true] 4), .blk bb (.cells #[.slice ra r.length rc] 58), .blk bt (.cells #[.func (.func 66) #[] #[.pointer (some ⟨bo, 0, none⟩), .pointer (some ⟨bb, 0, none⟩)]] 116)]) [.blk bo (.cells #[.bool true] 4), .blk bb (.cells #[.slice ra r.length rc] 58), .blk bt (.cells #[.func (.func 66) #[] #[.pointer (some ⟨bo, 0, none⟩), .pointer (some ⟨bb, 0, none⟩)]] 116)] w) : Calls Try.prog 67 #[.pointer (some ⟨bb, 0, none⟩), .pointer (some ⟨bo, 0, none⟩), .pointer (some ⟨bt, 0, none⟩)] w (Post w [.blk bo (.cells #[.bool true] 4), .blk bb (.cells #[.slice ra r.length rc] 58), .blk bt (.cells #[.func (.func 66) #[] #[.pointer (some ⟨bo, 0, none⟩), .pointer (some ⟨bb, 0, none⟩)]] 116)] fun v G => v = .int .i64 0 ∧ G = [.blk bo (.cells #[.bool false] 4), .blk bb (.cells #[.slice ra r.length rc] 58), .blk bt (.cells #[.func (.func 66) #[] #[.pointer (some ⟨bo, 0, none⟩), .pointer (some ⟨bb, 0, none⟩)]] 116)]) := by
 refine c_enter Try.func67 rfl rfl rfl ?_
 refine wp_seq_k (fun K1 hK1 => ?_)
 refine wp_region_lit ?_
 refine l_q rfl rfl (q_assignI rfl) ?_
 refine l_nil ?_
 refine hK1 _ _ ?_
 refine wp_seq_k (fun K2 hK2 => ?_)
 refine wp_region_lit ?_
 refine l_q rfl rfl (q_load1 rfl (by kernel_rfl) (hS.cell (i := 1) rfl rfl)) ?_
 refine l_e rfl (fun K hK => ?_)
 refine e_call (by kernel_rfl) (longN hr hno r.length (by first | omega | (simp only [zll] <;> omega)) _ _ (by first | omega | (simp only [zll] <;> omega)) (by first | omega | (simp only [zll] <;> omega)) _ _ (Gle.refl _) (hG.mono (hg.le hS))) rfl (after_R hS (fun v3 w3 hv3 hS3 => ?_))
 clear hS
 obtain rfl := hv3
 refine hK _ _ ?_; clear hK K
 refine l_q rfl rfl (q_move rfl) ?_
 refine l_q rfl rfl (q_extract rfl rfl) ?_
 refine l_q rfl rfl (q_extract rfl rfl) ?_
 refine l_q rfl rfl (q_extract rfl rfl) ?_
 refine l_q rfl rfl (q_assignI rfl) ?_
 refine l_q rfl rfl (q_assignI rfl) ?_
 refine l_q rfl rfl (q_assignB rfl) ?_
 refine l_nil ?_
 refine hK2 _ _ ?_
 refine wp_seq_k (fun K4 hK4 => ?_)
 refine wp_region_lit ?_
 refine l_q rfl rfl (q_load1 rfl (by kernel_rfl) (hS3.cell (i := 0) rfl rfl)) ?_
 refine l_q rfl rfl (q_moveB rfl) ?_
 refine l_on rfl rfl rfl ?_
 refine l_q rfl rfl (q_moveB rfl) ?_
 refine l_q rfl rfl (q_pickT rfl rfl rfl) ?_
 refine l_e rfl (fun K hK => ?_)
 refine e_store1 hS3 rfl rfl (by kernel_rfl) (by first | rfl | assumption) (i := 0) rfl rfl (fun w5 (hS5 : St _ _ [.blk bo (.cells #[.bool false] 4), .blk bb (.cells #[.slice ra r.length rc] 58), .blk bt (.cells #[.func (.func 66) #[] #[.pointer (some ⟨bo, 0, none⟩), .pointer (some ⟨bb, 0, none⟩)]] 116)] _) => ?_)
 clear hS3
 refine hK _ _ ?_; clear hK K
 refine l_nil ?_
 refine hK4 _ _ ?_
 refine wp_seq_k (fun K6 hK6 => ?_)
 refine wp_region_lit ?_
 refine l_q rfl rfl (q_load1 rfl (by kernel_rfl) (hS5.cell (i := 2) rfl rfl)) ?_
 refine l_q rfl rfl (q_moveI rfl) ?_
 refine l_e rfl (fun K hK => ?_)
 refine e_callV (by kernel_rfl) rfl (take_no bo bb r hr (by first | omega | (simp only [zll] <;> omega)) false (0 : Int) (by first | exact .inl rfl | exact .inr (by omega)) _ _ (by omega) _ _ (St.rogR (Γ1 := [_, _]) hS5 hg) hG (St.begin (Γ := [_, _]) hS5)) rfl (after_M (Γ1 := [_, _]) hS5 (fun v7 G7 w7 hv7 hS7 => ?_))
 clear hS5
 obtain ⟨nb7, rfl, rfl⟩ := hv7
 have hS8 : St _ _ [_, _, .ow 5 1 (some ⟨nb7, 0, none⟩) 1 1 (bv [0]), _] _ := hS7; clear hS7
 refine hK _ _ ?_; clear hK K
 refine l_nil ?_
 refine hK6 _ _ ?_
 refine wp_seq_k (fun K9 hK9 => ?_)
 refine wp_region_lit ?_
 refine l_q rfl rfl (q_moveI rfl) ?_
 refine l_q rfl rfl (q_assignI rfl) ?_
 refine l_nil ?_
 refine hK9 _ _ ?_
 refine wp_ret ?_
 refine c_ret1 rfl rfl ?_
 have hS10 := hS8.fr3; clear hS8
 have hS11 := hS10.fr2; clear hS10
 have hS12 := hS11.fr2; clear hS11
 have hS13 : St _ _ [_, _, _] _ := hS12.only 3; clear hS12
 exact ⟨_, _, rfl, ⟨rfl, rfl⟩, hS13⟩
end Go.Proofs.Yteojpdijmnpmgaa
