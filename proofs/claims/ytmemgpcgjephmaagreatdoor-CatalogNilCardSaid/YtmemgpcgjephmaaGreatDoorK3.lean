/- Package key: Encode. -/
import Derived.Test.YtmemgpcgjephmaaGreatDoorK2
set_option linter.unusedVariables false
set_option linter.unusedSimpArgs false
namespace Go.Proofs.YtmemgpcgjephmaaGreatDoor
open Go.RowKit
/-- A whole number's eight bytes. -/
def bia (z : Int) : Nat := (toU z + 9223372036854775808) % 18446744073709551616
def be8 (u : Nat) : List Nat := [u / 2 ^ 56 % 256, u / 2 ^ 48 % 256, u / 2 ^ 40 % 256, u / 2 ^ 32 % 256, u / 2 ^ 24 % 256, u / 2 ^ 16 % 256, u / 2 ^ 8 % 256, u / 2 ^ 0 % 256]
/-- A value's bytes. -/
def encB (v : Vl) : List Nat := if v.1 = 1 then [v.2.1.toNat % 256] else if v.1 = 2 ∨ v.1 = 3 then be8 (bia v.2.1) else if v.1 = 4 ∨ v.1 = 5 then esc v.2.2 ++ [0, 1] else []
def encV (v : Vl) : List Nat := (v.1.toNat % 256) :: encB v
def enc (l : List Vl) : List Nat := l.flatMap encV
/-- What Encode answers. -/
def encR (l : List Vl) : List Nat × Int := if l.length ≤ 16 ∧ ∀ v ∈ l, rightB v = true then (enc l, 0) else ([], 41)
theorem right_k {v : Vl} (h : rightB v = true) : 0 ≤ v.1 ∧ v.1 ≤ 5 ∧ (v.1 = 1 → 0 ≤ v.2.1 ∧ v.2.1 ≤ 1) ∧ v.2.2.length ≤ 200 := by
  unfold rightB at h
  repeat' split at h
  all_goals simp at h
  all_goals first
    | (obtain ⟨h1, h2⟩ := h; simp [*]; done)
    | (simp [*]; omega)
    | (refine ⟨by omega, by omega, by omega, ?_⟩; simp [*]; omega)
    | (refine ⟨by omega, by omega, by omega, ?_⟩; simp [*])
theorem be8_bytes (u : Nat) : Bytes (be8 u) := fun x hx => by
  unfold be8 at hx
  simp only [List.mem_cons, List.not_mem_nil, or_false] at hx
  omega
theorem encB_bytes {v : Vl} (h : Bytes v.2.2) : Bytes (encB v) := by
  unfold encB
  split
  · intro x hx; simp at hx; omega
  · split
    · exact be8_bytes _
    · split
      · exact (esc_bytes h).app (by decide)
      · exact Bytes.nil
theorem encV_bytes {v : Vl} (h : Bytes v.2.2) : Bytes (encV v) := fun x hx => by
  unfold encV at hx
  cases hx with
  | head => omega
  | tail _ hx => exact encB_bytes h x hx
theorem enc_bytes {l : List Vl} (h : VsOk l) : Bytes (enc l) := fun x hx => by
  obtain ⟨v, hv, hx⟩ := List.mem_flatMap.1 hx
  exact encV_bytes (h v hv).1 x hx
theorem encR_bytes {l : List Vl} (h : VsOk l) : Bytes (encR l).1 := by
  unfold encR
  split
  · exact enc_bytes h
  · exact Bytes.nil
theorem encV_len {v : Vl} (h : v.2.2.length ≤ 200) : (encV v).length ≤ 1000 := by
  have h1 := List.count_le_length (a := 0) (l := v.2.2)
  unfold encV encB
  split
  · simp
  · split
    · simp [be8]
    · split
      · simp only [List.length_cons, List.length_append, esc_len, List.length_nil]; omega
      · simp
theorem enc_len {l : List Vl} (h : ∀ v ∈ l, rightB v = true) : (enc l).length ≤ 1000 * l.length := by
  induction l with
  | nil => simp [enc]
  | cons v l ih =>
    have h1 : enc (v :: l) = encV v ++ enc l := rfl
    rw [h1, List.length_append, List.length_cons]
    have := encV_len (right_k (h v (.head _))).2.2.2
    have := ih fun x hx => h x (.tail _ hx)
    omega
theorem encR_len (l : List Vl) : (encR l).1.length ≤ 16000 := by
  unfold encR
  split
  · rename_i h
    have := enc_len h.2
    show (enc l).length ≤ 16000
    omega
  · simp
theorem enc_app (l m : List Vl) : enc (l ++ m) = enc l ++ enc m := List.flatMap_append
theorem enc_take {L : List Vl} {i : Nat} {x : Vl} (hx : L[i]? = some x) : enc (L.take (i + 1)) = enc (L.take i) ++ encV x := by
  rw [List.take_add_one, hx, enc_app]
  simp [enc]
theorem all_take {L : List Vl} {i : Nat} {x : Vl} (h : ∀ v ∈ L.take i, rightB v = true) (hx : L[i]? = some x) (hr : rightB x = true) : ∀ v ∈ L.take (i + 1), rightB v = true := fun v hv => by
  rw [List.take_add_one, hx] at hv
  rcases List.mem_append.1 hv with hv | hv
  · exact h v hv
  · simp at hv; subst hv; exact hr
theorem encR_many {L : List Vl} (h : 16 < L.length) : encR L = ([], 41) := by unfold encR; rw [if_neg (by omega)]
theorem encR_not {L : List Vl} {i : Nat} {x : Vl} (hx : L[i]? = some x) (hr : rightB x = false) : encR L = ([], 41) := by
  unfold encR
  rw [if_neg]
  rintro ⟨_, h⟩
  have := h x (List.mem_of_getElem? hx)
  rw [hr] at this; cases this
theorem encR_yes {L : List Vl} (h : L.length ≤ 16) (h2 : ∀ v ∈ L, rightB v = true) : encR L = (enc L, 0) := by unfold encR; rw [if_pos ⟨h, h2⟩]
theorem encB1 {v : Vl} (h : v.1 = 1) : encB v = [v.2.1.toNat % 256] := by unfold encB; rw [if_pos h]
theorem encB2 {v : Vl} (h : v.1 = 2 ∨ v.1 = 3) : encB v = be8 (bia v.2.1) := by unfold encB; rw [if_neg (by omega), if_pos h]
theorem encB4 {v : Vl} (h : v.1 = 4 ∨ v.1 = 5) : encB v = esc v.2.2 ++ [0, 1] := by unfold encB; rw [if_neg (by omega), if_neg (by omega), if_pos h]
theorem encB0 {v : Vl} (h : v.1 = 0) : encB v = [] := by unfold encB; rw [if_neg (by omega), if_neg (by omega), if_neg (by omega)]
attribute [local irreducible] Oper.wp Sem.run Code.wp wpList wpAnyO callFunc execOp Calls
attribute [local irreducible] enc encR rightB esc toU

set_option maxRecDepth 100000 in
theorem replAll_ok (s : List Nat) (hs : Bytes s) (n : Nat) (hn : s.length = n) (hnl : n ≤ 1000000) (as_ ap aw : Option Addr) (cs cp_ cw : Nat) (hsc : n ≤ cs) (w : World) (hG : SlG (hw w) as_ (bv s)) (hG2 : SlG (hw w) ap (bv [0])) (hG3 : SlG (hw w) aw (bv [0, 255])) : Calls Tryz.prog 56 #[.slice as_ n cs, .slice ap 1 cp_, .slice aw 2 cw] w (PostN w fun v G => ∃ ad cap, v = .slice ad (esc s).length cap ∧ G = [.ow 5 1 ad (esc s).length cap (bv (esc s))]) := by
 have hS := St.start w
 subst hn
 refine c_enter Tryz.func56 rfl rfl rfl ?_
 refine wp_seq_k (fun K1 hK1 => ?_)
 refine wp_region_lit ?_
 refine l_q rfl rfl (q_assignS rfl) ?_
 refine l_nil ?_
 refine hK1 _ _ ?_
 refine wp_seq_k (fun K2 hK2 => ?_)
 refine wp_region_lit ?_
 refine l_q rfl rfl (q_moveS rfl) ?_
 refine l_q rfl rfl (q_moveS rfl) ?_
 refine l_q rfl rfl (q_moveS rfl) ?_
 refine l_e rfl (fun K hK => ?_)
 refine e_call (by kernel_rfl) (repl_ok s hs s.length rfl hnl _ _ _ _ _ _ hsc _ (hG.mono hS.base) (hG2.mono hS.base) (hG3.mono hS.base)) rfl (after_N hS (fun v3 G3 w3 hv3 hS3 => ?_))
 clear hS
 obtain ⟨ad3, cp3, rfl, rfl⟩ := hv3
 have hS4 : St _ _ [.ow 5 1 ad3 ((esc s).length) cp3 (bv (esc s))] _ := hS3; clear hS3
 refine hK _ _ ?_; clear hK K
 refine l_q rfl rfl (q_assignS rfl) ?_
 refine l_nil ?_
 refine hK2 _ _ ?_
 refine wp_ret ?_
 refine c_ret1 rfl rfl ?_
 exact ⟨_, _, rfl, ⟨_, _, rfl, rfl⟩, hS4⟩

set_option maxHeartbeats 4000000 in
set_option maxRecDepth 100000 in
theorem enc_ok (L : List Vl) (hL : VsOk L) (n : Nat) (hn : L.length = n) (al : Option Addr) (cl : Nat) (w : World) (hG : SlG (hw w) al (List.flatMap vl L)) : Calls Tryz.prog 42 #[.slice al n cl] w (PostN w fun v G => ∃ oa oc, v = .tuple #[.slice oa (encR L).1.length oc, .int .i64 (encR L).2] ∧ G = [.ow 5 1 oa (encR L).1.length oc (bv (encR L).1)]) := by
 have hS := St.start w
 subst hn
 refine c_enter Tryz.func42 rfl rfl rfl ?_
 refine wp_seq_k (fun K1 hK1 => ?_)
 refine wp_region_lit ?_
 refine l_q rfl rfl (q_assignS rfl) ?_
 refine l_q rfl rfl (q_assignI rfl) ?_
 refine l_nil ?_
 refine hK1 _ _ ?_
 refine wp_seq_k (fun K2 hK2 => ?_)
 refine wp_seq_k (fun K3 hK3 => ?_)
 refine wp_region_lit ?_
 refine l_q rfl rfl (q_moveS rfl) ?_
 refine l_q rfl rfl (q_lenSl (e := 59) rfl (by kernel_rfl)) ?_
 refine l_q rfl rfl (q_gtr rfl rfl) ?_
 refine l_nil ?_
 refine hK3 _ _ ?_
 refine c_cond rfl (fun hc4 => ?_) (fun hc4 => ?_)
 ·
  have hc4b := hc4
  try simp only [decide_eq_true_eq, decide_eq_false_iff_not, Bool.not_eq_true', Bool.not_eq_false', Bool.and_eq_true, Bool.or_eq_true, Int.not_lt, Int.not_le, ne_eq, Decidable.not_not] at hc4
  refine wp_seq_k (fun K5 hK5 => ?_)
  refine wp_region_lit ?_
  refine l_q rfl rfl (q_assignS rfl) ?_
  refine l_q rfl rfl (q_assignI rfl) ?_
  refine l_nil ?_
  refine hK5 _ _ ?_
  refine wp_ret ?_
  refine c_ret2 rfl rfl rfl ?_
  have he := encR_many (L := L) (by omega)
  exact ⟨_, _, rfl, ⟨none, 0, by rw [he]; rfl, by rw [he]; rfl⟩, hS.drop.ow_nil _ _⟩
 ·
  have hc4b := hc4
  try simp only [decide_eq_true_eq, decide_eq_false_iff_not, Bool.not_eq_true', Bool.not_eq_false', Bool.and_eq_true, Bool.or_eq_true, Int.not_lt, Int.not_le, ne_eq, Decidable.not_not] at hc4
  refine wp_skip ?_
  refine hK2 _ _ ?_
  refine wp_seq_k (fun K6 hK6 => ?_)
  refine wp_region_lit ?_
  refine l_q rfl rfl (q_assignS rfl) ?_
  refine l_nil ?_
  refine hK6 _ _ ?_
  refine wp_seq_k (fun K7 hK7 => ?_)
  refine wp_seq_k (fun K8 hK8 => ?_)
  refine wp_region_lit ?_
  refine l_q rfl rfl (q_moveS rfl) ?_
  refine l_q rfl rfl (q_lenSl (e := 59) rfl (by kernel_rfl)) ?_
  refine l_q rfl rfl (q_moveI rfl) ?_
  refine l_nil ?_
  refine hK8 _ _ ?_
  refine wp_block ?_
  have hS9 := hS.ow_nil 5 1; clear hS
  refine c_loop (τ := Nat × (Option Addr) × Nat) [(2, 4), (6, 7), (13, 70)] (fun x => (fun (i : Nat) (oa : Option Addr) (oc : Nat) => [(13, .int .i64 (i : Int)), (4, .slice oa ((enc (L.take i)).length) oc)]) x.1 x.2.1 x.2.2) (fun x w' => (fun (i : Nat) (oa : Option Addr) (oc : Nat) => St w (fun _ => False) [.ow 5 1 oa ((enc (L.take i)).length) oc (bv (enc (L.take i)))] w' ∧ i ≤ L.length ∧ (∀ v ∈ L.take i, rightB v = true)) x.1 x.2.1 x.2.2) (fun x => (fun (i : Nat) (oa : Option Addr) (oc : Nat) => L.length - i) x.1 x.2.1 x.2.2) (⟨0, none, 0⟩) ?_ (by refine ⟨rfl, ⟨by unfold enc; rfl, trivial⟩⟩) (fun x10 j10 w10 hJ10 K10 hK10 => ?_)
  ·
   have hz : enc (L.take 0) = [] := by unfold enc; rfl
   refine ⟨?_, Nat.zero_le _, fun v hv => by rw [List.take_zero] at hv; cases hv⟩
   show St _ _ [.ow 5 1 none (enc (L.take 0)).length 0 (bv (enc (L.take 0)))] _
   rw [hz]; exact hS9
  ·
   obtain ⟨i, oa, oc⟩ := x10
   obtain ⟨hS10, hi, hall⟩ := hJ10
   try dsimp only at hS10 hi hall ⊢
   have hlen0 := enc_len hall
   have hlt := List.length_take (i := i) (l := L)
   refine wp_seq_k (fun K11 hK11 => ?_)
   refine wp_region_lit ?_
   refine l_q rfl rfl (q_lss rfl rfl) ?_
   refine l_nil ?_
   refine hK11 _ _ ?_
   refine wp_seq_k (fun K12 hK12 => ?_)
   refine c_cond rfl (fun hc13 => ?_) (fun hc13 => ?_)
   ·
    have hc13b := hc13
    try simp only [decide_eq_true_eq, decide_eq_false_iff_not, Bool.not_eq_true', Bool.not_eq_false', Bool.and_eq_true, Bool.or_eq_true, Int.not_lt, Int.not_le, ne_eq, Decidable.not_not] at hc13
    refine wp_skip ?_
    refine hK12 _ _ ?_
    refine wp_seq_k (fun K14 hK14 => ?_)
    refine wp_block ?_
    refine wp_seq_k (fun K15 hK15 => ?_)
    refine wp_region_lit ?_
    refine l_q rfl rfl (q_ixG (e := 59) (m := 3) (j := i) rfl rfl (by kernel_rfl) (by kernel_rfl) (by first | rfl | omega) (by omega) hG (by rw [rows_len (c := vl) (m := 3) (fun _ => rfl)]; first | omega | (simp only [lls] <;> omega))) ?_
    obtain ⟨x16, hx16⟩ : ∃ x, (L)[i]? = some x := ⟨_, List.getElem?_eq_getElem (by first | omega | (simp only [lls] <;> omega) | (simp <;> omega))⟩
    have hvb_x16 := (hL x16 (List.mem_of_getElem? hx16)).2
    refine l_q rfl rfl (q_loadGA (m := 3) rfl (by kernel_rfl) (by kernel_rfl) (hG.mono hS10.base) (row_take hx16 (c := vl) (m := 3) (fun _ => rfl)) rfl (by decide)) ?_
    refine l_e rfl (fun K hK => ?_)
    refine e_alloc (zv := .agg #[.int .i64 0, .int .i64 0, .string ⟨#[]⟩]) hS10 (by kernel_rfl) (fun b17 w17 (hS17 : St _ _ [.blk b17 (.cells #[.int .i64 (0 : Int), .int .i64 (0 : Int), .string (bs [])] 59), .ow 5 1 oa ((enc (L.take i)).length) oc (bv (enc (L.take i)))] _) => ?_)
    clear hS10
    refine hK _ _ ?_; clear hK K
    refine l_e rfl (fun K hK => ?_)
    refine e_storeA hS17 rfl rfl (by kernel_rfl) (by repeat' (first | exact trivial | refine ⟨by first | rfl | assumption | exact one_if (by assumption), ?_⟩)) (i := 0) rfl rfl (fun w18 (hS18 : St _ _ [.blk b17 (.cells #[.int .i64 x16.1, .int .i64 x16.2.1, .string (bs x16.2.2)] 59), _] _) => ?_)
    clear hS17
    refine hK _ _ ?_; clear hK K
    refine l_nil ?_
    refine hK15 _ _ ?_
    refine wp_seq_k (fun K19 hK19 => ?_)
    refine wp_seq_k (fun K20 hK20 => ?_)
    refine wp_region_lit ?_
    refine l_q rfl rfl (q_loadA (m := 3) rfl (by kernel_rfl) (by kernel_rfl) (hS18.blk (i := 0) rfl) rfl rfl) ?_
    refine l_e rfl (fun K hK => ?_)
    refine e_call (by kernel_rfl) (right_ok x16 (hL x16 (List.mem_of_getElem? hx16)).1 _) rfl (after_R hS18 (fun v21 w21 hv21 hS21 => ?_))
    clear hS18
    obtain rfl := hv21
    refine hK _ _ ?_; clear hK K
    refine l_q rfl rfl (q_not rfl) ?_
    refine l_nil ?_
    refine hK20 _ _ ?_
    refine c_cond rfl (fun hc22 => ?_) (fun hc22 => ?_)
    ·
     have hc22b := hc22
     try simp only [decide_eq_true_eq, decide_eq_false_iff_not, Bool.not_eq_true', Bool.not_eq_false', Bool.and_eq_true, Bool.or_eq_true, Int.not_lt, Int.not_le, ne_eq, Decidable.not_not] at hc22
     refine wp_seq_k (fun K23 hK23 => ?_)
     refine wp_region_lit ?_
     refine l_q rfl rfl (q_assignS rfl) ?_
     refine l_q rfl rfl (q_assignI rfl) ?_
     refine l_nil ?_
     refine hK23 _ _ ?_
     refine wp_ret ?_
     refine c_ret2 rfl rfl rfl ?_
     have he := encR_not hx16 (by first | exact hc22 | simpa using hc22)
     exact ⟨_, _, rfl, ⟨none, 0, by rw [he]; rfl, by rw [he]; rfl⟩, hS21.drop.ow_nil _ _⟩
    ·
     have hc22b := hc22
     try simp only [decide_eq_true_eq, decide_eq_false_iff_not, Bool.not_eq_true', Bool.not_eq_false', Bool.and_eq_true, Bool.or_eq_true, Int.not_lt, Int.not_le, ne_eq, Decidable.not_not] at hc22
     have hr : rightB x16 = true := by first | exact hc22 | simpa using hc22
     obtain ⟨hk0, hk5, hk1, hks⟩ := right_k hr
     refine wp_skip ?_
     refine hK19 _ _ ?_
     refine wp_seq_k (fun K24 hK24 => ?_)
     refine wp_region_lit ?_
     refine l_q rfl rfl (q_moveS rfl) ?_
     refine l_q rfl rfl (q_fieldAddr (ft := 45) (o := 0) rfl (by kernel_rfl)) ?_
     refine l_q rfl rfl (q_load1 rfl (by kernel_rfl) (hS21.cell (i := 0) rfl rfl)) ?_
     refine l_q rfl rfl (u_conv (a := x16.1.toNat) (k' := .u8) (M := 256) (int_nat (by omega) rfl) (by kernel_rfl) (by kernel_rfl) rfl (by decide)) ?_
     refine l_e rfl (fun K hK => ?_)
     refine e_buildSlice1 (e := 5) (zv := .int .u8 0) (xs := [.tmp 23]) hS21 (by kernel_rfl) (by kernel_rfl) (by kernel_rfl) rfl rfl rfl rfl (allone (by repeat' (first | exact trivial | refine ⟨by first | rfl | assumption, ?_⟩))) rfl (fun b25 w25 (hS25 : St _ _ [.blk b25 (.cells #[.int .u8 (((x16.1.toNat % 256) : Nat) : Int)] 5), _, _] _) => ?_)
     clear hS21
     have hB25 : Bytes [(x16.1.toNat % 256)] := by intro q hq; simp only [List.mem_cons, List.not_mem_nil, or_false] at hq; omega
     have hS25o : St _ _ [.ow 5 1 (some ⟨b25, 0, none⟩) 1 1 (bv [(x16.1.toNat % 256)]), _, _] _ := hS25.blkOw' (i := 0) (m := 1) (size := 1) (xs := bv [(x16.1.toNat % 256)]) rfl rfl rfl (by decide); clear hS25
     refine hK _ _ ?_; clear hK K
     refine l_e rfl (fun K hK => ?_)
     have hB26 : Bytes ((enc (L.take i)) ++ [(x16.1.toNat % 256)]) := Bytes.app (enc_bytes hL.take) hB25
     refine e_app (e := 5) (size := 1) (bytes := 1) (i := 2) (m' := ((enc (L.take i)) ++ [(x16.1.toNat % 256)]).length) (by kernel_rfl) hS25o rfl rfl rfl (SlG.src (e := 5) (by kernel_rfl) (hS25o.owG (i := 0) rfl) (by first | (simp only [lls, Nat.mul_one]; done) | (simp only [lls]; omega) | rfl | (simp; done)) (by decide) (bv_one _)) (by first | omega | (simp only [lls] <;> omega) | (simp; done)) bv_app (by first | omega | (simp only [maxLen, lls] <;> omega) | (simp only [maxLen]; omega)) (by first | omega | (simp only [lls] <;> omega)) (fun ad26 cp26 w26 (hS26 : St _ _ [_, _, .ow 5 1 ad26 (((enc (L.take i)) ++ [(x16.1.toNat % 256)]).length) cp26 (bv ((enc (L.take i)) ++ [(x16.1.toNat % 256)]))] _) => ?_)
     clear hS25o
     refine hK _ _ ?_; clear hK K
     refine l_q rfl rfl (q_assignS rfl) ?_
     refine l_nil ?_
     refine hK24 _ _ ?_
     refine wp_seq_k (fun K27 hK27 => ?_)
     refine wp_region_lit ?_
     refine l_q rfl rfl (q_fieldAddr (ft := 45) (o := 0) rfl (by kernel_rfl)) ?_
     refine l_q rfl rfl (q_load1 rfl (by kernel_rfl) (hS26.cell (i := 1) rfl rfl)) ?_
     refine l_nil ?_
     refine hK27 _ _ ?_
     refine wp_block ?_
     refine wp_seq_k (fun K28 hK28 => ?_)
     refine wp_block ?_
     refine wp_block ?_
     refine wp_seq_k (fun K29 hK29 => ?_)
     refine wp_block ?_
     refine wp_block ?_
     refine wp_seq_k (fun K30 hK30 => ?_)
     refine wp_block ?_
     refine wp_seq_k (fun K31 hK31 => ?_)
     refine wp_seq_k (fun K32 hK32 => ?_)
     refine wp_seq_k (fun K33 hK33 => ?_)
     refine wp_region_lit ?_
     refine l_q rfl rfl (q_eql rfl rfl) ?_
     refine l_q rfl rfl (q_assignB rfl) ?_
     refine l_nil ?_
     refine hK33 _ _ ?_
     refine c_cond rfl (fun hc34 => ?_) (fun hc34 => ?_)
     ·
      have hc34b := hc34
      try simp only [decide_eq_true_eq, decide_eq_false_iff_not, Bool.not_eq_true', Bool.not_eq_false', Bool.and_eq_true, Bool.or_eq_true, Int.not_lt, Int.not_le, ne_eq, Decidable.not_not] at hc34
      have hk1' := hk1 (by omega)
      refine wp_exit ?_
      refine hK30 _ _ ?_
      refine wp_seq_k (fun K35 hK35 => ?_)
      refine wp_region_lit ?_
      refine l_q rfl rfl (q_moveS rfl) ?_
      refine l_q rfl rfl (q_fieldAddr (ft := 2) (o := 1) rfl (by kernel_rfl)) ?_
      refine l_q rfl rfl (q_load1 rfl (by kernel_rfl) (hS26.cell (i := 1) rfl rfl)) ?_
      refine l_q rfl rfl (u_conv (a := x16.2.1.toNat) (k' := .u8) (M := 256) (int_nat (by omega) rfl) (by kernel_rfl) (by kernel_rfl) rfl (by decide)) ?_
      refine l_e rfl (fun K hK => ?_)
      refine e_buildSlice1 (e := 5) (zv := .int .u8 0) (xs := [.tmp 41]) hS26 (by kernel_rfl) (by kernel_rfl) (by kernel_rfl) rfl rfl rfl rfl (allone (by repeat' (first | exact trivial | refine ⟨by first | rfl | assumption, ?_⟩))) rfl (fun b36 w36 (hS36 : St _ _ [.blk b36 (.cells #[.int .u8 (((x16.2.1.toNat % 256) : Nat) : Int)] 5), _, _, _] _) => ?_)
      clear hS26
      have hB36 : Bytes [(x16.2.1.toNat % 256)] := by intro q hq; simp only [List.mem_cons, List.not_mem_nil, or_false] at hq; omega
      have hS36o : St _ _ [.ow 5 1 (some ⟨b36, 0, none⟩) 1 1 (bv [(x16.2.1.toNat % 256)]), _, _, _] _ := hS36.blkOw' (i := 0) (m := 1) (size := 1) (xs := bv [(x16.2.1.toNat % 256)]) rfl rfl rfl (by decide); clear hS36
      refine hK _ _ ?_; clear hK K
      refine l_e rfl (fun K hK => ?_)
      have hB37 : Bytes (((enc (L.take i)) ++ [(x16.1.toNat % 256)]) ++ [(x16.2.1.toNat % 256)]) := Bytes.app hB26 hB36
      refine e_app (e := 5) (size := 1) (bytes := 1) (i := 3) (m' := (((enc (L.take i)) ++ [(x16.1.toNat % 256)]) ++ [(x16.2.1.toNat % 256)]).length) (by kernel_rfl) hS36o rfl rfl rfl (SlG.src (e := 5) (by kernel_rfl) (hS36o.owG (i := 0) rfl) (by first | (simp only [lls, Nat.mul_one]; done) | (simp only [lls]; omega) | rfl | (simp; done)) (by decide) (bv_one _)) (by first | omega | (simp only [lls] <;> omega) | (simp; done)) bv_app (by first | omega | (simp only [maxLen, lls] <;> omega) | (simp only [maxLen]; omega)) (by first | omega | (simp only [lls] <;> omega)) (fun ad37 cp37 w37 (hS37 : St _ _ [_, _, _, .ow 5 1 ad37 ((((enc (L.take i)) ++ [(x16.1.toNat % 256)]) ++ [(x16.2.1.toNat % 256)]).length) cp37 (bv (((enc (L.take i)) ++ [(x16.1.toNat % 256)]) ++ [(x16.2.1.toNat % 256)]))] _) => ?_)
      clear hS36o
      refine hK _ _ ?_; clear hK K
      refine l_q rfl rfl (q_assignS rfl) ?_
      refine l_nil ?_
      refine hK35 _ _ ?_
      refine wp_exit ?_
      refine hK14 _ _ ?_
      refine wp_region_lit ?_
      refine l_q rfl rfl (q_addx rfl rfl (by first | decide | omega) (by first | decide | omega)) ?_
      refine l_q rfl rfl (q_moveI rfl) ?_
      refine l_nil ?_
      have hnew : (enc (L.take (i + 1))) = (((enc (L.take i)) ++ [(x16.1.toNat % 256)]) ++ [(x16.2.1.toNat % 256)]) := by rw [enc_take hx16, encV, encB1 (by omega)]; try simp [be8, bia]
      have hS38 : St _ _ [_, _, _, .ow 5 1 ad37 ((enc (L.take (i + 1))).length) cp37 (bv (enc (L.take (i + 1))))] _ := hS37.cast (by rw [hnew]); clear hS37
      have har := all_take hall hx16 hr
      have hS39 := hS38.fr3; clear hS38
      have hS40 : St _ _ [_] _ := hS39.only 1; clear hS39
      refine hK10 _ _ (came (⟨(i + 1), ad37, cp37⟩) (by repeat' (first | exact Agree.refl _ _ | refine Agree.up ?_ rfl | refine Agree.hav2 ?_ rfl | refine Agree.ups2 ?_ rfl)) (by repeat' (first | exact trivial | refine ⟨by first | rfl | exact int_succ _ | (rw [hnew]; rfl), ?_⟩)) ?_)
      exact ⟨⟨hS40, (by show i + 1 ≤ L.length; omega), har⟩, by (show L.length - (i + 1) < L.length - i); omega⟩
     ·
      have hc34b := hc34
      try simp only [decide_eq_true_eq, decide_eq_false_iff_not, Bool.not_eq_true', Bool.not_eq_false', Bool.and_eq_true, Bool.or_eq_true, Int.not_lt, Int.not_le, ne_eq, Decidable.not_not] at hc34
      refine wp_skip ?_
      refine hK32 _ _ ?_
      refine wp_seq_k (fun K41 hK41 => ?_)
      refine wp_seq_k (fun K42 hK42 => ?_)
      refine wp_region_lit ?_
      refine l_q rfl rfl (q_eql rfl rfl) ?_
      refine l_q rfl rfl (q_assignB rfl) ?_
      refine l_nil ?_
      refine hK42 _ _ ?_
      refine c_cond rfl (fun hc43 => ?_) (fun hc43 => ?_)
      ·
       have hc43b := hc43
       try simp only [decide_eq_true_eq, decide_eq_false_iff_not, Bool.not_eq_true', Bool.not_eq_false', Bool.and_eq_true, Bool.or_eq_true, Int.not_lt, Int.not_le, ne_eq, Decidable.not_not] at hc43
       refine wp_exit ?_
       refine hK29 _ _ ?_
       refine wp_seq_k (fun K44 hK44 => ?_)
       refine wp_seq_k (fun K45 hK45 => ?_)
       refine wp_region_lit ?_
       refine l_q rfl rfl (q_assignI rfl) ?_
       refine l_nil ?_
       refine hK45 _ _ ?_
       refine wp_block ?_
       refine c_rounds 9 ?_
       refine c_round ?_
       refine wp_seq_k (fun K46 hK46 => ?_)
       refine wp_seq_k (fun K47 hK47 => ?_)
       refine wp_region_lit ?_
       refine l_q rfl rfl (q_moveI rfl) ?_
       refine l_q rfl rfl (q_geq rfl rfl) ?_
       refine l_nil ?_
       refine hK47 _ _ ?_
       refine c_condT rfl (by decide) ?_
       refine wp_skip ?_
       refine hK46 _ _ ?_
       refine wp_seq_k (fun K49 hK49 => ?_)
       refine wp_block ?_
       refine wp_region_lit ?_
       refine l_q rfl rfl (q_moveS rfl) ?_
       refine l_q rfl rfl (q_fieldAddr (ft := 2) (o := 1) rfl (by kernel_rfl)) ?_
       refine l_q rfl rfl (q_load1 rfl (by kernel_rfl) (hS26.cell (i := 1) rfl rfl)) ?_
       refine l_q rfl rfl (q_convU (z := x16.2.1) rfl (by kernel_rfl) rfl) ?_
       refine l_q rfl rfl (u_add (a := (toU x16.2.1)) (b := 9223372036854775808) (M := 18446744073709551616) rfl rfl rfl (by decide)) ?_
       refine l_q rfl rfl (q_moveI rfl) ?_
       refine l_q rfl rfl (q_mulx rfl rfl (by first | decide | omega) (by first | decide | omega)) ?_
       refine l_q rfl rfl (q_shrN (k := .u64) (a := (((toU x16.2.1) + 9223372036854775808) % 18446744073709551616)) (b := 56) rfl rfl (by decide)) ?_
       refine l_q rfl rfl (u_conv (a := ((((toU x16.2.1) + 9223372036854775808) % 18446744073709551616) / 2 ^ 56)) (k' := .u8) (M := 256) rfl (by kernel_rfl) (by kernel_rfl) rfl (by decide)) ?_
       refine l_e rfl (fun K hK => ?_)
       refine e_buildSlice1 (e := 5) (zv := .int .u8 0) (xs := [.tmp 56]) hS26 (by kernel_rfl) (by kernel_rfl) (by kernel_rfl) rfl rfl rfl rfl (allone (by repeat' (first | exact trivial | refine ⟨by first | rfl | assumption, ?_⟩))) rfl (fun b50 w50 (hS50 : St _ _ [.blk b50 (.cells #[.int .u8 (((((((toU x16.2.1) + 9223372036854775808) % 18446744073709551616) / 2 ^ 56) % 256) : Nat) : Int)] 5), _, _, _] _) => ?_)
       clear hS26
       have hB50 : Bytes [(((((toU x16.2.1) + 9223372036854775808) % 18446744073709551616) / 2 ^ 56) % 256)] := by intro q hq; simp only [List.mem_cons, List.not_mem_nil, or_false] at hq; omega
       have hS50o : St _ _ [.ow 5 1 (some ⟨b50, 0, none⟩) 1 1 (bv [(((((toU x16.2.1) + 9223372036854775808) % 18446744073709551616) / 2 ^ 56) % 256)]), _, _, _] _ := hS50.blkOw' (i := 0) (m := 1) (size := 1) (xs := bv [(((((toU x16.2.1) + 9223372036854775808) % 18446744073709551616) / 2 ^ 56) % 256)]) rfl rfl rfl (by decide); clear hS50
       refine hK _ _ ?_; clear hK K
       refine l_e rfl (fun K hK => ?_)
       have hB51 : Bytes (((enc (L.take i)) ++ [(x16.1.toNat % 256)]) ++ [(((((toU x16.2.1) + 9223372036854775808) % 18446744073709551616) / 2 ^ 56) % 256)]) := Bytes.app hB26 hB50
       refine e_app (e := 5) (size := 1) (bytes := 1) (i := 3) (m' := (((enc (L.take i)) ++ [(x16.1.toNat % 256)]) ++ [(((((toU x16.2.1) + 9223372036854775808) % 18446744073709551616) / 2 ^ 56) % 256)]).length) (by kernel_rfl) hS50o rfl rfl rfl (SlG.src (e := 5) (by kernel_rfl) (hS50o.owG (i := 0) rfl) (by first | (simp only [lls, Nat.mul_one]; done) | (simp only [lls]; omega) | rfl | (simp; done)) (by decide) (bv_one _)) (by first | omega | (simp only [lls] <;> omega) | (simp; done)) bv_app (by first | omega | (simp only [maxLen, lls] <;> omega) | (simp only [maxLen]; omega)) (by first | omega | (simp only [lls] <;> omega)) (fun ad51 cp51 w51 (hS51 : St _ _ [_, _, _, .ow 5 1 ad51 ((((enc (L.take i)) ++ [(x16.1.toNat % 256)]) ++ [(((((toU x16.2.1) + 9223372036854775808) % 18446744073709551616) / 2 ^ 56) % 256)]).length) cp51 (bv (((enc (L.take i)) ++ [(x16.1.toNat % 256)]) ++ [(((((toU x16.2.1) + 9223372036854775808) % 18446744073709551616) / 2 ^ 56) % 256)]))] _) => ?_)
       clear hS50o
       refine hK _ _ ?_; clear hK K
       refine l_q rfl rfl (q_assignS rfl) ?_
       refine l_nil ?_
       refine hK49 _ _ ?_
       refine wp_region_lit ?_
       refine l_q rfl rfl (q_moveI rfl) ?_
       refine l_q rfl rfl (q_subx rfl rfl (by first | decide | omega) (by first | decide | omega)) ?_
       refine l_q rfl rfl (q_assignI rfl) ?_
       refine l_nil ?_
       refine c_round ?_
       refine wp_seq_k (fun K52 hK52 => ?_)
       refine wp_seq_k (fun K53 hK53 => ?_)
       refine wp_region_lit ?_
       refine l_q rfl rfl (q_moveI rfl) ?_
       refine l_q rfl rfl (q_geq rfl rfl) ?_
       refine l_nil ?_
       refine hK53 _ _ ?_
       refine c_condT rfl (by decide) ?_
       refine wp_skip ?_
       refine hK52 _ _ ?_
       refine wp_seq_k (fun K55 hK55 => ?_)
       refine wp_block ?_
       refine wp_region_lit ?_
       refine l_q rfl rfl (q_moveS rfl) ?_
       refine l_q rfl rfl (q_fieldAddr (ft := 2) (o := 1) rfl (by kernel_rfl)) ?_
       refine l_q rfl rfl (q_load1 rfl (by kernel_rfl) (hS51.cell (i := 2) rfl rfl)) ?_
       refine l_q rfl rfl (q_convU (z := x16.2.1) rfl (by kernel_rfl) rfl) ?_
       refine l_q rfl rfl (u_add (a := (toU x16.2.1)) (b := 9223372036854775808) (M := 18446744073709551616) rfl rfl rfl (by decide)) ?_
       refine l_q rfl rfl (q_moveI rfl) ?_
       refine l_q rfl rfl (q_mulx rfl rfl (by first | decide | omega) (by first | decide | omega)) ?_
       refine l_q rfl rfl (q_shrN (k := .u64) (a := (((toU x16.2.1) + 9223372036854775808) % 18446744073709551616)) (b := 48) rfl rfl (by decide)) ?_
       refine l_q rfl rfl (u_conv (a := ((((toU x16.2.1) + 9223372036854775808) % 18446744073709551616) / 2 ^ 48)) (k' := .u8) (M := 256) rfl (by kernel_rfl) (by kernel_rfl) rfl (by decide)) ?_
       refine l_e rfl (fun K hK => ?_)
       refine e_buildSlice1 (e := 5) (zv := .int .u8 0) (xs := [.tmp 56]) hS51 (by kernel_rfl) (by kernel_rfl) (by kernel_rfl) rfl rfl rfl rfl (allone (by repeat' (first | exact trivial | refine ⟨by first | rfl | assumption, ?_⟩))) rfl (fun b56 w56 (hS56 : St _ _ [.blk b56 (.cells #[.int .u8 (((((((toU x16.2.1) + 9223372036854775808) % 18446744073709551616) / 2 ^ 48) % 256) : Nat) : Int)] 5), _, _, _, _] _) => ?_)
       clear hS51
       have hB56 : Bytes [(((((toU x16.2.1) + 9223372036854775808) % 18446744073709551616) / 2 ^ 48) % 256)] := by intro q hq; simp only [List.mem_cons, List.not_mem_nil, or_false] at hq; omega
       have hS56o : St _ _ [.ow 5 1 (some ⟨b56, 0, none⟩) 1 1 (bv [(((((toU x16.2.1) + 9223372036854775808) % 18446744073709551616) / 2 ^ 48) % 256)]), _, _, _, _] _ := hS56.blkOw' (i := 0) (m := 1) (size := 1) (xs := bv [(((((toU x16.2.1) + 9223372036854775808) % 18446744073709551616) / 2 ^ 48) % 256)]) rfl rfl rfl (by decide); clear hS56
       refine hK _ _ ?_; clear hK K
       refine l_e rfl (fun K hK => ?_)
       have hB57 : Bytes ((((enc (L.take i)) ++ [(x16.1.toNat % 256)]) ++ [(((((toU x16.2.1) + 9223372036854775808) % 18446744073709551616) / 2 ^ 56) % 256)]) ++ [(((((toU x16.2.1) + 9223372036854775808) % 18446744073709551616) / 2 ^ 48) % 256)]) := Bytes.app hB51 hB56
       refine e_app (e := 5) (size := 1) (bytes := 1) (i := 4) (m' := ((((enc (L.take i)) ++ [(x16.1.toNat % 256)]) ++ [(((((toU x16.2.1) + 9223372036854775808) % 18446744073709551616) / 2 ^ 56) % 256)]) ++ [(((((toU x16.2.1) + 9223372036854775808) % 18446744073709551616) / 2 ^ 48) % 256)]).length) (by kernel_rfl) hS56o rfl rfl rfl (SlG.src (e := 5) (by kernel_rfl) (hS56o.owG (i := 0) rfl) (by first | (simp only [lls, Nat.mul_one]; done) | (simp only [lls]; omega) | rfl | (simp; done)) (by decide) (bv_one _)) (by first | omega | (simp only [lls] <;> omega) | (simp; done)) bv_app (by first | omega | (simp only [maxLen, lls] <;> omega) | (simp only [maxLen]; omega)) (by first | omega | (simp only [lls] <;> omega)) (fun ad57 cp57 w57 (hS57 : St _ _ [_, _, _, _, .ow 5 1 ad57 (((((enc (L.take i)) ++ [(x16.1.toNat % 256)]) ++ [(((((toU x16.2.1) + 9223372036854775808) % 18446744073709551616) / 2 ^ 56) % 256)]) ++ [(((((toU x16.2.1) + 9223372036854775808) % 18446744073709551616) / 2 ^ 48) % 256)]).length) cp57 (bv ((((enc (L.take i)) ++ [(x16.1.toNat % 256)]) ++ [(((((toU x16.2.1) + 9223372036854775808) % 18446744073709551616) / 2 ^ 56) % 256)]) ++ [(((((toU x16.2.1) + 9223372036854775808) % 18446744073709551616) / 2 ^ 48) % 256)]))] _) => ?_)
       clear hS56o
       refine hK _ _ ?_; clear hK K
       refine l_q rfl rfl (q_assignS rfl) ?_
       refine l_nil ?_
       refine hK55 _ _ ?_
       refine wp_region_lit ?_
       refine l_q rfl rfl (q_moveI rfl) ?_
       refine l_q rfl rfl (q_subx rfl rfl (by first | decide | omega) (by first | decide | omega)) ?_
       refine l_q rfl rfl (q_assignI rfl) ?_
       refine l_nil ?_
       refine c_round ?_
       refine wp_seq_k (fun K58 hK58 => ?_)
       refine wp_seq_k (fun K59 hK59 => ?_)
       refine wp_region_lit ?_
       refine l_q rfl rfl (q_moveI rfl) ?_
       refine l_q rfl rfl (q_geq rfl rfl) ?_
       refine l_nil ?_
       refine hK59 _ _ ?_
       refine c_condT rfl (by decide) ?_
       refine wp_skip ?_
       refine hK58 _ _ ?_
       refine wp_seq_k (fun K61 hK61 => ?_)
       refine wp_block ?_
       refine wp_region_lit ?_
       refine l_q rfl rfl (q_moveS rfl) ?_
       refine l_q rfl rfl (q_fieldAddr (ft := 2) (o := 1) rfl (by kernel_rfl)) ?_
       refine l_q rfl rfl (q_load1 rfl (by kernel_rfl) (hS57.cell (i := 3) rfl rfl)) ?_
       refine l_q rfl rfl (q_convU (z := x16.2.1) rfl (by kernel_rfl) rfl) ?_
       refine l_q rfl rfl (u_add (a := (toU x16.2.1)) (b := 9223372036854775808) (M := 18446744073709551616) rfl rfl rfl (by decide)) ?_
       refine l_q rfl rfl (q_moveI rfl) ?_
       refine l_q rfl rfl (q_mulx rfl rfl (by first | decide | omega) (by first | decide | omega)) ?_
       refine l_q rfl rfl (q_shrN (k := .u64) (a := (((toU x16.2.1) + 9223372036854775808) % 18446744073709551616)) (b := 40) rfl rfl (by decide)) ?_
       refine l_q rfl rfl (u_conv (a := ((((toU x16.2.1) + 9223372036854775808) % 18446744073709551616) / 2 ^ 40)) (k' := .u8) (M := 256) rfl (by kernel_rfl) (by kernel_rfl) rfl (by decide)) ?_
       refine l_e rfl (fun K hK => ?_)
       refine e_buildSlice1 (e := 5) (zv := .int .u8 0) (xs := [.tmp 56]) hS57 (by kernel_rfl) (by kernel_rfl) (by kernel_rfl) rfl rfl rfl rfl (allone (by repeat' (first | exact trivial | refine ⟨by first | rfl | assumption, ?_⟩))) rfl (fun b62 w62 (hS62 : St _ _ [.blk b62 (.cells #[.int .u8 (((((((toU x16.2.1) + 9223372036854775808) % 18446744073709551616) / 2 ^ 40) % 256) : Nat) : Int)] 5), _, _, _, _, _] _) => ?_)
       clear hS57
       have hB62 : Bytes [(((((toU x16.2.1) + 9223372036854775808) % 18446744073709551616) / 2 ^ 40) % 256)] := by intro q hq; simp only [List.mem_cons, List.not_mem_nil, or_false] at hq; omega
       have hS62o : St _ _ [.ow 5 1 (some ⟨b62, 0, none⟩) 1 1 (bv [(((((toU x16.2.1) + 9223372036854775808) % 18446744073709551616) / 2 ^ 40) % 256)]), _, _, _, _, _] _ := hS62.blkOw' (i := 0) (m := 1) (size := 1) (xs := bv [(((((toU x16.2.1) + 9223372036854775808) % 18446744073709551616) / 2 ^ 40) % 256)]) rfl rfl rfl (by decide); clear hS62
       refine hK _ _ ?_; clear hK K
       refine l_e rfl (fun K hK => ?_)
       have hB63 : Bytes (((((enc (L.take i)) ++ [(x16.1.toNat % 256)]) ++ [(((((toU x16.2.1) + 9223372036854775808) % 18446744073709551616) / 2 ^ 56) % 256)]) ++ [(((((toU x16.2.1) + 9223372036854775808) % 18446744073709551616) / 2 ^ 48) % 256)]) ++ [(((((toU x16.2.1) + 9223372036854775808) % 18446744073709551616) / 2 ^ 40) % 256)]) := Bytes.app hB57 hB62
       refine e_app (e := 5) (size := 1) (bytes := 1) (i := 5) (m' := (((((enc (L.take i)) ++ [(x16.1.toNat % 256)]) ++ [(((((toU x16.2.1) + 9223372036854775808) % 18446744073709551616) / 2 ^ 56) % 256)]) ++ [(((((toU x16.2.1) + 9223372036854775808) % 18446744073709551616) / 2 ^ 48) % 256)]) ++ [(((((toU x16.2.1) + 9223372036854775808) % 18446744073709551616) / 2 ^ 40) % 256)]).length) (by kernel_rfl) hS62o rfl rfl rfl (SlG.src (e := 5) (by kernel_rfl) (hS62o.owG (i := 0) rfl) (by first | (simp only [lls, Nat.mul_one]; done) | (simp only [lls]; omega) | rfl | (simp; done)) (by decide) (bv_one _)) (by first | omega | (simp only [lls] <;> omega) | (simp; done)) bv_app (by first | omega | (simp only [maxLen, lls] <;> omega) | (simp only [maxLen]; omega)) (by first | omega | (simp only [lls] <;> omega)) (fun ad63 cp63 w63 (hS63 : St _ _ [_, _, _, _, _, .ow 5 1 ad63 ((((((enc (L.take i)) ++ [(x16.1.toNat % 256)]) ++ [(((((toU x16.2.1) + 9223372036854775808) % 18446744073709551616) / 2 ^ 56) % 256)]) ++ [(((((toU x16.2.1) + 9223372036854775808) % 18446744073709551616) / 2 ^ 48) % 256)]) ++ [(((((toU x16.2.1) + 9223372036854775808) % 18446744073709551616) / 2 ^ 40) % 256)]).length) cp63 (bv (((((enc (L.take i)) ++ [(x16.1.toNat % 256)]) ++ [(((((toU x16.2.1) + 9223372036854775808) % 18446744073709551616) / 2 ^ 56) % 256)]) ++ [(((((toU x16.2.1) + 9223372036854775808) % 18446744073709551616) / 2 ^ 48) % 256)]) ++ [(((((toU x16.2.1) + 9223372036854775808) % 18446744073709551616) / 2 ^ 40) % 256)]))] _) => ?_)
       clear hS62o
       refine hK _ _ ?_; clear hK K
       refine l_q rfl rfl (q_assignS rfl) ?_
       refine l_nil ?_
       refine hK61 _ _ ?_
       refine wp_region_lit ?_
       refine l_q rfl rfl (q_moveI rfl) ?_
       refine l_q rfl rfl (q_subx rfl rfl (by first | decide | omega) (by first | decide | omega)) ?_
       refine l_q rfl rfl (q_assignI rfl) ?_
       refine l_nil ?_
       refine c_round ?_
       refine wp_seq_k (fun K64 hK64 => ?_)
       refine wp_seq_k (fun K65 hK65 => ?_)
       refine wp_region_lit ?_
       refine l_q rfl rfl (q_moveI rfl) ?_
       refine l_q rfl rfl (q_geq rfl rfl) ?_
       refine l_nil ?_
       refine hK65 _ _ ?_
       refine c_condT rfl (by decide) ?_
       refine wp_skip ?_
       refine hK64 _ _ ?_
       refine wp_seq_k (fun K67 hK67 => ?_)
       refine wp_block ?_
       refine wp_region_lit ?_
       refine l_q rfl rfl (q_moveS rfl) ?_
       refine l_q rfl rfl (q_fieldAddr (ft := 2) (o := 1) rfl (by kernel_rfl)) ?_
       refine l_q rfl rfl (q_load1 rfl (by kernel_rfl) (hS63.cell (i := 4) rfl rfl)) ?_
       refine l_q rfl rfl (q_convU (z := x16.2.1) rfl (by kernel_rfl) rfl) ?_
       refine l_q rfl rfl (u_add (a := (toU x16.2.1)) (b := 9223372036854775808) (M := 18446744073709551616) rfl rfl rfl (by decide)) ?_
       refine l_q rfl rfl (q_moveI rfl) ?_
       refine l_q rfl rfl (q_mulx rfl rfl (by first | decide | omega) (by first | decide | omega)) ?_
       refine l_q rfl rfl (q_shrN (k := .u64) (a := (((toU x16.2.1) + 9223372036854775808) % 18446744073709551616)) (b := 32) rfl rfl (by decide)) ?_
       refine l_q rfl rfl (u_conv (a := ((((toU x16.2.1) + 9223372036854775808) % 18446744073709551616) / 2 ^ 32)) (k' := .u8) (M := 256) rfl (by kernel_rfl) (by kernel_rfl) rfl (by decide)) ?_
       refine l_e rfl (fun K hK => ?_)
       refine e_buildSlice1 (e := 5) (zv := .int .u8 0) (xs := [.tmp 56]) hS63 (by kernel_rfl) (by kernel_rfl) (by kernel_rfl) rfl rfl rfl rfl (allone (by repeat' (first | exact trivial | refine ⟨by first | rfl | assumption, ?_⟩))) rfl (fun b68 w68 (hS68 : St _ _ [.blk b68 (.cells #[.int .u8 (((((((toU x16.2.1) + 9223372036854775808) % 18446744073709551616) / 2 ^ 32) % 256) : Nat) : Int)] 5), _, _, _, _, _, _] _) => ?_)
       clear hS63
       have hB68 : Bytes [(((((toU x16.2.1) + 9223372036854775808) % 18446744073709551616) / 2 ^ 32) % 256)] := by intro q hq; simp only [List.mem_cons, List.not_mem_nil, or_false] at hq; omega
       have hS68o : St _ _ [.ow 5 1 (some ⟨b68, 0, none⟩) 1 1 (bv [(((((toU x16.2.1) + 9223372036854775808) % 18446744073709551616) / 2 ^ 32) % 256)]), _, _, _, _, _, _] _ := hS68.blkOw' (i := 0) (m := 1) (size := 1) (xs := bv [(((((toU x16.2.1) + 9223372036854775808) % 18446744073709551616) / 2 ^ 32) % 256)]) rfl rfl rfl (by decide); clear hS68
       refine hK _ _ ?_; clear hK K
       refine l_e rfl (fun K hK => ?_)
       have hB69 : Bytes ((((((enc (L.take i)) ++ [(x16.1.toNat % 256)]) ++ [(((((toU x16.2.1) + 9223372036854775808) % 18446744073709551616) / 2 ^ 56) % 256)]) ++ [(((((toU x16.2.1) + 9223372036854775808) % 18446744073709551616) / 2 ^ 48) % 256)]) ++ [(((((toU x16.2.1) + 9223372036854775808) % 18446744073709551616) / 2 ^ 40) % 256)]) ++ [(((((toU x16.2.1) + 9223372036854775808) % 18446744073709551616) / 2 ^ 32) % 256)]) := Bytes.app hB63 hB68
       refine e_app (e := 5) (size := 1) (bytes := 1) (i := 6) (m' := ((((((enc (L.take i)) ++ [(x16.1.toNat % 256)]) ++ [(((((toU x16.2.1) + 9223372036854775808) % 18446744073709551616) / 2 ^ 56) % 256)]) ++ [(((((toU x16.2.1) + 9223372036854775808) % 18446744073709551616) / 2 ^ 48) % 256)]) ++ [(((((toU x16.2.1) + 9223372036854775808) % 18446744073709551616) / 2 ^ 40) % 256)]) ++ [(((((toU x16.2.1) + 9223372036854775808) % 18446744073709551616) / 2 ^ 32) % 256)]).length) (by kernel_rfl) hS68o rfl rfl rfl (SlG.src (e := 5) (by kernel_rfl) (hS68o.owG (i := 0) rfl) (by first | (simp only [lls, Nat.mul_one]; done) | (simp only [lls]; omega) | rfl | (simp; done)) (by decide) (bv_one _)) (by first | omega | (simp only [lls] <;> omega) | (simp; done)) bv_app (by first | omega | (simp only [maxLen, lls] <;> omega) | (simp only [maxLen]; omega)) (by first | omega | (simp only [lls] <;> omega)) (fun ad69 cp69 w69 (hS69 : St _ _ [_, _, _, _, _, _, .ow 5 1 ad69 (((((((enc (L.take i)) ++ [(x16.1.toNat % 256)]) ++ [(((((toU x16.2.1) + 9223372036854775808) % 18446744073709551616) / 2 ^ 56) % 256)]) ++ [(((((toU x16.2.1) + 9223372036854775808) % 18446744073709551616) / 2 ^ 48) % 256)]) ++ [(((((toU x16.2.1) + 9223372036854775808) % 18446744073709551616) / 2 ^ 40) % 256)]) ++ [(((((toU x16.2.1) + 9223372036854775808) % 18446744073709551616) / 2 ^ 32) % 256)]).length) cp69 (bv ((((((enc (L.take i)) ++ [(x16.1.toNat % 256)]) ++ [(((((toU x16.2.1) + 9223372036854775808) % 18446744073709551616) / 2 ^ 56) % 256)]) ++ [(((((toU x16.2.1) + 9223372036854775808) % 18446744073709551616) / 2 ^ 48) % 256)]) ++ [(((((toU x16.2.1) + 9223372036854775808) % 18446744073709551616) / 2 ^ 40) % 256)]) ++ [(((((toU x16.2.1) + 9223372036854775808) % 18446744073709551616) / 2 ^ 32) % 256)]))] _) => ?_)
       clear hS68o
       refine hK _ _ ?_; clear hK K
       refine l_q rfl rfl (q_assignS rfl) ?_
       refine l_nil ?_
       refine hK67 _ _ ?_
       refine wp_region_lit ?_
       refine l_q rfl rfl (q_moveI rfl) ?_
       refine l_q rfl rfl (q_subx rfl rfl (by first | decide | omega) (by first | decide | omega)) ?_
       refine l_q rfl rfl (q_assignI rfl) ?_
       refine l_nil ?_
       refine c_round ?_
       refine wp_seq_k (fun K70 hK70 => ?_)
       refine wp_seq_k (fun K71 hK71 => ?_)
       refine wp_region_lit ?_
       refine l_q rfl rfl (q_moveI rfl) ?_
       refine l_q rfl rfl (q_geq rfl rfl) ?_
       refine l_nil ?_
       refine hK71 _ _ ?_
       refine c_condT rfl (by decide) ?_
       refine wp_skip ?_
       refine hK70 _ _ ?_
       refine wp_seq_k (fun K73 hK73 => ?_)
       refine wp_block ?_
       refine wp_region_lit ?_
       refine l_q rfl rfl (q_moveS rfl) ?_
       refine l_q rfl rfl (q_fieldAddr (ft := 2) (o := 1) rfl (by kernel_rfl)) ?_
       refine l_q rfl rfl (q_load1 rfl (by kernel_rfl) (hS69.cell (i := 5) rfl rfl)) ?_
       refine l_q rfl rfl (q_convU (z := x16.2.1) rfl (by kernel_rfl) rfl) ?_
       refine l_q rfl rfl (u_add (a := (toU x16.2.1)) (b := 9223372036854775808) (M := 18446744073709551616) rfl rfl rfl (by decide)) ?_
       refine l_q rfl rfl (q_moveI rfl) ?_
       refine l_q rfl rfl (q_mulx rfl rfl (by first | decide | omega) (by first | decide | omega)) ?_
       refine l_q rfl rfl (q_shrN (k := .u64) (a := (((toU x16.2.1) + 9223372036854775808) % 18446744073709551616)) (b := 24) rfl rfl (by decide)) ?_
       refine l_q rfl rfl (u_conv (a := ((((toU x16.2.1) + 9223372036854775808) % 18446744073709551616) / 2 ^ 24)) (k' := .u8) (M := 256) rfl (by kernel_rfl) (by kernel_rfl) rfl (by decide)) ?_
       refine l_e rfl (fun K hK => ?_)
       refine e_buildSlice1 (e := 5) (zv := .int .u8 0) (xs := [.tmp 56]) hS69 (by kernel_rfl) (by kernel_rfl) (by kernel_rfl) rfl rfl rfl rfl (allone (by repeat' (first | exact trivial | refine ⟨by first | rfl | assumption, ?_⟩))) rfl (fun b74 w74 (hS74 : St _ _ [.blk b74 (.cells #[.int .u8 (((((((toU x16.2.1) + 9223372036854775808) % 18446744073709551616) / 2 ^ 24) % 256) : Nat) : Int)] 5), _, _, _, _, _, _, _] _) => ?_)
       clear hS69
       have hB74 : Bytes [(((((toU x16.2.1) + 9223372036854775808) % 18446744073709551616) / 2 ^ 24) % 256)] := by intro q hq; simp only [List.mem_cons, List.not_mem_nil, or_false] at hq; omega
       have hS74o : St _ _ [.ow 5 1 (some ⟨b74, 0, none⟩) 1 1 (bv [(((((toU x16.2.1) + 9223372036854775808) % 18446744073709551616) / 2 ^ 24) % 256)]), _, _, _, _, _, _, _] _ := hS74.blkOw' (i := 0) (m := 1) (size := 1) (xs := bv [(((((toU x16.2.1) + 9223372036854775808) % 18446744073709551616) / 2 ^ 24) % 256)]) rfl rfl rfl (by decide); clear hS74
       refine hK _ _ ?_; clear hK K
       refine l_e rfl (fun K hK => ?_)
       have hB75 : Bytes (((((((enc (L.take i)) ++ [(x16.1.toNat % 256)]) ++ [(((((toU x16.2.1) + 9223372036854775808) % 18446744073709551616) / 2 ^ 56) % 256)]) ++ [(((((toU x16.2.1) + 9223372036854775808) % 18446744073709551616) / 2 ^ 48) % 256)]) ++ [(((((toU x16.2.1) + 9223372036854775808) % 18446744073709551616) / 2 ^ 40) % 256)]) ++ [(((((toU x16.2.1) + 9223372036854775808) % 18446744073709551616) / 2 ^ 32) % 256)]) ++ [(((((toU x16.2.1) + 9223372036854775808) % 18446744073709551616) / 2 ^ 24) % 256)]) := Bytes.app hB69 hB74
       refine e_app (e := 5) (size := 1) (bytes := 1) (i := 7) (m' := (((((((enc (L.take i)) ++ [(x16.1.toNat % 256)]) ++ [(((((toU x16.2.1) + 9223372036854775808) % 18446744073709551616) / 2 ^ 56) % 256)]) ++ [(((((toU x16.2.1) + 9223372036854775808) % 18446744073709551616) / 2 ^ 48) % 256)]) ++ [(((((toU x16.2.1) + 9223372036854775808) % 18446744073709551616) / 2 ^ 40) % 256)]) ++ [(((((toU x16.2.1) + 9223372036854775808) % 18446744073709551616) / 2 ^ 32) % 256)]) ++ [(((((toU x16.2.1) + 9223372036854775808) % 18446744073709551616) / 2 ^ 24) % 256)]).length) (by kernel_rfl) hS74o rfl rfl rfl (SlG.src (e := 5) (by kernel_rfl) (hS74o.owG (i := 0) rfl) (by first | (simp only [lls, Nat.mul_one]; done) | (simp only [lls]; omega) | rfl | (simp; done)) (by decide) (bv_one _)) (by first | omega | (simp only [lls] <;> omega) | (simp; done)) bv_app (by first | omega | (simp only [maxLen, lls] <;> omega) | (simp only [maxLen]; omega)) (by first | omega | (simp only [lls] <;> omega)) (fun ad75 cp75 w75 (hS75 : St _ _ [_, _, _, _, _, _, _, .ow 5 1 ad75 ((((((((enc (L.take i)) ++ [(x16.1.toNat % 256)]) ++ [(((((toU x16.2.1) + 9223372036854775808) % 18446744073709551616) / 2 ^ 56) % 256)]) ++ [(((((toU x16.2.1) + 9223372036854775808) % 18446744073709551616) / 2 ^ 48) % 256)]) ++ [(((((toU x16.2.1) + 9223372036854775808) % 18446744073709551616) / 2 ^ 40) % 256)]) ++ [(((((toU x16.2.1) + 9223372036854775808) % 18446744073709551616) / 2 ^ 32) % 256)]) ++ [(((((toU x16.2.1) + 9223372036854775808) % 18446744073709551616) / 2 ^ 24) % 256)]).length) cp75 (bv (((((((enc (L.take i)) ++ [(x16.1.toNat % 256)]) ++ [(((((toU x16.2.1) + 9223372036854775808) % 18446744073709551616) / 2 ^ 56) % 256)]) ++ [(((((toU x16.2.1) + 9223372036854775808) % 18446744073709551616) / 2 ^ 48) % 256)]) ++ [(((((toU x16.2.1) + 9223372036854775808) % 18446744073709551616) / 2 ^ 40) % 256)]) ++ [(((((toU x16.2.1) + 9223372036854775808) % 18446744073709551616) / 2 ^ 32) % 256)]) ++ [(((((toU x16.2.1) + 9223372036854775808) % 18446744073709551616) / 2 ^ 24) % 256)]))] _) => ?_)
       clear hS74o
       refine hK _ _ ?_; clear hK K
       refine l_q rfl rfl (q_assignS rfl) ?_
       refine l_nil ?_
       refine hK73 _ _ ?_
       refine wp_region_lit ?_
       refine l_q rfl rfl (q_moveI rfl) ?_
       refine l_q rfl rfl (q_subx rfl rfl (by first | decide | omega) (by first | decide | omega)) ?_
       refine l_q rfl rfl (q_assignI rfl) ?_
       refine l_nil ?_
       refine c_round ?_
       refine wp_seq_k (fun K76 hK76 => ?_)
       refine wp_seq_k (fun K77 hK77 => ?_)
       refine wp_region_lit ?_
       refine l_q rfl rfl (q_moveI rfl) ?_
       refine l_q rfl rfl (q_geq rfl rfl) ?_
       refine l_nil ?_
       refine hK77 _ _ ?_
       refine c_condT rfl (by decide) ?_
       refine wp_skip ?_
       refine hK76 _ _ ?_
       refine wp_seq_k (fun K79 hK79 => ?_)
       refine wp_block ?_
       refine wp_region_lit ?_
       refine l_q rfl rfl (q_moveS rfl) ?_
       refine l_q rfl rfl (q_fieldAddr (ft := 2) (o := 1) rfl (by kernel_rfl)) ?_
       refine l_q rfl rfl (q_load1 rfl (by kernel_rfl) (hS75.cell (i := 6) rfl rfl)) ?_
       refine l_q rfl rfl (q_convU (z := x16.2.1) rfl (by kernel_rfl) rfl) ?_
       refine l_q rfl rfl (u_add (a := (toU x16.2.1)) (b := 9223372036854775808) (M := 18446744073709551616) rfl rfl rfl (by decide)) ?_
       refine l_q rfl rfl (q_moveI rfl) ?_
       refine l_q rfl rfl (q_mulx rfl rfl (by first | decide | omega) (by first | decide | omega)) ?_
       refine l_q rfl rfl (q_shrN (k := .u64) (a := (((toU x16.2.1) + 9223372036854775808) % 18446744073709551616)) (b := 16) rfl rfl (by decide)) ?_
       refine l_q rfl rfl (u_conv (a := ((((toU x16.2.1) + 9223372036854775808) % 18446744073709551616) / 2 ^ 16)) (k' := .u8) (M := 256) rfl (by kernel_rfl) (by kernel_rfl) rfl (by decide)) ?_
       refine l_e rfl (fun K hK => ?_)
       refine e_buildSlice1 (e := 5) (zv := .int .u8 0) (xs := [.tmp 56]) hS75 (by kernel_rfl) (by kernel_rfl) (by kernel_rfl) rfl rfl rfl rfl (allone (by repeat' (first | exact trivial | refine ⟨by first | rfl | assumption, ?_⟩))) rfl (fun b80 w80 (hS80 : St _ _ [.blk b80 (.cells #[.int .u8 (((((((toU x16.2.1) + 9223372036854775808) % 18446744073709551616) / 2 ^ 16) % 256) : Nat) : Int)] 5), _, _, _, _, _, _, _, _] _) => ?_)
       clear hS75
       have hB80 : Bytes [(((((toU x16.2.1) + 9223372036854775808) % 18446744073709551616) / 2 ^ 16) % 256)] := by intro q hq; simp only [List.mem_cons, List.not_mem_nil, or_false] at hq; omega
       have hS80o : St _ _ [.ow 5 1 (some ⟨b80, 0, none⟩) 1 1 (bv [(((((toU x16.2.1) + 9223372036854775808) % 18446744073709551616) / 2 ^ 16) % 256)]), _, _, _, _, _, _, _, _] _ := hS80.blkOw' (i := 0) (m := 1) (size := 1) (xs := bv [(((((toU x16.2.1) + 9223372036854775808) % 18446744073709551616) / 2 ^ 16) % 256)]) rfl rfl rfl (by decide); clear hS80
       refine hK _ _ ?_; clear hK K
       refine l_e rfl (fun K hK => ?_)
       have hB81 : Bytes ((((((((enc (L.take i)) ++ [(x16.1.toNat % 256)]) ++ [(((((toU x16.2.1) + 9223372036854775808) % 18446744073709551616) / 2 ^ 56) % 256)]) ++ [(((((toU x16.2.1) + 9223372036854775808) % 18446744073709551616) / 2 ^ 48) % 256)]) ++ [(((((toU x16.2.1) + 9223372036854775808) % 18446744073709551616) / 2 ^ 40) % 256)]) ++ [(((((toU x16.2.1) + 9223372036854775808) % 18446744073709551616) / 2 ^ 32) % 256)]) ++ [(((((toU x16.2.1) + 9223372036854775808) % 18446744073709551616) / 2 ^ 24) % 256)]) ++ [(((((toU x16.2.1) + 9223372036854775808) % 18446744073709551616) / 2 ^ 16) % 256)]) := Bytes.app hB75 hB80
       refine e_app (e := 5) (size := 1) (bytes := 1) (i := 8) (m' := ((((((((enc (L.take i)) ++ [(x16.1.toNat % 256)]) ++ [(((((toU x16.2.1) + 9223372036854775808) % 18446744073709551616) / 2 ^ 56) % 256)]) ++ [(((((toU x16.2.1) + 9223372036854775808) % 18446744073709551616) / 2 ^ 48) % 256)]) ++ [(((((toU x16.2.1) + 9223372036854775808) % 18446744073709551616) / 2 ^ 40) % 256)]) ++ [(((((toU x16.2.1) + 9223372036854775808) % 18446744073709551616) / 2 ^ 32) % 256)]) ++ [(((((toU x16.2.1) + 9223372036854775808) % 18446744073709551616) / 2 ^ 24) % 256)]) ++ [(((((toU x16.2.1) + 9223372036854775808) % 18446744073709551616) / 2 ^ 16) % 256)]).length) (by kernel_rfl) hS80o rfl rfl rfl (SlG.src (e := 5) (by kernel_rfl) (hS80o.owG (i := 0) rfl) (by first | (simp only [lls, Nat.mul_one]; done) | (simp only [lls]; omega) | rfl | (simp; done)) (by decide) (bv_one _)) (by first | omega | (simp only [lls] <;> omega) | (simp; done)) bv_app (by first | omega | (simp only [maxLen, lls] <;> omega) | (simp only [maxLen]; omega)) (by first | omega | (simp only [lls] <;> omega)) (fun ad81 cp81 w81 (hS81 : St _ _ [_, _, _, _, _, _, _, _, .ow 5 1 ad81 (((((((((enc (L.take i)) ++ [(x16.1.toNat % 256)]) ++ [(((((toU x16.2.1) + 9223372036854775808) % 18446744073709551616) / 2 ^ 56) % 256)]) ++ [(((((toU x16.2.1) + 9223372036854775808) % 18446744073709551616) / 2 ^ 48) % 256)]) ++ [(((((toU x16.2.1) + 9223372036854775808) % 18446744073709551616) / 2 ^ 40) % 256)]) ++ [(((((toU x16.2.1) + 9223372036854775808) % 18446744073709551616) / 2 ^ 32) % 256)]) ++ [(((((toU x16.2.1) + 9223372036854775808) % 18446744073709551616) / 2 ^ 24) % 256)]) ++ [(((((toU x16.2.1) + 9223372036854775808) % 18446744073709551616) / 2 ^ 16) % 256)]).length) cp81 (bv ((((((((enc (L.take i)) ++ [(x16.1.toNat % 256)]) ++ [(((((toU x16.2.1) + 9223372036854775808) % 18446744073709551616) / 2 ^ 56) % 256)]) ++ [(((((toU x16.2.1) + 9223372036854775808) % 18446744073709551616) / 2 ^ 48) % 256)]) ++ [(((((toU x16.2.1) + 9223372036854775808) % 18446744073709551616) / 2 ^ 40) % 256)]) ++ [(((((toU x16.2.1) + 9223372036854775808) % 18446744073709551616) / 2 ^ 32) % 256)]) ++ [(((((toU x16.2.1) + 9223372036854775808) % 18446744073709551616) / 2 ^ 24) % 256)]) ++ [(((((toU x16.2.1) + 9223372036854775808) % 18446744073709551616) / 2 ^ 16) % 256)]))] _) => ?_)
       clear hS80o
       refine hK _ _ ?_; clear hK K
       refine l_q rfl rfl (q_assignS rfl) ?_
       refine l_nil ?_
       refine hK79 _ _ ?_
       refine wp_region_lit ?_
       refine l_q rfl rfl (q_moveI rfl) ?_
       refine l_q rfl rfl (q_subx rfl rfl (by first | decide | omega) (by first | decide | omega)) ?_
       refine l_q rfl rfl (q_assignI rfl) ?_
       refine l_nil ?_
       refine c_round ?_
       refine wp_seq_k (fun K82 hK82 => ?_)
       refine wp_seq_k (fun K83 hK83 => ?_)
       refine wp_region_lit ?_
       refine l_q rfl rfl (q_moveI rfl) ?_
       refine l_q rfl rfl (q_geq rfl rfl) ?_
       refine l_nil ?_
       refine hK83 _ _ ?_
       refine c_condT rfl (by decide) ?_
       refine wp_skip ?_
       refine hK82 _ _ ?_
       refine wp_seq_k (fun K85 hK85 => ?_)
       refine wp_block ?_
       refine wp_region_lit ?_
       refine l_q rfl rfl (q_moveS rfl) ?_
       refine l_q rfl rfl (q_fieldAddr (ft := 2) (o := 1) rfl (by kernel_rfl)) ?_
       refine l_q rfl rfl (q_load1 rfl (by kernel_rfl) (hS81.cell (i := 7) rfl rfl)) ?_
       refine l_q rfl rfl (q_convU (z := x16.2.1) rfl (by kernel_rfl) rfl) ?_
       refine l_q rfl rfl (u_add (a := (toU x16.2.1)) (b := 9223372036854775808) (M := 18446744073709551616) rfl rfl rfl (by decide)) ?_
       refine l_q rfl rfl (q_moveI rfl) ?_
       refine l_q rfl rfl (q_mulx rfl rfl (by first | decide | omega) (by first | decide | omega)) ?_
       refine l_q rfl rfl (q_shrN (k := .u64) (a := (((toU x16.2.1) + 9223372036854775808) % 18446744073709551616)) (b := 8) rfl rfl (by decide)) ?_
       refine l_q rfl rfl (u_conv (a := ((((toU x16.2.1) + 9223372036854775808) % 18446744073709551616) / 2 ^ 8)) (k' := .u8) (M := 256) rfl (by kernel_rfl) (by kernel_rfl) rfl (by decide)) ?_
       refine l_e rfl (fun K hK => ?_)
       refine e_buildSlice1 (e := 5) (zv := .int .u8 0) (xs := [.tmp 56]) hS81 (by kernel_rfl) (by kernel_rfl) (by kernel_rfl) rfl rfl rfl rfl (allone (by repeat' (first | exact trivial | refine ⟨by first | rfl | assumption, ?_⟩))) rfl (fun b86 w86 (hS86 : St _ _ [.blk b86 (.cells #[.int .u8 (((((((toU x16.2.1) + 9223372036854775808) % 18446744073709551616) / 2 ^ 8) % 256) : Nat) : Int)] 5), _, _, _, _, _, _, _, _, _] _) => ?_)
       clear hS81
       have hB86 : Bytes [(((((toU x16.2.1) + 9223372036854775808) % 18446744073709551616) / 2 ^ 8) % 256)] := by intro q hq; simp only [List.mem_cons, List.not_mem_nil, or_false] at hq; omega
       have hS86o : St _ _ [.ow 5 1 (some ⟨b86, 0, none⟩) 1 1 (bv [(((((toU x16.2.1) + 9223372036854775808) % 18446744073709551616) / 2 ^ 8) % 256)]), _, _, _, _, _, _, _, _, _] _ := hS86.blkOw' (i := 0) (m := 1) (size := 1) (xs := bv [(((((toU x16.2.1) + 9223372036854775808) % 18446744073709551616) / 2 ^ 8) % 256)]) rfl rfl rfl (by decide); clear hS86
       refine hK _ _ ?_; clear hK K
       refine l_e rfl (fun K hK => ?_)
       have hB87 : Bytes (((((((((enc (L.take i)) ++ [(x16.1.toNat % 256)]) ++ [(((((toU x16.2.1) + 9223372036854775808) % 18446744073709551616) / 2 ^ 56) % 256)]) ++ [(((((toU x16.2.1) + 9223372036854775808) % 18446744073709551616) / 2 ^ 48) % 256)]) ++ [(((((toU x16.2.1) + 9223372036854775808) % 18446744073709551616) / 2 ^ 40) % 256)]) ++ [(((((toU x16.2.1) + 9223372036854775808) % 18446744073709551616) / 2 ^ 32) % 256)]) ++ [(((((toU x16.2.1) + 9223372036854775808) % 18446744073709551616) / 2 ^ 24) % 256)]) ++ [(((((toU x16.2.1) + 9223372036854775808) % 18446744073709551616) / 2 ^ 16) % 256)]) ++ [(((((toU x16.2.1) + 9223372036854775808) % 18446744073709551616) / 2 ^ 8) % 256)]) := Bytes.app hB81 hB86
       refine e_app (e := 5) (size := 1) (bytes := 1) (i := 9) (m' := (((((((((enc (L.take i)) ++ [(x16.1.toNat % 256)]) ++ [(((((toU x16.2.1) + 9223372036854775808) % 18446744073709551616) / 2 ^ 56) % 256)]) ++ [(((((toU x16.2.1) + 9223372036854775808) % 18446744073709551616) / 2 ^ 48) % 256)]) ++ [(((((toU x16.2.1) + 9223372036854775808) % 18446744073709551616) / 2 ^ 40) % 256)]) ++ [(((((toU x16.2.1) + 9223372036854775808) % 18446744073709551616) / 2 ^ 32) % 256)]) ++ [(((((toU x16.2.1) + 9223372036854775808) % 18446744073709551616) / 2 ^ 24) % 256)]) ++ [(((((toU x16.2.1) + 9223372036854775808) % 18446744073709551616) / 2 ^ 16) % 256)]) ++ [(((((toU x16.2.1) + 9223372036854775808) % 18446744073709551616) / 2 ^ 8) % 256)]).length) (by kernel_rfl) hS86o rfl rfl rfl (SlG.src (e := 5) (by kernel_rfl) (hS86o.owG (i := 0) rfl) (by first | (simp only [lls, Nat.mul_one]; done) | (simp only [lls]; omega) | rfl | (simp; done)) (by decide) (bv_one _)) (by first | omega | (simp only [lls] <;> omega) | (simp; done)) bv_app (by first | omega | (simp only [maxLen, lls] <;> omega) | (simp only [maxLen]; omega)) (by first | omega | (simp only [lls] <;> omega)) (fun ad87 cp87 w87 (hS87 : St _ _ [_, _, _, _, _, _, _, _, _, .ow 5 1 ad87 ((((((((((enc (L.take i)) ++ [(x16.1.toNat % 256)]) ++ [(((((toU x16.2.1) + 9223372036854775808) % 18446744073709551616) / 2 ^ 56) % 256)]) ++ [(((((toU x16.2.1) + 9223372036854775808) % 18446744073709551616) / 2 ^ 48) % 256)]) ++ [(((((toU x16.2.1) + 9223372036854775808) % 18446744073709551616) / 2 ^ 40) % 256)]) ++ [(((((toU x16.2.1) + 9223372036854775808) % 18446744073709551616) / 2 ^ 32) % 256)]) ++ [(((((toU x16.2.1) + 9223372036854775808) % 18446744073709551616) / 2 ^ 24) % 256)]) ++ [(((((toU x16.2.1) + 9223372036854775808) % 18446744073709551616) / 2 ^ 16) % 256)]) ++ [(((((toU x16.2.1) + 9223372036854775808) % 18446744073709551616) / 2 ^ 8) % 256)]).length) cp87 (bv (((((((((enc (L.take i)) ++ [(x16.1.toNat % 256)]) ++ [(((((toU x16.2.1) + 9223372036854775808) % 18446744073709551616) / 2 ^ 56) % 256)]) ++ [(((((toU x16.2.1) + 9223372036854775808) % 18446744073709551616) / 2 ^ 48) % 256)]) ++ [(((((toU x16.2.1) + 9223372036854775808) % 18446744073709551616) / 2 ^ 40) % 256)]) ++ [(((((toU x16.2.1) + 9223372036854775808) % 18446744073709551616) / 2 ^ 32) % 256)]) ++ [(((((toU x16.2.1) + 9223372036854775808) % 18446744073709551616) / 2 ^ 24) % 256)]) ++ [(((((toU x16.2.1) + 9223372036854775808) % 18446744073709551616) / 2 ^ 16) % 256)]) ++ [(((((toU x16.2.1) + 9223372036854775808) % 18446744073709551616) / 2 ^ 8) % 256)]))] _) => ?_)
       clear hS86o
       refine hK _ _ ?_; clear hK K
       refine l_q rfl rfl (q_assignS rfl) ?_
       refine l_nil ?_
       refine hK85 _ _ ?_
       refine wp_region_lit ?_
       refine l_q rfl rfl (q_moveI rfl) ?_
       refine l_q rfl rfl (q_subx rfl rfl (by first | decide | omega) (by first | decide | omega)) ?_
       refine l_q rfl rfl (q_assignI rfl) ?_
       refine l_nil ?_
       refine c_round ?_
       refine wp_seq_k (fun K88 hK88 => ?_)
       refine wp_seq_k (fun K89 hK89 => ?_)
       refine wp_region_lit ?_
       refine l_q rfl rfl (q_moveI rfl) ?_
       refine l_q rfl rfl (q_geq rfl rfl) ?_
       refine l_nil ?_
       refine hK89 _ _ ?_
       refine c_condT rfl (by decide) ?_
       refine wp_skip ?_
       refine hK88 _ _ ?_
       refine wp_seq_k (fun K91 hK91 => ?_)
       refine wp_block ?_
       refine wp_region_lit ?_
       refine l_q rfl rfl (q_moveS rfl) ?_
       refine l_q rfl rfl (q_fieldAddr (ft := 2) (o := 1) rfl (by kernel_rfl)) ?_
       refine l_q rfl rfl (q_load1 rfl (by kernel_rfl) (hS87.cell (i := 8) rfl rfl)) ?_
       refine l_q rfl rfl (q_convU (z := x16.2.1) rfl (by kernel_rfl) rfl) ?_
       refine l_q rfl rfl (u_add (a := (toU x16.2.1)) (b := 9223372036854775808) (M := 18446744073709551616) rfl rfl rfl (by decide)) ?_
       refine l_q rfl rfl (q_moveI rfl) ?_
       refine l_q rfl rfl (q_mulx rfl rfl (by first | decide | omega) (by first | decide | omega)) ?_
       refine l_q rfl rfl (q_shrN (k := .u64) (a := (((toU x16.2.1) + 9223372036854775808) % 18446744073709551616)) (b := 0) rfl rfl (by decide)) ?_
       refine l_q rfl rfl (u_conv (a := ((((toU x16.2.1) + 9223372036854775808) % 18446744073709551616) / 2 ^ 0)) (k' := .u8) (M := 256) rfl (by kernel_rfl) (by kernel_rfl) rfl (by decide)) ?_
       refine l_e rfl (fun K hK => ?_)
       refine e_buildSlice1 (e := 5) (zv := .int .u8 0) (xs := [.tmp 56]) hS87 (by kernel_rfl) (by kernel_rfl) (by kernel_rfl) rfl rfl rfl rfl (allone (by repeat' (first | exact trivial | refine ⟨by first | rfl | assumption, ?_⟩))) rfl (fun b92 w92 (hS92 : St _ _ [.blk b92 (.cells #[.int .u8 (((((((toU x16.2.1) + 9223372036854775808) % 18446744073709551616) / 2 ^ 0) % 256) : Nat) : Int)] 5), _, _, _, _, _, _, _, _, _, _] _) => ?_)
       clear hS87
       have hB92 : Bytes [(((((toU x16.2.1) + 9223372036854775808) % 18446744073709551616) / 2 ^ 0) % 256)] := by intro q hq; simp only [List.mem_cons, List.not_mem_nil, or_false] at hq; omega
       have hS92o : St _ _ [.ow 5 1 (some ⟨b92, 0, none⟩) 1 1 (bv [(((((toU x16.2.1) + 9223372036854775808) % 18446744073709551616) / 2 ^ 0) % 256)]), _, _, _, _, _, _, _, _, _, _] _ := hS92.blkOw' (i := 0) (m := 1) (size := 1) (xs := bv [(((((toU x16.2.1) + 9223372036854775808) % 18446744073709551616) / 2 ^ 0) % 256)]) rfl rfl rfl (by decide); clear hS92
       refine hK _ _ ?_; clear hK K
       refine l_e rfl (fun K hK => ?_)
       have hB93 : Bytes ((((((((((enc (L.take i)) ++ [(x16.1.toNat % 256)]) ++ [(((((toU x16.2.1) + 9223372036854775808) % 18446744073709551616) / 2 ^ 56) % 256)]) ++ [(((((toU x16.2.1) + 9223372036854775808) % 18446744073709551616) / 2 ^ 48) % 256)]) ++ [(((((toU x16.2.1) + 9223372036854775808) % 18446744073709551616) / 2 ^ 40) % 256)]) ++ [(((((toU x16.2.1) + 9223372036854775808) % 18446744073709551616) / 2 ^ 32) % 256)]) ++ [(((((toU x16.2.1) + 9223372036854775808) % 18446744073709551616) / 2 ^ 24) % 256)]) ++ [(((((toU x16.2.1) + 9223372036854775808) % 18446744073709551616) / 2 ^ 16) % 256)]) ++ [(((((toU x16.2.1) + 9223372036854775808) % 18446744073709551616) / 2 ^ 8) % 256)]) ++ [(((((toU x16.2.1) + 9223372036854775808) % 18446744073709551616) / 2 ^ 0) % 256)]) := Bytes.app hB87 hB92
       refine e_app (e := 5) (size := 1) (bytes := 1) (i := 10) (m' := ((((((((((enc (L.take i)) ++ [(x16.1.toNat % 256)]) ++ [(((((toU x16.2.1) + 9223372036854775808) % 18446744073709551616) / 2 ^ 56) % 256)]) ++ [(((((toU x16.2.1) + 9223372036854775808) % 18446744073709551616) / 2 ^ 48) % 256)]) ++ [(((((toU x16.2.1) + 9223372036854775808) % 18446744073709551616) / 2 ^ 40) % 256)]) ++ [(((((toU x16.2.1) + 9223372036854775808) % 18446744073709551616) / 2 ^ 32) % 256)]) ++ [(((((toU x16.2.1) + 9223372036854775808) % 18446744073709551616) / 2 ^ 24) % 256)]) ++ [(((((toU x16.2.1) + 9223372036854775808) % 18446744073709551616) / 2 ^ 16) % 256)]) ++ [(((((toU x16.2.1) + 9223372036854775808) % 18446744073709551616) / 2 ^ 8) % 256)]) ++ [(((((toU x16.2.1) + 9223372036854775808) % 18446744073709551616) / 2 ^ 0) % 256)]).length) (by kernel_rfl) hS92o rfl rfl rfl (SlG.src (e := 5) (by kernel_rfl) (hS92o.owG (i := 0) rfl) (by first | (simp only [lls, Nat.mul_one]; done) | (simp only [lls]; omega) | rfl | (simp; done)) (by decide) (bv_one _)) (by first | omega | (simp only [lls] <;> omega) | (simp; done)) bv_app (by first | omega | (simp only [maxLen, lls] <;> omega) | (simp only [maxLen]; omega)) (by first | omega | (simp only [lls] <;> omega)) (fun ad93 cp93 w93 (hS93 : St _ _ [_, _, _, _, _, _, _, _, _, _, .ow 5 1 ad93 (((((((((((enc (L.take i)) ++ [(x16.1.toNat % 256)]) ++ [(((((toU x16.2.1) + 9223372036854775808) % 18446744073709551616) / 2 ^ 56) % 256)]) ++ [(((((toU x16.2.1) + 9223372036854775808) % 18446744073709551616) / 2 ^ 48) % 256)]) ++ [(((((toU x16.2.1) + 9223372036854775808) % 18446744073709551616) / 2 ^ 40) % 256)]) ++ [(((((toU x16.2.1) + 9223372036854775808) % 18446744073709551616) / 2 ^ 32) % 256)]) ++ [(((((toU x16.2.1) + 9223372036854775808) % 18446744073709551616) / 2 ^ 24) % 256)]) ++ [(((((toU x16.2.1) + 9223372036854775808) % 18446744073709551616) / 2 ^ 16) % 256)]) ++ [(((((toU x16.2.1) + 9223372036854775808) % 18446744073709551616) / 2 ^ 8) % 256)]) ++ [(((((toU x16.2.1) + 9223372036854775808) % 18446744073709551616) / 2 ^ 0) % 256)]).length) cp93 (bv ((((((((((enc (L.take i)) ++ [(x16.1.toNat % 256)]) ++ [(((((toU x16.2.1) + 9223372036854775808) % 18446744073709551616) / 2 ^ 56) % 256)]) ++ [(((((toU x16.2.1) + 9223372036854775808) % 18446744073709551616) / 2 ^ 48) % 256)]) ++ [(((((toU x16.2.1) + 9223372036854775808) % 18446744073709551616) / 2 ^ 40) % 256)]) ++ [(((((toU x16.2.1) + 9223372036854775808) % 18446744073709551616) / 2 ^ 32) % 256)]) ++ [(((((toU x16.2.1) + 9223372036854775808) % 18446744073709551616) / 2 ^ 24) % 256)]) ++ [(((((toU x16.2.1) + 9223372036854775808) % 18446744073709551616) / 2 ^ 16) % 256)]) ++ [(((((toU x16.2.1) + 9223372036854775808) % 18446744073709551616) / 2 ^ 8) % 256)]) ++ [(((((toU x16.2.1) + 9223372036854775808) % 18446744073709551616) / 2 ^ 0) % 256)]))] _) => ?_)
       clear hS92o
       refine hK _ _ ?_; clear hK K
       refine l_q rfl rfl (q_assignS rfl) ?_
       refine l_nil ?_
       refine hK91 _ _ ?_
       refine wp_region_lit ?_
       refine l_q rfl rfl (q_moveI rfl) ?_
       refine l_q rfl rfl (q_subx rfl rfl (by first | decide | omega) (by first | decide | omega)) ?_
       refine l_q rfl rfl (q_assignI rfl) ?_
       refine l_nil ?_
       refine c_round ?_
       refine wp_seq_k (fun K94 hK94 => ?_)
       refine wp_seq_k (fun K95 hK95 => ?_)
       refine wp_region_lit ?_
       refine l_q rfl rfl (q_moveI rfl) ?_
       refine l_q rfl rfl (q_geq rfl rfl) ?_
       refine l_nil ?_
       refine hK95 _ _ ?_
       refine c_condF rfl (by decide) ?_
       refine wp_exit ?_
       refine hK44 _ _ ?_
       refine wp_exit ?_
       refine hK14 _ _ ?_
       refine wp_region_lit ?_
       refine l_q rfl rfl (q_addx rfl rfl (by first | decide | omega) (by first | decide | omega)) ?_
       refine l_q rfl rfl (q_moveI rfl) ?_
       refine l_nil ?_
       have hnew : (enc (L.take (i + 1))) = ((((((((((enc (L.take i)) ++ [(x16.1.toNat % 256)]) ++ [(((((toU x16.2.1) + 9223372036854775808) % 18446744073709551616) / 2 ^ 56) % 256)]) ++ [(((((toU x16.2.1) + 9223372036854775808) % 18446744073709551616) / 2 ^ 48) % 256)]) ++ [(((((toU x16.2.1) + 9223372036854775808) % 18446744073709551616) / 2 ^ 40) % 256)]) ++ [(((((toU x16.2.1) + 9223372036854775808) % 18446744073709551616) / 2 ^ 32) % 256)]) ++ [(((((toU x16.2.1) + 9223372036854775808) % 18446744073709551616) / 2 ^ 24) % 256)]) ++ [(((((toU x16.2.1) + 9223372036854775808) % 18446744073709551616) / 2 ^ 16) % 256)]) ++ [(((((toU x16.2.1) + 9223372036854775808) % 18446744073709551616) / 2 ^ 8) % 256)]) ++ [(((((toU x16.2.1) + 9223372036854775808) % 18446744073709551616) / 2 ^ 0) % 256)]) := by rw [enc_take hx16, encV, encB2 (.inl (by omega))]; try simp [be8, bia]
       have hS97 : St _ _ [_, _, _, _, _, _, _, _, _, _, .ow 5 1 ad93 ((enc (L.take (i + 1))).length) cp93 (bv (enc (L.take (i + 1))))] _ := hS93.cast (by rw [hnew]); clear hS93
       have har := all_take hall hx16 hr
       have hS98 : St _ _ [_, _, _, _, _, _, _, _, _, _, _] _ := hS97.front (k := 10) rfl rfl; clear hS97
       have hS99 : St _ _ [_] _ := hS98.only 1; clear hS98
       refine hK10 _ _ (came (⟨(i + 1), ad93, cp93⟩) (by repeat' (first | exact Agree.refl _ _ | refine Agree.up ?_ rfl | refine Agree.hav2 ?_ rfl | refine Agree.ups2 ?_ rfl)) (by repeat' (first | exact trivial | refine ⟨by first | rfl | exact int_succ _ | (rw [hnew]; rfl), ?_⟩)) ?_)
       exact ⟨⟨hS99, (by show i + 1 ≤ L.length; omega), har⟩, by (show L.length - (i + 1) < L.length - i); omega⟩
      ·
       have hc43b := hc43
       try simp only [decide_eq_true_eq, decide_eq_false_iff_not, Bool.not_eq_true', Bool.not_eq_false', Bool.and_eq_true, Bool.or_eq_true, Int.not_lt, Int.not_le, ne_eq, Decidable.not_not] at hc43
       refine wp_skip ?_
       refine hK41 _ _ ?_
       refine wp_seq_k (fun K100 hK100 => ?_)
       refine wp_seq_k (fun K101 hK101 => ?_)
       refine wp_region_lit ?_
       refine l_q rfl rfl (q_eql rfl rfl) ?_
       refine l_q rfl rfl (q_assignB rfl) ?_
       refine l_nil ?_
       refine hK101 _ _ ?_
       refine c_cond rfl (fun hc102 => ?_) (fun hc102 => ?_)
       ·
        have hc102b := hc102
        try simp only [decide_eq_true_eq, decide_eq_false_iff_not, Bool.not_eq_true', Bool.not_eq_false', Bool.and_eq_true, Bool.or_eq_true, Int.not_lt, Int.not_le, ne_eq, Decidable.not_not] at hc102
        refine wp_exit ?_
        refine hK29 _ _ ?_
        refine wp_seq_k (fun K103 hK103 => ?_)
        refine wp_seq_k (fun K104 hK104 => ?_)
        refine wp_region_lit ?_
        refine l_q rfl rfl (q_assignI rfl) ?_
        refine l_nil ?_
        refine hK104 _ _ ?_
        refine wp_block ?_
        refine c_rounds 9 ?_
        refine c_round ?_
        refine wp_seq_k (fun K105 hK105 => ?_)
        refine wp_seq_k (fun K106 hK106 => ?_)
        refine wp_region_lit ?_
        refine l_q rfl rfl (q_moveI rfl) ?_
        refine l_q rfl rfl (q_geq rfl rfl) ?_
        refine l_nil ?_
        refine hK106 _ _ ?_
        refine c_condT rfl (by decide) ?_
        refine wp_skip ?_
        refine hK105 _ _ ?_
        refine wp_seq_k (fun K108 hK108 => ?_)
        refine wp_block ?_
        refine wp_region_lit ?_
        refine l_q rfl rfl (q_moveS rfl) ?_
        refine l_q rfl rfl (q_fieldAddr (ft := 2) (o := 1) rfl (by kernel_rfl)) ?_
        refine l_q rfl rfl (q_load1 rfl (by kernel_rfl) (hS26.cell (i := 1) rfl rfl)) ?_
        refine l_q rfl rfl (q_convU (z := x16.2.1) rfl (by kernel_rfl) rfl) ?_
        refine l_q rfl rfl (u_add (a := (toU x16.2.1)) (b := 9223372036854775808) (M := 18446744073709551616) rfl rfl rfl (by decide)) ?_
        refine l_q rfl rfl (q_moveI rfl) ?_
        refine l_q rfl rfl (q_mulx rfl rfl (by first | decide | omega) (by first | decide | omega)) ?_
        refine l_q rfl rfl (q_shrN (k := .u64) (a := (((toU x16.2.1) + 9223372036854775808) % 18446744073709551616)) (b := 56) rfl rfl (by decide)) ?_
        refine l_q rfl rfl (u_conv (a := ((((toU x16.2.1) + 9223372036854775808) % 18446744073709551616) / 2 ^ 56)) (k' := .u8) (M := 256) rfl (by kernel_rfl) (by kernel_rfl) rfl (by decide)) ?_
        refine l_e rfl (fun K hK => ?_)
        refine e_buildSlice1 (e := 5) (zv := .int .u8 0) (xs := [.tmp 56]) hS26 (by kernel_rfl) (by kernel_rfl) (by kernel_rfl) rfl rfl rfl rfl (allone (by repeat' (first | exact trivial | refine ⟨by first | rfl | assumption, ?_⟩))) rfl (fun b109 w109 (hS109 : St _ _ [.blk b109 (.cells #[.int .u8 (((((((toU x16.2.1) + 9223372036854775808) % 18446744073709551616) / 2 ^ 56) % 256) : Nat) : Int)] 5), _, _, _] _) => ?_)
        clear hS26
        have hB109 : Bytes [(((((toU x16.2.1) + 9223372036854775808) % 18446744073709551616) / 2 ^ 56) % 256)] := by intro q hq; simp only [List.mem_cons, List.not_mem_nil, or_false] at hq; omega
        have hS109o : St _ _ [.ow 5 1 (some ⟨b109, 0, none⟩) 1 1 (bv [(((((toU x16.2.1) + 9223372036854775808) % 18446744073709551616) / 2 ^ 56) % 256)]), _, _, _] _ := hS109.blkOw' (i := 0) (m := 1) (size := 1) (xs := bv [(((((toU x16.2.1) + 9223372036854775808) % 18446744073709551616) / 2 ^ 56) % 256)]) rfl rfl rfl (by decide); clear hS109
        refine hK _ _ ?_; clear hK K
        refine l_e rfl (fun K hK => ?_)
        have hB110 : Bytes (((enc (L.take i)) ++ [(x16.1.toNat % 256)]) ++ [(((((toU x16.2.1) + 9223372036854775808) % 18446744073709551616) / 2 ^ 56) % 256)]) := Bytes.app hB26 hB109
        refine e_app (e := 5) (size := 1) (bytes := 1) (i := 3) (m' := (((enc (L.take i)) ++ [(x16.1.toNat % 256)]) ++ [(((((toU x16.2.1) + 9223372036854775808) % 18446744073709551616) / 2 ^ 56) % 256)]).length) (by kernel_rfl) hS109o rfl rfl rfl (SlG.src (e := 5) (by kernel_rfl) (hS109o.owG (i := 0) rfl) (by first | (simp only [lls, Nat.mul_one]; done) | (simp only [lls]; omega) | rfl | (simp; done)) (by decide) (bv_one _)) (by first | omega | (simp only [lls] <;> omega) | (simp; done)) bv_app (by first | omega | (simp only [maxLen, lls] <;> omega) | (simp only [maxLen]; omega)) (by first | omega | (simp only [lls] <;> omega)) (fun ad110 cp110 w110 (hS110 : St _ _ [_, _, _, .ow 5 1 ad110 ((((enc (L.take i)) ++ [(x16.1.toNat % 256)]) ++ [(((((toU x16.2.1) + 9223372036854775808) % 18446744073709551616) / 2 ^ 56) % 256)]).length) cp110 (bv (((enc (L.take i)) ++ [(x16.1.toNat % 256)]) ++ [(((((toU x16.2.1) + 9223372036854775808) % 18446744073709551616) / 2 ^ 56) % 256)]))] _) => ?_)
        clear hS109o
        refine hK _ _ ?_; clear hK K
        refine l_q rfl rfl (q_assignS rfl) ?_
        refine l_nil ?_
        refine hK108 _ _ ?_
        refine wp_region_lit ?_
        refine l_q rfl rfl (q_moveI rfl) ?_
        refine l_q rfl rfl (q_subx rfl rfl (by first | decide | omega) (by first | decide | omega)) ?_
        refine l_q rfl rfl (q_assignI rfl) ?_
        refine l_nil ?_
        refine c_round ?_
        refine wp_seq_k (fun K111 hK111 => ?_)
        refine wp_seq_k (fun K112 hK112 => ?_)
        refine wp_region_lit ?_
        refine l_q rfl rfl (q_moveI rfl) ?_
        refine l_q rfl rfl (q_geq rfl rfl) ?_
        refine l_nil ?_
        refine hK112 _ _ ?_
        refine c_condT rfl (by decide) ?_
        refine wp_skip ?_
        refine hK111 _ _ ?_
        refine wp_seq_k (fun K114 hK114 => ?_)
        refine wp_block ?_
        refine wp_region_lit ?_
        refine l_q rfl rfl (q_moveS rfl) ?_
        refine l_q rfl rfl (q_fieldAddr (ft := 2) (o := 1) rfl (by kernel_rfl)) ?_
        refine l_q rfl rfl (q_load1 rfl (by kernel_rfl) (hS110.cell (i := 2) rfl rfl)) ?_
        refine l_q rfl rfl (q_convU (z := x16.2.1) rfl (by kernel_rfl) rfl) ?_
        refine l_q rfl rfl (u_add (a := (toU x16.2.1)) (b := 9223372036854775808) (M := 18446744073709551616) rfl rfl rfl (by decide)) ?_
        refine l_q rfl rfl (q_moveI rfl) ?_
        refine l_q rfl rfl (q_mulx rfl rfl (by first | decide | omega) (by first | decide | omega)) ?_
        refine l_q rfl rfl (q_shrN (k := .u64) (a := (((toU x16.2.1) + 9223372036854775808) % 18446744073709551616)) (b := 48) rfl rfl (by decide)) ?_
        refine l_q rfl rfl (u_conv (a := ((((toU x16.2.1) + 9223372036854775808) % 18446744073709551616) / 2 ^ 48)) (k' := .u8) (M := 256) rfl (by kernel_rfl) (by kernel_rfl) rfl (by decide)) ?_
        refine l_e rfl (fun K hK => ?_)
        refine e_buildSlice1 (e := 5) (zv := .int .u8 0) (xs := [.tmp 56]) hS110 (by kernel_rfl) (by kernel_rfl) (by kernel_rfl) rfl rfl rfl rfl (allone (by repeat' (first | exact trivial | refine ⟨by first | rfl | assumption, ?_⟩))) rfl (fun b115 w115 (hS115 : St _ _ [.blk b115 (.cells #[.int .u8 (((((((toU x16.2.1) + 9223372036854775808) % 18446744073709551616) / 2 ^ 48) % 256) : Nat) : Int)] 5), _, _, _, _] _) => ?_)
        clear hS110
        have hB115 : Bytes [(((((toU x16.2.1) + 9223372036854775808) % 18446744073709551616) / 2 ^ 48) % 256)] := by intro q hq; simp only [List.mem_cons, List.not_mem_nil, or_false] at hq; omega
        have hS115o : St _ _ [.ow 5 1 (some ⟨b115, 0, none⟩) 1 1 (bv [(((((toU x16.2.1) + 9223372036854775808) % 18446744073709551616) / 2 ^ 48) % 256)]), _, _, _, _] _ := hS115.blkOw' (i := 0) (m := 1) (size := 1) (xs := bv [(((((toU x16.2.1) + 9223372036854775808) % 18446744073709551616) / 2 ^ 48) % 256)]) rfl rfl rfl (by decide); clear hS115
        refine hK _ _ ?_; clear hK K
        refine l_e rfl (fun K hK => ?_)
        have hB116 : Bytes ((((enc (L.take i)) ++ [(x16.1.toNat % 256)]) ++ [(((((toU x16.2.1) + 9223372036854775808) % 18446744073709551616) / 2 ^ 56) % 256)]) ++ [(((((toU x16.2.1) + 9223372036854775808) % 18446744073709551616) / 2 ^ 48) % 256)]) := Bytes.app hB110 hB115
        refine e_app (e := 5) (size := 1) (bytes := 1) (i := 4) (m' := ((((enc (L.take i)) ++ [(x16.1.toNat % 256)]) ++ [(((((toU x16.2.1) + 9223372036854775808) % 18446744073709551616) / 2 ^ 56) % 256)]) ++ [(((((toU x16.2.1) + 9223372036854775808) % 18446744073709551616) / 2 ^ 48) % 256)]).length) (by kernel_rfl) hS115o rfl rfl rfl (SlG.src (e := 5) (by kernel_rfl) (hS115o.owG (i := 0) rfl) (by first | (simp only [lls, Nat.mul_one]; done) | (simp only [lls]; omega) | rfl | (simp; done)) (by decide) (bv_one _)) (by first | omega | (simp only [lls] <;> omega) | (simp; done)) bv_app (by first | omega | (simp only [maxLen, lls] <;> omega) | (simp only [maxLen]; omega)) (by first | omega | (simp only [lls] <;> omega)) (fun ad116 cp116 w116 (hS116 : St _ _ [_, _, _, _, .ow 5 1 ad116 (((((enc (L.take i)) ++ [(x16.1.toNat % 256)]) ++ [(((((toU x16.2.1) + 9223372036854775808) % 18446744073709551616) / 2 ^ 56) % 256)]) ++ [(((((toU x16.2.1) + 9223372036854775808) % 18446744073709551616) / 2 ^ 48) % 256)]).length) cp116 (bv ((((enc (L.take i)) ++ [(x16.1.toNat % 256)]) ++ [(((((toU x16.2.1) + 9223372036854775808) % 18446744073709551616) / 2 ^ 56) % 256)]) ++ [(((((toU x16.2.1) + 9223372036854775808) % 18446744073709551616) / 2 ^ 48) % 256)]))] _) => ?_)
        clear hS115o
        refine hK _ _ ?_; clear hK K
        refine l_q rfl rfl (q_assignS rfl) ?_
        refine l_nil ?_
        refine hK114 _ _ ?_
        refine wp_region_lit ?_
        refine l_q rfl rfl (q_moveI rfl) ?_
        refine l_q rfl rfl (q_subx rfl rfl (by first | decide | omega) (by first | decide | omega)) ?_
        refine l_q rfl rfl (q_assignI rfl) ?_
        refine l_nil ?_
        refine c_round ?_
        refine wp_seq_k (fun K117 hK117 => ?_)
        refine wp_seq_k (fun K118 hK118 => ?_)
        refine wp_region_lit ?_
        refine l_q rfl rfl (q_moveI rfl) ?_
        refine l_q rfl rfl (q_geq rfl rfl) ?_
        refine l_nil ?_
        refine hK118 _ _ ?_
        refine c_condT rfl (by decide) ?_
        refine wp_skip ?_
        refine hK117 _ _ ?_
        refine wp_seq_k (fun K120 hK120 => ?_)
        refine wp_block ?_
        refine wp_region_lit ?_
        refine l_q rfl rfl (q_moveS rfl) ?_
        refine l_q rfl rfl (q_fieldAddr (ft := 2) (o := 1) rfl (by kernel_rfl)) ?_
        refine l_q rfl rfl (q_load1 rfl (by kernel_rfl) (hS116.cell (i := 3) rfl rfl)) ?_
        refine l_q rfl rfl (q_convU (z := x16.2.1) rfl (by kernel_rfl) rfl) ?_
        refine l_q rfl rfl (u_add (a := (toU x16.2.1)) (b := 9223372036854775808) (M := 18446744073709551616) rfl rfl rfl (by decide)) ?_
        refine l_q rfl rfl (q_moveI rfl) ?_
        refine l_q rfl rfl (q_mulx rfl rfl (by first | decide | omega) (by first | decide | omega)) ?_
        refine l_q rfl rfl (q_shrN (k := .u64) (a := (((toU x16.2.1) + 9223372036854775808) % 18446744073709551616)) (b := 40) rfl rfl (by decide)) ?_
        refine l_q rfl rfl (u_conv (a := ((((toU x16.2.1) + 9223372036854775808) % 18446744073709551616) / 2 ^ 40)) (k' := .u8) (M := 256) rfl (by kernel_rfl) (by kernel_rfl) rfl (by decide)) ?_
        refine l_e rfl (fun K hK => ?_)
        refine e_buildSlice1 (e := 5) (zv := .int .u8 0) (xs := [.tmp 56]) hS116 (by kernel_rfl) (by kernel_rfl) (by kernel_rfl) rfl rfl rfl rfl (allone (by repeat' (first | exact trivial | refine ⟨by first | rfl | assumption, ?_⟩))) rfl (fun b121 w121 (hS121 : St _ _ [.blk b121 (.cells #[.int .u8 (((((((toU x16.2.1) + 9223372036854775808) % 18446744073709551616) / 2 ^ 40) % 256) : Nat) : Int)] 5), _, _, _, _, _] _) => ?_)
        clear hS116
        have hB121 : Bytes [(((((toU x16.2.1) + 9223372036854775808) % 18446744073709551616) / 2 ^ 40) % 256)] := by intro q hq; simp only [List.mem_cons, List.not_mem_nil, or_false] at hq; omega
        have hS121o : St _ _ [.ow 5 1 (some ⟨b121, 0, none⟩) 1 1 (bv [(((((toU x16.2.1) + 9223372036854775808) % 18446744073709551616) / 2 ^ 40) % 256)]), _, _, _, _, _] _ := hS121.blkOw' (i := 0) (m := 1) (size := 1) (xs := bv [(((((toU x16.2.1) + 9223372036854775808) % 18446744073709551616) / 2 ^ 40) % 256)]) rfl rfl rfl (by decide); clear hS121
        refine hK _ _ ?_; clear hK K
        refine l_e rfl (fun K hK => ?_)
        have hB122 : Bytes (((((enc (L.take i)) ++ [(x16.1.toNat % 256)]) ++ [(((((toU x16.2.1) + 9223372036854775808) % 18446744073709551616) / 2 ^ 56) % 256)]) ++ [(((((toU x16.2.1) + 9223372036854775808) % 18446744073709551616) / 2 ^ 48) % 256)]) ++ [(((((toU x16.2.1) + 9223372036854775808) % 18446744073709551616) / 2 ^ 40) % 256)]) := Bytes.app hB116 hB121
        refine e_app (e := 5) (size := 1) (bytes := 1) (i := 5) (m' := (((((enc (L.take i)) ++ [(x16.1.toNat % 256)]) ++ [(((((toU x16.2.1) + 9223372036854775808) % 18446744073709551616) / 2 ^ 56) % 256)]) ++ [(((((toU x16.2.1) + 9223372036854775808) % 18446744073709551616) / 2 ^ 48) % 256)]) ++ [(((((toU x16.2.1) + 9223372036854775808) % 18446744073709551616) / 2 ^ 40) % 256)]).length) (by kernel_rfl) hS121o rfl rfl rfl (SlG.src (e := 5) (by kernel_rfl) (hS121o.owG (i := 0) rfl) (by first | (simp only [lls, Nat.mul_one]; done) | (simp only [lls]; omega) | rfl | (simp; done)) (by decide) (bv_one _)) (by first | omega | (simp only [lls] <;> omega) | (simp; done)) bv_app (by first | omega | (simp only [maxLen, lls] <;> omega) | (simp only [maxLen]; omega)) (by first | omega | (simp only [lls] <;> omega)) (fun ad122 cp122 w122 (hS122 : St _ _ [_, _, _, _, _, .ow 5 1 ad122 ((((((enc (L.take i)) ++ [(x16.1.toNat % 256)]) ++ [(((((toU x16.2.1) + 9223372036854775808) % 18446744073709551616) / 2 ^ 56) % 256)]) ++ [(((((toU x16.2.1) + 9223372036854775808) % 18446744073709551616) / 2 ^ 48) % 256)]) ++ [(((((toU x16.2.1) + 9223372036854775808) % 18446744073709551616) / 2 ^ 40) % 256)]).length) cp122 (bv (((((enc (L.take i)) ++ [(x16.1.toNat % 256)]) ++ [(((((toU x16.2.1) + 9223372036854775808) % 18446744073709551616) / 2 ^ 56) % 256)]) ++ [(((((toU x16.2.1) + 9223372036854775808) % 18446744073709551616) / 2 ^ 48) % 256)]) ++ [(((((toU x16.2.1) + 9223372036854775808) % 18446744073709551616) / 2 ^ 40) % 256)]))] _) => ?_)
        clear hS121o
        refine hK _ _ ?_; clear hK K
        refine l_q rfl rfl (q_assignS rfl) ?_
        refine l_nil ?_
        refine hK120 _ _ ?_
        refine wp_region_lit ?_
        refine l_q rfl rfl (q_moveI rfl) ?_
        refine l_q rfl rfl (q_subx rfl rfl (by first | decide | omega) (by first | decide | omega)) ?_
        refine l_q rfl rfl (q_assignI rfl) ?_
        refine l_nil ?_
        refine c_round ?_
        refine wp_seq_k (fun K123 hK123 => ?_)
        refine wp_seq_k (fun K124 hK124 => ?_)
        refine wp_region_lit ?_
        refine l_q rfl rfl (q_moveI rfl) ?_
        refine l_q rfl rfl (q_geq rfl rfl) ?_
        refine l_nil ?_
        refine hK124 _ _ ?_
        refine c_condT rfl (by decide) ?_
        refine wp_skip ?_
        refine hK123 _ _ ?_
        refine wp_seq_k (fun K126 hK126 => ?_)
        refine wp_block ?_
        refine wp_region_lit ?_
        refine l_q rfl rfl (q_moveS rfl) ?_
        refine l_q rfl rfl (q_fieldAddr (ft := 2) (o := 1) rfl (by kernel_rfl)) ?_
        refine l_q rfl rfl (q_load1 rfl (by kernel_rfl) (hS122.cell (i := 4) rfl rfl)) ?_
        refine l_q rfl rfl (q_convU (z := x16.2.1) rfl (by kernel_rfl) rfl) ?_
        refine l_q rfl rfl (u_add (a := (toU x16.2.1)) (b := 9223372036854775808) (M := 18446744073709551616) rfl rfl rfl (by decide)) ?_
        refine l_q rfl rfl (q_moveI rfl) ?_
        refine l_q rfl rfl (q_mulx rfl rfl (by first | decide | omega) (by first | decide | omega)) ?_
        refine l_q rfl rfl (q_shrN (k := .u64) (a := (((toU x16.2.1) + 9223372036854775808) % 18446744073709551616)) (b := 32) rfl rfl (by decide)) ?_
        refine l_q rfl rfl (u_conv (a := ((((toU x16.2.1) + 9223372036854775808) % 18446744073709551616) / 2 ^ 32)) (k' := .u8) (M := 256) rfl (by kernel_rfl) (by kernel_rfl) rfl (by decide)) ?_
        refine l_e rfl (fun K hK => ?_)
        refine e_buildSlice1 (e := 5) (zv := .int .u8 0) (xs := [.tmp 56]) hS122 (by kernel_rfl) (by kernel_rfl) (by kernel_rfl) rfl rfl rfl rfl (allone (by repeat' (first | exact trivial | refine ⟨by first | rfl | assumption, ?_⟩))) rfl (fun b127 w127 (hS127 : St _ _ [.blk b127 (.cells #[.int .u8 (((((((toU x16.2.1) + 9223372036854775808) % 18446744073709551616) / 2 ^ 32) % 256) : Nat) : Int)] 5), _, _, _, _, _, _] _) => ?_)
        clear hS122
        have hB127 : Bytes [(((((toU x16.2.1) + 9223372036854775808) % 18446744073709551616) / 2 ^ 32) % 256)] := by intro q hq; simp only [List.mem_cons, List.not_mem_nil, or_false] at hq; omega
        have hS127o : St _ _ [.ow 5 1 (some ⟨b127, 0, none⟩) 1 1 (bv [(((((toU x16.2.1) + 9223372036854775808) % 18446744073709551616) / 2 ^ 32) % 256)]), _, _, _, _, _, _] _ := hS127.blkOw' (i := 0) (m := 1) (size := 1) (xs := bv [(((((toU x16.2.1) + 9223372036854775808) % 18446744073709551616) / 2 ^ 32) % 256)]) rfl rfl rfl (by decide); clear hS127
        refine hK _ _ ?_; clear hK K
        refine l_e rfl (fun K hK => ?_)
        have hB128 : Bytes ((((((enc (L.take i)) ++ [(x16.1.toNat % 256)]) ++ [(((((toU x16.2.1) + 9223372036854775808) % 18446744073709551616) / 2 ^ 56) % 256)]) ++ [(((((toU x16.2.1) + 9223372036854775808) % 18446744073709551616) / 2 ^ 48) % 256)]) ++ [(((((toU x16.2.1) + 9223372036854775808) % 18446744073709551616) / 2 ^ 40) % 256)]) ++ [(((((toU x16.2.1) + 9223372036854775808) % 18446744073709551616) / 2 ^ 32) % 256)]) := Bytes.app hB122 hB127
        refine e_app (e := 5) (size := 1) (bytes := 1) (i := 6) (m' := ((((((enc (L.take i)) ++ [(x16.1.toNat % 256)]) ++ [(((((toU x16.2.1) + 9223372036854775808) % 18446744073709551616) / 2 ^ 56) % 256)]) ++ [(((((toU x16.2.1) + 9223372036854775808) % 18446744073709551616) / 2 ^ 48) % 256)]) ++ [(((((toU x16.2.1) + 9223372036854775808) % 18446744073709551616) / 2 ^ 40) % 256)]) ++ [(((((toU x16.2.1) + 9223372036854775808) % 18446744073709551616) / 2 ^ 32) % 256)]).length) (by kernel_rfl) hS127o rfl rfl rfl (SlG.src (e := 5) (by kernel_rfl) (hS127o.owG (i := 0) rfl) (by first | (simp only [lls, Nat.mul_one]; done) | (simp only [lls]; omega) | rfl | (simp; done)) (by decide) (bv_one _)) (by first | omega | (simp only [lls] <;> omega) | (simp; done)) bv_app (by first | omega | (simp only [maxLen, lls] <;> omega) | (simp only [maxLen]; omega)) (by first | omega | (simp only [lls] <;> omega)) (fun ad128 cp128 w128 (hS128 : St _ _ [_, _, _, _, _, _, .ow 5 1 ad128 (((((((enc (L.take i)) ++ [(x16.1.toNat % 256)]) ++ [(((((toU x16.2.1) + 9223372036854775808) % 18446744073709551616) / 2 ^ 56) % 256)]) ++ [(((((toU x16.2.1) + 9223372036854775808) % 18446744073709551616) / 2 ^ 48) % 256)]) ++ [(((((toU x16.2.1) + 9223372036854775808) % 18446744073709551616) / 2 ^ 40) % 256)]) ++ [(((((toU x16.2.1) + 9223372036854775808) % 18446744073709551616) / 2 ^ 32) % 256)]).length) cp128 (bv ((((((enc (L.take i)) ++ [(x16.1.toNat % 256)]) ++ [(((((toU x16.2.1) + 9223372036854775808) % 18446744073709551616) / 2 ^ 56) % 256)]) ++ [(((((toU x16.2.1) + 9223372036854775808) % 18446744073709551616) / 2 ^ 48) % 256)]) ++ [(((((toU x16.2.1) + 9223372036854775808) % 18446744073709551616) / 2 ^ 40) % 256)]) ++ [(((((toU x16.2.1) + 9223372036854775808) % 18446744073709551616) / 2 ^ 32) % 256)]))] _) => ?_)
        clear hS127o
        refine hK _ _ ?_; clear hK K
        refine l_q rfl rfl (q_assignS rfl) ?_
        refine l_nil ?_
        refine hK126 _ _ ?_
        refine wp_region_lit ?_
        refine l_q rfl rfl (q_moveI rfl) ?_
        refine l_q rfl rfl (q_subx rfl rfl (by first | decide | omega) (by first | decide | omega)) ?_
        refine l_q rfl rfl (q_assignI rfl) ?_
        refine l_nil ?_
        refine c_round ?_
        refine wp_seq_k (fun K129 hK129 => ?_)
        refine wp_seq_k (fun K130 hK130 => ?_)
        refine wp_region_lit ?_
        refine l_q rfl rfl (q_moveI rfl) ?_
        refine l_q rfl rfl (q_geq rfl rfl) ?_
        refine l_nil ?_
        refine hK130 _ _ ?_
        refine c_condT rfl (by decide) ?_
        refine wp_skip ?_
        refine hK129 _ _ ?_
        refine wp_seq_k (fun K132 hK132 => ?_)
        refine wp_block ?_
        refine wp_region_lit ?_
        refine l_q rfl rfl (q_moveS rfl) ?_
        refine l_q rfl rfl (q_fieldAddr (ft := 2) (o := 1) rfl (by kernel_rfl)) ?_
        refine l_q rfl rfl (q_load1 rfl (by kernel_rfl) (hS128.cell (i := 5) rfl rfl)) ?_
        refine l_q rfl rfl (q_convU (z := x16.2.1) rfl (by kernel_rfl) rfl) ?_
        refine l_q rfl rfl (u_add (a := (toU x16.2.1)) (b := 9223372036854775808) (M := 18446744073709551616) rfl rfl rfl (by decide)) ?_
        refine l_q rfl rfl (q_moveI rfl) ?_
        refine l_q rfl rfl (q_mulx rfl rfl (by first | decide | omega) (by first | decide | omega)) ?_
        refine l_q rfl rfl (q_shrN (k := .u64) (a := (((toU x16.2.1) + 9223372036854775808) % 18446744073709551616)) (b := 24) rfl rfl (by decide)) ?_
        refine l_q rfl rfl (u_conv (a := ((((toU x16.2.1) + 9223372036854775808) % 18446744073709551616) / 2 ^ 24)) (k' := .u8) (M := 256) rfl (by kernel_rfl) (by kernel_rfl) rfl (by decide)) ?_
        refine l_e rfl (fun K hK => ?_)
        refine e_buildSlice1 (e := 5) (zv := .int .u8 0) (xs := [.tmp 56]) hS128 (by kernel_rfl) (by kernel_rfl) (by kernel_rfl) rfl rfl rfl rfl (allone (by repeat' (first | exact trivial | refine ⟨by first | rfl | assumption, ?_⟩))) rfl (fun b133 w133 (hS133 : St _ _ [.blk b133 (.cells #[.int .u8 (((((((toU x16.2.1) + 9223372036854775808) % 18446744073709551616) / 2 ^ 24) % 256) : Nat) : Int)] 5), _, _, _, _, _, _, _] _) => ?_)
        clear hS128
        have hB133 : Bytes [(((((toU x16.2.1) + 9223372036854775808) % 18446744073709551616) / 2 ^ 24) % 256)] := by intro q hq; simp only [List.mem_cons, List.not_mem_nil, or_false] at hq; omega
        have hS133o : St _ _ [.ow 5 1 (some ⟨b133, 0, none⟩) 1 1 (bv [(((((toU x16.2.1) + 9223372036854775808) % 18446744073709551616) / 2 ^ 24) % 256)]), _, _, _, _, _, _, _] _ := hS133.blkOw' (i := 0) (m := 1) (size := 1) (xs := bv [(((((toU x16.2.1) + 9223372036854775808) % 18446744073709551616) / 2 ^ 24) % 256)]) rfl rfl rfl (by decide); clear hS133
        refine hK _ _ ?_; clear hK K
        refine l_e rfl (fun K hK => ?_)
        have hB134 : Bytes (((((((enc (L.take i)) ++ [(x16.1.toNat % 256)]) ++ [(((((toU x16.2.1) + 9223372036854775808) % 18446744073709551616) / 2 ^ 56) % 256)]) ++ [(((((toU x16.2.1) + 9223372036854775808) % 18446744073709551616) / 2 ^ 48) % 256)]) ++ [(((((toU x16.2.1) + 9223372036854775808) % 18446744073709551616) / 2 ^ 40) % 256)]) ++ [(((((toU x16.2.1) + 9223372036854775808) % 18446744073709551616) / 2 ^ 32) % 256)]) ++ [(((((toU x16.2.1) + 9223372036854775808) % 18446744073709551616) / 2 ^ 24) % 256)]) := Bytes.app hB128 hB133
        refine e_app (e := 5) (size := 1) (bytes := 1) (i := 7) (m' := (((((((enc (L.take i)) ++ [(x16.1.toNat % 256)]) ++ [(((((toU x16.2.1) + 9223372036854775808) % 18446744073709551616) / 2 ^ 56) % 256)]) ++ [(((((toU x16.2.1) + 9223372036854775808) % 18446744073709551616) / 2 ^ 48) % 256)]) ++ [(((((toU x16.2.1) + 9223372036854775808) % 18446744073709551616) / 2 ^ 40) % 256)]) ++ [(((((toU x16.2.1) + 9223372036854775808) % 18446744073709551616) / 2 ^ 32) % 256)]) ++ [(((((toU x16.2.1) + 9223372036854775808) % 18446744073709551616) / 2 ^ 24) % 256)]).length) (by kernel_rfl) hS133o rfl rfl rfl (SlG.src (e := 5) (by kernel_rfl) (hS133o.owG (i := 0) rfl) (by first | (simp only [lls, Nat.mul_one]; done) | (simp only [lls]; omega) | rfl | (simp; done)) (by decide) (bv_one _)) (by first | omega | (simp only [lls] <;> omega) | (simp; done)) bv_app (by first | omega | (simp only [maxLen, lls] <;> omega) | (simp only [maxLen]; omega)) (by first | omega | (simp only [lls] <;> omega)) (fun ad134 cp134 w134 (hS134 : St _ _ [_, _, _, _, _, _, _, .ow 5 1 ad134 ((((((((enc (L.take i)) ++ [(x16.1.toNat % 256)]) ++ [(((((toU x16.2.1) + 9223372036854775808) % 18446744073709551616) / 2 ^ 56) % 256)]) ++ [(((((toU x16.2.1) + 9223372036854775808) % 18446744073709551616) / 2 ^ 48) % 256)]) ++ [(((((toU x16.2.1) + 9223372036854775808) % 18446744073709551616) / 2 ^ 40) % 256)]) ++ [(((((toU x16.2.1) + 9223372036854775808) % 18446744073709551616) / 2 ^ 32) % 256)]) ++ [(((((toU x16.2.1) + 9223372036854775808) % 18446744073709551616) / 2 ^ 24) % 256)]).length) cp134 (bv (((((((enc (L.take i)) ++ [(x16.1.toNat % 256)]) ++ [(((((toU x16.2.1) + 9223372036854775808) % 18446744073709551616) / 2 ^ 56) % 256)]) ++ [(((((toU x16.2.1) + 9223372036854775808) % 18446744073709551616) / 2 ^ 48) % 256)]) ++ [(((((toU x16.2.1) + 9223372036854775808) % 18446744073709551616) / 2 ^ 40) % 256)]) ++ [(((((toU x16.2.1) + 9223372036854775808) % 18446744073709551616) / 2 ^ 32) % 256)]) ++ [(((((toU x16.2.1) + 9223372036854775808) % 18446744073709551616) / 2 ^ 24) % 256)]))] _) => ?_)
        clear hS133o
        refine hK _ _ ?_; clear hK K
        refine l_q rfl rfl (q_assignS rfl) ?_
        refine l_nil ?_
        refine hK132 _ _ ?_
        refine wp_region_lit ?_
        refine l_q rfl rfl (q_moveI rfl) ?_
        refine l_q rfl rfl (q_subx rfl rfl (by first | decide | omega) (by first | decide | omega)) ?_
        refine l_q rfl rfl (q_assignI rfl) ?_
        refine l_nil ?_
        refine c_round ?_
        refine wp_seq_k (fun K135 hK135 => ?_)
        refine wp_seq_k (fun K136 hK136 => ?_)
        refine wp_region_lit ?_
        refine l_q rfl rfl (q_moveI rfl) ?_
        refine l_q rfl rfl (q_geq rfl rfl) ?_
        refine l_nil ?_
        refine hK136 _ _ ?_
        refine c_condT rfl (by decide) ?_
        refine wp_skip ?_
        refine hK135 _ _ ?_
        refine wp_seq_k (fun K138 hK138 => ?_)
        refine wp_block ?_
        refine wp_region_lit ?_
        refine l_q rfl rfl (q_moveS rfl) ?_
        refine l_q rfl rfl (q_fieldAddr (ft := 2) (o := 1) rfl (by kernel_rfl)) ?_
        refine l_q rfl rfl (q_load1 rfl (by kernel_rfl) (hS134.cell (i := 6) rfl rfl)) ?_
        refine l_q rfl rfl (q_convU (z := x16.2.1) rfl (by kernel_rfl) rfl) ?_
        refine l_q rfl rfl (u_add (a := (toU x16.2.1)) (b := 9223372036854775808) (M := 18446744073709551616) rfl rfl rfl (by decide)) ?_
        refine l_q rfl rfl (q_moveI rfl) ?_
        refine l_q rfl rfl (q_mulx rfl rfl (by first | decide | omega) (by first | decide | omega)) ?_
        refine l_q rfl rfl (q_shrN (k := .u64) (a := (((toU x16.2.1) + 9223372036854775808) % 18446744073709551616)) (b := 16) rfl rfl (by decide)) ?_
        refine l_q rfl rfl (u_conv (a := ((((toU x16.2.1) + 9223372036854775808) % 18446744073709551616) / 2 ^ 16)) (k' := .u8) (M := 256) rfl (by kernel_rfl) (by kernel_rfl) rfl (by decide)) ?_
        refine l_e rfl (fun K hK => ?_)
        refine e_buildSlice1 (e := 5) (zv := .int .u8 0) (xs := [.tmp 56]) hS134 (by kernel_rfl) (by kernel_rfl) (by kernel_rfl) rfl rfl rfl rfl (allone (by repeat' (first | exact trivial | refine ⟨by first | rfl | assumption, ?_⟩))) rfl (fun b139 w139 (hS139 : St _ _ [.blk b139 (.cells #[.int .u8 (((((((toU x16.2.1) + 9223372036854775808) % 18446744073709551616) / 2 ^ 16) % 256) : Nat) : Int)] 5), _, _, _, _, _, _, _, _] _) => ?_)
        clear hS134
        have hB139 : Bytes [(((((toU x16.2.1) + 9223372036854775808) % 18446744073709551616) / 2 ^ 16) % 256)] := by intro q hq; simp only [List.mem_cons, List.not_mem_nil, or_false] at hq; omega
        have hS139o : St _ _ [.ow 5 1 (some ⟨b139, 0, none⟩) 1 1 (bv [(((((toU x16.2.1) + 9223372036854775808) % 18446744073709551616) / 2 ^ 16) % 256)]), _, _, _, _, _, _, _, _] _ := hS139.blkOw' (i := 0) (m := 1) (size := 1) (xs := bv [(((((toU x16.2.1) + 9223372036854775808) % 18446744073709551616) / 2 ^ 16) % 256)]) rfl rfl rfl (by decide); clear hS139
        refine hK _ _ ?_; clear hK K
        refine l_e rfl (fun K hK => ?_)
        have hB140 : Bytes ((((((((enc (L.take i)) ++ [(x16.1.toNat % 256)]) ++ [(((((toU x16.2.1) + 9223372036854775808) % 18446744073709551616) / 2 ^ 56) % 256)]) ++ [(((((toU x16.2.1) + 9223372036854775808) % 18446744073709551616) / 2 ^ 48) % 256)]) ++ [(((((toU x16.2.1) + 9223372036854775808) % 18446744073709551616) / 2 ^ 40) % 256)]) ++ [(((((toU x16.2.1) + 9223372036854775808) % 18446744073709551616) / 2 ^ 32) % 256)]) ++ [(((((toU x16.2.1) + 9223372036854775808) % 18446744073709551616) / 2 ^ 24) % 256)]) ++ [(((((toU x16.2.1) + 9223372036854775808) % 18446744073709551616) / 2 ^ 16) % 256)]) := Bytes.app hB134 hB139
        refine e_app (e := 5) (size := 1) (bytes := 1) (i := 8) (m' := ((((((((enc (L.take i)) ++ [(x16.1.toNat % 256)]) ++ [(((((toU x16.2.1) + 9223372036854775808) % 18446744073709551616) / 2 ^ 56) % 256)]) ++ [(((((toU x16.2.1) + 9223372036854775808) % 18446744073709551616) / 2 ^ 48) % 256)]) ++ [(((((toU x16.2.1) + 9223372036854775808) % 18446744073709551616) / 2 ^ 40) % 256)]) ++ [(((((toU x16.2.1) + 9223372036854775808) % 18446744073709551616) / 2 ^ 32) % 256)]) ++ [(((((toU x16.2.1) + 9223372036854775808) % 18446744073709551616) / 2 ^ 24) % 256)]) ++ [(((((toU x16.2.1) + 9223372036854775808) % 18446744073709551616) / 2 ^ 16) % 256)]).length) (by kernel_rfl) hS139o rfl rfl rfl (SlG.src (e := 5) (by kernel_rfl) (hS139o.owG (i := 0) rfl) (by first | (simp only [lls, Nat.mul_one]; done) | (simp only [lls]; omega) | rfl | (simp; done)) (by decide) (bv_one _)) (by first | omega | (simp only [lls] <;> omega) | (simp; done)) bv_app (by first | omega | (simp only [maxLen, lls] <;> omega) | (simp only [maxLen]; omega)) (by first | omega | (simp only [lls] <;> omega)) (fun ad140 cp140 w140 (hS140 : St _ _ [_, _, _, _, _, _, _, _, .ow 5 1 ad140 (((((((((enc (L.take i)) ++ [(x16.1.toNat % 256)]) ++ [(((((toU x16.2.1) + 9223372036854775808) % 18446744073709551616) / 2 ^ 56) % 256)]) ++ [(((((toU x16.2.1) + 9223372036854775808) % 18446744073709551616) / 2 ^ 48) % 256)]) ++ [(((((toU x16.2.1) + 9223372036854775808) % 18446744073709551616) / 2 ^ 40) % 256)]) ++ [(((((toU x16.2.1) + 9223372036854775808) % 18446744073709551616) / 2 ^ 32) % 256)]) ++ [(((((toU x16.2.1) + 9223372036854775808) % 18446744073709551616) / 2 ^ 24) % 256)]) ++ [(((((toU x16.2.1) + 9223372036854775808) % 18446744073709551616) / 2 ^ 16) % 256)]).length) cp140 (bv ((((((((enc (L.take i)) ++ [(x16.1.toNat % 256)]) ++ [(((((toU x16.2.1) + 9223372036854775808) % 18446744073709551616) / 2 ^ 56) % 256)]) ++ [(((((toU x16.2.1) + 9223372036854775808) % 18446744073709551616) / 2 ^ 48) % 256)]) ++ [(((((toU x16.2.1) + 9223372036854775808) % 18446744073709551616) / 2 ^ 40) % 256)]) ++ [(((((toU x16.2.1) + 9223372036854775808) % 18446744073709551616) / 2 ^ 32) % 256)]) ++ [(((((toU x16.2.1) + 9223372036854775808) % 18446744073709551616) / 2 ^ 24) % 256)]) ++ [(((((toU x16.2.1) + 9223372036854775808) % 18446744073709551616) / 2 ^ 16) % 256)]))] _) => ?_)
        clear hS139o
        refine hK _ _ ?_; clear hK K
        refine l_q rfl rfl (q_assignS rfl) ?_
        refine l_nil ?_
        refine hK138 _ _ ?_
        refine wp_region_lit ?_
        refine l_q rfl rfl (q_moveI rfl) ?_
        refine l_q rfl rfl (q_subx rfl rfl (by first | decide | omega) (by first | decide | omega)) ?_
        refine l_q rfl rfl (q_assignI rfl) ?_
        refine l_nil ?_
        refine c_round ?_
        refine wp_seq_k (fun K141 hK141 => ?_)
        refine wp_seq_k (fun K142 hK142 => ?_)
        refine wp_region_lit ?_
        refine l_q rfl rfl (q_moveI rfl) ?_
        refine l_q rfl rfl (q_geq rfl rfl) ?_
        refine l_nil ?_
        refine hK142 _ _ ?_
        refine c_condT rfl (by decide) ?_
        refine wp_skip ?_
        refine hK141 _ _ ?_
        refine wp_seq_k (fun K144 hK144 => ?_)
        refine wp_block ?_
        refine wp_region_lit ?_
        refine l_q rfl rfl (q_moveS rfl) ?_
        refine l_q rfl rfl (q_fieldAddr (ft := 2) (o := 1) rfl (by kernel_rfl)) ?_
        refine l_q rfl rfl (q_load1 rfl (by kernel_rfl) (hS140.cell (i := 7) rfl rfl)) ?_
        refine l_q rfl rfl (q_convU (z := x16.2.1) rfl (by kernel_rfl) rfl) ?_
        refine l_q rfl rfl (u_add (a := (toU x16.2.1)) (b := 9223372036854775808) (M := 18446744073709551616) rfl rfl rfl (by decide)) ?_
        refine l_q rfl rfl (q_moveI rfl) ?_
        refine l_q rfl rfl (q_mulx rfl rfl (by first | decide | omega) (by first | decide | omega)) ?_
        refine l_q rfl rfl (q_shrN (k := .u64) (a := (((toU x16.2.1) + 9223372036854775808) % 18446744073709551616)) (b := 8) rfl rfl (by decide)) ?_
        refine l_q rfl rfl (u_conv (a := ((((toU x16.2.1) + 9223372036854775808) % 18446744073709551616) / 2 ^ 8)) (k' := .u8) (M := 256) rfl (by kernel_rfl) (by kernel_rfl) rfl (by decide)) ?_
        refine l_e rfl (fun K hK => ?_)
        refine e_buildSlice1 (e := 5) (zv := .int .u8 0) (xs := [.tmp 56]) hS140 (by kernel_rfl) (by kernel_rfl) (by kernel_rfl) rfl rfl rfl rfl (allone (by repeat' (first | exact trivial | refine ⟨by first | rfl | assumption, ?_⟩))) rfl (fun b145 w145 (hS145 : St _ _ [.blk b145 (.cells #[.int .u8 (((((((toU x16.2.1) + 9223372036854775808) % 18446744073709551616) / 2 ^ 8) % 256) : Nat) : Int)] 5), _, _, _, _, _, _, _, _, _] _) => ?_)
        clear hS140
        have hB145 : Bytes [(((((toU x16.2.1) + 9223372036854775808) % 18446744073709551616) / 2 ^ 8) % 256)] := by intro q hq; simp only [List.mem_cons, List.not_mem_nil, or_false] at hq; omega
        have hS145o : St _ _ [.ow 5 1 (some ⟨b145, 0, none⟩) 1 1 (bv [(((((toU x16.2.1) + 9223372036854775808) % 18446744073709551616) / 2 ^ 8) % 256)]), _, _, _, _, _, _, _, _, _] _ := hS145.blkOw' (i := 0) (m := 1) (size := 1) (xs := bv [(((((toU x16.2.1) + 9223372036854775808) % 18446744073709551616) / 2 ^ 8) % 256)]) rfl rfl rfl (by decide); clear hS145
        refine hK _ _ ?_; clear hK K
        refine l_e rfl (fun K hK => ?_)
        have hB146 : Bytes (((((((((enc (L.take i)) ++ [(x16.1.toNat % 256)]) ++ [(((((toU x16.2.1) + 9223372036854775808) % 18446744073709551616) / 2 ^ 56) % 256)]) ++ [(((((toU x16.2.1) + 9223372036854775808) % 18446744073709551616) / 2 ^ 48) % 256)]) ++ [(((((toU x16.2.1) + 9223372036854775808) % 18446744073709551616) / 2 ^ 40) % 256)]) ++ [(((((toU x16.2.1) + 9223372036854775808) % 18446744073709551616) / 2 ^ 32) % 256)]) ++ [(((((toU x16.2.1) + 9223372036854775808) % 18446744073709551616) / 2 ^ 24) % 256)]) ++ [(((((toU x16.2.1) + 9223372036854775808) % 18446744073709551616) / 2 ^ 16) % 256)]) ++ [(((((toU x16.2.1) + 9223372036854775808) % 18446744073709551616) / 2 ^ 8) % 256)]) := Bytes.app hB140 hB145
        refine e_app (e := 5) (size := 1) (bytes := 1) (i := 9) (m' := (((((((((enc (L.take i)) ++ [(x16.1.toNat % 256)]) ++ [(((((toU x16.2.1) + 9223372036854775808) % 18446744073709551616) / 2 ^ 56) % 256)]) ++ [(((((toU x16.2.1) + 9223372036854775808) % 18446744073709551616) / 2 ^ 48) % 256)]) ++ [(((((toU x16.2.1) + 9223372036854775808) % 18446744073709551616) / 2 ^ 40) % 256)]) ++ [(((((toU x16.2.1) + 9223372036854775808) % 18446744073709551616) / 2 ^ 32) % 256)]) ++ [(((((toU x16.2.1) + 9223372036854775808) % 18446744073709551616) / 2 ^ 24) % 256)]) ++ [(((((toU x16.2.1) + 9223372036854775808) % 18446744073709551616) / 2 ^ 16) % 256)]) ++ [(((((toU x16.2.1) + 9223372036854775808) % 18446744073709551616) / 2 ^ 8) % 256)]).length) (by kernel_rfl) hS145o rfl rfl rfl (SlG.src (e := 5) (by kernel_rfl) (hS145o.owG (i := 0) rfl) (by first | (simp only [lls, Nat.mul_one]; done) | (simp only [lls]; omega) | rfl | (simp; done)) (by decide) (bv_one _)) (by first | omega | (simp only [lls] <;> omega) | (simp; done)) bv_app (by first | omega | (simp only [maxLen, lls] <;> omega) | (simp only [maxLen]; omega)) (by first | omega | (simp only [lls] <;> omega)) (fun ad146 cp146 w146 (hS146 : St _ _ [_, _, _, _, _, _, _, _, _, .ow 5 1 ad146 ((((((((((enc (L.take i)) ++ [(x16.1.toNat % 256)]) ++ [(((((toU x16.2.1) + 9223372036854775808) % 18446744073709551616) / 2 ^ 56) % 256)]) ++ [(((((toU x16.2.1) + 9223372036854775808) % 18446744073709551616) / 2 ^ 48) % 256)]) ++ [(((((toU x16.2.1) + 9223372036854775808) % 18446744073709551616) / 2 ^ 40) % 256)]) ++ [(((((toU x16.2.1) + 9223372036854775808) % 18446744073709551616) / 2 ^ 32) % 256)]) ++ [(((((toU x16.2.1) + 9223372036854775808) % 18446744073709551616) / 2 ^ 24) % 256)]) ++ [(((((toU x16.2.1) + 9223372036854775808) % 18446744073709551616) / 2 ^ 16) % 256)]) ++ [(((((toU x16.2.1) + 9223372036854775808) % 18446744073709551616) / 2 ^ 8) % 256)]).length) cp146 (bv (((((((((enc (L.take i)) ++ [(x16.1.toNat % 256)]) ++ [(((((toU x16.2.1) + 9223372036854775808) % 18446744073709551616) / 2 ^ 56) % 256)]) ++ [(((((toU x16.2.1) + 9223372036854775808) % 18446744073709551616) / 2 ^ 48) % 256)]) ++ [(((((toU x16.2.1) + 9223372036854775808) % 18446744073709551616) / 2 ^ 40) % 256)]) ++ [(((((toU x16.2.1) + 9223372036854775808) % 18446744073709551616) / 2 ^ 32) % 256)]) ++ [(((((toU x16.2.1) + 9223372036854775808) % 18446744073709551616) / 2 ^ 24) % 256)]) ++ [(((((toU x16.2.1) + 9223372036854775808) % 18446744073709551616) / 2 ^ 16) % 256)]) ++ [(((((toU x16.2.1) + 9223372036854775808) % 18446744073709551616) / 2 ^ 8) % 256)]))] _) => ?_)
        clear hS145o
        refine hK _ _ ?_; clear hK K
        refine l_q rfl rfl (q_assignS rfl) ?_
        refine l_nil ?_
        refine hK144 _ _ ?_
        refine wp_region_lit ?_
        refine l_q rfl rfl (q_moveI rfl) ?_
        refine l_q rfl rfl (q_subx rfl rfl (by first | decide | omega) (by first | decide | omega)) ?_
        refine l_q rfl rfl (q_assignI rfl) ?_
        refine l_nil ?_
        refine c_round ?_
        refine wp_seq_k (fun K147 hK147 => ?_)
        refine wp_seq_k (fun K148 hK148 => ?_)
        refine wp_region_lit ?_
        refine l_q rfl rfl (q_moveI rfl) ?_
        refine l_q rfl rfl (q_geq rfl rfl) ?_
        refine l_nil ?_
        refine hK148 _ _ ?_
        refine c_condT rfl (by decide) ?_
        refine wp_skip ?_
        refine hK147 _ _ ?_
        refine wp_seq_k (fun K150 hK150 => ?_)
        refine wp_block ?_
        refine wp_region_lit ?_
        refine l_q rfl rfl (q_moveS rfl) ?_
        refine l_q rfl rfl (q_fieldAddr (ft := 2) (o := 1) rfl (by kernel_rfl)) ?_
        refine l_q rfl rfl (q_load1 rfl (by kernel_rfl) (hS146.cell (i := 8) rfl rfl)) ?_
        refine l_q rfl rfl (q_convU (z := x16.2.1) rfl (by kernel_rfl) rfl) ?_
        refine l_q rfl rfl (u_add (a := (toU x16.2.1)) (b := 9223372036854775808) (M := 18446744073709551616) rfl rfl rfl (by decide)) ?_
        refine l_q rfl rfl (q_moveI rfl) ?_
        refine l_q rfl rfl (q_mulx rfl rfl (by first | decide | omega) (by first | decide | omega)) ?_
        refine l_q rfl rfl (q_shrN (k := .u64) (a := (((toU x16.2.1) + 9223372036854775808) % 18446744073709551616)) (b := 0) rfl rfl (by decide)) ?_
        refine l_q rfl rfl (u_conv (a := ((((toU x16.2.1) + 9223372036854775808) % 18446744073709551616) / 2 ^ 0)) (k' := .u8) (M := 256) rfl (by kernel_rfl) (by kernel_rfl) rfl (by decide)) ?_
        refine l_e rfl (fun K hK => ?_)
        refine e_buildSlice1 (e := 5) (zv := .int .u8 0) (xs := [.tmp 56]) hS146 (by kernel_rfl) (by kernel_rfl) (by kernel_rfl) rfl rfl rfl rfl (allone (by repeat' (first | exact trivial | refine ⟨by first | rfl | assumption, ?_⟩))) rfl (fun b151 w151 (hS151 : St _ _ [.blk b151 (.cells #[.int .u8 (((((((toU x16.2.1) + 9223372036854775808) % 18446744073709551616) / 2 ^ 0) % 256) : Nat) : Int)] 5), _, _, _, _, _, _, _, _, _, _] _) => ?_)
        clear hS146
        have hB151 : Bytes [(((((toU x16.2.1) + 9223372036854775808) % 18446744073709551616) / 2 ^ 0) % 256)] := by intro q hq; simp only [List.mem_cons, List.not_mem_nil, or_false] at hq; omega
        have hS151o : St _ _ [.ow 5 1 (some ⟨b151, 0, none⟩) 1 1 (bv [(((((toU x16.2.1) + 9223372036854775808) % 18446744073709551616) / 2 ^ 0) % 256)]), _, _, _, _, _, _, _, _, _, _] _ := hS151.blkOw' (i := 0) (m := 1) (size := 1) (xs := bv [(((((toU x16.2.1) + 9223372036854775808) % 18446744073709551616) / 2 ^ 0) % 256)]) rfl rfl rfl (by decide); clear hS151
        refine hK _ _ ?_; clear hK K
        refine l_e rfl (fun K hK => ?_)
        have hB152 : Bytes ((((((((((enc (L.take i)) ++ [(x16.1.toNat % 256)]) ++ [(((((toU x16.2.1) + 9223372036854775808) % 18446744073709551616) / 2 ^ 56) % 256)]) ++ [(((((toU x16.2.1) + 9223372036854775808) % 18446744073709551616) / 2 ^ 48) % 256)]) ++ [(((((toU x16.2.1) + 9223372036854775808) % 18446744073709551616) / 2 ^ 40) % 256)]) ++ [(((((toU x16.2.1) + 9223372036854775808) % 18446744073709551616) / 2 ^ 32) % 256)]) ++ [(((((toU x16.2.1) + 9223372036854775808) % 18446744073709551616) / 2 ^ 24) % 256)]) ++ [(((((toU x16.2.1) + 9223372036854775808) % 18446744073709551616) / 2 ^ 16) % 256)]) ++ [(((((toU x16.2.1) + 9223372036854775808) % 18446744073709551616) / 2 ^ 8) % 256)]) ++ [(((((toU x16.2.1) + 9223372036854775808) % 18446744073709551616) / 2 ^ 0) % 256)]) := Bytes.app hB146 hB151
        refine e_app (e := 5) (size := 1) (bytes := 1) (i := 10) (m' := ((((((((((enc (L.take i)) ++ [(x16.1.toNat % 256)]) ++ [(((((toU x16.2.1) + 9223372036854775808) % 18446744073709551616) / 2 ^ 56) % 256)]) ++ [(((((toU x16.2.1) + 9223372036854775808) % 18446744073709551616) / 2 ^ 48) % 256)]) ++ [(((((toU x16.2.1) + 9223372036854775808) % 18446744073709551616) / 2 ^ 40) % 256)]) ++ [(((((toU x16.2.1) + 9223372036854775808) % 18446744073709551616) / 2 ^ 32) % 256)]) ++ [(((((toU x16.2.1) + 9223372036854775808) % 18446744073709551616) / 2 ^ 24) % 256)]) ++ [(((((toU x16.2.1) + 9223372036854775808) % 18446744073709551616) / 2 ^ 16) % 256)]) ++ [(((((toU x16.2.1) + 9223372036854775808) % 18446744073709551616) / 2 ^ 8) % 256)]) ++ [(((((toU x16.2.1) + 9223372036854775808) % 18446744073709551616) / 2 ^ 0) % 256)]).length) (by kernel_rfl) hS151o rfl rfl rfl (SlG.src (e := 5) (by kernel_rfl) (hS151o.owG (i := 0) rfl) (by first | (simp only [lls, Nat.mul_one]; done) | (simp only [lls]; omega) | rfl | (simp; done)) (by decide) (bv_one _)) (by first | omega | (simp only [lls] <;> omega) | (simp; done)) bv_app (by first | omega | (simp only [maxLen, lls] <;> omega) | (simp only [maxLen]; omega)) (by first | omega | (simp only [lls] <;> omega)) (fun ad152 cp152 w152 (hS152 : St _ _ [_, _, _, _, _, _, _, _, _, _, .ow 5 1 ad152 (((((((((((enc (L.take i)) ++ [(x16.1.toNat % 256)]) ++ [(((((toU x16.2.1) + 9223372036854775808) % 18446744073709551616) / 2 ^ 56) % 256)]) ++ [(((((toU x16.2.1) + 9223372036854775808) % 18446744073709551616) / 2 ^ 48) % 256)]) ++ [(((((toU x16.2.1) + 9223372036854775808) % 18446744073709551616) / 2 ^ 40) % 256)]) ++ [(((((toU x16.2.1) + 9223372036854775808) % 18446744073709551616) / 2 ^ 32) % 256)]) ++ [(((((toU x16.2.1) + 9223372036854775808) % 18446744073709551616) / 2 ^ 24) % 256)]) ++ [(((((toU x16.2.1) + 9223372036854775808) % 18446744073709551616) / 2 ^ 16) % 256)]) ++ [(((((toU x16.2.1) + 9223372036854775808) % 18446744073709551616) / 2 ^ 8) % 256)]) ++ [(((((toU x16.2.1) + 9223372036854775808) % 18446744073709551616) / 2 ^ 0) % 256)]).length) cp152 (bv ((((((((((enc (L.take i)) ++ [(x16.1.toNat % 256)]) ++ [(((((toU x16.2.1) + 9223372036854775808) % 18446744073709551616) / 2 ^ 56) % 256)]) ++ [(((((toU x16.2.1) + 9223372036854775808) % 18446744073709551616) / 2 ^ 48) % 256)]) ++ [(((((toU x16.2.1) + 9223372036854775808) % 18446744073709551616) / 2 ^ 40) % 256)]) ++ [(((((toU x16.2.1) + 9223372036854775808) % 18446744073709551616) / 2 ^ 32) % 256)]) ++ [(((((toU x16.2.1) + 9223372036854775808) % 18446744073709551616) / 2 ^ 24) % 256)]) ++ [(((((toU x16.2.1) + 9223372036854775808) % 18446744073709551616) / 2 ^ 16) % 256)]) ++ [(((((toU x16.2.1) + 9223372036854775808) % 18446744073709551616) / 2 ^ 8) % 256)]) ++ [(((((toU x16.2.1) + 9223372036854775808) % 18446744073709551616) / 2 ^ 0) % 256)]))] _) => ?_)
        clear hS151o
        refine hK _ _ ?_; clear hK K
        refine l_q rfl rfl (q_assignS rfl) ?_
        refine l_nil ?_
        refine hK150 _ _ ?_
        refine wp_region_lit ?_
        refine l_q rfl rfl (q_moveI rfl) ?_
        refine l_q rfl rfl (q_subx rfl rfl (by first | decide | omega) (by first | decide | omega)) ?_
        refine l_q rfl rfl (q_assignI rfl) ?_
        refine l_nil ?_
        refine c_round ?_
        refine wp_seq_k (fun K153 hK153 => ?_)
        refine wp_seq_k (fun K154 hK154 => ?_)
        refine wp_region_lit ?_
        refine l_q rfl rfl (q_moveI rfl) ?_
        refine l_q rfl rfl (q_geq rfl rfl) ?_
        refine l_nil ?_
        refine hK154 _ _ ?_
        refine c_condF rfl (by decide) ?_
        refine wp_exit ?_
        refine hK103 _ _ ?_
        refine wp_exit ?_
        refine hK14 _ _ ?_
        refine wp_region_lit ?_
        refine l_q rfl rfl (q_addx rfl rfl (by first | decide | omega) (by first | decide | omega)) ?_
        refine l_q rfl rfl (q_moveI rfl) ?_
        refine l_nil ?_
        have hnew : (enc (L.take (i + 1))) = ((((((((((enc (L.take i)) ++ [(x16.1.toNat % 256)]) ++ [(((((toU x16.2.1) + 9223372036854775808) % 18446744073709551616) / 2 ^ 56) % 256)]) ++ [(((((toU x16.2.1) + 9223372036854775808) % 18446744073709551616) / 2 ^ 48) % 256)]) ++ [(((((toU x16.2.1) + 9223372036854775808) % 18446744073709551616) / 2 ^ 40) % 256)]) ++ [(((((toU x16.2.1) + 9223372036854775808) % 18446744073709551616) / 2 ^ 32) % 256)]) ++ [(((((toU x16.2.1) + 9223372036854775808) % 18446744073709551616) / 2 ^ 24) % 256)]) ++ [(((((toU x16.2.1) + 9223372036854775808) % 18446744073709551616) / 2 ^ 16) % 256)]) ++ [(((((toU x16.2.1) + 9223372036854775808) % 18446744073709551616) / 2 ^ 8) % 256)]) ++ [(((((toU x16.2.1) + 9223372036854775808) % 18446744073709551616) / 2 ^ 0) % 256)]) := by rw [enc_take hx16, encV, encB2 (.inr (by omega))]; try simp [be8, bia]
        have hS156 : St _ _ [_, _, _, _, _, _, _, _, _, _, .ow 5 1 ad152 ((enc (L.take (i + 1))).length) cp152 (bv (enc (L.take (i + 1))))] _ := hS152.cast (by rw [hnew]); clear hS152
        have har := all_take hall hx16 hr
        have hS157 : St _ _ [_, _, _, _, _, _, _, _, _, _, _] _ := hS156.front (k := 10) rfl rfl; clear hS156
        have hS158 : St _ _ [_] _ := hS157.only 1; clear hS157
        refine hK10 _ _ (came (⟨(i + 1), ad152, cp152⟩) (by repeat' (first | exact Agree.refl _ _ | refine Agree.up ?_ rfl | refine Agree.hav2 ?_ rfl | refine Agree.ups2 ?_ rfl)) (by repeat' (first | exact trivial | refine ⟨by first | rfl | exact int_succ _ | (rw [hnew]; rfl), ?_⟩)) ?_)
        exact ⟨⟨hS158, (by show i + 1 ≤ L.length; omega), har⟩, by (show L.length - (i + 1) < L.length - i); omega⟩
       ·
        have hc102b := hc102
        try simp only [decide_eq_true_eq, decide_eq_false_iff_not, Bool.not_eq_true', Bool.not_eq_false', Bool.and_eq_true, Bool.or_eq_true, Int.not_lt, Int.not_le, ne_eq, Decidable.not_not] at hc102
        refine wp_skip ?_
        refine hK100 _ _ ?_
        refine wp_seq_k (fun K159 hK159 => ?_)
        refine wp_seq_k (fun K160 hK160 => ?_)
        refine wp_region_lit ?_
        refine l_q rfl rfl (q_eql rfl rfl) ?_
        refine l_q rfl rfl (q_assignB rfl) ?_
        refine l_nil ?_
        refine hK160 _ _ ?_
        refine c_cond rfl (fun hc161 => ?_) (fun hc161 => ?_)
        ·
         have hc161b := hc161
         try simp only [decide_eq_true_eq, decide_eq_false_iff_not, Bool.not_eq_true', Bool.not_eq_false', Bool.and_eq_true, Bool.or_eq_true, Int.not_lt, Int.not_le, ne_eq, Decidable.not_not] at hc161
         refine wp_exit ?_
         refine hK28 _ _ ?_
         refine wp_seq_k (fun K162 hK162 => ?_)
         refine wp_seq_k (fun K163 hK163 => ?_)
         refine wp_region_lit ?_
         refine l_q rfl rfl (q_moveS rfl) ?_
         refine l_q rfl rfl (q_fieldAddr (ft := 9) (o := 2) rfl (by kernel_rfl)) ?_
         refine l_q rfl rfl (q_load1 rfl (by kernel_rfl) (hS26.cell (i := 1) rfl rfl)) ?_
         refine l_e rfl (fun K hK => ?_)
         refine e_convSB (e := 5) (l := x16.2.2) hS26 rfl (by kernel_rfl) (by kernel_rfl) (by kernel_rfl) (hL x16 (List.mem_of_getElem? hx16)).1 (by first | omega | (simp only [maxLen, lls] <;> omega) | (simp only [maxLen]; omega)) (fun ad164 cp164 g164 w164 hsb164 hcp164 (hS164 : St _ _ [.fz g164, _, _, _] _) => ?_)
         clear hS26
         refine hK _ _ ?_; clear hK K
         refine l_e rfl (fun K hK => ?_)
         refine e_buildSlice1 (e := 5) (zv := .int .u8 0) (xs := [_]) hS164 (by kernel_rfl) (by kernel_rfl) (by kernel_rfl) rfl rfl rfl rfl (allone (by repeat' (first | exact trivial | refine ⟨by first | rfl | assumption, ?_⟩))) rfl (fun b165 w165 (hS165 : St _ _ [.blk b165 (.cells #[.int .u8 (0 : Int)] 5), .fz g164, _, _, _] _) => ?_)
         clear hS164
         have hB165 : Bytes [0] := by intro q hq; simp only [List.mem_cons, List.not_mem_nil, or_false] at hq; omega
         have hS165o : St _ _ [.ow 5 1 (some ⟨b165, 0, none⟩) 1 1 (bv [0]), .fz g164, _, _, _] _ := hS165.blkOw' (i := 0) (m := 1) (size := 1) (xs := bv [0]) rfl rfl rfl (by decide); clear hS165
         refine hK _ _ ?_; clear hK K
         refine l_e rfl (fun K hK => ?_)
         refine e_buildSlice1 (e := 5) (zv := .int .u8 0) (xs := [_, _]) hS165o (by kernel_rfl) (by kernel_rfl) (by kernel_rfl) rfl rfl rfl rfl (allone (by repeat' (first | exact trivial | refine ⟨by first | rfl | assumption, ?_⟩))) rfl (fun b166 w166 (hS166 : St _ _ [.blk b166 (.cells #[.int .u8 (0 : Int), .int .u8 (255 : Int)] 5), _, .fz g164, _, _, _] _) => ?_)
         clear hS165o
         have hB166 : Bytes [0, 255] := by intro q hq; simp only [List.mem_cons, List.not_mem_nil, or_false] at hq; omega
         have hS166o : St _ _ [.ow 5 1 (some ⟨b166, 0, none⟩) 2 2 (bv [0, 255]), _, .fz g164, _, _, _] _ := hS166.blkOw' (i := 0) (m := 2) (size := 1) (xs := bv [0, 255]) rfl rfl rfl (by decide); clear hS166
         refine hK _ _ ?_; clear hK K
         refine l_e rfl (fun K hK => ?_)
         have hcsc167 : x16.2.2.length ≤ cp164 := by omega
         have hcnt167 := esc_len x16.2.2
         have hcl167 := List.count_le_length (a := 0) (l := x16.2.2)
         refine e_call (by kernel_rfl) (replAll_ok x16.2.2 (hL x16 (List.mem_of_getElem? hx16)).1 x16.2.2.length (by first | omega | (simp only [lls] <;> omega)) (by first | omega | (simp only [lls] <;> omega)) _ _ _ _ _ _ hcsc167 _ (hsb164.mono (hS166o.fz (i := 2) rfl)) (hS166o.owG (i := 1) rfl) (hS166o.owG (i := 0) rfl)) rfl (after_N hS166o (fun v167 G167 w167 hv167 hS167 => ?_))
         clear hS166o
         obtain ⟨ad167, cp167, rfl, rfl⟩ := hv167
         have hS168 : St _ _ [.ow 5 1 ad167 ((esc x16.2.2).length) cp167 (bv (esc x16.2.2)), _, _, .fz g164, _, _, _] _ := hS167; clear hS167
         refine hK _ _ ?_; clear hK K
         refine l_e rfl (fun K hK => ?_)
         have hB169 : Bytes (((enc (L.take i)) ++ [(x16.1.toNat % 256)]) ++ (esc x16.2.2)) := Bytes.app hB26 (esc_bytes (hL x16 (List.mem_of_getElem? hx16)).1)
         refine e_app (e := 5) (size := 1) (bytes := 1) (i := 6) (m' := (((enc (L.take i)) ++ [(x16.1.toNat % 256)]) ++ (esc x16.2.2)).length) (by kernel_rfl) hS168 rfl rfl rfl (SlG.src (e := 5) (by kernel_rfl) (hS168.owG (i := 0) rfl) (by first | (simp only [lls, Nat.mul_one]; done) | (simp only [lls]; omega) | rfl | (simp; done)) (by decide) (bv_one _)) (by first | omega | (simp only [lls] <;> omega) | (simp; done)) bv_app (by first | omega | (simp only [maxLen, lls] <;> omega) | (simp only [maxLen]; omega)) (by first | omega | (simp only [lls] <;> omega)) (fun ad169 cp169 w169 (hS169 : St _ _ [_, _, _, .fz g164, _, _, .ow 5 1 ad169 ((((enc (L.take i)) ++ [(x16.1.toNat % 256)]) ++ (esc x16.2.2)).length) cp169 (bv (((enc (L.take i)) ++ [(x16.1.toNat % 256)]) ++ (esc x16.2.2)))] _) => ?_)
         clear hS168
         refine hK _ _ ?_; clear hK K
         refine l_q rfl rfl (q_assignS rfl) ?_
         refine l_nil ?_
         refine hK163 _ _ ?_
         refine wp_region_lit ?_
         refine l_q rfl rfl (q_moveS rfl) ?_
         refine l_e rfl (fun K hK => ?_)
         refine e_buildSlice1 (e := 5) (zv := .int .u8 0) (xs := [_, _]) hS169 (by kernel_rfl) (by kernel_rfl) (by kernel_rfl) rfl rfl rfl rfl (allone (by repeat' (first | exact trivial | refine ⟨by first | rfl | assumption, ?_⟩))) rfl (fun b170 w170 (hS170 : St _ _ [.blk b170 (.cells #[.int .u8 (0 : Int), .int .u8 (1 : Int)] 5), _, _, _, .fz g164, _, _, _] _) => ?_)
         clear hS169
         have hB170 : Bytes [0, 1] := by intro q hq; simp only [List.mem_cons, List.not_mem_nil, or_false] at hq; omega
         have hS170o : St _ _ [.ow 5 1 (some ⟨b170, 0, none⟩) 2 2 (bv [0, 1]), _, _, _, .fz g164, _, _, _] _ := hS170.blkOw' (i := 0) (m := 2) (size := 1) (xs := bv [0, 1]) rfl rfl rfl (by decide); clear hS170
         refine hK _ _ ?_; clear hK K
         refine l_e rfl (fun K hK => ?_)
         have hB171 : Bytes ((((enc (L.take i)) ++ [(x16.1.toNat % 256)]) ++ (esc x16.2.2)) ++ [0, 1]) := Bytes.app hB169 hB170
         refine e_app (e := 5) (size := 1) (bytes := 1) (i := 7) (m' := ((((enc (L.take i)) ++ [(x16.1.toNat % 256)]) ++ (esc x16.2.2)) ++ [0, 1]).length) (by kernel_rfl) hS170o rfl rfl rfl (SlG.src (e := 5) (by kernel_rfl) (hS170o.owG (i := 0) rfl) (by first | (simp only [lls, Nat.mul_one]; done) | (simp only [lls]; omega) | rfl | (simp; done)) (by decide) (bv_one _)) (by first | omega | (simp only [lls] <;> omega) | (simp; done)) bv_app (by first | omega | (simp only [maxLen, lls] <;> omega) | (simp only [maxLen]; omega)) (by first | omega | (simp only [lls] <;> omega)) (fun ad171 cp171 w171 (hS171 : St _ _ [_, _, _, _, .fz g164, _, _, .ow 5 1 ad171 (((((enc (L.take i)) ++ [(x16.1.toNat % 256)]) ++ (esc x16.2.2)) ++ [0, 1]).length) cp171 (bv ((((enc (L.take i)) ++ [(x16.1.toNat % 256)]) ++ (esc x16.2.2)) ++ [0, 1]))] _) => ?_)
         clear hS170o
         refine hK _ _ ?_; clear hK K
         refine l_q rfl rfl (q_assignS rfl) ?_
         refine l_nil ?_
         refine hK162 _ _ ?_
         refine wp_exit ?_
         refine hK14 _ _ ?_
         refine wp_region_lit ?_
         refine l_q rfl rfl (q_addx rfl rfl (by first | decide | omega) (by first | decide | omega)) ?_
         refine l_q rfl rfl (q_moveI rfl) ?_
         refine l_nil ?_
         have hnew : (enc (L.take (i + 1))) = ((((enc (L.take i)) ++ [(x16.1.toNat % 256)]) ++ (esc x16.2.2)) ++ [0, 1]) := by rw [enc_take hx16, encV, encB4 (.inl (by omega))]; try simp [be8, bia]
         have hS172 : St _ _ [_, _, _, _, .fz g164, _, _, .ow 5 1 ad171 ((enc (L.take (i + 1))).length) cp171 (bv (enc (L.take (i + 1))))] _ := hS171.cast (by rw [hnew]); clear hS171
         have har := all_take hall hx16 hr
         have hS173 := hS172.fr7; clear hS172
         have hS174 : St _ _ [_] _ := hS173.only 1; clear hS173
         refine hK10 _ _ (came (⟨(i + 1), ad171, cp171⟩) (by repeat' (first | exact Agree.refl _ _ | refine Agree.up ?_ rfl | refine Agree.hav2 ?_ rfl | refine Agree.ups2 ?_ rfl)) (by repeat' (first | exact trivial | refine ⟨by first | rfl | exact int_succ _ | (rw [hnew]; rfl), ?_⟩)) ?_)
         exact ⟨⟨hS174, (by show i + 1 ≤ L.length; omega), har⟩, by (show L.length - (i + 1) < L.length - i); omega⟩
        ·
         have hc161b := hc161
         try simp only [decide_eq_true_eq, decide_eq_false_iff_not, Bool.not_eq_true', Bool.not_eq_false', Bool.and_eq_true, Bool.or_eq_true, Int.not_lt, Int.not_le, ne_eq, Decidable.not_not] at hc161
         refine wp_skip ?_
         refine hK159 _ _ ?_
         refine wp_seq_k (fun K175 hK175 => ?_)
         refine wp_region_lit ?_
         refine l_q rfl rfl (q_eql rfl rfl) ?_
         refine l_q rfl rfl (q_assignB rfl) ?_
         refine l_nil ?_
         refine hK175 _ _ ?_
         refine c_cond rfl (fun hc176 => ?_) (fun hc176 => ?_)
         ·
          have hc176b := hc176
          try simp only [decide_eq_true_eq, decide_eq_false_iff_not, Bool.not_eq_true', Bool.not_eq_false', Bool.and_eq_true, Bool.or_eq_true, Int.not_lt, Int.not_le, ne_eq, Decidable.not_not] at hc176
          refine wp_exit ?_
          refine hK28 _ _ ?_
          refine wp_seq_k (fun K177 hK177 => ?_)
          refine wp_seq_k (fun K178 hK178 => ?_)
          refine wp_region_lit ?_
          refine l_q rfl rfl (q_moveS rfl) ?_
          refine l_q rfl rfl (q_fieldAddr (ft := 9) (o := 2) rfl (by kernel_rfl)) ?_
          refine l_q rfl rfl (q_load1 rfl (by kernel_rfl) (hS26.cell (i := 1) rfl rfl)) ?_
          refine l_e rfl (fun K hK => ?_)
          refine e_convSB (e := 5) (l := x16.2.2) hS26 rfl (by kernel_rfl) (by kernel_rfl) (by kernel_rfl) (hL x16 (List.mem_of_getElem? hx16)).1 (by first | omega | (simp only [maxLen, lls] <;> omega) | (simp only [maxLen]; omega)) (fun ad179 cp179 g179 w179 hsb179 hcp179 (hS179 : St _ _ [.fz g179, _, _, _] _) => ?_)
          clear hS26
          refine hK _ _ ?_; clear hK K
          refine l_e rfl (fun K hK => ?_)
          refine e_buildSlice1 (e := 5) (zv := .int .u8 0) (xs := [_]) hS179 (by kernel_rfl) (by kernel_rfl) (by kernel_rfl) rfl rfl rfl rfl (allone (by repeat' (first | exact trivial | refine ⟨by first | rfl | assumption, ?_⟩))) rfl (fun b180 w180 (hS180 : St _ _ [.blk b180 (.cells #[.int .u8 (0 : Int)] 5), .fz g179, _, _, _] _) => ?_)
          clear hS179
          have hB180 : Bytes [0] := by intro q hq; simp only [List.mem_cons, List.not_mem_nil, or_false] at hq; omega
          have hS180o : St _ _ [.ow 5 1 (some ⟨b180, 0, none⟩) 1 1 (bv [0]), .fz g179, _, _, _] _ := hS180.blkOw' (i := 0) (m := 1) (size := 1) (xs := bv [0]) rfl rfl rfl (by decide); clear hS180
          refine hK _ _ ?_; clear hK K
          refine l_e rfl (fun K hK => ?_)
          refine e_buildSlice1 (e := 5) (zv := .int .u8 0) (xs := [_, _]) hS180o (by kernel_rfl) (by kernel_rfl) (by kernel_rfl) rfl rfl rfl rfl (allone (by repeat' (first | exact trivial | refine ⟨by first | rfl | assumption, ?_⟩))) rfl (fun b181 w181 (hS181 : St _ _ [.blk b181 (.cells #[.int .u8 (0 : Int), .int .u8 (255 : Int)] 5), _, .fz g179, _, _, _] _) => ?_)
          clear hS180o
          have hB181 : Bytes [0, 255] := by intro q hq; simp only [List.mem_cons, List.not_mem_nil, or_false] at hq; omega
          have hS181o : St _ _ [.ow 5 1 (some ⟨b181, 0, none⟩) 2 2 (bv [0, 255]), _, .fz g179, _, _, _] _ := hS181.blkOw' (i := 0) (m := 2) (size := 1) (xs := bv [0, 255]) rfl rfl rfl (by decide); clear hS181
          refine hK _ _ ?_; clear hK K
          refine l_e rfl (fun K hK => ?_)
          have hcsc182 : x16.2.2.length ≤ cp179 := by omega
          have hcnt182 := esc_len x16.2.2
          have hcl182 := List.count_le_length (a := 0) (l := x16.2.2)
          refine e_call (by kernel_rfl) (replAll_ok x16.2.2 (hL x16 (List.mem_of_getElem? hx16)).1 x16.2.2.length (by first | omega | (simp only [lls] <;> omega)) (by first | omega | (simp only [lls] <;> omega)) _ _ _ _ _ _ hcsc182 _ (hsb179.mono (hS181o.fz (i := 2) rfl)) (hS181o.owG (i := 1) rfl) (hS181o.owG (i := 0) rfl)) rfl (after_N hS181o (fun v182 G182 w182 hv182 hS182 => ?_))
          clear hS181o
          obtain ⟨ad182, cp182, rfl, rfl⟩ := hv182
          have hS183 : St _ _ [.ow 5 1 ad182 ((esc x16.2.2).length) cp182 (bv (esc x16.2.2)), _, _, .fz g179, _, _, _] _ := hS182; clear hS182
          refine hK _ _ ?_; clear hK K
          refine l_e rfl (fun K hK => ?_)
          have hB184 : Bytes (((enc (L.take i)) ++ [(x16.1.toNat % 256)]) ++ (esc x16.2.2)) := Bytes.app hB26 (esc_bytes (hL x16 (List.mem_of_getElem? hx16)).1)
          refine e_app (e := 5) (size := 1) (bytes := 1) (i := 6) (m' := (((enc (L.take i)) ++ [(x16.1.toNat % 256)]) ++ (esc x16.2.2)).length) (by kernel_rfl) hS183 rfl rfl rfl (SlG.src (e := 5) (by kernel_rfl) (hS183.owG (i := 0) rfl) (by first | (simp only [lls, Nat.mul_one]; done) | (simp only [lls]; omega) | rfl | (simp; done)) (by decide) (bv_one _)) (by first | omega | (simp only [lls] <;> omega) | (simp; done)) bv_app (by first | omega | (simp only [maxLen, lls] <;> omega) | (simp only [maxLen]; omega)) (by first | omega | (simp only [lls] <;> omega)) (fun ad184 cp184 w184 (hS184 : St _ _ [_, _, _, .fz g179, _, _, .ow 5 1 ad184 ((((enc (L.take i)) ++ [(x16.1.toNat % 256)]) ++ (esc x16.2.2)).length) cp184 (bv (((enc (L.take i)) ++ [(x16.1.toNat % 256)]) ++ (esc x16.2.2)))] _) => ?_)
          clear hS183
          refine hK _ _ ?_; clear hK K
          refine l_q rfl rfl (q_assignS rfl) ?_
          refine l_nil ?_
          refine hK178 _ _ ?_
          refine wp_region_lit ?_
          refine l_q rfl rfl (q_moveS rfl) ?_
          refine l_e rfl (fun K hK => ?_)
          refine e_buildSlice1 (e := 5) (zv := .int .u8 0) (xs := [_, _]) hS184 (by kernel_rfl) (by kernel_rfl) (by kernel_rfl) rfl rfl rfl rfl (allone (by repeat' (first | exact trivial | refine ⟨by first | rfl | assumption, ?_⟩))) rfl (fun b185 w185 (hS185 : St _ _ [.blk b185 (.cells #[.int .u8 (0 : Int), .int .u8 (1 : Int)] 5), _, _, _, .fz g179, _, _, _] _) => ?_)
          clear hS184
          have hB185 : Bytes [0, 1] := by intro q hq; simp only [List.mem_cons, List.not_mem_nil, or_false] at hq; omega
          have hS185o : St _ _ [.ow 5 1 (some ⟨b185, 0, none⟩) 2 2 (bv [0, 1]), _, _, _, .fz g179, _, _, _] _ := hS185.blkOw' (i := 0) (m := 2) (size := 1) (xs := bv [0, 1]) rfl rfl rfl (by decide); clear hS185
          refine hK _ _ ?_; clear hK K
          refine l_e rfl (fun K hK => ?_)
          have hB186 : Bytes ((((enc (L.take i)) ++ [(x16.1.toNat % 256)]) ++ (esc x16.2.2)) ++ [0, 1]) := Bytes.app hB184 hB185
          refine e_app (e := 5) (size := 1) (bytes := 1) (i := 7) (m' := ((((enc (L.take i)) ++ [(x16.1.toNat % 256)]) ++ (esc x16.2.2)) ++ [0, 1]).length) (by kernel_rfl) hS185o rfl rfl rfl (SlG.src (e := 5) (by kernel_rfl) (hS185o.owG (i := 0) rfl) (by first | (simp only [lls, Nat.mul_one]; done) | (simp only [lls]; omega) | rfl | (simp; done)) (by decide) (bv_one _)) (by first | omega | (simp only [lls] <;> omega) | (simp; done)) bv_app (by first | omega | (simp only [maxLen, lls] <;> omega) | (simp only [maxLen]; omega)) (by first | omega | (simp only [lls] <;> omega)) (fun ad186 cp186 w186 (hS186 : St _ _ [_, _, _, _, .fz g179, _, _, .ow 5 1 ad186 (((((enc (L.take i)) ++ [(x16.1.toNat % 256)]) ++ (esc x16.2.2)) ++ [0, 1]).length) cp186 (bv ((((enc (L.take i)) ++ [(x16.1.toNat % 256)]) ++ (esc x16.2.2)) ++ [0, 1]))] _) => ?_)
          clear hS185o
          refine hK _ _ ?_; clear hK K
          refine l_q rfl rfl (q_assignS rfl) ?_
          refine l_nil ?_
          refine hK177 _ _ ?_
          refine wp_exit ?_
          refine hK14 _ _ ?_
          refine wp_region_lit ?_
          refine l_q rfl rfl (q_addx rfl rfl (by first | decide | omega) (by first | decide | omega)) ?_
          refine l_q rfl rfl (q_moveI rfl) ?_
          refine l_nil ?_
          have hnew : (enc (L.take (i + 1))) = ((((enc (L.take i)) ++ [(x16.1.toNat % 256)]) ++ (esc x16.2.2)) ++ [0, 1]) := by rw [enc_take hx16, encV, encB4 (.inr (by omega))]; try simp [be8, bia]
          have hS187 : St _ _ [_, _, _, _, .fz g179, _, _, .ow 5 1 ad186 ((enc (L.take (i + 1))).length) cp186 (bv (enc (L.take (i + 1))))] _ := hS186.cast (by rw [hnew]); clear hS186
          have har := all_take hall hx16 hr
          have hS188 := hS187.fr7; clear hS187
          have hS189 : St _ _ [_] _ := hS188.only 1; clear hS188
          refine hK10 _ _ (came (⟨(i + 1), ad186, cp186⟩) (by repeat' (first | exact Agree.refl _ _ | refine Agree.up ?_ rfl | refine Agree.hav2 ?_ rfl | refine Agree.ups2 ?_ rfl)) (by repeat' (first | exact trivial | refine ⟨by first | rfl | exact int_succ _ | (rw [hnew]; rfl), ?_⟩)) ?_)
          exact ⟨⟨hS189, (by show i + 1 ≤ L.length; omega), har⟩, by (show L.length - (i + 1) < L.length - i); omega⟩
         ·
          have hc176b := hc176
          try simp only [decide_eq_true_eq, decide_eq_false_iff_not, Bool.not_eq_true', Bool.not_eq_false', Bool.and_eq_true, Bool.or_eq_true, Int.not_lt, Int.not_le, ne_eq, Decidable.not_not] at hc176
          refine wp_skip ?_
          refine hK31 _ _ ?_
          refine wp_exit ?_
          refine hK14 _ _ ?_
          refine wp_region_lit ?_
          refine l_q rfl rfl (q_addx rfl rfl (by first | decide | omega) (by first | decide | omega)) ?_
          refine l_q rfl rfl (q_moveI rfl) ?_
          refine l_nil ?_
          have hnew : (enc (L.take (i + 1))) = ((enc (L.take i)) ++ [(x16.1.toNat % 256)]) := by rw [enc_take hx16, encV, encB0 (by omega)]; try simp [be8, bia]
          have hS190 : St _ _ [_, _, .ow 5 1 ad26 ((enc (L.take (i + 1))).length) cp26 (bv (enc (L.take (i + 1))))] _ := hS26.cast (by rw [hnew]); clear hS26
          have har := all_take hall hx16 hr
          have hS191 := hS190.fr2; clear hS190
          have hS192 : St _ _ [_] _ := hS191.only 1; clear hS191
          refine hK10 _ _ (came (⟨(i + 1), ad26, cp26⟩) (by repeat' (first | exact Agree.refl _ _ | refine Agree.up ?_ rfl | refine Agree.hav2 ?_ rfl | refine Agree.ups2 ?_ rfl)) (by repeat' (first | exact trivial | refine ⟨by first | rfl | exact int_succ _ | (rw [hnew]; rfl), ?_⟩)) ?_)
          exact ⟨⟨hS192, (by show i + 1 ≤ L.length; omega), har⟩, by (show L.length - (i + 1) < L.length - i); omega⟩
   ·
    have hc13b := hc13
    try simp only [decide_eq_true_eq, decide_eq_false_iff_not, Bool.not_eq_true', Bool.not_eq_false', Bool.and_eq_true, Bool.or_eq_true, Int.not_lt, Int.not_le, ne_eq, Decidable.not_not] at hc13
    refine wp_exit ?_
    refine hK7 _ _ ?_
    refine wp_seq_k (fun K193 hK193 => ?_)
    refine wp_region_lit ?_
    refine l_q rfl rfl (q_moveS rfl) ?_
    refine l_q rfl rfl (q_assignS rfl) ?_
    refine l_q rfl rfl (q_assignI rfl) ?_
    refine l_nil ?_
    refine hK193 _ _ ?_
    refine wp_ret ?_
    refine c_ret2 rfl rfl rfl ?_
    have hti : L.take i = L := List.take_of_length_le (by omega)
    rw [hti] at hS10 hall
    have he := encR_yes (L := L) (by omega) hall
    exact ⟨_, _, rfl, ⟨oa, oc, (congrArg (fun l : List Vl => Value.tuple #[.slice oa (enc l).length oc, .int .i64 0]) hti).trans (by rw [he]), by rw [he]⟩, hS10⟩

end Go.Proofs.YtmemgpcgjephmaaGreatDoor
