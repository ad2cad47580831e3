/- The catalog: the document's Order, Same; New, Add; the live question. -/
import Derived.Test.YtmemgpcgjephmaaGreatDoorCd
import Derived.Test.YtmemgpcgjephmaaGreatDoorMa
set_option linter.unusedVariables false
set_option linter.unusedSimpArgs false
namespace Go.Proofs.YtmemgpcgjephmaaGreatDoor
open Go.RowKit
theorem same_no {L M : List Vl} {i : Nat} {x y : Vl} (hx : L[i]? = some x) (hy : M[i]? = some y) (h : x ≠ y) : decide (L = M) = false := by
  refine decide_eq_false fun e => ?_
  subst e; rw [hx] at hy; exact h (Option.some.inj hy)
theorem same_yes {L M : List Vl} {i : Nat} (h : L.take i = M.take i) (h1 : i = L.length) (h2 : L.length = M.length) : decide (L = M) = true := by
  rw [List.take_of_length_le (by omega), List.take_of_length_le (by omega)] at h
  exact decide_eq_true h
theorem same_next {L M : List Vl} {i : Nat} {x y : Vl} (h : L.take i = M.take i) (hx : L[i]? = some x) (hy : M[i]? = some y) (he : x = y) : L.take (i + 1) = M.take (i + 1) := by
  rw [List.take_add_one, List.take_add_one, h, hx, hy, he]
section
theorem vc3 {a b : Vl} (h1 : a.1 = b.1) (h2 : a.2.1 = b.2.1) : vcmp a b = cmB a.2.2 b.2.2 := by
  unfold vcmp
  simp only [orL, cmpZ, h1, h2, Int.lt_irrefl, if_false, if_true]
  split
  · rename_i h; exact h.symm
  · rfl
end
theorem mp_first {k v : Value} : MUp [] k v [(k, v)] := ⟨[], (fun q h => by cases h), .inl (List.Perm.refl _), List.Perm.refl _⟩
theorem bd_one {v : Vl} {k : Int} (h : rightB v = true) (hk : v.1 = k) : BdP k [v] := fun i hi x hx => by
  have h0 : i = 0 := by simp at hi; exact hi
  subst h0
  have e : v = x := by simpa using hx
  subst e
  exact ⟨h, hk, fun u h0 => absurd h0 (by decide)⟩
theorem nm_let {c : Nat} (h : 97 ≤ c ∧ c ≤ 122) : NameP [c] := by
  refine ⟨by simp, by simp, fun d hd => ?_, fun i d hd => ?_⟩
  · have e : c = d := by simpa using hd
    subst e; exact h
  · have h0 : i = 0 := by have := (List.getElem?_eq_some_iff.1 hd).1; simp at this; exact this
    subst h0
    have e : c = d := by simpa using hd
    subst e; exact .inl h
/-- A table of one column of whole numbers, with bounds. -/
theorem rt_one {bd : List Vl} (hb : BdP 2 bd) (hl : bd.length ≤ 63) : RtP (Tb.mk [116] [Co.mk [97] 2 true] 1 0 bd) := by
  refine ⟨⟨nm_let (by decide), by simp, by simp, by simp, by simp, by simp, by simp, hl, fun h => absurd h (by simp), hb⟩, fun i hi c hc => ?_⟩
  have h0 : i = 0 := by have h := hi; simp at h; exact h
  subst h0
  have e : Co.mk [97] 2 true = c := by simpa using hc
  subst e
  exact ⟨nm_let (by decide), (fun j hj => absurd hj (Nat.not_lt_zero _)), by simp, by simp, fun _ => rfl⟩
theorem cs_one : CsOk [Co.mk [97] 2 true] := CsOk.one ⟨by decide, by decide⟩
theorem vs_int {n : Int} (h : -9223372036854775808 ≤ n ∧ n ≤ 9223372036854775807) : VsOk [((2 : Int), n, ([] : List Nat))] := VsOk.one ⟨Bytes.nil, by show -9223372036854775808 ≤ (2 : Int) ∧ (2 : Int) ≤ 9223372036854775807; omega, h⟩
theorem rt_0 : RtP (Tb.mk [116] [Co.mk [97] 2 true] 1 0 [((2 : Int), (5 : Int), ([] : List Nat))]) := rt_one (bd_one (by decide) rfl) (by simp)
theorem pt_one {bd : List Vl} {n : Int} : PtP (Tb.mk [116] [Co.mk [97] 2 true] 1 0 bd) [((2 : Int), n, ([] : List Nat))] ∧ KdTo (Tb.mk [116] [Co.mk [97] 2 true] 1 0 bd) [((2 : Int), n, ([] : List Nat))] [((2 : Int), n, ([] : List Nat))].length := by
  refine ⟨⟨rfl, by simp, fun v hv => ?_⟩, fun i hi v hv c hc => ?_⟩
  · rw [List.mem_singleton] at hv; subst hv; simp [rightB]
  · have h0 : i = 0 := by have h := hi; simp at h; exact h
    subst h0
    have e1 : ((2 : Int), n, ([] : List Nat)) = v := by simpa using hv
    have e2 : Co.mk [97] 2 true = c := by simpa using hc
    subst e1 e2; rfl
theorem part_0 : partN (Tb.mk [116] [Co.mk [97] 2 true] 1 0 [((2 : Int), (5 : Int), ([] : List Nat))]) [((2 : Int), (5 : Int), ([] : List Nat))] = 1 := by decide +kernel
theorem parts_0 : partsN (Tb.mk [116] [Co.mk [97] 2 true] 1 0 [((2 : Int), (5 : Int), ([] : List Nat))]) = 2 := by decide +kernel
theorem hash_a : hashB [97] = 3826002220 := by decide +kernel
attribute [local irreducible] Oper.wp Sem.run Code.wp wpList wpAnyO callFunc execOp Calls

set_option maxRecDepth 100000 in
theorem rorder_ok (a b : Vl) (ha : Bytes a.2.2) (hb : Bytes b.2.2) (w : World) : Calls Tryz.prog 29 #[.agg (vl a).toArray, .agg (vl b).toArray] w (PostR w fun v => v = .int .i64 (vcmp a b)) := by
 have hS := St.start w
 refine c_enter Tryz.func29 rfl rfl rfl ?_
 refine wp_seq_k (fun K1 hK1 => ?_)
 refine wp_region_lit ?_
 refine l_e rfl (fun K hK => ?_)
 refine e_boxA hS rfl (fun b2 w2 (hS2 : St _ _ [.blk b2 (.cells #[.int .i64 a.1, .int .i64 a.2.1, .string (bs a.2.2)] 59)] _) => ?_)
 clear hS
 refine hK _ _ ?_; clear hK K
 refine l_e rfl (fun K hK => ?_)
 refine e_boxA hS2 rfl (fun b3 w3 (hS3 : St _ _ [.blk b3 (.cells #[.int .i64 b.1, .int .i64 b.2.1, .string (bs b.2.2)] 59), _] _) => ?_)
 clear hS2
 refine hK _ _ ?_; clear hK K
 refine l_q rfl rfl (q_assignI rfl) ?_
 refine l_nil ?_
 refine hK1 _ _ ?_
 refine wp_seq_k (fun K4 hK4 => ?_)
 refine wp_block ?_
 refine wp_seq_k (fun K5 hK5 => ?_)
 refine wp_region_lit ?_
 refine l_q rfl rfl (q_fieldAddr (ft := 45) (o := 0) rfl (by kernel_rfl)) ?_
 refine l_q rfl rfl (q_load1 rfl (by kernel_rfl) (hS3.cell (i := 1) rfl rfl)) ?_
 refine l_q rfl rfl (q_fieldAddr (ft := 45) (o := 0) rfl (by kernel_rfl)) ?_
 refine l_q rfl rfl (q_load1 rfl (by kernel_rfl) (hS3.cell (i := 0) rfl rfl)) ?_
 refine l_q rfl rfl (q_lss rfl rfl) ?_
 refine l_q rfl rfl (q_assignB rfl) ?_
 refine l_nil ?_
 refine hK5 _ _ ?_
 refine c_cond rfl (fun hc6 => ?_) (fun hc6 => ?_)
 ·
  have hc6b := hc6
  try simp only [decide_eq_true_eq, decide_eq_false_iff_not, Bool.not_eq_true', Bool.not_eq_false', Bool.and_eq_true, Bool.or_eq_true, Int.not_lt, Int.not_le, ne_eq, Decidable.not_not] at hc6
  refine wp_seq_k (fun K7 hK7 => ?_)
  refine wp_region_lit ?_
  refine l_q rfl rfl (q_assignI rfl) ?_
  refine l_nil ?_
  refine hK7 _ _ ?_
  refine wp_ret ?_
  refine c_ret1 rfl rfl ?_
  exact ⟨_, rfl, congrArg (Value.int .i64) (by first | (rw [vc3 (by omega) (by omega)]; first | exact cmB_1 (by assumption) | exact cmB_2 (by assumption) (by simp_all) | exact cmB_3 (by assumption) (by simp_all)) | (unfold vcmp; simp_all [orL, cmpZ, cmB]; done) | (unfold vcmp; simp_all [orL, cmpZ, cmB]; omega)), hS3.drop⟩
 ·
  have hc6b := hc6
  try simp only [decide_eq_true_eq, decide_eq_false_iff_not, Bool.not_eq_true', Bool.not_eq_false', Bool.and_eq_true, Bool.or_eq_true, Int.not_lt, Int.not_le, ne_eq, Decidable.not_not] at hc6
  refine wp_seq_k (fun K8 hK8 => ?_)
  refine wp_region_lit ?_
  refine l_q rfl rfl (q_fieldAddr (ft := 45) (o := 0) rfl (by kernel_rfl)) ?_
  refine l_q rfl rfl (q_load1 rfl (by kernel_rfl) (hS3.cell (i := 1) rfl rfl)) ?_
  refine l_q rfl rfl (q_fieldAddr (ft := 45) (o := 0) rfl (by kernel_rfl)) ?_
  refine l_q rfl rfl (q_load1 rfl (by kernel_rfl) (hS3.cell (i := 0) rfl rfl)) ?_
  refine l_q rfl rfl (q_gtr rfl rfl) ?_
  refine l_q rfl rfl (q_assignB rfl) ?_
  refine l_nil ?_
  refine hK8 _ _ ?_
  refine c_cond rfl (fun hc9 => ?_) (fun hc9 => ?_)
  ·
   have hc9b := hc9
   try simp only [decide_eq_true_eq, decide_eq_false_iff_not, Bool.not_eq_true', Bool.not_eq_false', Bool.and_eq_true, Bool.or_eq_true, Int.not_lt, Int.not_le, ne_eq, Decidable.not_not] at hc9
   refine wp_seq_k (fun K10 hK10 => ?_)
   refine wp_region_lit ?_
   refine l_q rfl rfl (q_assignI rfl) ?_
   refine l_nil ?_
   refine hK10 _ _ ?_
   refine wp_ret ?_
   refine c_ret1 rfl rfl ?_
   exact ⟨_, rfl, congrArg (Value.int .i64) (by first | (rw [vc3 (by omega) (by omega)]; first | exact cmB_1 (by assumption) | exact cmB_2 (by assumption) (by simp_all) | exact cmB_3 (by assumption) (by simp_all)) | (unfold vcmp; simp_all [orL, cmpZ, cmB]; done) | (unfold vcmp; simp_all [orL, cmpZ, cmB]; omega)), hS3.drop⟩
  ·
   have hc9b := hc9
   try simp only [decide_eq_true_eq, decide_eq_false_iff_not, Bool.not_eq_true', Bool.not_eq_false', Bool.and_eq_true, Bool.or_eq_true, Int.not_lt, Int.not_le, ne_eq, Decidable.not_not] at hc9
   refine wp_seq_k (fun K11 hK11 => ?_)
   refine wp_region_lit ?_
   refine l_q rfl rfl (q_fieldAddr (ft := 2) (o := 1) rfl (by kernel_rfl)) ?_
   refine l_q rfl rfl (q_load1 rfl (by kernel_rfl) (hS3.cell (i := 1) rfl rfl)) ?_
   refine l_q rfl rfl (q_fieldAddr (ft := 2) (o := 1) rfl (by kernel_rfl)) ?_
   refine l_q rfl rfl (q_load1 rfl (by kernel_rfl) (hS3.cell (i := 0) rfl rfl)) ?_
   refine l_q rfl rfl (q_lss rfl rfl) ?_
   refine l_q rfl rfl (q_assignB rfl) ?_
   refine l_nil ?_
   refine hK11 _ _ ?_
   refine c_cond rfl (fun hc12 => ?_) (fun hc12 => ?_)
   ·
    have hc12b := hc12
    try simp only [decide_eq_true_eq, decide_eq_false_iff_not, Bool.not_eq_true', Bool.not_eq_false', Bool.and_eq_true, Bool.or_eq_true, Int.not_lt, Int.not_le, ne_eq, Decidable.not_not] at hc12
    refine wp_seq_k (fun K13 hK13 => ?_)
    refine wp_region_lit ?_
    refine l_q rfl rfl (q_assignI rfl) ?_
    refine l_nil ?_
    refine hK13 _ _ ?_
    refine wp_ret ?_
    refine c_ret1 rfl rfl ?_
    exact ⟨_, rfl, congrArg (Value.int .i64) (by first | (rw [vc3 (by omega) (by omega)]; first | exact cmB_1 (by assumption) | exact cmB_2 (by assumption) (by simp_all) | exact cmB_3 (by assumption) (by simp_all)) | (unfold vcmp; simp_all [orL, cmpZ, cmB]; done) | (unfold vcmp; simp_all [orL, cmpZ, cmB]; omega)), hS3.drop⟩
   ·
    have hc12b := hc12
    try simp only [decide_eq_true_eq, decide_eq_false_iff_not, Bool.not_eq_true', Bool.not_eq_false', Bool.and_eq_true, Bool.or_eq_true, Int.not_lt, Int.not_le, ne_eq, Decidable.not_not] at hc12
    refine wp_seq_k (fun K14 hK14 => ?_)
    refine wp_region_lit ?_
    refine l_q rfl rfl (q_fieldAddr (ft := 2) (o := 1) rfl (by kernel_rfl)) ?_
    refine l_q rfl rfl (q_load1 rfl (by kernel_rfl) (hS3.cell (i := 1) rfl rfl)) ?_
    refine l_q rfl rfl (q_fieldAddr (ft := 2) (o := 1) rfl (by kernel_rfl)) ?_
    refine l_q rfl rfl (q_load1 rfl (by kernel_rfl) (hS3.cell (i := 0) rfl rfl)) ?_
    refine l_q rfl rfl (q_gtr rfl rfl) ?_
    refine l_q rfl rfl (q_assignB rfl) ?_
    refine l_nil ?_
    refine hK14 _ _ ?_
    refine c_cond rfl (fun hc15 => ?_) (fun hc15 => ?_)
    ·
     have hc15b := hc15
     try simp only [decide_eq_true_eq, decide_eq_false_iff_not, Bool.not_eq_true', Bool.not_eq_false', Bool.and_eq_true, Bool.or_eq_true, Int.not_lt, Int.not_le, ne_eq, Decidable.not_not] at hc15
     refine wp_seq_k (fun K16 hK16 => ?_)
     refine wp_region_lit ?_
     refine l_q rfl rfl (q_assignI rfl) ?_
     refine l_nil ?_
     refine hK16 _ _ ?_
     refine wp_ret ?_
     refine c_ret1 rfl rfl ?_
     exact ⟨_, rfl, congrArg (Value.int .i64) (by first | (rw [vc3 (by omega) (by omega)]; first | exact cmB_1 (by assumption) | exact cmB_2 (by assumption) (by simp_all) | exact cmB_3 (by assumption) (by simp_all)) | (unfold vcmp; simp_all [orL, cmpZ, cmB]; done) | (unfold vcmp; simp_all [orL, cmpZ, cmB]; omega)), hS3.drop⟩
    ·
     have hc15b := hc15
     try simp only [decide_eq_true_eq, decide_eq_false_iff_not, Bool.not_eq_true', Bool.not_eq_false', Bool.and_eq_true, Bool.or_eq_true, Int.not_lt, Int.not_le, ne_eq, Decidable.not_not] at hc15
     refine wp_seq_k (fun K17 hK17 => ?_)
     refine wp_region_lit ?_
     refine l_q rfl rfl (q_fieldAddr (ft := 9) (o := 2) rfl (by kernel_rfl)) ?_
     refine l_q rfl rfl (q_load1 rfl (by kernel_rfl) (hS3.cell (i := 1) rfl rfl)) ?_
     refine l_q rfl rfl (q_fieldAddr (ft := 9) (o := 2) rfl (by kernel_rfl)) ?_
     refine l_q rfl rfl (q_load1 rfl (by kernel_rfl) (hS3.cell (i := 0) rfl rfl)) ?_
     refine l_q rfl rfl (q_str_lss (l := a.2.2) (m := b.2.2) rfl rfl ha hb) ?_
     refine l_q rfl rfl (q_assignB rfl) ?_
     refine l_nil ?_
     refine hK17 _ _ ?_
     refine c_cond rfl (fun hc18 => ?_) (fun hc18 => ?_)
     ·
      have hc18b := hc18
      try simp only [decide_eq_true_eq, decide_eq_false_iff_not, Bool.not_eq_true', Bool.not_eq_false', Bool.and_eq_true, Bool.or_eq_true, Int.not_lt, Int.not_le, ne_eq, Decidable.not_not] at hc18
      refine wp_seq_k (fun K19 hK19 => ?_)
      refine wp_region_lit ?_
      refine l_q rfl rfl (q_assignI rfl) ?_
      refine l_nil ?_
      refine hK19 _ _ ?_
      refine wp_ret ?_
      refine c_ret1 rfl rfl ?_
      exact ⟨_, rfl, congrArg (Value.int .i64) (by first | (rw [vc3 (by omega) (by omega)]; first | exact cmB_1 (by assumption) | exact cmB_2 (by assumption) (by simp_all) | exact cmB_3 (by assumption) (by simp_all)) | (unfold vcmp; simp_all [orL, cmpZ, cmB]; done) | (unfold vcmp; simp_all [orL, cmpZ, cmB]; omega)), hS3.drop⟩
     ·
      have hc18b := hc18
      try simp only [decide_eq_true_eq, decide_eq_false_iff_not, Bool.not_eq_true', Bool.not_eq_false', Bool.and_eq_true, Bool.or_eq_true, Int.not_lt, Int.not_le, ne_eq, Decidable.not_not] at hc18
      refine wp_seq_k (fun K20 hK20 => ?_)
      refine wp_region_lit ?_
      refine l_q rfl rfl (q_fieldAddr (ft := 9) (o := 2) rfl (by kernel_rfl)) ?_
      refine l_q rfl rfl (q_load1 rfl (by kernel_rfl) (hS3.cell (i := 1) rfl rfl)) ?_
      refine l_q rfl rfl (q_fieldAddr (ft := 9) (o := 2) rfl (by kernel_rfl)) ?_
      refine l_q rfl rfl (q_load1 rfl (by kernel_rfl) (hS3.cell (i := 0) rfl rfl)) ?_
      refine l_q rfl rfl (q_str_gtr (l := a.2.2) (m := b.2.2) rfl rfl ha hb) ?_
      refine l_q rfl rfl (q_assignB rfl) ?_
      refine l_nil ?_
      refine hK20 _ _ ?_
      refine c_cond rfl (fun hc21 => ?_) (fun hc21 => ?_)
      ·
       have hc21b := hc21
       try simp only [decide_eq_true_eq, decide_eq_false_iff_not, Bool.not_eq_true', Bool.not_eq_false', Bool.and_eq_true, Bool.or_eq_true, Int.not_lt, Int.not_le, ne_eq, Decidable.not_not] at hc21
       refine wp_seq_k (fun K22 hK22 => ?_)
       refine wp_region_lit ?_
       refine l_q rfl rfl (q_assignI rfl) ?_
       refine l_nil ?_
       refine hK22 _ _ ?_
       refine wp_ret ?_
       refine c_ret1 rfl rfl ?_
       exact ⟨_, rfl, congrArg (Value.int .i64) (by first | (rw [vc3 (by omega) (by omega)]; first | exact cmB_1 (by assumption) | exact cmB_2 (by assumption) (by simp_all) | exact cmB_3 (by assumption) (by simp_all)) | (unfold vcmp; simp_all [orL, cmpZ, cmB]; done) | (unfold vcmp; simp_all [orL, cmpZ, cmB]; omega)), hS3.drop⟩
      ·
       have hc21b := hc21
       try simp only [decide_eq_true_eq, decide_eq_false_iff_not, Bool.not_eq_true', Bool.not_eq_false', Bool.and_eq_true, Bool.or_eq_true, Int.not_lt, Int.not_le, ne_eq, Decidable.not_not] at hc21
       refine wp_skip ?_
       refine hK4 _ _ ?_
       refine wp_seq_k (fun K23 hK23 => ?_)
       refine wp_region_lit ?_
       refine l_q rfl rfl (q_assignI rfl) ?_
       refine l_nil ?_
       refine hK23 _ _ ?_
       refine wp_ret ?_
       refine c_ret1 rfl rfl ?_
       exact ⟨_, rfl, congrArg (Value.int .i64) (by first | (rw [vc3 (by omega) (by omega)]; first | exact cmB_1 (by assumption) | exact cmB_2 (by assumption) (by simp_all) | exact cmB_3 (by assumption) (by simp_all)) | (unfold vcmp; simp_all [orL, cmpZ, cmB]; done) | (unfold vcmp; simp_all [orL, cmpZ, cmB]; omega)), hS3.drop⟩

attribute [local irreducible] toU enc encR rightB vcmp pB okc hashB hashF overN partN overI RwA PtA
set_option maxRecDepth 100000 in
theorem same_ok (L M : List Vl) (hL : VsOk L) (hM : VsOk M) (nl nm : Nat) (al am : Option Addr) (hnl : L.length = nl) (hnm : M.length = nm) (cl cm : Nat) (hLm : nl ≤ 9223372036854775807) (w : World) (hG : SlG (hw w) al (List.flatMap vl L)) (hGm : SlG (hw w) am (List.flatMap vl M)) : Calls Tryz.prog 33 #[.slice al nl cl, .slice am nm cm] w (PostR w fun v => v = .bool (decide (L = M))) := by
 have hS := St.start w
 subst hnl hnm
 refine c_enter Tryz.func33 rfl rfl rfl ?_
 refine wp_seq_k (fun K1 hK1 => ?_)
 refine wp_region_lit ?_
 refine l_q rfl rfl (q_assignB rfl) ?_
 refine l_nil ?_
 refine hK1 _ _ ?_
 refine wp_seq_k (fun K2 hK2 => ?_)
 refine wp_seq_k (fun K3 hK3 => ?_)
 refine wp_region_lit ?_
 refine l_q rfl rfl (q_moveS rfl) ?_
 refine l_q rfl rfl (q_lenSl (e := 59) rfl (by kernel_rfl)) ?_
 refine l_q rfl rfl (q_moveS rfl) ?_
 refine l_q rfl rfl (q_lenSl (e := 59) rfl (by kernel_rfl)) ?_
 refine l_q rfl rfl (q_neq rfl rfl) ?_
 refine l_nil ?_
 refine hK3 _ _ ?_
 refine c_cond rfl (fun hc4 => ?_) (fun hc4 => ?_)
 ·
  have hc4b := hc4
  try simp only [decide_eq_true_eq, decide_eq_false_iff_not, Bool.not_eq_true', Bool.not_eq_false', Bool.and_eq_true, Bool.or_eq_true, Int.not_lt, Int.not_le, ne_eq, Decidable.not_not] at hc4
  refine wp_seq_k (fun K5 hK5 => ?_)
  refine wp_region_lit ?_
  refine l_q rfl rfl (q_assignB rfl) ?_
  refine l_nil ?_
  refine hK5 _ _ ?_
  refine wp_ret ?_
  refine c_ret1 rfl rfl ?_
  exact ⟨_, rfl, congrArg Value.bool (decide_eq_false fun h => by have := congrArg List.length h; omega).symm, hS.drop⟩
 ·
  have hc4b := hc4
  try simp only [decide_eq_true_eq, decide_eq_false_iff_not, Bool.not_eq_true', Bool.not_eq_false', Bool.and_eq_true, Bool.or_eq_true, Int.not_lt, Int.not_le, ne_eq, Decidable.not_not] at hc4
  refine wp_skip ?_
  refine hK2 _ _ ?_
  refine wp_seq_k (fun K6 hK6 => ?_)
  refine wp_seq_k (fun K7 hK7 => ?_)
  refine wp_region_lit ?_
  refine l_q rfl rfl (q_assignI rfl) ?_
  refine l_nil ?_
  refine hK7 _ _ ?_
  refine wp_block ?_
  refine c_loop (τ := Nat) [(4, 5), (11, 25)] (fun x => (fun (i : Nat) => [(5, .int .i64 (i : Int))]) x) (fun x w' => (fun (i : Nat) => St w (fun _ => False) [] w' ∧ i ≤ L.length ∧ L.take i = M.take i) x) (fun x => (fun (i : Nat) => L.length - i) x) (0) ?_ (by repeat' (first | exact trivial | refine ⟨by first | rfl | exact int_succ _ | assumption, ?_⟩)) (fun i j8 w8 hJ8 K8 hK8 => ?_)
  ·
   exact ⟨hS, Nat.zero_le _, rfl⟩
  ·
   obtain ⟨hS8, hi, ht⟩ := hJ8
   try dsimp only at hS8 hi ht ⊢
   refine wp_seq_k (fun K9 hK9 => ?_)
   refine wp_seq_k (fun K10 hK10 => ?_)
   refine wp_region_lit ?_
   refine l_q rfl rfl (q_moveI rfl) ?_
   refine l_q rfl rfl (q_moveS rfl) ?_
   refine l_q rfl rfl (q_lenSl (e := 59) rfl (by kernel_rfl)) ?_
   refine l_q rfl rfl (q_lss rfl rfl) ?_
   refine l_nil ?_
   refine hK10 _ _ ?_
   refine c_cond rfl (fun hc11 => ?_) (fun hc11 => ?_)
   ·
    have hc11b := hc11
    try simp only [decide_eq_true_eq, decide_eq_false_iff_not, Bool.not_eq_true', Bool.not_eq_false', Bool.and_eq_true, Bool.or_eq_true, Int.not_lt, Int.not_le, ne_eq, Decidable.not_not] at hc11
    refine wp_skip ?_
    refine hK9 _ _ ?_
    refine wp_seq_k (fun K12 hK12 => ?_)
    refine wp_block ?_
    refine wp_seq_k (fun K13 hK13 => ?_)
    refine r_any (by kernel_rfl) hS8 (fun w14 hS14 => ?_)
    clear hS8
    refine o_pure (i := 0) (fun _ _ => trivial) rfl rfl (by kernel_rfl) (goes0 rfl) (QOk.then (QOk.inBlock (QOk.then (QOk.then (QOk.inBlock (QOk.then QOk.body)))))) (fun w => q_moveS rfl) ?_
    refine o_pure (i := 1) (fun _ _ => trivial) rfl rfl (by kernel_rfl) (goes0 rfl) (QOk.then (QOk.inBlock (QOk.then (QOk.then (QOk.inBlock (QOk.then QOk.body)))))) (fun w => q_moveI rfl) ?_
    refine o_pure (i := 2) (fun _ _ => trivial) rfl rfl (by kernel_rfl) (goes0 rfl) (QOk.then (QOk.inBlock (QOk.then (QOk.then (QOk.inBlock (QOk.then QOk.body)))))) (fun w => q_ixG (e := 59) (m := 3) (j := i) rfl rfl (by kernel_rfl) (by kernel_rfl) (by first | rfl | omega) (by omega) hG (by rw [rows_len (c := vl) (m := 3) (fun _ => rfl)]; first | omega | (simp only [lls] <;> omega))) ?_
    obtain ⟨x15, hx15⟩ : ∃ x, (L)[i]? = some x := ⟨_, List.getElem?_eq_getElem (by first | omega | (simp only [lls] <;> omega) | (simp <;> omega))⟩
    have hvb_x15 := (hL x15 (List.mem_of_getElem? hx15)).2
    refine o_held (i := 3) [8] (fun _ _ => trivial) rfl rfl (by kernel_rfl) (goes0 rfl) (QOk.then (QOk.inBlock (QOk.then (QOk.then (QOk.inBlock (QOk.then QOk.body)))))) (q_loadGA (m := 3) rfl (by kernel_rfl) (by kernel_rfl) (hG.mono hS14.base) (row_take hx15 (c := vl) (m := 3) (fun _ => rfl)) rfl (by decide)) ?_
    refine o_pure (i := 4) (fun j w => ⟨(fun _ _ => trivial) j w, fun _ h => h⟩) rfl rfl (by kernel_rfl) (goes0 rfl) (QOk.then (QOk.inBlock (QOk.then (QOk.then (QOk.inBlock (QOk.then QOk.body)))))) (fun w => q_moveS rfl) ?_
    refine o_pure (i := 5) (fun j w => ⟨(fun _ _ => trivial) j w, fun _ h => h⟩) rfl rfl (by kernel_rfl) (goes0 rfl) (QOk.then (QOk.inBlock (QOk.then (QOk.then (QOk.inBlock (QOk.then QOk.body)))))) (fun w => q_moveI rfl) ?_
    refine o_pure (i := 6) (fun j w => ⟨(fun _ _ => trivial) j w, fun _ h => h⟩) rfl rfl (by kernel_rfl) (goes0 rfl) (QOk.then (QOk.inBlock (QOk.then (QOk.then (QOk.inBlock (QOk.then QOk.body)))))) (fun w => q_ixG (e := 59) (m := 3) (j := i) rfl rfl (by kernel_rfl) (by kernel_rfl) (by first | rfl | omega) (by omega) hGm (by rw [rows_len (c := vl) (m := 3) (fun _ => rfl)]; first | omega | (simp only [lls] <;> omega))) ?_
    obtain ⟨x16, hx16⟩ : ∃ x, (M)[i]? = some x := ⟨_, List.getElem?_eq_getElem (by first | omega | (simp only [lls] <;> omega) | (simp <;> omega))⟩
    have hvb_x16 := (hM x16 (List.mem_of_getElem? hx16)).2
    refine o_held (i := 7) [8] (fun j w => ⟨(fun _ _ => trivial) j w, fun _ h => h⟩) rfl rfl (by kernel_rfl) (goes0 rfl) (QOk.then (QOk.inBlock (QOk.then (QOk.then (QOk.inBlock (QOk.then QOk.body)))))) (q_loadGA (m := 3) rfl (by kernel_rfl) (by kernel_rfl) (hGm.mono hS14.base) (row_take hx16 (c := vl) (m := 3) (fun _ => rfl)) rfl (by decide)) ?_
    refine o_pure (i := 8) (fun j w => ⟨(fun j w => ⟨(fun _ _ => trivial) j w, fun _ h => h⟩) j w, fun _ h => h⟩) rfl rfl (by kernel_rfl) (goes0 rfl) (QOk.then (QOk.inBlock (QOk.then (QOk.then (QOk.inBlock (QOk.then QOk.body)))))) (fun w => q_iis_neq (a := x15.1) (b := x15.2.1) (l := x15.2.2) (a' := x16.1) (b' := x16.2.1) (l' := x16.2.2) rfl rfl (by kernel_rfl) (hL x15 (List.mem_of_getElem? hx15)).1 (hM x16 (List.mem_of_getElem? hx16)).1) ?_
    refine o_done (by kernel_rfl) ?_
    refine hK13 _ _ ?_
    refine c_cond rfl (fun hc17 => ?_) (fun hc17 => ?_)
    ·
     have hc17b := hc17
     try simp only [decide_eq_true_eq, decide_eq_false_iff_not, Bool.not_eq_true', Bool.not_eq_false', Bool.and_eq_true, Bool.or_eq_true, Int.not_lt, Int.not_le, ne_eq, Decidable.not_not] at hc17
     refine wp_seq_k (fun K18 hK18 => ?_)
     refine wp_region_lit ?_
     refine l_q rfl rfl (q_assignB rfl) ?_
     refine l_nil ?_
     refine hK18 _ _ ?_
     refine wp_ret ?_
     refine c_ret1 rfl rfl ?_
     exact ⟨_, rfl, congrArg Value.bool (same_no hx15 hx16 (by first | exact hc17 | simpa using hc17)).symm, hS14.drop⟩
    ·
     have hc17b := hc17
     try simp only [decide_eq_true_eq, decide_eq_false_iff_not, Bool.not_eq_true', Bool.not_eq_false', Bool.and_eq_true, Bool.or_eq_true, Int.not_lt, Int.not_le, ne_eq, Decidable.not_not] at hc17
     refine wp_skip ?_
     refine hK12 _ _ ?_
     refine wp_region_lit ?_
     refine l_q rfl rfl (q_moveI rfl) ?_
     refine l_q rfl rfl (q_addx rfl rfl (by first | decide | omega) (by first | decide | omega)) ?_
     refine l_q rfl rfl (q_assignI rfl) ?_
     refine l_nil ?_
     refine hK8 _ _ (came ((i + 1)) (by repeat' (first | exact Agree.refl _ _ | refine Agree.up ?_ rfl | refine Agree.hav2 ?_ rfl | refine Agree.ups2 ?_ rfl)) (by repeat' (first | exact trivial | refine ⟨by first | rfl | exact int_succ _ | assumption, ?_⟩)) ?_)
     exact ⟨⟨hS14, (by show i + 1 ≤ L.length; omega), same_next ht hx15 hx16 (by first | exact hc17 | simpa using hc17)⟩, by (show L.length - (i + 1) < L.length - i); omega⟩
   ·
    have hc11b := hc11
    try simp only [decide_eq_true_eq, decide_eq_false_iff_not, Bool.not_eq_true', Bool.not_eq_false', Bool.and_eq_true, Bool.or_eq_true, Int.not_lt, Int.not_le, ne_eq, Decidable.not_not] at hc11
    refine wp_exit ?_
    refine hK6 _ _ ?_
    refine wp_seq_k (fun K19 hK19 => ?_)
    refine wp_region_lit ?_
    refine l_q rfl rfl (q_assignB rfl) ?_
    refine l_nil ?_
    refine hK19 _ _ ?_
    refine wp_ret ?_
    refine c_ret1 rfl rfl ?_
    exact ⟨_, rfl, congrArg Value.bool (same_yes ht (by omega) (by omega)).symm, hS8.drop⟩

set_option maxRecDepth 100000 in
theorem cloneC_ok (L : List Co) (n : Nat) (hn : L.length = n) (hm : n ≤ 2000000) (al : Option Addr) (cl : Nat) (w : World) (hG : SlG (hw w) al (List.flatMap cc L)) : Calls Tryz.prog 40 #[.slice al n cl] w (PostN w fun v G => ∃ ad cap, v = .slice ad n cap ∧ G = [.ow 47 3 ad n cap (List.flatMap cc L)]) := by
 have hS := St.start w
 have hL : True := trivial
 refine c_enter Tryz.func40 rfl rfl rfl ?_
 refine wp_seq_k (fun K1 hK1 => ?_)
 refine wp_region_lit ?_
 refine l_q rfl rfl (q_assignS rfl) ?_
 refine l_nil ?_
 refine hK1 _ _ ?_
 refine wp_seq_k (fun K2 hK2 => ?_)
 refine wp_seq_k (fun K3 hK3 => ?_)
 refine wp_region_lit ?_
 refine l_q rfl rfl (q_moveS rfl) ?_
 refine l_q rfl rfl (q_slice_eql 47 rfl rfl (by kernel_rfl)) ?_
 refine l_nil ?_
 refine hK3 _ _ ?_
 refine c_cond rfl (fun hc4 => ?_) (fun hc4 => ?_)
 ·
  have hc4b := hc4
  try simp only [decide_eq_true_eq, decide_eq_false_iff_not, Bool.not_eq_true', Bool.not_eq_false', Bool.and_eq_true, Bool.or_eq_true, Int.not_lt, Int.not_le, ne_eq, Decidable.not_not] at hc4
  have ha := hc4
  obtain rfl : al = none := by cases al with | none => rfl | some a => cases ha
  obtain rfl : L = [] := by
   have h0 := SlG.ofNone hG
   cases L with
   | nil => rfl
   | cons v L => cases h0
  subst hn
  refine wp_seq_k (fun K5 hK5 => ?_)
  refine wp_region_lit ?_
  refine l_q rfl rfl (q_assignS rfl) ?_
  refine l_nil ?_
  refine hK5 _ _ ?_
  refine wp_ret ?_
  refine c_ret1 rfl rfl ?_
  exact ⟨_, _, rfl, ⟨_, _, rfl, rfl⟩, hS.ow_nil _ _⟩
 ·
  have hc4b := hc4
  try simp only [decide_eq_true_eq, decide_eq_false_iff_not, Bool.not_eq_true', Bool.not_eq_false', Bool.and_eq_true, Bool.or_eq_true, Int.not_lt, Int.not_le, ne_eq, Decidable.not_not] at hc4
  refine wp_skip ?_
  refine hK2 _ _ ?_
  refine wp_seq_k (fun K6 hK6 => ?_)
  refine wp_region_lit ?_
  refine l_e rfl (fun K hK => ?_)
  refine e_buildSlice0 (e := 47) (m := 3) hS (by kernel_rfl) (by kernel_rfl) (fun b7 w7 (hS7 : St _ _ [.blk b7 (.cells #[] 47)] _) => ?_)
  clear hS
  have hS7o : St _ _ [.ow 47 3 (some ⟨b7, 0, none⟩) 0 0 (List.flatMap cc [])] _ := hS7.blkOw' (i := 0) (m := 0) (size := 3) (xs := List.flatMap cc []) rfl rfl rfl (by decide); clear hS7
  refine hK _ _ ?_; clear hK K
  refine l_q rfl rfl (q_moveS rfl) ?_
  refine l_e rfl (fun K hK => ?_)
  refine e_app (e := 47) (size := 3) (bytes := 32) (i := 0) (m' := n) (by kernel_rfl) hS7o rfl rfl rfl (SlG.src (e := 47) (by kernel_rfl) (hG.mono hS7o.base) ((rows_len (c := cc) (m := 3) (fun _ => rfl) _).trans (by first | rfl | (simp only [lls]; done) | (simp only [lls]; omega) | omega)) (by decide) (rows_one cc_ones)) (by first | omega | (simp only [lls] <;> omega) | (simp; done)) rfl (by first | omega | (simp only [maxLen, lls] <;> omega) | (simp only [maxLen]; omega)) (by first | omega | (simp only [lls] <;> omega)) (fun ad8 cp8 w8 (hS8 : St _ _ [.ow 47 3 ad8 n cp8 (List.flatMap cc L)] _) => ?_)
  clear hS7o
  refine hK _ _ ?_; clear hK K
  refine l_q rfl rfl (q_assignS rfl) ?_
  refine l_nil ?_
  refine hK6 _ _ ?_
  refine wp_ret ?_
  refine c_ret1 rfl rfl ?_
  exact ⟨_, _, rfl, ⟨_, _, rfl, rfl⟩, hS8⟩

theorem cright_yes (t : Tb) (htn : Bytes t.nm) (htc : CsOk t.cs) (htb : VsOk t.bd) (nc nb : Nat) (hnc : t.cs.length = nc) (hnb : t.bd.length = nb) (hmc : nc ≤ 2000000) (hmb : nb ≤ 2000000) (hRt : RtP t) (ca ba : Option Addr) (cca cba : Nat) (w : World) (hCG : SlG (hw w) ca (List.flatMap cc t.cs)) (hBG : SlG (hw w) ba (List.flatMap vl t.bd)) (hcl : nc ≤ cca) : Calls Tryz.prog 17 #[.agg #[.string (bs t.nm), .slice ca nc cca, .int .i64 t.key, .int .i64 t.pt, .slice ba nb cba]] w (PostN w fun v G => v = .nilIface ∧ G = []) :=
 (cright_ok t htn htc htb nc nb hnc hnb hmc hmb ca ba cca cba hcl w hCG hBG).mono fun _ w' ⟨v, G, he, hP, hS⟩ => ⟨v, G, he, (cright_split hP).1 hRt, hS⟩
theorem cright_no (t : Tb) (htn : Bytes t.nm) (htc : CsOk t.cs) (htb : VsOk t.bd) (nc nb : Nat) (hnc : t.cs.length = nc) (hnb : t.bd.length = nb) (hmc : nc ≤ 2000000) (hmb : nb ≤ 2000000) (hRt : ¬RtP t) (ca ba : Option Addr) (cca cba : Nat) (w : World) (hCG : SlG (hw w) ca (List.flatMap cc t.cs)) (hBG : SlG (hw w) ba (List.flatMap vl t.bd)) (hcl : nc ≤ cca) : Calls Tryz.prog 17 #[.agg #[.string (bs t.nm), .slice ca nc cca, .int .i64 t.key, .int .i64 t.pt, .slice ba nb cba]] w (PostN w fun v G => ∃ p b, RtA t 182 p ∧ v = fV b ∧ G = [.blk b (fO 182 p .nilIface)]) :=
 (cright_ok t htn htc htb nc nb hnc hnb hmc hmb ca ba cca cba hcl w hCG hBG).mono fun _ w' ⟨v, G, he, hP, hS⟩ => ⟨v, G, he, (cright_split hP).2 hRt, hS⟩

set_option maxRecDepth 100000 in
theorem copied_ok (t : Tb) (htn : Bytes t.nm) (htc : CsOk t.cs) (htb : VsOk t.bd) (nc nb : Nat) (hnc : t.cs.length = nc) (hnb : t.bd.length = nb) (hmc : nc ≤ 2000000) (hmb : nb ≤ 2000000) (ca ba : Option Addr) (cca cba : Nat) (w : World) (hCG : SlG (hw w) ca (List.flatMap cc t.cs)) (hBG : SlG (hw w) ba (List.flatMap vl t.bd)) : Calls Tryz.prog 19 #[.agg #[.string (bs t.nm), .slice ca nc cca, .int .i64 t.key, .int .i64 t.pt, .slice ba nb cba]] w (PostN w fun v G => ∃ xa xc ya yc, v = .agg #[.string (bs t.nm), .slice xa nc xc, .int .i64 t.key, .int .i64 t.pt, .slice ya nb yc] ∧ G = [.ow 47 3 xa nc xc (List.flatMap cc t.cs), .ow 59 3 ya nb yc (List.flatMap vl t.bd)]) := by
 have hS := St.start w
 subst hnc hnb
 refine c_enter Tryz.func19 rfl rfl rfl ?_
 refine wp_seq_k (fun K1 hK1 => ?_)
 refine wp_region_lit ?_
 refine l_e rfl (fun K hK => ?_)
 refine e_boxA hS rfl (fun b2 w2 (hS2 : St _ _ [.blk b2 (.cells #[.string (bs t.nm), .slice ca t.cs.length cca, .int .i64 t.key, .int .i64 t.pt, .slice ba t.bd.length cba] 25)] _) => ?_)
 clear hS
 refine hK _ _ ?_; clear hK K
 refine l_e rfl (fun K hK => ?_)
 refine e_alloc (zv := .agg #[.string ⟨#[]⟩, .slice none 0 0, .int .i64 0, .int .i64 0, .slice none 0 0]) hS2 (by kernel_rfl) (fun b3 w3 (hS3 : St _ _ [.blk b3 (.cells #[.string (bs []), .slice none 0 0, .int .i64 (0 : Int), .int .i64 (0 : Int), .slice none 0 0] 25), _] _) => ?_)
 clear hS2
 refine hK _ _ ?_; clear hK K
 refine l_nil ?_
 refine hK1 _ _ ?_
 refine wp_seq_k (fun K4 hK4 => ?_)
 refine r_any (by kernel_rfl) hS3 (fun w5 hS5 => ?_)
 clear hS3
 refine o_pure (i := 0) (fun _ _ => trivial) rfl rfl (by kernel_rfl) (goes0 rfl) (QOk.then QOk.body) (fun w => q_fieldAddr (ft := 22) (o := 1) rfl (by kernel_rfl)) ?_
 refine o_held (i := 1) [2, 5, 6, 7, 8, 9] (fun _ _ => trivial) rfl rfl (by kernel_rfl) (goes0 rfl) (QOk.then QOk.body) (q_load1 rfl (by kernel_rfl) (hS5.cell (i := 1) rfl rfl)) ?_
 refine o_pure (i := 3) (fun j w => ⟨(fun _ _ => trivial) j w, fun _ h => h⟩) rfl rfl (by kernel_rfl) (goes0 rfl) (QOk.then QOk.body) (fun w => q_fieldAddr (ft := 23) (o := 4) rfl (by kernel_rfl)) ?_
 refine o_held (i := 4) [5, 6, 7, 8, 9] (fun j w => ⟨(fun _ _ => trivial) j w, fun _ h => h⟩) rfl rfl (by kernel_rfl) (goes0 rfl) (QOk.then QOk.body) (q_load1 rfl (by kernel_rfl) (hS5.cell (i := 1) rfl rfl)) ?_
 refine o_eff (i := 2) (by kernel_rfl) rfl (goes0 rfl) (fun K hK => ?_)
 refine e_call (by kernel_rfl) (cloneC_ok t.cs t.cs.length (by first | omega | (simp only [lls] <;> omega)) (by first | omega | (simp only [lls] <;> omega)) _ _ _ (hCG.mono hS5.base)) rfl (after_N hS5 (fun v6 G6 w6 hv6 hS6 => ?_))
 clear hS5
 obtain ⟨ad6, cp6, rfl, rfl⟩ := hv6
 have hS7 : St _ _ [.ow 47 3 ad6 t.cs.length cp6 (List.flatMap cc t.cs), _, _] _ := hS6; clear hS6
 refine hK _ _ ⟨⟨trivial, fun h => absurd h (by decide)⟩, fun _ _ => by first | exact q_load1 rfl (by kernel_rfl) (hS7.cell (i := 2) rfl rfl)⟩ ?_; clear hK K
 refine o_pure (i := 6) (fun j w => ⟨(fun j w => ⟨(fun _ _ => trivial) j w, fun _ h => h⟩) j w, fun _ h => h⟩) rfl rfl (by kernel_rfl) (goes0 rfl) (QOk.then QOk.body) (fun w => q_fieldAddr (ft := 22) (o := 1) rfl (by kernel_rfl)) ?_
 refine o_eff (i := 5) (by kernel_rfl) rfl (goes0 rfl) (fun K hK => ?_)
 refine e_call (by kernel_rfl) (cloneV_ok t.bd t.bd.length (by first | omega | (simp only [lls] <;> omega)) (by first | omega | (simp only [lls] <;> omega)) _ _ _ (hBG.mono hS7.base)) rfl (after_N hS7 (fun v8 G8 w8 hv8 hS8 => ?_))
 clear hS7
 obtain ⟨ad8, cp8, rfl, rfl⟩ := hv8
 have hS9 : St _ _ [.ow 59 3 ad8 t.bd.length cp8 (List.flatMap vl t.bd), _, _, _] _ := hS8; clear hS8
 refine hK _ _ ⟨⟨trivial, fun h => absurd h (by decide)⟩, fun h => absurd h (by decide)⟩ ?_; clear hK K
 refine o_eff (i := 7) (by kernel_rfl) rfl (goes0 rfl) (fun K hK => ?_)
 refine e_store1 hS9 rfl rfl (by kernel_rfl) (by first | rfl | assumption) (i := 3) rfl rfl (fun w10 (hS10 : St _ _ [_, _, _, .blk b2 (.cells #[.string (bs t.nm), .slice ad6 t.cs.length cp6, .int .i64 t.key, .int .i64 t.pt, .slice ba t.bd.length cba] 25)] _) => ?_)
 clear hS9
 refine hK _ _ ⟨⟨trivial, fun h => absurd h (by decide)⟩, fun h => absurd h (by decide)⟩ ?_; clear hK K
 refine o_pure (i := 8) (fun j w => ⟨(fun j w => ⟨(fun _ _ => trivial) j w, fun _ h => h⟩) j w, fun _ h => h⟩) rfl rfl (by kernel_rfl) (goes0 rfl) (QOk.then QOk.body) (fun w => q_fieldAddr (ft := 23) (o := 4) rfl (by kernel_rfl)) ?_
 refine o_eff (i := 9) (by kernel_rfl) rfl (goes0 rfl) (fun K hK => ?_)
 refine e_store1 hS10 rfl rfl (by kernel_rfl) (by first | rfl | assumption) (i := 3) rfl rfl (fun w11 (hS11 : St _ _ [_, _, _, .blk b2 (.cells #[.string (bs t.nm), .slice ad6 t.cs.length cp6, .int .i64 t.key, .int .i64 t.pt, .slice ad8 t.bd.length cp8] 25)] _) => ?_)
 clear hS10
 refine hK _ _ ⟨⟨trivial, fun h => absurd h (by decide)⟩, fun h => absurd h (by decide)⟩ ?_; clear hK K
 refine o_done (by kernel_rfl) ?_
 refine hK4 _ _ ?_
 refine wp_seq_k (fun K12 hK12 => ?_)
 refine wp_region_lit ?_
 refine l_q rfl rfl (q_loadA (m := 5) rfl (by kernel_rfl) (by kernel_rfl) (hS11.blk (i := 3) rfl) rfl rfl) ?_
 refine l_e rfl (fun K hK => ?_)
 refine e_storeA hS11 rfl rfl (by kernel_rfl) (by repeat' (first | exact trivial | refine ⟨by first | rfl | assumption | exact one_if (by assumption), ?_⟩)) (i := 2) rfl rfl (fun w13 (hS13 : St _ _ [_, _, .blk b3 (.cells #[.string (bs t.nm), .slice ad6 t.cs.length cp6, .int .i64 t.key, .int .i64 t.pt, .slice ad8 t.bd.length cp8] 25), _] _) => ?_)
 clear hS11
 refine hK _ _ ?_; clear hK K
 refine l_nil ?_
 refine hK12 _ _ ?_
 refine wp_ret ?_
 refine c_retC (m := 5) rfl (by kernel_rfl) (by kernel_rfl) rfl (by first | exact hS13.blk (i := 0) rfl | exact hS13.blk (i := 1) rfl | exact hS13.blk (i := 2) rfl | exact hS13.blk (i := 3) rfl | exact hS13.blk (i := 4) rfl) rfl ?_
 have hS14 := hS13.fr1; clear hS13
 have hS15 : St _ _ [_, _] _ := hS14.only 2; clear hS14
 exact ⟨_, _, rfl, ⟨ad6, cp6, ad8, cp8, rfl, rfl⟩, hS15⟩

set_option maxRecDepth 100000 in
theorem cnew_ok (w : World) : Calls Tryz.prog 11 #[] w (PostN w fun v G => ∃ k mb, v = pV k ∧ G = [.blk k (.cells #[.map (some mb)] 56), .mp .string mb []]) := by
 have hS := St.start w
 refine c_enter Tryz.func11 rfl rfl rfl ?_
 refine wp_seq_k (fun K1 hK1 => ?_)
 refine wp_region_lit ?_
 refine l_q rfl rfl (q_assignP rfl) ?_
 refine l_nil ?_
 refine hK1 _ _ ?_
 refine wp_seq_k (fun K2 hK2 => ?_)
 refine wp_region_lit ?_
 refine l_e rfl (fun K hK => ?_)
 refine e_makeMap hS .string (fun m3 w3 (hS3 : St _ _ [.mp .string m3 []] _) => ?_)
 clear hS
 refine hK _ _ ?_; clear hK K
 refine l_q rfl rfl (q_build (ps := [(0, 1)]) (zv := .agg #[.map none]) (by kernel_rfl) (by kernel_rfl) rfl (by repeat' (first | exact trivial | refine ⟨fun _ => by first | rfl | assumption | exact one_if (by assumption), ?_⟩ | refine ⟨fun ⟨_, h⟩ => by simp at h, ?_⟩)) rfl) ?_
 refine l_e rfl (fun K hK => ?_)
 refine e_boxA hS3 rfl (fun b4 w4 (hS4 : St _ _ [.blk b4 (.cells #[.map (some m3)] 56), _] _) => ?_)
 clear hS3
 refine hK _ _ ?_; clear hK K
 refine l_q rfl rfl (q_assignP rfl) ?_
 refine l_nil ?_
 refine hK2 _ _ ?_
 refine wp_ret ?_
 refine c_ret1 rfl rfl ?_
 exact ⟨_, _, rfl, ⟨_, _, rfl, rfl⟩, hS4⟩

set_option maxRecDepth 100000 in
theorem cadd_ok (k mb : Nat) (t : Tb) (htn : Bytes t.nm) (htc : CsOk t.cs) (htb : VsOk t.bd) (nc nb : Nat) (hnc : t.cs.length = nc) (hnb : t.bd.length = nb) (hmc : nc ≤ 2000000) (hmb : nb ≤ 2000000) (hRt : RtP t) (ca ba : Option Addr) (cca cba : Nat) (hcl : nc ≤ cca) (w : World) (g1 g2 : Gh) (hg1 : Rog [.blk k (.cells #[.map (some mb)] 56), .mp .string mb []] w g1) (hg2 : Rog [.blk k (.cells #[.map (some mb)] 56), .mp .string mb []] w g2) (hCG : SlG g1 ca (List.flatMap cc t.cs)) (hBG : SlG g2 ba (List.flatMap vl t.bd)) (hS : St w (owns [.blk k (.cells #[.map (some mb)] 56), .mp .string mb []]) [.blk k (.cells #[.map (some mb)] 56), .mp .string mb []] w) : Calls Tryz.prog 5 #[pV k, .agg #[.string (bs t.nm), .slice ca nc cca, .int .i64 t.key, .int .i64 t.pt, .slice ba nb cba]] w (Post w [.blk k (.cells #[.map (some mb)] 56), .mp .string mb []] fun v G => v = .nilIface ∧ ∃ l', G = [.blk k (.cells #[.map (some mb)] 56), .mp .string mb l']) := by
 subst hnc hnb
 refine c_enter Tryz.func5 rfl rfl rfl ?_
 refine wp_seq_k (fun K1 hK1 => ?_)
 refine wp_region_lit ?_
 refine l_e rfl (fun K hK => ?_)
 refine e_boxA hS rfl (fun b2 w2 (hS2 : St _ _ [.blk b2 (.cells #[.string (bs t.nm), .slice ca t.cs.length cca, .int .i64 t.key, .int .i64 t.pt, .slice ba t.bd.length cba] 25), .blk k (.cells #[.map (some mb)] 56), .mp .string mb []] _) => ?_)
 clear hS
 refine hK _ _ ?_; clear hK K
 refine l_q rfl rfl (q_assign rfl) ?_
 refine l_nil ?_
 refine hK1 _ _ ?_
 refine wp_seq_k (fun K3 hK3 => ?_)
 refine wp_seq_k (fun K4 hK4 => ?_)
 refine wp_region_lit ?_
 refine l_q rfl rfl (q_moveP rfl) ?_
 refine l_q rfl rfl (q_peq rfl (by kernel_rfl)) ?_
 refine l_nil ?_
 refine hK4 _ _ ?_
 refine c_condF rfl rfl ?_
 refine wp_skip ?_
 refine hK3 _ _ ?_
 refine wp_seq_k (fun K6 hK6 => ?_)
 refine wp_seq_k (fun K7 hK7 => ?_)
 refine wp_region_lit ?_
 refine l_q rfl rfl (q_loadA (m := 5) rfl (by kernel_rfl) (by kernel_rfl) (hS2.blk (i := 0) rfl) rfl rfl) ?_
 refine l_e rfl (fun K hK => ?_)
 refine e_call (by kernel_rfl) (cright_yes t htn htc htb t.cs.length t.bd.length (by first | omega | (simp only [lls] <;> omega)) (by first | omega | (simp only [lls] <;> omega)) (by first | omega | (simp only [lls] <;> omega)) (by first | omega | (simp only [lls] <;> omega)) hRt _ _ _ _ _ (hCG.mono (hg1.le hS2)) (hBG.mono (hg2.le hS2)) (by first | omega | assumption)) rfl (after_N hS2 (fun v8 G8 w8 hv8 hS8 => ?_))
 clear hS2
 obtain ⟨rfl, rfl⟩ := hv8
 have hS9 : St _ _ [_, _, _] _ := hS8; clear hS8
 refine hK _ _ ?_; clear hK K
 refine l_q rfl rfl (q_assign rfl) ?_
 refine l_nil ?_
 refine hK7 _ _ ?_
 refine wp_seq_k (fun K10 hK10 => ?_)
 refine wp_region_lit ?_
 refine l_q rfl rfl (q_move rfl) ?_
 refine l_q rfl rfl (q_ine1 rfl (by kernel_rfl)) ?_
 refine l_nil ?_
 refine hK10 _ _ ?_
 refine c_condF rfl rfl ?_
 refine wp_skip ?_
 refine hK6 _ _ ?_
 refine wp_seq_k (fun K12 hK12 => ?_)
 refine wp_seq_k (fun K13 hK13 => ?_)
 refine r_any (by kernel_rfl) hS9 (fun w14 hS14 => ?_)
 clear hS9
 refine o_pure (i := 0) (fun _ _ => trivial) rfl rfl (by kernel_rfl) (goes0 rfl) (QOk.then (QOk.then QOk.body)) (fun w => q_moveP rfl) ?_
 refine o_pure (i := 1) (fun _ _ => trivial) rfl rfl (by kernel_rfl) (goes0 rfl) (QOk.then (QOk.then QOk.body)) (fun w => q_nilCheck rfl) ?_
 refine o_pure (i := 2) (fun _ _ => trivial) rfl rfl (by kernel_rfl) (goes0 rfl) (QOk.then (QOk.then QOk.body)) (fun w => q_fieldAddr (ft := 54) (o := 0) rfl (by kernel_rfl)) ?_
 refine o_held (i := 3) [6, 7, 8, 9, 11, 12] (fun _ _ => trivial) rfl rfl (by kernel_rfl) (goes0 rfl) (QOk.then (QOk.then QOk.body)) (q_load1 rfl (by kernel_rfl) (hS14.cell (i := 1) rfl rfl)) ?_
 refine o_pure (i := 4) (fun j w => ⟨(fun _ _ => trivial) j w, fun _ h => h⟩) rfl rfl (by kernel_rfl) (goes0 rfl) (QOk.then (QOk.then QOk.body)) (fun w => q_fieldAddr (ft := 9) (o := 0) rfl (by kernel_rfl)) ?_
 refine o_held (i := 5) [6, 7, 8, 9, 11, 12] (fun j w => ⟨(fun _ _ => trivial) j w, fun _ h => h⟩) rfl rfl (by kernel_rfl) (goes0 rfl) (QOk.then (QOk.then QOk.body)) (q_load1 rfl (by kernel_rfl) (hS14.cell (i := 0) rfl rfl)) ?_
 refine o_held (i := 6) [7, 8, 9, 11, 12] (fun j w => ⟨(fun j w => ⟨(fun _ _ => trivial) j w, fun _ h => h⟩) j w, fun _ h => h⟩) rfl rfl (by kernel_rfl) (goes0 rfl) (QOk.then (QOk.then QOk.body)) (q_lookMiss (zv := .agg #[.string ⟨#[]⟩, .slice none 0 0, .int .i64 0, .int .i64 0, .slice none 0 0]) rfl rfl (by kernel_rfl) (by first | rfl | trivial) (hS14.map (i := 2) rfl) (fun q h => by cases h)) ?_
 refine o_pure (i := 7) (fun j w => ⟨(fun j w => ⟨(fun j w => ⟨(fun _ _ => trivial) j w, fun _ h => h⟩) j w, fun _ h => h⟩) j w, fun _ h => h⟩) rfl rfl (by kernel_rfl) (goes0 rfl) (QOk.then (QOk.then QOk.body)) (fun w => q_move rfl) ?_
 refine o_pure (i := 8) (fun j w => ⟨(fun j w => ⟨(fun j w => ⟨(fun _ _ => trivial) j w, fun _ h => h⟩) j w, fun _ h => h⟩) j w, fun _ h => h⟩) rfl rfl (by kernel_rfl) (goes0 rfl) (QOk.then (QOk.then QOk.body)) (fun w => q_extract rfl rfl) ?_
 refine o_pure (i := 9) (fun j w => ⟨(fun j w => ⟨(fun j w => ⟨(fun _ _ => trivial) j w, fun _ h => h⟩) j w, fun _ h => h⟩) j w, fun _ h => h⟩) rfl rfl (by kernel_rfl) (goes0 rfl) (QOk.then (QOk.then QOk.body)) (fun w => q_extract rfl rfl) ?_
 refine o_eff (i := 10) (by kernel_rfl) rfl (goes0 rfl) (fun K hK => ?_)
 refine e_alloc (zv := .agg #[.string ⟨#[]⟩, .slice none 0 0, .int .i64 0, .int .i64 0, .slice none 0 0]) hS14 (by kernel_rfl) (fun b15 w15 (hS15 : St _ _ [.blk b15 (.cells #[.string (bs []), .slice none 0 0, .int .i64 (0 : Int), .int .i64 (0 : Int), .slice none 0 0] 25), _, _, _] _) => ?_)
 clear hS14
 refine hK _ _ ⟨⟨⟨trivial, fun _ _ => by first | exact q_load1 rfl (by kernel_rfl) (hS15.cell (i := 2) rfl rfl)⟩, fun _ _ => by first | exact q_load1 rfl (by kernel_rfl) (hS15.cell (i := 1) rfl rfl)⟩, fun _ _ => by first | exact q_lookMiss (zv := .agg #[.string ⟨#[]⟩, .slice none 0 0, .int .i64 0, .int .i64 0, .slice none 0 0]) rfl rfl (by kernel_rfl) (by first | rfl | trivial) (hS15.map (i := 3) rfl) (fun q h => by cases h)⟩ ?_; clear hK K
 refine o_eff (i := 11) (by kernel_rfl) rfl (goes0 rfl) (fun K hK => ?_)
 refine e_storeA hS15 rfl rfl (by kernel_rfl) (by repeat' (first | exact trivial | refine ⟨by first | rfl | assumption | exact one_if (by assumption), ?_⟩)) (i := 0) rfl rfl (fun w16 (hS16 : St _ _ [_, _, _, _] _) => ?_)
 clear hS15
 refine hK _ _ ⟨⟨⟨trivial, fun h => absurd h (by decide)⟩, fun h => absurd h (by decide)⟩, fun h => absurd h (by decide)⟩ ?_; clear hK K
 refine o_pure (i := 12) (fun j w => ⟨(fun j w => ⟨(fun j w => ⟨(fun _ _ => trivial) j w, fun _ h => h⟩) j w, fun _ h => h⟩) j w, fun _ h => h⟩) rfl rfl (by kernel_rfl) (goes0 rfl) (QOk.then (QOk.then QOk.body)) (fun w => q_assignB rfl) ?_
 refine o_done (by kernel_rfl) ?_
 refine hK13 _ _ ?_
 refine wp_seq_k (fun K17 hK17 => ?_)
 refine wp_region_lit ?_
 refine l_q rfl rfl (q_moveB rfl) ?_
 refine l_nil ?_
 refine hK17 _ _ ?_
 refine c_condF rfl rfl ?_
 refine wp_skip ?_
 refine hK12 _ _ ?_
 refine wp_seq_k (fun K19 hK19 => ?_)
 refine wp_seq_k (fun K20 hK20 => ?_)
 refine wp_region_lit ?_
 refine l_q rfl rfl (q_moveP rfl) ?_
 refine l_q rfl rfl (q_nilCheck rfl) ?_
 refine l_q rfl rfl (q_fieldAddr (ft := 54) (o := 0) rfl (by kernel_rfl)) ?_
 refine l_q rfl rfl (q_load1 rfl (by kernel_rfl) (hS16.cell (i := 2) rfl rfl)) ?_
 refine l_q rfl rfl (q_lenMap (zv := .agg #[.string ⟨#[]⟩, .slice none 0 0, .int .i64 0, .int .i64 0, .slice none 0 0]) rfl (by kernel_rfl) (hS16.map (i := 3) rfl)) ?_
 refine l_q rfl rfl (q_geq rfl rfl) ?_
 refine l_nil ?_
 refine hK20 _ _ ?_
 refine c_condF rfl (by decide) ?_
 refine wp_skip ?_
 refine hK19 _ _ ?_
 refine wp_seq_k (fun K22 hK22 => ?_)
 refine r_any (by kernel_rfl) hS16 (fun w23 hS23 => ?_)
 clear hS16
 refine o_pure (i := 0) (fun _ _ => trivial) rfl rfl (by kernel_rfl) (goes0 rfl) (QOk.then QOk.body) (fun w => q_moveP rfl) ?_
 refine o_pure (i := 1) (fun _ _ => trivial) rfl rfl (by kernel_rfl) (goes0 rfl) (QOk.then QOk.body) (fun w => q_nilCheck rfl) ?_
 refine o_pure (i := 2) (fun _ _ => trivial) rfl rfl (by kernel_rfl) (goes0 rfl) (QOk.then QOk.body) (fun w => q_fieldAddr (ft := 54) (o := 0) rfl (by kernel_rfl)) ?_
 refine o_held (i := 3) [8] (fun _ _ => trivial) rfl rfl (by kernel_rfl) (goes0 rfl) (QOk.then QOk.body) (q_load1 rfl (by kernel_rfl) (hS23.cell (i := 2) rfl rfl)) ?_
 refine o_pure (i := 4) (fun j w => ⟨(fun _ _ => trivial) j w, fun _ h => h⟩) rfl rfl (by kernel_rfl) (goes0 rfl) (QOk.then QOk.body) (fun w => q_fieldAddr (ft := 9) (o := 0) rfl (by kernel_rfl)) ?_
 refine o_held (i := 5) [8] (fun j w => ⟨(fun _ _ => trivial) j w, fun _ h => h⟩) rfl rfl (by kernel_rfl) (goes0 rfl) (QOk.then QOk.body) (q_load1 rfl (by kernel_rfl) (hS23.cell (i := 1) rfl rfl)) ?_
 refine o_held (i := 6) [7, 8] (fun j w => ⟨(fun j w => ⟨(fun _ _ => trivial) j w, fun _ h => h⟩) j w, fun _ h => h⟩) rfl rfl (by kernel_rfl) (goes0 rfl) (QOk.then QOk.body) (q_loadA (m := 5) rfl (by kernel_rfl) (by kernel_rfl) (hS23.blk (i := 1) rfl) rfl rfl) ?_
 refine o_eff (i := 7) (by kernel_rfl) rfl (goes0 rfl) (fun K hK => ?_)
 refine e_call (by kernel_rfl) (copied_ok t htn htc htb t.cs.length t.bd.length (by first | omega | (simp only [lls] <;> omega)) (by first | omega | (simp only [lls] <;> omega)) (by first | omega | (simp only [lls] <;> omega)) (by first | omega | (simp only [lls] <;> omega)) _ _ _ _ _ (hCG.mono (hg1.le hS23)) (hBG.mono (hg2.le hS23))) rfl (after_N hS23 (fun v24 G24 w24 hv24 hS24 => ?_))
 clear hS23
 obtain ⟨xa24, xc24, ya24, yc24, rfl, rfl⟩ := hv24
 have hS25 : St _ _ [.ow 47 3 xa24 t.cs.length xc24 (List.flatMap cc t.cs), .ow 59 3 ya24 t.bd.length yc24 (List.flatMap vl t.bd), _, _, _, _] _ := hS24; clear hS24
 refine hK _ _ ⟨⟨⟨trivial, fun _ _ => by first | exact q_load1 rfl (by kernel_rfl) (hS25.cell (i := 4) rfl rfl)⟩, fun _ _ => by first | exact q_load1 rfl (by kernel_rfl) (hS25.cell (i := 3) rfl rfl)⟩, fun h => absurd h (by decide)⟩ ?_; clear hK K
 refine o_eff (i := 8) (by kernel_rfl) rfl (goes0 rfl) (fun K hK => ?_)
 refine e_mapUp (zv := .agg #[.string ⟨#[]⟩, .slice none 0 0, .int .i64 0, .int .i64 0, .slice none 0 0]) hS25 rfl rfl rfl (by kernel_rfl) (by first | rfl | trivial) (i := 5) rfl mp_first (fun w26 (hS26 : St _ _ [_, _, _, _, _, .mp .string mb [(.string (bs t.nm), .agg #[.string (bs t.nm), .slice xa24 t.cs.length xc24, .int .i64 t.key, .int .i64 t.pt, .slice ya24 t.bd.length yc24])]] _) => ?_)
 clear hS25
 refine hK _ _ ⟨⟨⟨trivial, fun h => absurd h (by decide)⟩, fun h => absurd h (by decide)⟩, fun h => absurd h (by decide)⟩ ?_; clear hK K
 refine o_done (by kernel_rfl) ?_
 refine hK22 _ _ ?_
 refine wp_seq_k (fun K27 hK27 => ?_)
 refine wp_region_lit ?_
 refine l_q rfl rfl (q_assign rfl) ?_
 refine l_nil ?_
 refine hK27 _ _ ?_
 refine wp_ret ?_
 refine c_ret1 rfl rfl ?_
 have hS28 := hS26.fr5; clear hS26
 have hS29 := hS28.fr5; clear hS28
 have hS30 : St _ _ [_, _] _ := hS29.only 2; clear hS29
 exact ⟨_, _, rfl, ⟨rfl, _, rfl⟩, hS30⟩

set_option maxRecDepth 100000 in
theorem alive18_ok (w : World) : Calls Tryz.prog 7 #[] w (PostR w fun v => v = .bool true) := by
 have hS := St.start w
 refine c_enter Tryz.func7 rfl rfl rfl ?_
 refine wp_seq_k (fun K1 hK1 => ?_)
 refine wp_region_lit ?_
 refine l_q rfl rfl (q_assignB rfl) ?_
 refine l_nil ?_
 refine hK1 _ _ ?_
 refine wp_seq_k (fun K2 hK2 => ?_)
 refine wp_region_lit ?_
 refine l_e rfl (fun K hK => ?_)
 refine e_call (by kernel_rfl) (cnew_ok _) rfl (after_N hS (fun v3 G3 w3 hv3 hS3 => ?_))
 clear hS
 obtain ⟨k3, mb3, rfl, rfl⟩ := hv3
 have hS4 : St _ _ [.blk k3 (.cells #[.map (some mb3)] 56), .mp .string mb3 []] _ := hS3; clear hS3
 refine hK _ _ ?_; clear hK K
 refine l_q rfl rfl (q_assignP rfl) ?_
 refine l_nil ?_
 refine hK2 _ _ ?_
 refine wp_seq_k (fun K5 hK5 => ?_)
 refine wp_region_lit ?_
 refine l_q rfl rfl (q_build (ps := [(0, 1), (1, 1), (2, 1)]) (zv := .agg #[.string ⟨#[]⟩, .int .i64 0, .bool false]) (by kernel_rfl) (by kernel_rfl) rfl (by repeat' (first | exact trivial | refine ⟨fun _ => by first | rfl | assumption | exact one_if (by assumption), ?_⟩ | refine ⟨fun ⟨_, h⟩ => by simp at h, ?_⟩)) rfl) ?_
 refine l_e rfl (fun K hK => ?_)
 refine e_buildSliceA (e := 47) (m := 3) (zv := .agg #[.string ⟨#[]⟩, .int .i64 0, .bool false]) hS4 (by kernel_rfl) (by kernel_rfl) (by kernel_rfl) rfl rfl rfl rfl (fun b6 w6 (hS6 : St _ _ [.blk b6 (.cells #[.string (bs [97]), .int .i64 (2 : Int), .bool true] 47), _, _] _) => ?_)
 clear hS4
 have hS6o : St _ _ [.ow 47 3 (some ⟨b6, 0, none⟩) 1 1 (List.flatMap cc [Co.mk [97] 2 true]), _, _] _ := hS6.blkOw' (i := 0) (m := 1) (size := 3) (xs := List.flatMap cc [Co.mk [97] 2 true]) rfl rfl rfl (by decide); clear hS6
 refine hK _ _ ?_; clear hK K
 refine l_q rfl rfl (q_build (ps := [(0, 1), (1, 1), (2, 1)]) (zv := .agg #[.int .i64 0, .int .i64 0, .string ⟨#[]⟩]) (by kernel_rfl) (by kernel_rfl) rfl (by repeat' (first | exact trivial | refine ⟨fun _ => by first | rfl | assumption | exact one_if (by assumption), ?_⟩ | refine ⟨fun ⟨_, h⟩ => by simp at h, ?_⟩)) rfl) ?_
 refine l_e rfl (fun K hK => ?_)
 refine e_buildSliceA (e := 59) (m := 3) (zv := .agg #[.int .i64 0, .int .i64 0, .string ⟨#[]⟩]) hS6o (by kernel_rfl) (by kernel_rfl) (by kernel_rfl) rfl rfl rfl rfl (fun b7 w7 (hS7 : St _ _ [.blk b7 (.cells #[.int .i64 (2 : Int), .int .i64 (5 : Int), .string (bs [])] 59), _, _, _] _) => ?_)
 clear hS6o
 have hS7o : St _ _ [.ow 59 3 (some ⟨b7, 0, none⟩) 1 1 (List.flatMap vl [((2 : Int), (5 : Int), ([] : List Nat))]), _, _, _] _ := hS7.blkOw' (i := 0) (m := 1) (size := 3) (xs := List.flatMap vl [((2 : Int), (5 : Int), ([] : List Nat))]) rfl rfl rfl (by decide); clear hS7
 refine hK _ _ ?_; clear hK K
 refine l_q rfl rfl (q_build (ps := [(0, 1), (1, 1), (2, 1), (3, 1), (4, 1)]) (zv := .agg #[.string ⟨#[]⟩, .slice none 0 0, .int .i64 0, .int .i64 0, .slice none 0 0]) (by kernel_rfl) (by kernel_rfl) rfl (by repeat' (first | exact trivial | refine ⟨fun _ => by first | rfl | assumption | exact one_if (by assumption), ?_⟩ | refine ⟨fun ⟨_, h⟩ => by simp at h, ?_⟩)) rfl) ?_
 refine l_e rfl (fun K hK => ?_)
 refine e_alloc (zv := .agg #[.string ⟨#[]⟩, .slice none 0 0, .int .i64 0, .int .i64 0, .slice none 0 0]) hS7o (by kernel_rfl) (fun b8 w8 (hS8 : St _ _ [.blk b8 (.cells #[.string (bs []), .slice none 0 0, .int .i64 (0 : Int), .int .i64 (0 : Int), .slice none 0 0] 25), _, _, _, _] _) => ?_)
 clear hS7o
 refine hK _ _ ?_; clear hK K
 refine l_e rfl (fun K hK => ?_)
 refine e_storeA hS8 rfl rfl (by kernel_rfl) (by repeat' (first | exact trivial | refine ⟨by first | rfl | assumption | exact one_if (by assumption), ?_⟩)) (i := 0) rfl rfl (fun w9 (hS9 : St _ _ [.blk b8 (.cells #[.string (bs [116]), .slice (some ⟨b6, 0, none⟩) 1 1, .int .i64 (1 : Int), .int .i64 (0 : Int), .slice (some ⟨b7, 0, none⟩) 1 1] 25), _, _, _, _] _) => ?_)
 clear hS8
 refine hK _ _ ?_; clear hK K
 refine l_nil ?_
 refine hK5 _ _ ?_
 refine wp_seq_k (fun K10 hK10 => ?_)
 refine wp_region_lit ?_
 refine l_q rfl rfl (q_moveP rfl) ?_
 refine l_q rfl rfl (q_loadA (m := 5) rfl (by kernel_rfl) (by kernel_rfl) (hS9.blk (i := 0) rfl) rfl rfl) ?_
 refine l_e rfl (fun K hK => ?_)
 have hS12 := hS9.fr4; clear hS9
 have hS13 := hS12.fr4; clear hS12
 obtain ⟨g14, hg14, hG14⟩ := St.rogO (Γ1 := [_, _]) (i := 2) hS13 rfl
 obtain ⟨g15, hg15, hG15⟩ := St.rogO (Γ1 := [_, _]) (i := 1) hS13 rfl
 refine e_call (by kernel_rfl) (cadd_ok k3 mb3 (Tb.mk [116] [Co.mk [97] 2 true] (1 : Int) (0 : Int) [((2 : Int), (5 : Int), ([] : List Nat))]) (by decide : Bytes [116]) cs_one (vs_int (by decide)) 1 1 (by first | omega | (simp only [lls] <;> omega)) (by first | omega | (simp only [lls] <;> omega)) (by first | omega | (simp only [lls] <;> omega)) (by first | omega | (simp only [lls] <;> omega)) rt_0 _ _ _ _ (by decide) _ _ _ hg14 hg15 hG14 hG15 (St.begin (Γ := [_, _]) hS13)) rfl (after_M (Γ1 := [_, _]) hS13 (fun v11 G11 w11 hv11 hS11 => ?_))
 clear hS13
 obtain ⟨rfl, ⟨l11, rfl⟩⟩ := hv11
 have hS16 : St _ _ [_, .mp .string mb3 l11, _, _, _] _ := hS11; clear hS11
 refine hK _ _ ?_; clear hK K
 refine l_q rfl rfl (q_assign rfl) ?_
 refine l_nil ?_
 refine hK10 _ _ ?_
 refine wp_seq_k (fun K17 hK17 => ?_)
 refine wp_region_lit ?_
 refine l_q rfl rfl (q_loadA (m := 5) rfl (by kernel_rfl) (by kernel_rfl) (hS16.blk (i := 2) rfl) rfl rfl) ?_
 refine l_q rfl rfl (q_build (ps := [(0, 1), (1, 1), (2, 1)]) (zv := .agg #[.int .i64 0, .int .i64 0, .string ⟨#[]⟩]) (by kernel_rfl) (by kernel_rfl) rfl (by repeat' (first | exact trivial | refine ⟨fun _ => by first | rfl | assumption | exact one_if (by assumption), ?_⟩ | refine ⟨fun ⟨_, h⟩ => by simp at h, ?_⟩)) rfl) ?_
 refine l_e rfl (fun K hK => ?_)
 refine e_buildSliceA (e := 59) (m := 3) (zv := .agg #[.int .i64 0, .int .i64 0, .string ⟨#[]⟩]) hS16 (by kernel_rfl) (by kernel_rfl) (by kernel_rfl) rfl rfl rfl rfl (fun b18 w18 (hS18 : St _ _ [.blk b18 (.cells #[.int .i64 (2 : Int), .int .i64 (5 : Int), .string (bs [])] 59), _, _, _, _, _] _) => ?_)
 clear hS16
 have hS18o : St _ _ [.ow 59 3 (some ⟨b18, 0, none⟩) 1 1 (List.flatMap vl [((2 : Int), (5 : Int), ([] : List Nat))]), _, _, _, _, _] _ := hS18.blkOw' (i := 0) (m := 1) (size := 3) (xs := List.flatMap vl [((2 : Int), (5 : Int), ([] : List Nat))]) rfl rfl rfl (by decide); clear hS18
 refine hK _ _ ?_; clear hK K
 refine l_e rfl (fun K hK => ?_)
 refine e_call (by kernel_rfl) (cpart_yes (Tb.mk [116] [Co.mk [97] 2 true] (1 : Int) (0 : Int) [((2 : Int), (5 : Int), ([] : List Nat))]) (by decide : Bytes [116]) cs_one (vs_int (by decide)) 1 1 (by first | omega | (simp only [lls] <;> omega)) (by first | omega | (simp only [lls] <;> omega)) (by first | omega | (simp only [lls] <;> omega)) (by first | omega | (simp only [lls] <;> omega)) rt_0 [((2 : Int), (5 : Int), ([] : List Nat))] pt_one (vs_int (by decide)) 1 (by first | omega | (simp only [lls] <;> omega)) _ _ (by first | omega | (simp only [lls] <;> omega)) (hS18o.owG (i := 0) rfl) _ _ _ _ (hS18o.owG (i := 5) rfl) (hS18o.owG (i := 4) rfl)) rfl (after_N hS18o (fun v19 G19 w19 hv19 hS19 => ?_))
 clear hS18o
 obtain ⟨rfl, rfl⟩ := hv19
 have hS20 : St _ _ [_, _, _, _, _, _] _ := hS19; clear hS19
 refine hK _ _ ?_; clear hK K
 refine l_q rfl rfl (q_move rfl) ?_
 refine l_q rfl rfl (q_extract rfl rfl) ?_
 refine l_q rfl rfl (q_extract rfl rfl) ?_
 refine l_q rfl rfl (q_assignI rfl) ?_
 refine l_q rfl rfl (q_assign rfl) ?_
 refine l_nil ?_
 refine hK17 _ _ ?_
 refine wp_seq_k (fun K21 hK21 => ?_)
 refine wp_region_lit ?_
 refine l_q rfl rfl (q_move rfl) ?_
 refine l_q rfl rfl (q_ieq1 rfl (by kernel_rfl)) ?_
 refine l_q rfl rfl (q_moveB rfl) ?_
 refine l_on rfl rfl rfl ?_
 refine l_q rfl rfl (q_move rfl) ?_
 refine l_on rfl rfl rfl ?_
 refine l_q rfl rfl (q_ieq1 rfl (by kernel_rfl)) ?_
 refine l_q rfl rfl (q_pickT rfl rfl rfl) ?_
 refine l_q rfl rfl (q_moveB rfl) ?_
 refine l_on rfl rfl rfl ?_
 refine l_q rfl rfl (q_moveI rfl) ?_
 refine l_on rfl rfl rfl ?_
 refine l_q rfl rfl (q_eql rfl rfl) ?_
 refine l_q rfl rfl (q_pickT rfl rfl rfl) ?_
 refine l_q rfl rfl (q_moveB rfl) ?_
 refine l_on rfl rfl (decide_eq_true (by rw [part_0]; rfl)) ?_
 refine l_q rfl rfl (q_loadA (m := 5) rfl (by kernel_rfl) (by kernel_rfl) (hS20.blk (i := 3) rfl) rfl rfl) ?_
 refine l_on rfl rfl (decide_eq_true (by rw [part_0]; rfl)) ?_
 refine l_e rfl (fun K hK => ?_)
 refine e_call (by kernel_rfl) (parts_ok (Tb.mk [116] [Co.mk [97] 2 true] (1 : Int) (0 : Int) [((2 : Int), (5 : Int), ([] : List Nat))]) (by decide : Bytes [116]) cs_one (vs_int (by decide)) 1 1 (by first | omega | (simp only [lls] <;> omega)) (by first | omega | (simp only [lls] <;> omega)) (by first | omega | (simp only [lls] <;> omega)) (by first | omega | (simp only [lls] <;> omega)) _ _ _ _ _ (hS20.owG (i := 5) rfl) (hS20.owG (i := 4) rfl)) rfl (after_R hS20 (fun v23 w23 hv23 hS23 => ?_))
 clear hS20
 obtain rfl := hv23
 refine hK _ _ ?_; clear hK K
 refine l_on rfl rfl (decide_eq_true (by rw [part_0]; rfl)) ?_
 refine l_q rfl rfl (q_eql rfl rfl) ?_
 refine l_q rfl rfl (q_pickT rfl (decide_eq_true (by rw [part_0]; rfl)) rfl) ?_
 refine l_q rfl rfl (q_moveB rfl) ?_
 refine l_on rfl rfl (decide_eq_true parts_0) ?_
 refine l_e rfl (fun K hK => ?_)
 refine e_buildSlice1 (e := 5) (zv := .int .u8 0) (xs := [_]) hS23 (by kernel_rfl) (by kernel_rfl) (by kernel_rfl) rfl rfl rfl rfl (allone (by repeat' (first | exact trivial | refine ⟨by first | rfl | assumption, ?_⟩))) rfl (fun b25 w25 (hS25 : St _ _ [.blk b25 (.cells #[.int .u8 (97 : Int)] 5), _, _, _, _, _, _] _) => ?_)
 clear hS23
 have hB25 : Bytes [97] := by intro q hq; simp only [List.mem_cons, List.not_mem_nil, or_false] at hq; omega
 have hS25o : St _ _ [.ow 5 1 (some ⟨b25, 0, none⟩) 1 1 (bv [97]), _, _, _, _, _, _] _ := hS25.blkOw' (i := 0) (m := 1) (size := 1) (xs := bv [97]) rfl rfl rfl (by decide); clear hS25
 refine hK _ _ ?_; clear hK K
 refine l_on rfl rfl (decide_eq_true parts_0) ?_
 refine l_e rfl (fun K hK => ?_)
 refine e_convSS (i := 0) hS25o rfl rfl (by kernel_rfl) (by omega) (fun g26 w26 hsb26 (hS26 : St _ _ [.fz g26, _, _, _, _, _, _] _) => ?_)
 clear hS25o
 refine hK _ _ ?_; clear hK K
 refine l_on rfl rfl (decide_eq_true parts_0) ?_
 refine l_e rfl (fun K hK => ?_)
 refine e_call (by kernel_rfl) (hash_ok [97] hB25 1 (by first | omega | (simp only [lls] <;> omega)) (by first | omega | (simp only [lls] <;> omega)) _ _ _ (hsb26.mono (hS26.fz (i := 0) rfl))) rfl (after_R hS26 (fun v27 w27 hv27 hS27 => ?_))
 clear hS26
 obtain rfl := hv27
 refine hK _ _ ?_; clear hK K
 refine l_on rfl rfl (decide_eq_true parts_0) ?_
 refine l_q rfl rfl (q_eql rfl rfl) ?_
 refine l_q rfl rfl (q_pickT rfl (decide_eq_true parts_0) rfl) ?_
 refine l_q rfl rfl (q_assignB rfl) ?_
 refine l_nil ?_
 refine hK21 _ _ ?_
 refine wp_ret ?_
 refine c_ret1 rfl rfl ?_
 exact ⟨_, rfl, congrArg Value.bool (decide_eq_true (by rw [hash_a]; rfl)), hS27.drop⟩

end Go.Proofs.YtmemgpcgjephmaaGreatDoor
