/- Package wal: Open. -/
import Derived.Test.YtmbbkliekgiolaaV5
set_option linter.unusedVariables false
set_option linter.unusedSimpArgs false
namespace Go.Proofs.Ytmbbkliekgiolaa
open Go.RowKit
/-- The records at the beginning of bytes, and how many bytes they have (W1). -/
def scanF : Nat → List Nat → Nat → List (Nat × List Nat) × Nat
  | 0, _, _ => ([], 0)
  | f + 1, l, at' => match tkN l with
    | none => ([], 0)
    | some n => ((at', (l.drop 5).take n) :: (scanF f (l.drop (5 + n)) (at' + (5 + n))).1, 5 + n + (scanF f (l.drop (5 + n)) (at' + (5 + n))).2)
theorem tkN_le {l : List Nat} {n : Nat} (h : tkN l = some n) : 1 ≤ n ∧ n ≤ 4096 ∧ 5 + n ≤ l.length := by
  unfold tkN at h
  split at h
  · cases h
  · split at h
    · cases h
    · split at h
      · injection h with h; subst h; omega
      · cases h
theorem scanF_fuel : ∀ (f g : Nat) (l : List Nat) (a : Nat), l.length ≤ f → l.length ≤ g → scanF f l a = scanF g l a
  | 0, 0, l, a, _, _ => rfl
  | 0, g + 1, l, a, h, _ => by
    have hl : l = [] := List.eq_nil_of_length_eq_zero (by omega)
    subst hl; rfl
  | f + 1, 0, l, a, _, h => by
    have hl : l = [] := List.eq_nil_of_length_eq_zero (by omega)
    subst hl; rfl
  | f + 1, g + 1, l, a, hf, hg => by
    unfold scanF
    cases h : tkN l with
    | none => rfl
    | some n =>
      have := tkN_le h
      have ih := scanF_fuel f g (l.drop (5 + n)) (a + (5 + n)) (by rw [List.length_drop]; omega) (by rw [List.length_drop]; omega)
      simp only [ih]
def scan (l : List Nat) (a : Nat) : List (Nat × List Nat) × Nat := scanF l.length l a
theorem scan_none {l : List Nat} {a : Nat} (h : tkN l = none) : scan l a = ([], 0) := by
  unfold scan
  cases hl : l.length with
  | zero => rfl
  | succ f => unfold scanF; rw [h]
theorem scan_some {l : List Nat} {a n : Nat} (h : tkN l = some n) : scan l a = ((a, (l.drop 5).take n) :: (scan (l.drop (5 + n)) (a + (5 + n))).1, 5 + n + (scan (l.drop (5 + n)) (a + (5 + n))).2) := by
  have hle := tkN_le h
  have hl : l.length = (l.length - 1) + 1 := by omega
  have key : ∀ f : Nat, scanF (f + 1) l a = match tkN l with
      | none => ([], 0)
      | some n => ((a, (l.drop 5).take n) :: (scanF f (l.drop (5 + n)) (a + (5 + n))).1, 5 + n + (scanF f (l.drop (5 + n)) (a + (5 + n))).2) := fun f => rfl
  unfold scan
  rw [hl, key, h]
  simp only
  rw [scanF_fuel (l.length - 1) (l.drop (5 + n)).length _ _ (by rw [List.length_drop]; omega) (Nat.le_refl _)]
theorem scan_le : ∀ (f : Nat) (l : List Nat) (a : Nat), l.length ≤ f → (scan l a).2 ≤ l.length
  | f, l, a, hf => by
    cases h : tkN l with
    | none => rw [scan_none h]; exact Nat.zero_le _
    | some n =>
      have hle := tkN_le h
      rw [scan_some h]
      cases f with
      | zero => omega
      | succ f =>
        have := scan_le f (l.drop (5 + n)) (a + (5 + n)) (by rw [List.length_drop]; omega)
        rw [List.length_drop] at this
        show 5 + n + _ ≤ _
        omega
theorem tk_isnone {ad : Option Addr} {cap : Nat} {l : List Nat} (hc : l.length ≤ cap) {g : Gh} (hG : SlG g ad (bv l)) : (tkA ad cap l).isNone = (tkN l).isNone := by
  unfold tkA
  cases h : tkN l with
  | none => rfl
  | some n =>
    have hle := tkN_le h
    obtain ⟨b, off, rfl⟩ := hG.place (by rw [bv_len]; omega)
    simp [subS]
    split <;> rfl
theorem ct_at {l : List Nat} {b s o : Nat} {z : Int} (hz : z = ((b + o : Nat) : Int)) (ho : o ≤ l.length) : drE b l.length z = 0 ∧ ctL l b z = l.take o ∧ ctS l b s z = o := by
  subst hz
  have h : drOk b l.length ((b + o : Nat) : Int) := by unfold drOk; omega
  unfold drE ctL ctS
  rw [if_pos h, if_pos h, if_pos h]
  have : ((b + o : Nat) : Int).toNat - b = o := by omega
  rw [this]; exact ⟨rfl, rfl, rfl⟩
attribute [local irreducible] Oper.wp Sem.run Code.wp wpList wpAnyO callFunc execOp Calls
attribute [local irreducible] tri fIdx drE drL drB drS apE apN apL fr tkN tkA tkM tkC scan

set_option maxHeartbeats 2000000 in
set_option maxRecDepth 100000 in
theorem wOpen_ok (kd : Nat) (da : Option Addr) (dc : Nat) (l : List Nat) (b s : Nat) (g : Gh) (hl : Bytes l) (hb : b + l.length ≤ 1000000000) (hs : s ≤ l.length) (hlm : l.length ≤ 1048576) (w : World) (hS : St w (owns [dk kd da dc l b s, .fz g]) [dk kd da dc l b s, .fz g] w) : Calls Try.prog 30 #[pV kd] w (Post w [dk kd da dc l b s, .fz g] fun v G => ∃ k ad' cap' rs da' dc' g', v = .tuple #[pV k, .int .i64 0] ∧ G = [wk k kd ad' cap' rs, dk kd da' dc' (l.take (scan l b).2) b (scan l b).2, .fz g'] ∧ Gle g g' ∧ RsOk g' rs ∧ rs.map Rc.abs = (scan l b).1) := by
  refine c_enter Try.func30 rfl rfl rfl ?_
  refine wp_seq_k (fun K1 hK1 => ?_)
  refine wp_region_lit ?_
  refine l_q rfl rfl (q_assignP rfl) ?_
  refine l_q rfl rfl (q_assignI rfl) ?_
  refine l_nil ?_
  refine hK1 _ _ ?_
  refine wp_seq_k (fun K2 hK2 => ?_)
  refine wp_seq_k (fun K3 hK3 => ?_)
  refine wp_region_lit ?_
  refine l_q rfl rfl (q_moveP rfl) ?_
  refine l_q rfl rfl (q_peq rfl (by kernel_rfl)) ?_
  refine l_nil ?_
  refine hK3 _ _ ?_
  refine c_condF rfl rfl ?_
  refine wp_skip ?_
  refine hK2 _ _ ?_
  refine wp_seq_k (fun K5 hK5 => ?_)
  refine wp_region_lit ?_
  refine l_q rfl rfl (q_moveP rfl) ?_
  refine l_q rfl rfl (q_moveP rfl) ?_
  refine l_e rfl (fun K hK => ?_)
  refine e_call (by kernel_rfl) (dBegin_ok _ _ _ _ _ _  _ (St.begin (Γ := [_]) hS)) rfl (after_M (Γ1 := [_]) hS (fun v6 G6 w6 hv6 hS6 => ?_))
  clear hS
  obtain ⟨rfl, rfl⟩ := hv6
  have hS7 : St _ _ [dk kd da dc l b s, .fz g] _ := hS6; clear hS6
  refine hK _ _ ?_; clear hK K
  refine l_q rfl rfl (q_moveP rfl) ?_
  refine l_e rfl (fun K hK => ?_)
  refine e_call (by kernel_rfl) (dEnd_ok _ _ _ _ _ _ hl (by first | omega | (simp; omega)) (by first | omega | (simp; omega)) _ (St.begin (Γ := [_]) hS7)) rfl (after_M (Γ1 := [_]) hS7 (fun v8 G8 w8 hv8 hS8 => ?_))
  clear hS7
  obtain ⟨rfl, rfl⟩ := hv8
  have hS9 : St _ _ [dk kd da dc l b s, .fz g] _ := hS8; clear hS8
  refine hK _ _ ?_; clear hK K
  refine l_e rfl (fun K hK => ?_)
  refine e_call (by kernel_rfl) (dReadAll _ _ _ _ _ _ hl (by first | omega | (simp only [List.length_append, List.length_map, List.length_cons, List.length_nil, List.length_take, List.length_drop, List.length_set] <;> omega)) (by first | omega | (simp only [List.length_append, List.length_map, List.length_cons, List.length_nil, List.length_take, List.length_drop, List.length_set] <;> omega)) _ (St.begin (Γ := [_]) hS9)) rfl (after_M (Γ1 := [_]) hS9 (fun v10 G10 w10 hv10 hS10 => ?_))
  clear hS9
  obtain ⟨ad10, cp10, rfl, rfl⟩ := hv10
  have hS11 : St _ _ [.ow 5 1 ad10 l.length cp10 (bv l), dk kd da dc l b s, .fz g] _ := hS10; clear hS10
  refine hK _ _ ?_; clear hK K
  refine l_q rfl rfl (q_move rfl) ?_
  refine l_q rfl rfl (q_extract rfl rfl) ?_
  refine l_q rfl rfl (q_extract rfl rfl) ?_
  refine l_q rfl rfl (q_assignS rfl) ?_
  refine l_q rfl rfl (q_assignI rfl) ?_
  refine l_nil ?_
  refine hK5 _ _ ?_
  refine wp_seq_k (fun K12 hK12 => ?_)
  refine wp_seq_k (fun K13 hK13 => ?_)
  refine wp_region_lit ?_
  refine l_q rfl rfl (q_moveI rfl) ?_
  refine l_q rfl rfl (q_neq rfl rfl) ?_
  refine l_nil ?_
  refine hK13 _ _ ?_
  refine c_condF rfl (by decide) ?_
  refine wp_skip ?_
  refine hK12 _ _ ?_
  refine wp_seq_k (fun K15 hK15 => ?_)
  refine wp_region_lit ?_
  refine l_q rfl rfl (q_moveP rfl) ?_
  refine l_q rfl rfl (q_build (ps := [(0, 1), (1, 1)]) (zv := .agg #[.pointer none, .slice none 0 0]) (by kernel_rfl) (by kernel_rfl) rfl (by repeat' (first | exact trivial | refine ⟨fun _ => by first | rfl | assumption | exact one_if (by assumption), ?_⟩ | refine ⟨fun ⟨_, h⟩ => by simp at h, ?_⟩)) rfl) ?_
  refine l_e rfl (fun K hK => ?_)
  refine e_boxA hS11 rfl (fun b16 w16 (hS16 : St _ _ [.blk b16 (.cells #[.pointer (some ⟨kd, 0, none⟩), .slice none 0 0] 123), .ow 5 1 ad10 l.length cp10 (bv l), dk kd da dc l b s, .fz g] _) => ?_)
  clear hS11
  refine hK _ _ ?_; clear hK K
  refine l_q rfl rfl (q_assignP rfl) ?_
  refine l_nil ?_
  refine hK15 _ _ ?_
  refine wp_seq_k (fun K17 hK17 => ?_)
  refine wp_region_lit ?_
  refine l_q rfl rfl (q_moveP rfl) ?_
  refine l_e rfl (fun K hK => ?_)
  have hS19 := hS16.fr2; clear hS16
  refine e_call (by kernel_rfl) (dBegin_ok _ _ _ _ _ _  _ (St.begin (Γ := [_]) hS19)) rfl (after_M (Γ1 := [_]) hS19 (fun v18 G18 w18 hv18 hS18 => ?_))
  clear hS19
  obtain ⟨rfl, rfl⟩ := hv18
  have hS20 : St _ _ [dk kd da dc l b s, .blk b16 (.cells #[.pointer (some ⟨kd, 0, none⟩), .slice none 0 0] 123), .ow 5 1 ad10 l.length cp10 (bv l), .fz g] _ := hS18; clear hS18
  refine hK _ _ ?_; clear hK K
  refine l_q rfl rfl (q_assignI rfl) ?_
  refine l_nil ?_
  refine hK17 _ _ ?_
  refine wp_seq_k (fun K21 hK21 => ?_)
  refine wp_seq_k (fun K22 hK22 => ?_)
  refine wp_region_lit ?_
  refine l_q rfl rfl (q_moveS rfl) ?_
  have hlc := (hS20.owLen (i := 2) rfl).2.1
  refine l_e rfl (fun K hK => ?_)
  refine e_call (by kernel_rfl) (taken_ok l hl l.length (by first | omega | (simp only [List.length_append, List.length_map, List.length_cons, List.length_nil, List.length_take, List.length_drop, List.length_set] <;> omega)) (by first | omega | (simp only [List.length_append, List.length_map, List.length_cons, List.length_nil, List.length_take, List.length_drop, List.length_set] <;> omega)) _ _ (by first | omega | (simp only [List.length_append, List.length_map, List.length_cons, List.length_nil, List.length_take, List.length_drop, List.length_set] <;> omega)) _ (hS20.owG (i := 2) rfl)) rfl (after_R hS20 (fun v23 w23 hv23 hS23 => ?_))
  clear hS20
  obtain rfl := hv23
  refine hK _ _ ?_; clear hK K
  refine l_q rfl rfl (q_assignS rfl) ?_
  refine l_nil ?_
  refine hK22 _ _ ?_
  refine wp_block ?_
  have hS24 := hS23.fr3; clear hS23
  have hS25 := hS24.fr3; clear hS24
  obtain ⟨g26, hle26, hfz26, hS26⟩ := hS25.freezeOw; clear hS25
  have hS27 : St _ _ [.ow 125 2 none 0 0 (List.flatMap rc []), .fz g26, dk kd da dc l b s, .blk b16 (.cells #[.pointer (some ⟨kd, 0, none⟩), .slice none 0 0] 123)] _ := hS26.ow_nil 125 2; clear hS26
  have hS28 := hS27.fr1; clear hS27
  have hS29 := hS28.fr2; clear hS28
  have hS30 := hS29.fr2; clear hS29
  have hS31 := hS30.fr3; clear hS30
  refine c_loop (τ := Gh × Nat × (List Rc) × (Option Addr) × Nat × (Option Addr) × Nat) [(4, 4), (7, 8), (30, 56)] (fun x => (fun (g1 : Gh) (o : Nat) (rs : List Rc) (rad : Option Addr) (rcap : Nat) (ba : Option Addr) (bc : Nat) => [(7, .int .i64 (((b + o) : Nat) : Int)), (4, .slice ba (l.length - o) bc), (8, .slice (tkA ba bc (l.drop o)) (tkM (l.drop o)) (tkC bc (l.drop o)))]) x.1 x.2.1 x.2.2.1 x.2.2.2.1 x.2.2.2.2.1 x.2.2.2.2.2.1 x.2.2.2.2.2.2) (fun x w' => (fun (g1 : Gh) (o : Nat) (rs : List Rc) (rad : Option Addr) (rcap : Nat) (ba : Option Addr) (bc : Nat) => St w (owns [dk kd da dc l b s, .fz g]) [.blk b16 (.cells #[.pointer (some ⟨kd, 0, none⟩), .slice rad rs.length rcap] 123), .ow 125 2 rad rs.length rcap (List.flatMap rc rs), dk kd da dc l b s, .fz g1] w' ∧ Gle g g1 ∧ RsOk g1 rs ∧ SlG g1 ba (bv (l.drop o)) ∧ o ≤ l.length ∧ l.length - o ≤ bc ∧ rs.map Rc.abs ++ (scan (l.drop o) (b + o)).1 = (scan l b).1 ∧ o + (scan (l.drop o) (b + o)).2 = (scan l b).2 ∧ rs.length ≤ o) x.1 x.2.1 x.2.2.1 x.2.2.2.1 x.2.2.2.2.1 x.2.2.2.2.2.1 x.2.2.2.2.2.2) (fun x => (fun (g1 : Gh) (o : Nat) (rs : List Rc) (rad : Option Addr) (rcap : Nat) (ba : Option Addr) (bc : Nat) => l.length - o) x.1 x.2.1 x.2.2.1 x.2.2.2.1 x.2.2.2.2.1 x.2.2.2.2.2.1 x.2.2.2.2.2.2) (⟨g26, 0, [], none, 0, ad10, cp10⟩) ?_ (by repeat' (first | exact trivial | refine ⟨by first | rfl | exact int_succ _ | assumption, ?_⟩)) (fun x32 j32 w32 hJ32 K32 hK32 => ?_)
  ·
    exact ⟨hS31, hle26, RsOk.nil, hfz26, Nat.zero_le _, hlc, rfl, Nat.zero_add _, Nat.zero_le _⟩
  ·
    obtain ⟨g1, o, rs, rad, rcap, ba, bc⟩ := x32
    obtain ⟨hS32, hg1, hrs, hba, ho, hbc, hsc, hsn, hro⟩ := hJ32
    try dsimp only at hS32 hg1 hrs hba ho hbc hsc hsn hro ⊢
    refine wp_seq_k (fun K33 hK33 => ?_)
    refine wp_seq_k (fun K34 hK34 => ?_)
    refine wp_region_lit ?_
    refine l_q rfl rfl (q_moveS rfl) ?_
    refine l_q rfl rfl (q_slice_neq 5 rfl rfl (by kernel_rfl)) ?_
    refine l_nil ?_
    refine hK34 _ _ ?_
    refine c_cond rfl (fun hc35 => ?_) (fun hc35 => ?_)
    ·
      have hc35b := hc35
      try simp only [decide_eq_true_eq, decide_eq_false_iff_not, Bool.not_eq_true', Bool.not_eq_false', Bool.and_eq_true, Bool.or_eq_true, Int.not_lt, Int.not_le, ne_eq, Decidable.not_not] at hc35
      obtain ⟨n, hn⟩ : ∃ n, tkN (l.drop o) = some n := by
        cases h : tkN (l.drop o) with
        | some n => exact ⟨n, rfl⟩
        | none => exfalso; have h1 := tk_isnone (cap := bc) (by rw [List.length_drop]; omega) hba; rw [h] at h1; rw [h1] at hc35; simp at hc35
      have hnl := tkN_le hn
      rw [List.length_drop] at hnl
      have hkA : tkA ba bc (l.drop o) = subS ba 5 1 bc := by unfold tkA; rw [hn]; rfl
      have hkM : tkM (l.drop o) = n := by unfold tkM; rw [hn]; rfl
      have hkL : tkM (l.drop o) = (((l.drop o).drop 5).take n).length := by rw [hkM, List.length_take, List.length_drop, List.length_drop]; omega
      have hxG : SlG g1 (tkA ba bc (l.drop o)) (bv (((l.drop o).drop 5).take n)) := by rw [hkA]; exact bv_sub (SlG.sub (l := 5) (size := 1) (m := bc) (n := n) hba (by omega) (by decide))
      refine wp_skip ?_
      refine hK33 _ _ ?_
      refine wp_seq_k (fun K37 hK37 => ?_)
      refine wp_block ?_
      refine wp_seq_k (fun K38 hK38 => ?_)
      refine r_any (by kernel_rfl) hS32 (fun w39 hS39 => ?_)
      clear hS32
      refine o_pure (i := 0) (fun _ _ => trivial) rfl rfl (by kernel_rfl) (goes0 rfl) (QOk.then (QOk.inBlock (QOk.then (QOk.then (QOk.inBlock (QOk.then QOk.body)))))) (fun w => q_moveP rfl) ?_
      refine o_pure (i := 1) (fun _ _ => trivial) rfl rfl (by kernel_rfl) (goes0 rfl) (QOk.then (QOk.inBlock (QOk.then (QOk.then (QOk.inBlock (QOk.then QOk.body)))))) (fun w => q_moveP rfl) ?_
      refine o_pure (i := 2) (fun _ _ => trivial) rfl rfl (by kernel_rfl) (goes0 rfl) (QOk.then (QOk.inBlock (QOk.then (QOk.then (QOk.inBlock (QOk.then QOk.body)))))) (fun w => q_nilCheck rfl) ?_
      refine o_pure (i := 3) (fun _ _ => trivial) rfl rfl (by kernel_rfl) (goes0 rfl) (QOk.then (QOk.inBlock (QOk.then (QOk.then (QOk.inBlock (QOk.then QOk.body)))))) (fun w => q_fieldAddr (ft := 121) (o := 1) rfl (by kernel_rfl)) ?_
      refine o_held (i := 4) [10, 11, 12, 13] (fun _ _ => trivial) rfl rfl (by kernel_rfl) (goes0 rfl) (QOk.then (QOk.inBlock (QOk.then (QOk.then (QOk.inBlock (QOk.then QOk.body)))))) (q_load1 rfl (by kernel_rfl) (hS39.cell (i := 0) rfl rfl)) ?_
      refine o_pure (i := 5) (fun j w => ⟨(fun _ _ => trivial) j w, fun _ h => h⟩) rfl rfl (by kernel_rfl) (goes0 rfl) (QOk.then (QOk.inBlock (QOk.then (QOk.then (QOk.inBlock (QOk.then QOk.body)))))) (fun w => q_moveI rfl) ?_
      refine o_pure (i := 6) (fun j w => ⟨(fun _ _ => trivial) j w, fun _ h => h⟩) rfl rfl (by kernel_rfl) (goes0 rfl) (QOk.then (QOk.inBlock (QOk.then (QOk.then (QOk.inBlock (QOk.then QOk.body)))))) (fun w => q_moveS rfl) ?_
      refine o_eff (i := 7) (by kernel_rfl) rfl (goes0 rfl) (fun K hK => ?_)
      refine e_call (by kernel_rfl) (Clone_ok (((l.drop o).drop 5).take n) _ _ (tkM (l.drop o)) (by first | omega | (simp only [List.length_append, List.length_map, List.length_cons, List.length_nil, List.length_take, List.length_drop, List.length_set] <;> omega)) (by first | omega | (simp only [List.length_append, List.length_map, List.length_cons, List.length_nil, List.length_take, List.length_drop, List.length_set] <;> omega)) _ (hxG.mono (hS39.fz (i := 3) rfl))) rfl (after_N hS39 (fun v40 G40 w40 hv40 hS40 => ?_))
      clear hS39
      obtain ⟨ad40, cp40, rfl, rfl⟩ := hv40
      have hS41 : St _ _ [.ow 5 1 ad40 (tkM (l.drop o)) cp40 (bv (((l.drop o).drop 5).take n)), .blk b16 (.cells #[.pointer (some ⟨kd, 0, none⟩), .slice rad rs.length rcap] 123), .ow 125 2 rad rs.length rcap (List.flatMap rc rs), dk kd da dc l b s, .fz g1] _ := hS40; clear hS40
      refine hK _ _ ⟨trivial, fun _ _ => by first | exact q_load1 rfl (by kernel_rfl) (hS41.cell (i := 1) rfl rfl)⟩ ?_; clear hK K
      refine o_pure (i := 8) (fun j w => ⟨(fun _ _ => trivial) j w, fun _ h => h⟩) rfl rfl (by kernel_rfl) (goes0 rfl) (QOk.then (QOk.inBlock (QOk.then (QOk.then (QOk.inBlock (QOk.then QOk.body)))))) (fun w => q_build (ps := [(0, 1), (1, 1)]) (zv := .agg #[.int .i64 0, .slice none 0 0]) (by kernel_rfl) (by kernel_rfl) rfl (by repeat' (first | exact trivial | refine ⟨fun _ => by first | rfl | assumption | exact one_if (by assumption), ?_⟩ | refine ⟨fun ⟨_, h⟩ => by simp at h, ?_⟩)) rfl) ?_
      refine o_eff (i := 9) (by kernel_rfl) rfl (goes0 rfl) (fun K hK => ?_)
      have hS42 := hS41.fr4; clear hS41
      have hS43 := hS42.fr1; clear hS42
      obtain ⟨g44, hle44, hfz44, hS44⟩ := hS43.freezeOw; clear hS43
      refine e_buildSliceA (e := 125) (m := 2) (zv := .agg #[.int .i64 0, .slice none 0 0]) hS44 (by kernel_rfl) (by kernel_rfl) (by kernel_rfl) rfl rfl rfl rfl (fun b45 w45 (hS45 : St _ _ [.blk b45 (.cells #[.int .i64 (((b + o) : Nat) : Int), .slice ad40 (tkM (l.drop o)) cp40] 125), .fz g44, .blk b16 (.cells #[.pointer (some ⟨kd, 0, none⟩), .slice rad rs.length rcap] 123), .ow 125 2 rad rs.length rcap (List.flatMap rc rs), dk kd da dc l b s] _) => ?_)
      clear hS44
      have hS45o : St _ _ [.ow 125 2 (some ⟨b45, 0, none⟩) 1 1 (List.flatMap rc [Rc.mk (b + o) ad40 cp40 (((l.drop o).drop 5).take n)]), .fz g44, .blk b16 (.cells #[.pointer (some ⟨kd, 0, none⟩), .slice rad rs.length rcap] 123), .ow 125 2 rad rs.length rcap (List.flatMap rc rs), dk kd da dc l b s] _ := hS45.blkOw' (i := 0) (m := 1) (size := 2) (xs := List.flatMap rc [Rc.mk (b + o) ad40 cp40 (((l.drop o).drop 5).take n)]) rfl (by rw [hkL]; rfl) rfl (by decide); clear hS45
      refine hK _ _ ⟨trivial, fun _ _ => by first | exact q_load1 rfl (by kernel_rfl) (hS45o.cell (i := 2) rfl rfl)⟩ ?_; clear hK K
      refine o_eff (i := 10) (by kernel_rfl) rfl (goes0 rfl) (fun K hK => ?_)
      refine e_app (e := 125) (size := 2) (bytes := 32) (i := 3) (m' := (rs ++ [Rc.mk (b + o) ad40 cp40 (((l.drop o).drop 5).take n)]).length) (by kernel_rfl) hS45o rfl rfl rfl (SlG.src (e := 125) (by kernel_rfl) (hS45o.owG (i := 0) rfl) ((rows_len (c := rc) (m := 2) (fun _ => rfl) _).trans (by first | rfl | (simp only [List.length_append, List.length_map, List.length_cons, List.length_nil, List.length_take, List.length_drop, List.length_set]; done) | (simp only [List.length_append, List.length_map, List.length_cons, List.length_nil, List.length_take, List.length_drop, List.length_set]; omega) | omega)) (by decide) (rows_one rc_ones)) (by first | omega | (simp only [List.length_append, List.length_map, List.length_cons, List.length_nil, List.length_take, List.length_drop, List.length_set]; omega) | (simp; done)) rows_app (by first | omega | (simp only [maxLen, List.length_append, List.length_map, List.length_cons, List.length_nil, List.length_take, List.length_drop, List.length_set] <;> omega) | (simp only [maxLen]; omega)) (by first | omega | (simp only [List.length_append, List.length_map, List.length_cons, List.length_nil, List.length_take, List.length_drop, List.length_set] <;> omega)) (fun ad46 cp46 w46 (hS46 : St _ _ [.ow 125 2 (some ⟨b45, 0, none⟩) 1 1 (List.flatMap rc [Rc.mk (b + o) ad40 cp40 (((l.drop o).drop 5).take n)]), .fz g44, .blk b16 (.cells #[.pointer (some ⟨kd, 0, none⟩), .slice rad rs.length rcap] 123), .ow 125 2 ad46 ((rs ++ [Rc.mk (b + o) ad40 cp40 (((l.drop o).drop 5).take n)]).length) cp46 (List.flatMap rc (rs ++ [Rc.mk (b + o) ad40 cp40 (((l.drop o).drop 5).take n)])), dk kd da dc l b s] _) => ?_)
      clear hS45o
      refine hK _ _ ⟨trivial, fun h => absurd h (by decide)⟩ ?_; clear hK K
      refine o_pure (i := 11) (fun j w => ⟨(fun _ _ => trivial) j w, fun _ h => h⟩) rfl rfl (by kernel_rfl) (goes0 rfl) (QOk.then (QOk.inBlock (QOk.then (QOk.then (QOk.inBlock (QOk.then QOk.body)))))) (fun w => q_nilCheck rfl) ?_
      refine o_pure (i := 12) (fun j w => ⟨(fun _ _ => trivial) j w, fun _ h => h⟩) rfl rfl (by kernel_rfl) (goes0 rfl) (QOk.then (QOk.inBlock (QOk.then (QOk.then (QOk.inBlock (QOk.then QOk.body)))))) (fun w => q_fieldAddr (ft := 121) (o := 1) rfl (by kernel_rfl)) ?_
      refine o_eff (i := 13) (by kernel_rfl) rfl (goes0 rfl) (fun K hK => ?_)
      refine e_store1 hS46 rfl rfl (by kernel_rfl) (by first | rfl | assumption) (i := 2) rfl rfl (fun w47 (hS47 : St _ _ [.ow 125 2 (some ⟨b45, 0, none⟩) 1 1 (List.flatMap rc [Rc.mk (b + o) ad40 cp40 (((l.drop o).drop 5).take n)]), .fz g44, .blk b16 (.cells #[.pointer (some ⟨kd, 0, none⟩), .slice ad46 ((rs ++ [Rc.mk (b + o) ad40 cp40 (((l.drop o).drop 5).take n)]).length) cp46] 123), .ow 125 2 ad46 ((rs ++ [Rc.mk (b + o) ad40 cp40 (((l.drop o).drop 5).take n)]).length) cp46 (List.flatMap rc (rs ++ [Rc.mk (b + o) ad40 cp40 (((l.drop o).drop 5).take n)])), dk kd da dc l b s] _) => ?_)
      clear hS46
      refine hK _ _ ⟨trivial, fun h => absurd h (by decide)⟩ ?_; clear hK K
      refine o_done (by kernel_rfl) ?_
      refine hK38 _ _ ?_
      refine wp_seq_k (fun K48 hK48 => ?_)
      refine wp_region_lit ?_
      refine l_q rfl rfl (q_moveI rfl) ?_
      refine l_q rfl rfl (q_moveS rfl) ?_
      refine l_q rfl rfl (q_lenSl (e := 5) rfl (by kernel_rfl)) ?_
      refine l_q rfl rfl (q_addx rfl rfl (by first | decide | omega) (by first | decide | omega)) ?_
      refine l_q rfl rfl (q_addx rfl rfl (by first | decide | omega) (by first | decide | omega)) ?_
      refine l_q rfl rfl (q_assignI rfl) ?_
      refine l_nil ?_
      refine hK48 _ _ ?_
      refine wp_region_lit ?_
      refine l_q rfl rfl (q_moveS rfl) ?_
      refine l_q rfl rfl (q_moveS rfl) ?_
      refine l_q rfl rfl (q_lenSl (e := 5) rfl (by kernel_rfl)) ?_
      refine l_q rfl rfl (q_addx rfl rfl (by first | decide | omega) (by first | decide | omega)) ?_
      refine l_q rfl rfl (q_sliceX (e := 5) (size := 1) (l := (5 + (tkM (l.drop o)))) (h := (l.length - o)) (m := bc) (ad' := (subS ba (5 + (tkM (l.drop o))) 1 bc)) (len' := ((l.length - o) - (5 + (tkM (l.drop o))))) (cap' := (bc - (5 + (tkM (l.drop o))))) rfl (by kernel_rfl) (by kernel_rfl) rfl rfl ⟨_, int_nat (by first | rfl | omega) rfl⟩ (by omega) (by first | omega | (simp only [List.length_append, List.length_map, List.length_cons, List.length_nil, List.length_take, List.length_drop, List.length_set] <;> omega)) (by first | omega | (simp only [List.length_append, List.length_map, List.length_cons, List.length_nil, List.length_take, List.length_drop, List.length_set] <;> omega)) rfl rfl rfl rfl) ?_
      refine l_q rfl rfl (q_assignS rfl) ?_
      refine l_nil ?_
      refine hK37 _ _ ?_
      refine wp_region_lit ?_
      refine l_q rfl rfl (q_moveS rfl) ?_
      refine l_e rfl (fun K hK => ?_)
      refine e_call (by kernel_rfl) (taken_ok ((l.drop o).drop (5 + (tkM (l.drop o)))) (Bytes.drop (Bytes.drop hl)) ((l.length - o) - (5 + (tkM (l.drop o)))) (by first | omega | (simp only [List.length_append, List.length_map, List.length_cons, List.length_nil, List.length_take, List.length_drop, List.length_set] <;> omega)) (by first | omega | (simp only [List.length_append, List.length_map, List.length_cons, List.length_nil, List.length_take, List.length_drop, List.length_set] <;> omega)) _ _ (by first | omega | (simp only [List.length_append, List.length_map, List.length_cons, List.length_nil, List.length_take, List.length_drop, List.length_set] <;> omega)) _ ((bv_subD (by first | omega | (simp only [List.length_append, List.length_map, List.length_cons, List.length_nil, List.length_take, List.length_drop, List.length_set] <;> omega)) (SlG.sub (l := (5 + (tkM (l.drop o)))) (size := 1) (m := bc) (n := (l.length - o) - (5 + (tkM (l.drop o)))) (SlG.mono hba hle44) (by first | omega | (simp only [List.length_append, List.length_map, List.length_cons, List.length_nil, List.length_take, List.length_drop, List.length_set] <;> omega)) (by decide))).mono (hS47.fz (i := 1) rfl))) rfl (after_R hS47 (fun v49 w49 hv49 hS49 => ?_))
      clear hS47
      obtain rfl := hv49
      refine hK _ _ ?_; clear hK K
      refine l_q rfl rfl (q_assignS rfl) ?_
      refine l_nil ?_
      have hsl4 : Value.slice (subS ba (5 + (tkM (l.drop o))) 1 bc) ((l.length - o) - (5 + (tkM (l.drop o)))) (bc - (5 + (tkM (l.drop o)))) = .slice (subS ba (5 + (tkM (l.drop o))) 1 bc) (l.length - (o + (5 + n))) (bc - (5 + (tkM (l.drop o)))) := congrArg (fun z => Value.slice (subS ba (5 + (tkM (l.drop o))) 1 bc) z (bc - (5 + (tkM (l.drop o))))) (by omega)
      have hL : (l.drop o).drop (5 + (tkM (l.drop o))) = l.drop (o + (5 + n)) := by rw [hkM, List.drop_drop]
      have hS50 := hS49.fr1; clear hS49
      have hS51 := hS50.fr4; clear hS50
      have hS52 := hS51.fr4; clear hS51
      have hS53 := hS52.fr4; clear hS52
      have hS54 : St _ _ [.blk b16 (.cells #[.pointer (some ⟨kd, 0, none⟩), .slice ad46 ((rs ++ [Rc.mk (b + o) ad40 cp40 (((l.drop o).drop 5).take n)]).length) cp46] 123), .ow 125 2 ad46 ((rs ++ [Rc.mk (b + o) ad40 cp40 (((l.drop o).drop 5).take n)]).length) cp46 (List.flatMap rc (rs ++ [Rc.mk (b + o) ad40 cp40 (((l.drop o).drop 5).take n)])), dk kd da dc l b s, .fz g44] _ := hS53.only 4; clear hS53
      refine hK32 _ _ (came (⟨g44, (o + (5 + n)), (rs ++ [Rc.mk (b + o) ad40 cp40 (((l.drop o).drop 5).take n)]), ad46, cp46, (subS ba (5 + (tkM (l.drop o))) 1 bc), (bc - (5 + (tkM (l.drop o))))⟩) (by repeat' (first | exact Agree.refl _ _ | refine Agree.up ?_ rfl | refine Agree.hav2 ?_ rfl | refine Agree.ups2 ?_ rfl)) (by repeat' (first | exact trivial | refine ⟨by first | rfl | exact congrArg (Value.int .i64) (by first | omega | (dsimp only; omega)) | exact hsl4 | (rw [hL] <;> rfl), ?_⟩)) ?_)
      have hdd : (l.drop o).drop (5 + n) = l.drop (o + (5 + n)) := List.drop_drop
      have hsc2 : List.map Rc.abs ((rs ++ [Rc.mk (b + o) ad40 cp40 (((l.drop o).drop 5).take n)])) ++ (scan (l.drop (o + (5 + n))) (b + (o + (5 + n)))).1 = (scan l b).1 := by rw [← hsc, scan_some hn, List.map_append, List.append_assoc, hdd, Nat.add_assoc]; rfl
      have hsn2 : o + (5 + n) + (scan (l.drop (o + (5 + n))) (b + (o + (5 + n)))).2 = (scan l b).2 := by rw [← hsn, scan_some hn, hdd, ← Nat.add_assoc b o (5 + n)]; exact Nat.add_assoc _ _ _
      have hbN : SlG g44 (subS ba (5 + (tkM (l.drop o))) 1 bc) (bv (l.drop (o + (5 + n)))) := hL ▸ (bv_subD (by first | omega | (simp only [List.length_append, List.length_map, List.length_cons, List.length_nil, List.length_take, List.length_drop, List.length_set] <;> omega)) (SlG.sub (l := (5 + (tkM (l.drop o)))) (size := 1) (m := bc) (n := (l.length - o) - (5 + (tkM (l.drop o)))) (SlG.mono hba hle44) (by first | omega | (simp only [List.length_append, List.length_map, List.length_cons, List.length_nil, List.length_take, List.length_drop, List.length_set] <;> omega)) (by decide)))
      exact ⟨⟨hS54, hg1.trans hle44, (hrs.mono hle44).app (RsOk.one ⟨hfz44, Bytes.sub (Bytes.drop hl), (show (((l.drop o).drop 5).take n).length ≤ 4096 by omega), (show b + o ≤ 2000000000 by omega), (show 1 ≤ (((l.drop o).drop 5).take n).length by omega)⟩), hbN, (show o + (5 + n) ≤ l.length by omega), (show l.length - (o + (5 + n)) ≤ (bc - (5 + (tkM (l.drop o)))) by omega), hsc2, hsn2, (by show (rs ++ [_]).length ≤ o + (5 + n); rw [List.length_append]; simp only [List.length_cons, List.length_nil]; omega)⟩, by (show l.length - (o + (5 + n)) < l.length - o); omega⟩
    ·
      have hc35b := hc35
      try simp only [decide_eq_true_eq, decide_eq_false_iff_not, Bool.not_eq_true', Bool.not_eq_false', Bool.and_eq_true, Bool.or_eq_true, Int.not_lt, Int.not_le, ne_eq, Decidable.not_not] at hc35
      have hn : tkN (l.drop o) = none := by
        cases h : tkN (l.drop o) with
        | none => rfl
        | some n => exfalso; have h1 := tk_isnone (cap := bc) (by rw [List.length_drop]; omega) hba; rw [h] at h1; rw [h1] at hc35; simp at hc35
      rw [scan_none hn] at hsc hsn
      rw [List.append_nil] at hsc
      dsimp only at hsn
      refine wp_exit ?_
      refine hK21 _ _ ?_
      refine wp_seq_k (fun K55 hK55 => ?_)
      refine wp_seq_k (fun K56 hK56 => ?_)
      refine wp_region_lit ?_
      refine l_q rfl rfl (q_moveS rfl) ?_
      refine l_q rfl rfl (q_lenSl (e := 5) rfl (by kernel_rfl)) ?_
      refine l_q rfl rfl (q_gtr rfl rfl) ?_
      refine l_nil ?_
      refine hK56 _ _ ?_
      refine c_cond rfl (fun hc57 => ?_) (fun hc57 => ?_)
      ·
        have hc57b := hc57
        try simp only [decide_eq_true_eq, decide_eq_false_iff_not, Bool.not_eq_true', Bool.not_eq_false', Bool.and_eq_true, Bool.or_eq_true, Int.not_lt, Int.not_le, ne_eq, Decidable.not_not] at hc57
        have hct := ct_at (l := l) (b := b) (s := s) (o := o) rfl ho
        refine wp_seq_k (fun K58 hK58 => ?_)
        refine wp_region_lit ?_
        refine l_q rfl rfl (q_moveP rfl) ?_
        refine l_q rfl rfl (q_moveP rfl) ?_
        refine l_q rfl rfl (q_moveI rfl) ?_
        refine l_e rfl (fun K hK => ?_)
        have hS60 := hS32.fr2; clear hS32
        have hF59 := ct_fit (l := l) (b := b) (s := s) (((b + o) : Nat) : Int) (by first | omega | (simp only [List.length_append, List.length_map, List.length_cons, List.length_nil, List.length_take, List.length_drop, List.length_set] <;> omega))
        refine e_call (by kernel_rfl) (dCutF _ _ _ _ _ _ hl (by first | omega | (simp only [List.length_append, List.length_map, List.length_cons, List.length_nil, List.length_take, List.length_drop, List.length_set] <;> omega)) (by first | omega | (simp only [List.length_append, List.length_map, List.length_cons, List.length_nil, List.length_take, List.length_drop, List.length_set] <;> omega)) _ (by first | omega | (simp only [List.length_append, List.length_map, List.length_cons, List.length_nil, List.length_take, List.length_drop, List.length_set] <;> omega)) (by first | omega | (simp only [List.length_append, List.length_map, List.length_cons, List.length_nil, List.length_take, List.length_drop, List.length_set] <;> omega)) _ (St.begin (Γ := [_]) hS60)) rfl (after_M (Γ1 := [_]) hS60 (fun v59 G59 w59 hv59 hS59 => ?_))
        clear hS60
        obtain ⟨ad59, cp59, rfl, rfl⟩ := hv59
        have hS61 : St _ _ [dk kd ad59 cp59 (ctL l b (((b + o) : Nat) : Int)) b (ctS l b s (((b + o) : Nat) : Int)), .blk b16 (.cells #[.pointer (some ⟨kd, 0, none⟩), .slice rad rs.length rcap] 123), .ow 125 2 rad rs.length rcap (List.flatMap rc rs), .fz g1] _ := hS59; clear hS59
        refine hK _ _ ?_; clear hK K
        refine l_q rfl rfl (q_assignP rfl) ?_
        refine l_q rfl rfl (q_assignI rfl) ?_
        refine l_nil ?_
        refine hK58 _ _ ?_
        refine wp_ret ?_
        refine c_ret2 rfl rfl rfl ?_
        have hS62 := hS61.fr2; clear hS61
        have hS63 := hS62.fr2; clear hS62
        have hS64 := wk_close hS63; clear hS63
        exact ⟨_, _, rfl, ⟨_, _, _, _, _, _, g1, by rw [hct.1]; rfl, by rw [hct.2.1, hct.2.2, ← hsn]; rfl, hg1, hrs, hsc⟩, hS64⟩
      ·
        have hc57b := hc57
        try simp only [decide_eq_true_eq, decide_eq_false_iff_not, Bool.not_eq_true', Bool.not_eq_false', Bool.and_eq_true, Bool.or_eq_true, Int.not_lt, Int.not_le, ne_eq, Decidable.not_not] at hc57
        refine wp_skip ?_
        refine hK55 _ _ ?_
        refine wp_seq_k (fun K65 hK65 => ?_)
        refine wp_region_lit ?_
        refine l_q rfl rfl (q_moveP rfl) ?_
        refine l_q rfl rfl (q_moveP rfl) ?_
        refine l_e rfl (fun K hK => ?_)
        have hS67 := hS32.fr2; clear hS32
        refine e_call (by kernel_rfl) (dSync_ok _ _ _ _ _ _  _ (St.begin (Γ := [_]) hS67)) rfl (after_M (Γ1 := [_]) hS67 (fun v66 G66 w66 hv66 hS66 => ?_))
        clear hS67
        obtain ⟨rfl, rfl⟩ := hv66
        have hS68 : St _ _ [dk kd da dc l b l.length, .blk b16 (.cells #[.pointer (some ⟨kd, 0, none⟩), .slice rad rs.length rcap] 123), .ow 125 2 rad rs.length rcap (List.flatMap rc rs), .fz g1] _ := hS66; clear hS66
        refine hK _ _ ?_; clear hK K
        refine l_q rfl rfl (q_assignP rfl) ?_
        refine l_q rfl rfl (q_assignI rfl) ?_
        refine l_nil ?_
        refine hK65 _ _ ?_
        refine wp_ret ?_
        refine c_ret2 rfl rfl rfl ?_
        have hS69 := hS68.fr2; clear hS68
        have hS70 := hS69.fr2; clear hS69
        have hS71 := wk_close hS70; clear hS70
        have hol : o = l.length := by omega
        exact ⟨_, _, rfl, ⟨_, _, _, _, _, _, g1, rfl, by rw [← hsn, Nat.add_zero, hol, List.take_length], hg1, hrs, hsc⟩, hS71⟩

end Go.Proofs.Ytmbbkliekgiolaa
