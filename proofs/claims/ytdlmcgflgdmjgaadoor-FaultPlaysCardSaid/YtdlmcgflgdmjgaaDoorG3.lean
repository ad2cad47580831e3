/- FaultHas: its walk. -/
import Derived.Test.YtdlmcgflgdmjgaaDoorF9
set_option linter.unusedVariables false
set_option linter.unusedSimpArgs false
namespace Go.Proofs.YtdlmcgflgdmjgaaDoor
open Go.RowKit
def bolB (P : Program) (t : TypeId) : Bool := match P.underlying t with | some .bool => true | _ => false
theorem und_bol {P : Program} {t : TypeId} (h : bolB P t = true) : P.underlying t = some .bool := by
  unfold bolB at h
  cases hu : P.underlying t with
  | none => simp [hu] at h
  | some d => cases d <;> simp [hu] at h; rfl
theorem eq_bol {P : Program} {w : World} {t : TypeId} {a b : Bool} (h : bolB P t = true) : (Op.equal t (.bool a) (.bool b)).run P w = .ok (a == b) w := by
  have hu := und_bol h
  have : ∀ q : Nat, (Op.equalIn (q + 1) t (.bool a) (.bool b)).run P w = .ok (a == b) w := fun q => by simp [Op.equalIn, run_und hu, Sem.run]
  exact this 9999
theorem q_bool_eql {P : Program} {n : Nat} {f : Nat → Value} {w : World} {d : Option Tmp} {x y : Operand} {ty T T' : TypeId} {pos : String} {aft : Array Edge} {g : Option (Nat × Bool)} {a b : Bool} (hx : ev n f x = .bool a) (hy : ev n f y = .bool b) (ht : bolB P T = true) :
    Run P n f ⟨d, .binOp .eql T x y T', ty, pos, aft, g⟩ w (.bool (a == b)) := by
  simp only [Run, execOp, hx, hy, binOp, eqGuard]; simp [eq_bol ht, Sem.run]
theorem q_bool_neq {P : Program} {n : Nat} {f : Nat → Value} {w : World} {d : Option Tmp} {x y : Operand} {ty T T' : TypeId} {pos : String} {aft : Array Edge} {g : Option (Nat × Bool)} {a b : Bool} (hx : ev n f x = .bool a) (hy : ev n f y = .bool b) (ht : bolB P T = true) :
    Run P n f ⟨d, .binOp .neq T x y T', ty, pos, aft, g⟩ w (.bool (!(a == b))) := by
  simp only [Run, execOp, hx, hy, binOp, eqGuard]; simp [eq_bol ht, Sem.run]
theorem neq_false {a b : Bool} (h : a = b) : (!(a == b)) = false := by subst h; cases a <;> rfl
abbrev CO (ad : Option Addr) (cap : Nat) (e : Er) : Ch := .sl 23 1 (.slice ad e.list.length cap) e.list.length (e.list.map fun q => .int .i64 q.1)
abbrev PL (ad : Option Addr) (cap : Nat) (e : Er) : Ch := .sl 3 1 (.slice ad e.list.length cap) e.list.length (e.list.map fun q => .int .i64 q.2)
theorem code_at {l : List (Int × Int)} {i : Nat} {q : Int × Int} (h : l[i]? = some q) : (l.map fun q => Value.int .i64 q.1)[i]? = some (.int .i64 q.1) := by rw [List.getElem?_map, h]; rfl
theorem place_at {l : List (Int × Int)} {i : Nat} {q : Int × Int} (h : l[i]? = some q) : (l.map fun q => Value.int .i64 q.2)[i]? = some (.int .i64 q.2) := by rw [List.getElem?_map, h]; rfl
def hasTo (e : Er) (c : Int) (k : Nat) : Bool := (e.list.take k).any fun p => decide (p.1 = c)
theorem hasTo_all (e : Er) (c : Int) {k : Nat} (h : e.list.length ≤ k) : hasTo e c k = e.has c := by rw [hasTo, Er.has_eq, List.take_of_length_le h]
theorem hasTo_succ {e : Er} {c : Int} {k : Nat} {q : Int × Int} (h : e.list[k]? = some q) : hasTo e c (k + 1) = (hasTo e c k || decide (q.1 = c)) := by
  unfold hasTo
  rw [List.take_add_one, h, List.any_append]
  simp
theorem has_mem {e : Er} {k : Nat} {q : Int × Int} (h : e.list[k]? = some q) : e.has q.1 = true := by
  rw [Er.has_eq, List.any_eq_true]
  exact ⟨q, List.mem_of_getElem? h, decide_eq_true rfl⟩
theorem first_at {e : Er} {q : Int × Int} (h : e.list[0]? = some q) : cod e = q.1 ∧ plc e = q.2 := by
  have h1 : e.first = some q := by rw [Er.first_eq, List.head?_eq_getElem?]; exact h
  exact ⟨by rw [cod, h1], by rw [plc, h1]⟩
theorem cod_zero {e : Er} (hg : e.Good) : decide (((e.list.length : Nat) : Int) = 0) = decide (cod e = 0) := by
  rw [decide_eq_decide]
  constructor
  · intro h
    have h1 : e.list = [] := List.eq_nil_of_length_eq_zero (by omega)
    rw [cod, Er.first_eq, h1]; rfl
  · intro h
    cases hl : e.list with
    | nil => rfl
    | cons q l =>
      have h1 := (first_at (e := e) (q := q) (by rw [hl]; rfl)).1
      have h2 := Er.list_ne hg q (by rw [hl]; exact .head _)
      exact absurd (h1.symm.trans h) h2
attribute [local irreducible] Oper.wp Sem.run Code.wp wpList wpAnyO callFunc execOp Calls

set_option maxHeartbeats 8000000 in
set_option maxRecDepth 100000 in
theorem hasLaw_ok (sa : Option Addr) (sl sc : Nat) (c : Int) (w : World) (hl : LaidV w) (hA : ActsR w sa sl) : Calls Tryd.prog 4 #[.slice sa sl sc, .int .i64 c] w (PostR w fun v => v = .bool true) := by
  have hS := St.start w
  refine c_enter Tryd.func4 rfl rfl rfl ?_
  refine wp_seq_k (fun K1 hK1 => ?_)
  refine wp_region_lit ?_
  first | refine l_q rfl rfl (q_assignB rfl) ?_ | refine l_q rfl rfl (q_assign rfl) ?_
  refine l_nil ?_
  refine hK1 _ _ ?_
  refine wp_seq_k (fun K2 hK2 => ?_)
  refine wp_region_lit ?_
  first | refine l_q rfl rfl (q_moveS rfl) ?_ | refine l_q rfl rfl (q_move rfl) ?_
  refine l_e rfl (fun K hK => ?_)
  refine e_call (by kernel_rfl) (built_ok sa sl sc _ hA) rfl (after_N hS (fun v3 G3 w3 hv3 hS3 => ?_))
  clear hS; obtain ⟨⟨k, m, ga, ac, gt, tc, bs, es, ss, vs, ts, rows⟩, hB, hk14, rfl, rfl⟩ := hv3
  have hm1 := hB.pos; have hm2 := hB.le; dsimp only [bG] at hS3 hm1 hm2 hk14; dsimp only
  have hS : St w (fun _ => False) [.pool bs es ss, .sl 29 1 (.slice (some ⟨ga, 0, none⟩) m ac) m vs, .sl 46 3 (.slice (some ⟨gt, 0, none⟩) m tc) m ts] w3 := hS3; clear hS3
  refine hK _ _ ?_; clear hK K
  refine l_q rfl rfl (q_move rfl) ?_
  refine l_q rfl rfl (q_extract rfl rfl) ?_
  refine l_q rfl rfl (q_extract rfl rfl) ?_
  first | refine l_q rfl rfl (q_assignS rfl) ?_ | refine l_q rfl rfl (q_assign rfl) ?_
  first | refine l_q rfl rfl (q_assignS rfl) ?_ | refine l_q rfl rfl (q_assign rfl) ?_
  refine l_nil ?_
  refine hK2 _ _ ?_
  refine wp_seq_k (fun K4 hK4 => ?_)
  refine wp_seq_k (fun K5 hK5 => ?_)
  refine wp_region_lit ?_
  first | refine l_q rfl rfl (q_assignI rfl) ?_ | refine l_q rfl rfl (q_assign rfl) ?_
  refine l_nil ?_
  refine hK5 _ _ ?_
  refine wp_block ?_
  refine c_loop (τ := Nat × Unit) [(4, 4), (7, 12), (18, 100)] (fun x => [(7, .int .i64 ((x.1 : Nat) : Int))]) (fun x w' => St w (fun _ => False) [.pool bs es ss, .sl 29 1 (.slice (some ⟨ga, 0, none⟩) m ac) m vs, .sl 46 3 (.slice (some ⟨gt, 0, none⟩) m tc) m ts] w' ∧ x.1 ≤ m) (fun x => m - x.1) ((0, ())) ?_ (by repeat' (first | exact trivial | refine ⟨by first | rfl | exact int_succ _, ?_⟩)) (fun x6 j6 w6 hJ6 K6 hK6 => ?_)
  ·
    exact ⟨hS, Nat.zero_le _⟩
  ·
    obtain ⟨i, u⟩ := x6; obtain ⟨hS6, hi⟩ := hJ6; dsimp only at hi hS6 ⊢
    refine wp_seq_k (fun K7 hK7 => ?_)
    refine wp_seq_k (fun K8 hK8 => ?_)
    refine wp_region_lit ?_
    first | refine l_q rfl rfl (q_moveI rfl) ?_ | refine l_q rfl rfl (q_move rfl) ?_
    first | refine l_q rfl rfl (q_moveS rfl) ?_ | refine l_q rfl rfl (q_move rfl) ?_
    refine l_q rfl rfl (q_lenSl (e := 29) rfl (by kernel_rfl)) ?_
    refine l_q rfl rfl (q_lss rfl rfl) ?_
    refine l_nil ?_
    refine hK8 _ _ ?_
    refine c_cond rfl (fun hc9 => ?_) (fun hc9 => ?_)
    ·
      have hc9b := hc9
      try simp only [decide_eq_true_eq, decide_eq_false_iff_not, Bool.not_eq_true', Bool.not_eq_false', Bool.and_eq_true, Bool.or_eq_true, Int.not_lt, Int.not_le, ne_eq, Decidable.not_not] at hc9
      have hlt := hc9
      obtain ⟨r, hr, hR, hrv, hrt⟩ := hB.atI (i := (i : Int)) (by omega) hlt
      obtain ⟨hr1, hr2, hr3, hr4, hr5, hr6⟩ := id hR
      obtain ⟨hr7, hr8⟩ := hR.small hk14
      dsimp only at hr1 hr2 hr3 hr7 hr8
      refine wp_skip ?_
      refine hK7 _ _ ?_
      refine wp_seq_k (fun K10 hK10 => ?_)
      refine wp_block ?_
      refine wp_seq_k (fun K11 hK11 => ?_)
      refine wp_region_lit ?_
      first | refine l_q rfl rfl (q_moveS rfl) ?_ | refine l_q rfl rfl (q_move rfl) ?_
      first | refine l_q rfl rfl (q_moveI rfl) ?_ | refine l_q rfl rfl (q_move rfl) ?_
      refine l_q rfl rfl (q_indexAddr (e := 29) (m := 1) rfl rfl (by kernel_rfl) (by kernel_rfl) (by first | decide | omega) (by first | decide | omega)) ?_
      refine l_q rfl rfl (q_load1 rfl (by kernel_rfl) (own_cellI (hS6.sl (i := 1) rfl) hrv)) ?_
      refine l_q rfl rfl (q_assign rfl) ?_
      refine l_nil ?_
      refine hK11 _ _ ?_
      refine wp_seq_k (fun K12 hK12 => ?_)
      refine wp_region_lit ?_
      refine l_q rfl rfl (q_move rfl) ?_
      refine l_e rfl (fun K hK => ?_)
      refine e_call (by kernel_rfl) (Codes_ok r.e _ _ (by first | decide | omega) (hl.keep id hS6) (pool_er hS6 (i := 0) rfl hr1)) rfl (after_N hS6 (fun v13 G13 w13 hv13 hS13 => ?_))
      clear hS6; subst hv13; obtain ⟨pa, pc, rfl⟩ := own_slice (hS13.sl (i := 0) rfl)
      refine hK _ _ ?_; clear hK K
      first | refine l_q rfl rfl (q_assignS rfl) ?_ | refine l_q rfl rfl (q_assign rfl) ?_
      refine l_nil ?_
      refine hK12 _ _ ?_
      refine wp_seq_k (fun K14 hK14 => ?_)
      refine wp_region_lit ?_
      refine l_q rfl rfl (q_move rfl) ?_
      refine l_e rfl (fun K hK => ?_)
      refine e_call (by kernel_rfl) (Places_ok r.e _ _ (by first | decide | omega) (hl.keep id hS13) (pool_er hS13 (i := 1) rfl hr1)) rfl (after_N hS13 (fun v15 G15 w15 hv15 hS15 => ?_))
      clear hS13; subst hv15; obtain ⟨oa, oc, rfl⟩ := own_slice (hS15.sl (i := 0) rfl)
      refine hK _ _ ?_; clear hK K
      first | refine l_q rfl rfl (q_assignS rfl) ?_ | refine l_q rfl rfl (q_assign rfl) ?_
      refine l_nil ?_
      refine hK14 _ _ ?_
      refine wp_seq_k (fun K16 hK16 => ?_)
      refine wp_region_lit ?_
      first | refine l_q rfl rfl (q_assignB rfl) ?_ | refine l_q rfl rfl (q_assign rfl) ?_
      refine l_nil ?_
      refine hK16 _ _ ?_
      refine wp_seq_k (fun K17 hK17 => ?_)
      refine wp_seq_k (fun K18 hK18 => ?_)
      refine wp_region_lit ?_
      first | refine l_q rfl rfl (q_assignI rfl) ?_ | refine l_q rfl rfl (q_assign rfl) ?_
      refine l_nil ?_
      refine hK18 _ _ ?_
      refine wp_block ?_
      refine c_loop (τ := Nat × Bool) [(4, 4), (11, 12), (32, 60)] (fun x => [(11, .bool x.2), (12, .int .i64 ((x.1 : Nat) : Int))]) (fun x w' => St w (fun _ => False) [PL oa oc r.e, CO pa pc r.e, .pool bs es ss, .sl 29 1 (.slice (some ⟨ga, 0, none⟩) m ac) m vs, .sl 46 3 (.slice (some ⟨gt, 0, none⟩) m tc) m ts] w' ∧ x.1 ≤ r.e.list.length ∧ x.2 = hasTo r.e c x.1) (fun x => r.e.list.length - x.1) ((0, false)) ?_ (by repeat' (first | exact trivial | refine ⟨by first | rfl | exact int_succ _, ?_⟩)) (fun x19 j19 w19 hJ19 K19 hK19 => ?_)
      ·
        exact ⟨hS15, Nat.zero_le _, by rw [hasTo]; rfl⟩
      ·
        obtain ⟨k, hb⟩ := x19; obtain ⟨hS19, hk, hhb⟩ := hJ19; dsimp only at hk hhb hS19 ⊢
        refine wp_seq_k (fun K20 hK20 => ?_)
        refine wp_seq_k (fun K21 hK21 => ?_)
        refine wp_region_lit ?_
        first | refine l_q rfl rfl (q_moveI rfl) ?_ | refine l_q rfl rfl (q_move rfl) ?_
        first | refine l_q rfl rfl (q_moveS rfl) ?_ | refine l_q rfl rfl (q_move rfl) ?_
        refine l_q rfl rfl (q_lenSl (e := 23) rfl (by kernel_rfl)) ?_
        refine l_q rfl rfl (q_lss rfl rfl) ?_
        refine l_nil ?_
        refine hK21 _ _ ?_
        refine c_cond rfl (fun hc22 => ?_) (fun hc22 => ?_)
        ·
          have hc22b := hc22
          try simp only [decide_eq_true_eq, decide_eq_false_iff_not, Bool.not_eq_true', Bool.not_eq_false', Bool.and_eq_true, Bool.or_eq_true, Int.not_lt, Int.not_le, ne_eq, Decidable.not_not] at hc22
          have hlk := hc22
          obtain ⟨q, hq⟩ : ∃ q, r.e.list[k]? = some q := ⟨_, List.getElem?_eq_getElem (by omega)⟩
          have hc1 : (r.e.list.map fun q => Value.int .i64 q.1)[(k : Int).toNat]? = some (.int .i64 q.1) := code_at hq
          have hq0 : ¬ q.1 = 0 := Er.list_ne hr4 q (List.mem_of_getElem? hq)
          have hqh := has_mem hq
          have hsu := hasTo_succ (c := c) hq
          obtain ⟨pg, pd, hpq⟩ := own_some (hS19.sl (i := 1) rfl) (by omega); obtain ⟨rfl, rfl⟩ : pa = some ⟨pg, 0, none⟩ ∧ pc = pd := by injection hpq with h1 h2 h3; exact ⟨h1, h3⟩
          refine wp_skip ?_
          refine hK20 _ _ ?_
          refine wp_seq_k (fun K23 hK23 => ?_)
          refine wp_block ?_
          refine wp_seq_k (fun K24 hK24 => ?_)
          refine wp_region_lit ?_
          first | refine l_q rfl rfl (q_moveB rfl) ?_ | refine l_q rfl rfl (q_move rfl) ?_
          first | refine l_q rfl rfl (q_moveB rfl) ?_ | refine l_q rfl rfl (q_move rfl) ?_
          refine g_splitL (t := 39) rfl (fun hg25 => ?_) (fun hg25 => ?_)
          ·
            have hg25b := hg25
            try simp only [decide_eq_true_eq, decide_eq_false_iff_not, Bool.not_eq_true', Bool.not_eq_false', Bool.and_eq_true, Bool.or_eq_true, Int.not_lt, Int.not_le, ne_eq, Decidable.not_not] at hg25
            refine l_off rfl rfl rfl hg25b ?_
            refine l_off rfl rfl rfl hg25b ?_
            refine l_off rfl rfl rfl hg25b ?_
            refine l_off rfl rfl rfl hg25b ?_
            refine l_off rfl rfl rfl hg25b ?_
            refine l_off rfl rfl rfl hg25b ?_
            refine l_q rfl rfl (q_pickT rfl hg25b rfl) ?_
            first | refine l_q rfl rfl (q_assignB rfl) ?_ | refine l_q rfl rfl (q_assign rfl) ?_
            refine l_nil ?_
            refine hK24 _ _ ?_
            refine wp_seq_k (fun K26 hK26 => ?_)
            refine wp_region_lit ?_
            first | refine l_q rfl rfl (q_moveS rfl) ?_ | refine l_q rfl rfl (q_move rfl) ?_
            first | refine l_q rfl rfl (q_moveI rfl) ?_ | refine l_q rfl rfl (q_move rfl) ?_
            refine l_q rfl rfl (q_indexAddr (e := 23) (m := 1) rfl rfl (by kernel_rfl) (by kernel_rfl) (by first | decide | omega) (by first | decide | omega)) ?_
            refine l_q rfl rfl (q_load1 rfl (by kernel_rfl) (own_cellI (hS19.sl (i := 1) rfl) hc1)) ?_
            refine l_q rfl rfl (q_eql rfl rfl) ?_
            first | refine l_q rfl rfl (q_moveB rfl) ?_ | refine l_q rfl rfl (q_move rfl) ?_
            refine l_on rfl rfl (decide_eq_false hq0) ?_
            refine l_q rfl rfl (q_move rfl) ?_
            refine l_on rfl rfl (decide_eq_false hq0) ?_
            first | refine l_q rfl rfl (q_moveS rfl) ?_ | refine l_q rfl rfl (q_move rfl) ?_
            refine l_on rfl rfl (decide_eq_false hq0) ?_
            first | refine l_q rfl rfl (q_moveI rfl) ?_ | refine l_q rfl rfl (q_move rfl) ?_
            refine l_on rfl rfl (decide_eq_false hq0) ?_
            refine l_q rfl rfl (q_indexAddr (e := 23) (m := 1) rfl rfl (by kernel_rfl) (by kernel_rfl) (by first | decide | omega) (by first | decide | omega)) ?_
            refine l_on rfl rfl (decide_eq_false hq0) ?_
            refine l_q rfl rfl (q_load1 rfl (by kernel_rfl) (own_cellI (hS19.sl (i := 1) rfl) hc1)) ?_
            refine l_on rfl rfl (decide_eq_false hq0) ?_
            refine l_e rfl (fun K hK => ?_)
            refine e_call (by kernel_rfl) (Has_ok q.1 r.e _ _ hr4 (hl.keep id hS19) (pool_er hS19 (i := 2) rfl hr1)) rfl (after_R hS19 (fun v27 w27 hv27 hS27 => ?_))
            clear hS19; replace hv27 := hv27.symm; subst hv27
            refine hK _ _ ?_; clear hK K
            refine l_on rfl rfl (decide_eq_false hq0) ?_
            refine l_q rfl rfl (q_not rfl) ?_
            refine l_q rfl rfl (q_pickF rfl (decide_eq_false hq0) rfl) ?_
            refine l_nil ?_
            refine hK26 _ _ ?_
            refine c_condF rfl (congrArg not hqh) ?_
            refine wp_skip ?_
            refine hK23 _ _ ?_
            refine wp_region_lit ?_
            first | refine l_q rfl rfl (q_moveI rfl) ?_ | refine l_q rfl rfl (q_move rfl) ?_
            first | refine l_q rfl rfl (q_addx rfl rfl (by first | decide | omega) (by first | decide | omega)) ?_ | refine l_q rfl rfl (q_add rfl rfl) ?_
            first | refine l_q rfl rfl (q_assignI rfl) ?_ | refine l_q rfl rfl (q_assign rfl) ?_
            refine l_nil ?_
            refine hK19 _ _ (came ((k + 1, true)) (by repeat' (first | exact Agree.refl _ _ | refine Agree.up ?_ rfl | refine Agree.hav2 ?_ rfl | refine Agree.ups2 ?_ rfl)) (by repeat' (first | exact trivial | refine ⟨by first | rfl | exact int_succ _, ?_⟩)) ?_)
            exact ⟨⟨hS27, by (show k + 1 ≤ r.e.list.length); omega, by (show true = hasTo r.e c (k + 1)); rw [hsu, ← hhb, hg25]; rfl⟩, by (show r.e.list.length - (k + 1) < r.e.list.length - k); omega⟩
          ·
            have hg25b := hg25
            try simp only [decide_eq_true_eq, decide_eq_false_iff_not, Bool.not_eq_true', Bool.not_eq_false', Bool.and_eq_true, Bool.or_eq_true, Int.not_lt, Int.not_le, ne_eq, Decidable.not_not] at hg25
            refine l_on rfl rfl hg25b ?_
            first | refine l_q rfl rfl (q_moveS rfl) ?_ | refine l_q rfl rfl (q_move rfl) ?_
            refine l_on rfl rfl hg25b ?_
            first | refine l_q rfl rfl (q_moveI rfl) ?_ | refine l_q rfl rfl (q_move rfl) ?_
            refine l_on rfl rfl hg25b ?_
            refine l_q rfl rfl (q_indexAddr (e := 23) (m := 1) rfl rfl (by kernel_rfl) (by kernel_rfl) (by first | decide | omega) (by first | decide | omega)) ?_
            refine l_on rfl rfl hg25b ?_
            refine l_q rfl rfl (q_load1 rfl (by kernel_rfl) (own_cellI (hS19.sl (i := 1) rfl) hc1)) ?_
            refine l_on rfl rfl hg25b ?_
            first | refine l_q rfl rfl (q_moveI rfl) ?_ | refine l_q rfl rfl (q_move rfl) ?_
            refine l_on rfl rfl hg25b ?_
            refine l_q rfl rfl (q_eql rfl rfl) ?_
            refine l_q rfl rfl (q_pickF rfl hg25b rfl) ?_
            first | refine l_q rfl rfl (q_assignB rfl) ?_ | refine l_q rfl rfl (q_assign rfl) ?_
            refine l_nil ?_
            refine hK24 _ _ ?_
            refine wp_seq_k (fun K29 hK29 => ?_)
            refine wp_region_lit ?_
            first | refine l_q rfl rfl (q_moveS rfl) ?_ | refine l_q rfl rfl (q_move rfl) ?_
            first | refine l_q rfl rfl (q_moveI rfl) ?_ | refine l_q rfl rfl (q_move rfl) ?_
            refine l_q rfl rfl (q_indexAddr (e := 23) (m := 1) rfl rfl (by kernel_rfl) (by kernel_rfl) (by first | decide | omega) (by first | decide | omega)) ?_
            refine l_q rfl rfl (q_load1 rfl (by kernel_rfl) (own_cellI (hS19.sl (i := 1) rfl) hc1)) ?_
            refine l_q rfl rfl (q_eql rfl rfl) ?_
            first | refine l_q rfl rfl (q_moveB rfl) ?_ | refine l_q rfl rfl (q_move rfl) ?_
            refine l_on rfl rfl (decide_eq_false hq0) ?_
            refine l_q rfl rfl (q_move rfl) ?_
            refine l_on rfl rfl (decide_eq_false hq0) ?_
            first | refine l_q rfl rfl (q_moveS rfl) ?_ | refine l_q rfl rfl (q_move rfl) ?_
            refine l_on rfl rfl (decide_eq_false hq0) ?_
            first | refine l_q rfl rfl (q_moveI rfl) ?_ | refine l_q rfl rfl (q_move rfl) ?_
            refine l_on rfl rfl (decide_eq_false hq0) ?_
            refine l_q rfl rfl (q_indexAddr (e := 23) (m := 1) rfl rfl (by kernel_rfl) (by kernel_rfl) (by first | decide | omega) (by first | decide | omega)) ?_
            refine l_on rfl rfl (decide_eq_false hq0) ?_
            refine l_q rfl rfl (q_load1 rfl (by kernel_rfl) (own_cellI (hS19.sl (i := 1) rfl) hc1)) ?_
            refine l_on rfl rfl (decide_eq_false hq0) ?_
            refine l_e rfl (fun K hK => ?_)
            refine e_call (by kernel_rfl) (Has_ok q.1 r.e _ _ hr4 (hl.keep id hS19) (pool_er hS19 (i := 2) rfl hr1)) rfl (after_R hS19 (fun v30 w30 hv30 hS30 => ?_))
            clear hS19; replace hv30 := hv30.symm; subst hv30
            refine hK _ _ ?_; clear hK K
            refine l_on rfl rfl (decide_eq_false hq0) ?_
            refine l_q rfl rfl (q_not rfl) ?_
            refine l_q rfl rfl (q_pickF rfl (decide_eq_false hq0) rfl) ?_
            refine l_nil ?_
            refine hK29 _ _ ?_
            refine c_condF rfl (congrArg not hqh) ?_
            refine wp_skip ?_
            refine hK23 _ _ ?_
            refine wp_region_lit ?_
            first | refine l_q rfl rfl (q_moveI rfl) ?_ | refine l_q rfl rfl (q_move rfl) ?_
            first | refine l_q rfl rfl (q_addx rfl rfl (by first | decide | omega) (by first | decide | omega)) ?_ | refine l_q rfl rfl (q_add rfl rfl) ?_
            first | refine l_q rfl rfl (q_assignI rfl) ?_ | refine l_q rfl rfl (q_assign rfl) ?_
            refine l_nil ?_
            refine hK19 _ _ (came ((k + 1, decide (q.1 = c))) (by repeat' (first | exact Agree.refl _ _ | refine Agree.up ?_ rfl | refine Agree.hav2 ?_ rfl | refine Agree.ups2 ?_ rfl)) (by repeat' (first | exact trivial | refine ⟨by first | rfl | exact int_succ _, ?_⟩)) ?_)
            exact ⟨⟨hS30, by (show k + 1 ≤ r.e.list.length); omega, by (show decide (q.1 = c) = hasTo r.e c (k + 1)); rw [hsu, ← hhb, hg25]; rfl⟩, by (show r.e.list.length - (k + 1) < r.e.list.length - k); omega⟩
        ·
          have hc22b := hc22
          try simp only [decide_eq_true_eq, decide_eq_false_iff_not, Bool.not_eq_true', Bool.not_eq_false', Bool.and_eq_true, Bool.or_eq_true, Int.not_lt, Int.not_le, ne_eq, Decidable.not_not] at hc22
          have hlk := hc22
          rw [hasTo_all r.e c (by omega)] at hhb
          subst hhb
          refine wp_exit ?_
          refine hK17 _ _ ?_
          refine wp_seq_k (fun K32 hK32 => ?_)
          refine wp_seq_k (fun K33 hK33 => ?_)
          refine wp_region_lit ?_
          first | refine l_q rfl rfl (q_moveB rfl) ?_ | refine l_q rfl rfl (q_move rfl) ?_
          refine l_q rfl rfl (q_move rfl) ?_
          first | refine l_q rfl rfl (q_moveI rfl) ?_ | refine l_q rfl rfl (q_move rfl) ?_
          refine l_e rfl (fun K hK => ?_)
          refine e_call (by kernel_rfl) (Has_ok c r.e _ _ hr4 (hl.keep id hS19) (pool_er hS19 (i := 2) rfl hr1)) rfl (after_R hS19 (fun v34 w34 hv34 hS34 => ?_))
          clear hS19; replace hv34 := hv34.symm; subst hv34
          refine hK _ _ ?_; clear hK K
          refine l_q rfl rfl (q_bool_neq rfl rfl (by kernel_rfl)) ?_
          first | refine l_q rfl rfl (q_moveB rfl) ?_ | refine l_q rfl rfl (q_move rfl) ?_
          refine l_on rfl rfl (neq_false rfl) ?_
          first | refine l_q rfl rfl (q_moveS rfl) ?_ | refine l_q rfl rfl (q_move rfl) ?_
          refine l_on rfl rfl (neq_false rfl) ?_
          refine l_q rfl rfl (q_lenSl (e := 23) rfl (by kernel_rfl)) ?_
          refine l_on rfl rfl (neq_false rfl) ?_
          first | refine l_q rfl rfl (q_moveS rfl) ?_ | refine l_q rfl rfl (q_move rfl) ?_
          refine l_on rfl rfl (neq_false rfl) ?_
          refine l_q rfl rfl (q_lenSl (e := 3) rfl (by kernel_rfl)) ?_
          refine l_on rfl rfl (neq_false rfl) ?_
          refine l_q rfl rfl (q_neq rfl rfl) ?_
          refine l_q rfl rfl (q_pickF rfl (neq_false rfl) rfl) ?_
          first | refine l_q rfl rfl (q_moveB rfl) ?_ | refine l_q rfl rfl (q_move rfl) ?_
          refine l_on rfl rfl (decide_eq_false (fun hh => hh rfl)) ?_
          first | refine l_q rfl rfl (q_moveS rfl) ?_ | refine l_q rfl rfl (q_move rfl) ?_
          refine l_on rfl rfl (decide_eq_false (fun hh => hh rfl)) ?_
          refine l_q rfl rfl (q_lenSl (e := 23) rfl (by kernel_rfl)) ?_
          refine l_on rfl rfl (decide_eq_false (fun hh => hh rfl)) ?_
          refine l_q rfl rfl (q_eql rfl rfl) ?_
          refine l_on rfl rfl (decide_eq_false (fun hh => hh rfl)) ?_
          refine l_q rfl rfl (q_move rfl) ?_
          refine l_on rfl rfl (decide_eq_false (fun hh => hh rfl)) ?_
          refine l_e rfl (fun K hK => ?_)
          refine e_call (by kernel_rfl) (Code_ok r.e hr4 _ _ (hl.keep id hS34) (pool_er hS34 (i := 2) rfl hr1)) rfl (after_R hS34 (fun v35 w35 hv35 hS35 => ?_))
          clear hS34; replace hv35 := hv35.symm; subst hv35
          refine hK _ _ ?_; clear hK K
          refine l_on rfl rfl (decide_eq_false (fun hh => hh rfl)) ?_
          refine l_q rfl rfl (q_eql rfl rfl) ?_
          refine l_on rfl rfl (decide_eq_false (fun hh => hh rfl)) ?_
          refine l_q rfl rfl (q_bool_neq rfl rfl (by kernel_rfl)) ?_
          refine l_q rfl rfl (q_pickF rfl (decide_eq_false (fun hh => hh rfl)) rfl) ?_
          refine l_nil ?_
          refine hK33 _ _ ?_
          refine c_condF rfl (neq_false (cod_zero hr4)) ?_
          refine wp_skip ?_
          refine hK32 _ _ ?_
          refine wp_seq_k (fun K37 hK37 => ?_)
          refine r_any (by kernel_rfl) hS35 (fun w38 hS38 => ?_)
          clear hS35
          first | refine o_pure (i := 0) (fun _ _ => trivial) rfl rfl (by kernel_rfl) (goes0 rfl) (QOk.then (QOk.inBlock (QOk.then (QOk.then (QOk.inBlock (QOk.then QOk.body)))))) (fun w => q_moveS rfl) ?_ | refine o_pure (i := 0) (fun _ _ => trivial) rfl rfl (by kernel_rfl) (goes0 rfl) (QOk.then (QOk.inBlock (QOk.then (QOk.then (QOk.inBlock (QOk.then QOk.body)))))) (fun w => q_move rfl) ?_
          refine o_pure (i := 1) (fun _ _ => trivial) rfl rfl (by kernel_rfl) (goes0 rfl) (QOk.then (QOk.inBlock (QOk.then (QOk.then (QOk.inBlock (QOk.then QOk.body)))))) (fun w => q_lenSl (e := 23) rfl (by kernel_rfl)) ?_
          refine o_pure (i := 2) (fun _ _ => trivial) rfl rfl (by kernel_rfl) (goes0 rfl) (QOk.then (QOk.inBlock (QOk.then (QOk.then (QOk.inBlock (QOk.then QOk.body)))))) (fun w => q_gtr rfl rfl) ?_
          first | refine o_pure (i := 3) (fun _ _ => trivial) rfl rfl (by kernel_rfl) (goes0 rfl) (QOk.then (QOk.inBlock (QOk.then (QOk.then (QOk.inBlock (QOk.then QOk.body)))))) (fun w => q_moveB rfl) ?_ | refine o_pure (i := 3) (fun _ _ => trivial) rfl rfl (by kernel_rfl) (goes0 rfl) (QOk.then (QOk.inBlock (QOk.then (QOk.then (QOk.inBlock (QOk.then QOk.body)))))) (fun w => q_move rfl) ?_
          refine g_splitO (t := 85) rfl (fun hg39 => ?_) (fun hg39 => ?_)
          ·
            have hg39b := hg39
            try simp only [decide_eq_true_eq, decide_eq_false_iff_not, Bool.not_eq_true', Bool.not_eq_false', Bool.and_eq_true, Bool.or_eq_true, Int.not_lt, Int.not_le, ne_eq, Decidable.not_not] at hg39
            have h0 := hg39
            obtain ⟨q, hq⟩ : ∃ q, r.e.list[0]? = some q := ⟨_, List.getElem?_eq_getElem (by omega)⟩
            have hf := first_at hq
            have hc1 : (r.e.list.map fun q => Value.int .i64 q.1)[(0 : Int).toNat]? = some (.int .i64 (cod r.e)) := by rw [hf.1]; exact code_at hq
            have hc2 : (r.e.list.map fun q => Value.int .i64 q.2)[(0 : Int).toNat]? = some (.int .i64 (plc r.e)) := by rw [hf.2]; exact place_at hq
            obtain ⟨pg, pd, hpq⟩ := own_some (hS38.sl (i := 1) rfl) (by omega); obtain ⟨rfl, rfl⟩ : pa = some ⟨pg, 0, none⟩ ∧ pc = pd := by injection hpq with h1 h2 h3; exact ⟨h1, h3⟩
            obtain ⟨og, od, hoq⟩ := own_some (hS38.sl (i := 0) rfl) (by omega); obtain ⟨rfl, rfl⟩ : oa = some ⟨og, 0, none⟩ ∧ oc = od := by injection hoq with h1 h2 h3; exact ⟨h1, h3⟩
            first | refine o_pure (i := 4) (fun _ _ => trivial) rfl rfl (by kernel_rfl) (goes1 rfl rfl hg39b) (QOk.then (QOk.inBlock (QOk.then (QOk.then (QOk.inBlock (QOk.then QOk.body)))))) (fun w => q_moveS rfl) ?_ | refine o_pure (i := 4) (fun _ _ => trivial) rfl rfl (by kernel_rfl) (goes1 rfl rfl hg39b) (QOk.then (QOk.inBlock (QOk.then (QOk.then (QOk.inBlock (QOk.then QOk.body)))))) (fun w => q_move rfl) ?_
            refine o_pure (i := 5) (fun _ _ => trivial) rfl rfl (by kernel_rfl) (goes1 rfl rfl hg39b) (QOk.then (QOk.inBlock (QOk.then (QOk.then (QOk.inBlock (QOk.then QOk.body)))))) (fun w => q_indexAddr (e := 23) (m := 1) rfl rfl (by kernel_rfl) (by kernel_rfl) (by first | decide | omega) (by first | decide | omega)) ?_
            refine o_held (i := 6) [9, 10, 11, 12, 13, 14, 15, 16, 17, 18] (fun _ _ => trivial) rfl rfl (by kernel_rfl) (goes1 rfl rfl hg39b) (QOk.then (QOk.inBlock (QOk.then (QOk.then (QOk.inBlock (QOk.then QOk.body)))))) (q_load1 rfl (by kernel_rfl) (own_cellI (hS38.sl (i := 1) rfl) hc1)) ?_
            refine o_pure (i := 7) (fun j w => ⟨(fun _ _ => trivial) j w, fun _ h => h⟩) rfl rfl (by kernel_rfl) (goes1 rfl rfl hg39b) (QOk.then (QOk.inBlock (QOk.then (QOk.then (QOk.inBlock (QOk.then QOk.body)))))) (fun w => q_move rfl) ?_
            refine o_eff (i := 8) (by kernel_rfl) rfl (goes1 rfl rfl hg39b) (fun K hK => ?_)
            refine e_call (by kernel_rfl) (Code_ok r.e hr4 _ _ (hl.keep id hS38) (pool_er hS38 (i := 2) rfl hr1)) rfl (after_R hS38 (fun v40 w40 hv40 hS40 => ?_))
            clear hS38; replace hv40 := hv40.symm; subst hv40
            refine hK _ _ ⟨trivial, fun _ _ => by first | exact q_load1 rfl (by kernel_rfl) (own_cellI (hS40.sl (i := 1) rfl) hc1)⟩ ?_; clear hK K
            refine o_pure (i := 9) (fun j w => ⟨(fun _ _ => trivial) j w, fun _ h => h⟩) rfl rfl (by kernel_rfl) (goes1 rfl rfl hg39b) (QOk.then (QOk.inBlock (QOk.then (QOk.then (QOk.inBlock (QOk.then QOk.body)))))) (fun w => q_neq rfl rfl) ?_
            first | refine o_pure (i := 10) (fun j w => ⟨(fun _ _ => trivial) j w, fun _ h => h⟩) rfl rfl (by kernel_rfl) (goes1 rfl rfl hg39b) (QOk.then (QOk.inBlock (QOk.then (QOk.then (QOk.inBlock (QOk.then QOk.body)))))) (fun w => q_moveB rfl) ?_ | refine o_pure (i := 10) (fun j w => ⟨(fun _ _ => trivial) j w, fun _ h => h⟩) rfl rfl (by kernel_rfl) (goes1 rfl rfl hg39b) (QOk.then (QOk.inBlock (QOk.then (QOk.then (QOk.inBlock (QOk.then QOk.body)))))) (fun w => q_move rfl) ?_
            first | refine o_pure (i := 11) (fun j w => ⟨(fun _ _ => trivial) j w, fun _ h => h⟩) rfl rfl (by kernel_rfl) (goes1 rfl rfl (decide_eq_false (fun hh => hh rfl))) (QOk.then (QOk.inBlock (QOk.then (QOk.then (QOk.inBlock (QOk.then QOk.body)))))) (fun w => q_moveS rfl) ?_ | refine o_pure (i := 11) (fun j w => ⟨(fun _ _ => trivial) j w, fun _ h => h⟩) rfl rfl (by kernel_rfl) (goes1 rfl rfl (decide_eq_false (fun hh => hh rfl))) (QOk.then (QOk.inBlock (QOk.then (QOk.then (QOk.inBlock (QOk.then QOk.body)))))) (fun w => q_move rfl) ?_
            refine o_pure (i := 12) (fun j w => ⟨(fun _ _ => trivial) j w, fun _ h => h⟩) rfl rfl (by kernel_rfl) (goes1 rfl rfl (decide_eq_false (fun hh => hh rfl))) (QOk.then (QOk.inBlock (QOk.then (QOk.then (QOk.inBlock (QOk.then QOk.body)))))) (fun w => q_indexAddr (e := 3) (m := 1) rfl rfl (by kernel_rfl) (by kernel_rfl) (by first | decide | omega) (by first | decide | omega)) ?_
            refine o_held (i := 13) [16, 17, 18] (fun j w => ⟨(fun _ _ => trivial) j w, fun _ h => h⟩) rfl rfl (by kernel_rfl) (goes1 rfl rfl (decide_eq_false (fun hh => hh rfl))) (QOk.then (QOk.inBlock (QOk.then (QOk.then (QOk.inBlock (QOk.then QOk.body)))))) (q_load1 rfl (by kernel_rfl) (own_cellI (hS40.sl (i := 0) rfl) hc2)) ?_
            refine o_pure (i := 14) (fun j w => ⟨(fun j w => ⟨(fun _ _ => trivial) j w, fun _ h => h⟩) j w, fun _ h => h⟩) rfl rfl (by kernel_rfl) (goes1 rfl rfl (decide_eq_false (fun hh => hh rfl))) (QOk.then (QOk.inBlock (QOk.then (QOk.then (QOk.inBlock (QOk.then QOk.body)))))) (fun w => q_move rfl) ?_
            refine o_eff (i := 15) (by kernel_rfl) rfl (goes1 rfl rfl (decide_eq_false (fun hh => hh rfl))) (fun K hK => ?_)
            refine e_call (by kernel_rfl) (At_ok r.e hr4 _ _ (hl.keep id hS40) (pool_er hS40 (i := 2) rfl hr1)) rfl (after_R hS40 (fun v41 w41 hv41 hS41 => ?_))
            clear hS40; replace hv41 := hv41.symm; subst hv41
            refine hK _ _ ⟨⟨trivial, fun h => absurd h (by decide)⟩, fun _ _ => by first | exact q_load1 rfl (by kernel_rfl) (own_cellI (hS41.sl (i := 0) rfl) hc2)⟩ ?_; clear hK K
            refine o_pure (i := 16) (fun j w => ⟨(fun j w => ⟨(fun _ _ => trivial) j w, fun _ h => h⟩) j w, fun _ h => h⟩) rfl rfl (by kernel_rfl) (goes1 rfl rfl (decide_eq_false (fun hh => hh rfl))) (QOk.then (QOk.inBlock (QOk.then (QOk.then (QOk.inBlock (QOk.then QOk.body)))))) (fun w => q_neq rfl rfl) ?_
            refine o_pure (i := 17) (fun j w => ⟨(fun j w => ⟨(fun _ _ => trivial) j w, fun _ h => h⟩) j w, fun _ h => h⟩) rfl rfl (by kernel_rfl) (goes1 rfl rfl hg39b) (QOk.then (QOk.inBlock (QOk.then (QOk.then (QOk.inBlock (QOk.then QOk.body)))))) (fun w => q_pickF rfl (decide_eq_false (fun hh => hh rfl)) rfl) ?_
            refine o_pure (i := 18) (fun j w => ⟨(fun j w => ⟨(fun _ _ => trivial) j w, fun _ h => h⟩) j w, fun _ h => h⟩) rfl rfl (by kernel_rfl) (goes0 rfl) (QOk.then (QOk.inBlock (QOk.then (QOk.then (QOk.inBlock (QOk.then QOk.body)))))) (fun w => q_pickT rfl hg39b rfl) ?_
            refine o_done (by kernel_rfl) ?_
            refine hK37 _ _ ?_
            refine c_condF rfl (decide_eq_false (fun hh => hh rfl)) ?_
            refine wp_skip ?_
            refine hK10 _ _ ?_
            refine wp_region_lit ?_
            first | refine l_q rfl rfl (q_moveI rfl) ?_ | refine l_q rfl rfl (q_move rfl) ?_
            first | refine l_q rfl rfl (q_addx rfl rfl (by first | decide | omega) (by first | decide | omega)) ?_ | refine l_q rfl rfl (q_add rfl rfl) ?_
            first | refine l_q rfl rfl (q_assignI rfl) ?_ | refine l_q rfl rfl (q_assign rfl) ?_
            refine l_nil ?_
            refine hK6 _ _ (came ((i + 1, ())) (by repeat' (first | exact Agree.refl _ _ | refine Agree.up ?_ rfl | refine Agree.hav2 ?_ rfl | refine Agree.ups2 ?_ rfl)) (by repeat' (first | exact trivial | refine ⟨by first | rfl | exact int_succ _, ?_⟩)) ?_)
            exact ⟨⟨hS41.sub (by repeat' (first | exact List.Sublist.refl _ | exact List.nil_sublist _ | apply List.Sublist.cons_cons | apply List.Sublist.cons)), by (show i + 1 ≤ m); omega⟩, by (show m - (i + 1) < m - i); omega⟩
          ·
            have hg39b := hg39
            try simp only [decide_eq_true_eq, decide_eq_false_iff_not, Bool.not_eq_true', Bool.not_eq_false', Bool.and_eq_true, Bool.or_eq_true, Int.not_lt, Int.not_le, ne_eq, Decidable.not_not] at hg39
            refine o_off (i := 4) (fun _ _ => trivial) rfl rfl (by kernel_rfl) rfl rfl hg39b (QOk.then (QOk.inBlock (QOk.then (QOk.then (QOk.inBlock (QOk.then QOk.body)))))) ?_
            refine o_off (i := 5) (fun _ _ => trivial) rfl rfl (by kernel_rfl) rfl rfl hg39b (QOk.then (QOk.inBlock (QOk.then (QOk.then (QOk.inBlock (QOk.then QOk.body)))))) ?_
            refine o_off (i := 6) (fun _ _ => trivial) rfl rfl (by kernel_rfl) rfl rfl hg39b (QOk.then (QOk.inBlock (QOk.then (QOk.then (QOk.inBlock (QOk.then QOk.body)))))) ?_
            refine o_off (i := 7) (fun _ _ => trivial) rfl rfl (by kernel_rfl) rfl rfl hg39b (QOk.then (QOk.inBlock (QOk.then (QOk.then (QOk.inBlock (QOk.then QOk.body)))))) ?_
            refine o_off (i := 8) (fun _ _ => trivial) rfl rfl (by kernel_rfl) rfl rfl hg39b (QOk.then (QOk.inBlock (QOk.then (QOk.then (QOk.inBlock (QOk.then QOk.body)))))) ?_
            refine o_off (i := 9) (fun _ _ => trivial) rfl rfl (by kernel_rfl) rfl rfl hg39b (QOk.then (QOk.inBlock (QOk.then (QOk.then (QOk.inBlock (QOk.then QOk.body)))))) ?_
            refine o_off (i := 10) (fun _ _ => trivial) rfl rfl (by kernel_rfl) rfl rfl hg39b (QOk.then (QOk.inBlock (QOk.then (QOk.then (QOk.inBlock (QOk.then QOk.body)))))) ?_
            refine o_offN (i := 11) (fun _ _ => trivial) rfl rfl (by kernel_rfl) rfl rfl (QOk.then (QOk.inBlock (QOk.then (QOk.then (QOk.inBlock (QOk.then QOk.body)))))) ?_
            refine o_offN (i := 12) (fun _ _ => trivial) rfl rfl (by kernel_rfl) rfl rfl (QOk.then (QOk.inBlock (QOk.then (QOk.then (QOk.inBlock (QOk.then QOk.body)))))) ?_
            refine o_offN (i := 13) (fun _ _ => trivial) rfl rfl (by kernel_rfl) rfl rfl (QOk.then (QOk.inBlock (QOk.then (QOk.then (QOk.inBlock (QOk.then QOk.body)))))) ?_
            refine o_offN (i := 14) (fun _ _ => trivial) rfl rfl (by kernel_rfl) rfl rfl (QOk.then (QOk.inBlock (QOk.then (QOk.then (QOk.inBlock (QOk.then QOk.body)))))) ?_
            refine o_offN (i := 15) (fun _ _ => trivial) rfl rfl (by kernel_rfl) rfl rfl (QOk.then (QOk.inBlock (QOk.then (QOk.then (QOk.inBlock (QOk.then QOk.body)))))) ?_
            refine o_offN (i := 16) (fun _ _ => trivial) rfl rfl (by kernel_rfl) rfl rfl (QOk.then (QOk.inBlock (QOk.then (QOk.then (QOk.inBlock (QOk.then QOk.body)))))) ?_
            refine o_off (i := 17) (fun _ _ => trivial) rfl rfl (by kernel_rfl) rfl rfl hg39b (QOk.then (QOk.inBlock (QOk.then (QOk.then (QOk.inBlock (QOk.then QOk.body)))))) ?_
            refine o_pure (i := 18) (fun _ _ => trivial) rfl rfl (by kernel_rfl) (goes0 rfl) (QOk.then (QOk.inBlock (QOk.then (QOk.then (QOk.inBlock (QOk.then QOk.body)))))) (fun w => q_pickF rfl hg39b rfl) ?_
            refine o_done (by kernel_rfl) ?_
            refine hK37 _ _ ?_
            refine c_condF rfl rfl ?_
            refine wp_skip ?_
            refine hK10 _ _ ?_
            refine wp_region_lit ?_
            first | refine l_q rfl rfl (q_moveI rfl) ?_ | refine l_q rfl rfl (q_move rfl) ?_
            first | refine l_q rfl rfl (q_addx rfl rfl (by first | decide | omega) (by first | decide | omega)) ?_ | refine l_q rfl rfl (q_add rfl rfl) ?_
            first | refine l_q rfl rfl (q_assignI rfl) ?_ | refine l_q rfl rfl (q_assign rfl) ?_
            refine l_nil ?_
            refine hK6 _ _ (came ((i + 1, ())) (by repeat' (first | exact Agree.refl _ _ | refine Agree.up ?_ rfl | refine Agree.hav2 ?_ rfl | refine Agree.ups2 ?_ rfl)) (by repeat' (first | exact trivial | refine ⟨by first | rfl | exact int_succ _, ?_⟩)) ?_)
            exact ⟨⟨hS38.sub (by repeat' (first | exact List.Sublist.refl _ | exact List.nil_sublist _ | apply List.Sublist.cons_cons | apply List.Sublist.cons)), by (show i + 1 ≤ m); omega⟩, by (show m - (i + 1) < m - i); omega⟩
    ·
      have hc9b := hc9
      try simp only [decide_eq_true_eq, decide_eq_false_iff_not, Bool.not_eq_true', Bool.not_eq_false', Bool.and_eq_true, Bool.or_eq_true, Int.not_lt, Int.not_le, ne_eq, Decidable.not_not] at hc9
      refine wp_exit ?_
      refine hK4 _ _ ?_
      refine wp_seq_k (fun K44 hK44 => ?_)
      refine wp_region_lit ?_
      refine l_e rfl (fun K hK => ?_)
      refine e_call (by kernel_rfl) (alive_ok _ (hl.keep id hS6)) rfl (after_R hS6 (fun v45 w45 hv45 hS45 => ?_))
      clear hS6; replace hv45 := hv45.symm; subst hv45
      refine hK _ _ ?_; clear hK K
      first | refine l_q rfl rfl (q_assignB rfl) ?_ | refine l_q rfl rfl (q_assign rfl) ?_
      refine l_nil ?_
      refine hK44 _ _ ?_
      refine wp_ret ?_
      refine c_ret1 rfl rfl ?_
      exact ⟨_, rfl, rfl, hS45.drop⟩

end Go.Proofs.YtdlmcgflgdmjgaaDoor
