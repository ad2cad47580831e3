/- Net: its letters; New, put, Look, Told. -/
import Derived.Test.YtlplhlncdfhhoaaRj
import Derived.Test.YtlplhlncdfhhoaaMa
set_option linter.unusedVariables false
set_option linter.unusedSimpArgs false
namespace Go.Proofs.Ytlplhlncdfhhoaa
open Go.RowKit
/-- A letter under way: its bytes' place, the letter. -/
structure Ent where
  ad : Option Addr
  cap : Nat
  l : Lr
def nc (q : Int × Ent) : Value × Value := (.int .i64 q.1, .slice q.2.ad (encL q.2.l).length q.2.cap)
abbrev ntO (mb s t o : Nat) : Obj := .cells #[.map (some mb), .int .i64 ((s : Nat) : Int), .int .i64 ((t : Nat) : Int), .int .i64 ((o : Nat) : Int)] 60
def EOk (g : Gh) (L : List (Int × Ent)) : Prop := ∀ q ∈ L, SlG g q.2.ad (bv (encL q.2.l)) ∧ rightL q.2.l = true ∧ (encL q.2.l).length ≤ q.2.cap
theorem EOk.mono {g h : Gh} {L : List (Int × Ent)} (hE : EOk g L) (hg : Gle g h) : EOk h L := fun q hq => ⟨(hE q hq).1.mono hg, (hE q hq).2⟩
theorem EOk.nil {g : Gh} : EOk g [] := fun q h => by cases h
theorem nc_inj : CInj nc (fun _ => True) := fun a b _ _ h => by
  have : Value.int .i64 a.1 = Value.int .i64 b.1 := h
  injection this
theorem nc_key (n : Int) (e : Ent) : (nc (n, e)).1 = .int .i64 n := rfl
theorem nc_miss {L : List (Int × Ent)} {n : Int} (h : ∀ q ∈ L, q.1 ≠ n) : ∀ q ∈ List.map nc L, q.1 ≠ .int .i64 n := look_miss (k := n) nc_inj (fun _ _ => trivial) trivial (fun _ => rfl) h
theorem nc_apart {L : List (Int × Ent)} {w : World} {mb : Nat} (h : MapSat (.int .i64) mb (List.map nc L) w) : L.Pairwise fun a b => a.1 ≠ b.1 := pw_map h.apart rfl fun a b e => by show Value.int .i64 a.1 = Value.int .i64 b.1; rw [e]
theorem nc_up {L : List (Int × Ent)} {n : Int} {e : Ent} {v : Value} (hd : L.Pairwise fun a b => a.1 ≠ b.1) (hn : ∀ q ∈ L, q.1 ≠ n) (hv : v = .slice e.ad (encL e.l).length e.cap) : MUp (List.map nc L) (.int .i64 n) v (List.map nc (L ++ [(n, e)])) := by
  subst hv
  refine MUp.of (ok := fun _ => True) (k := n) (x := e) hd nc_inj (fun _ _ => trivial) trivial rfl (fun _ => rfl) ?_
  unfold mset
  rw [List.filter_eq_self.2 fun q hq => by simpa using hn q hq]
  exact List.perm_append_comm
theorem nc_del {L : List (Int × Ent)} {n : Int} (hd : L.Pairwise fun a b => a.1 ≠ b.1) : MDel (List.map nc L) (.int .i64 n) (List.map nc (mdel L n)) :=
  MDel.of (ok := fun _ => True) hd nc_inj (fun _ _ => trivial) trivial (fun _ => rfl) (List.Perm.refl _)
attribute [local irreducible] Oper.wp Sem.run Code.wp wpList wpAnyO callFunc execOp Calls
attribute [local irreducible] toU short rencs renc rowE encRow rightB zig unzig decRw rightL risB lastN bitsOf nodesTo encL encLE sameL

set_option maxRecDepth 100000 in
theorem nnew_ok (w : World) : Calls Try.prog 9 #[] w (PostN w fun v G => ∃ k mb, v = pV k ∧ G = [.blk k (ntO mb 0 0 0), .mp (.int .i64) mb (List.map nc [])]) := by
 have hS := St.start w
 refine c_enter Try.func9 rfl rfl rfl ?_
 refine wp_seq_k (fun K1 hK1 => ?_)
 refine wp_region_lit ?_
 refine l_q rfl rfl (q_assignP rfl) ?_
 refine l_nil ?_
 refine hK1 _ _ ?_
 refine wp_seq_k (fun K2 hK2 => ?_)
 refine wp_region_lit ?_
 refine l_e rfl (fun K hK => ?_)
 refine e_makeMap hS (.int .i64) (fun m3 w3 (hS3 : St _ _ [.mp (.int .i64) m3 []] _) => ?_)
 clear hS
 refine hK _ _ ?_; clear hK K
 refine l_q rfl rfl (q_build (ps := [(0, 1), (1, 1), (2, 1), (3, 1)]) (zv := .agg #[.map none, .int .i64 0, .int .i64 0, .int .i64 0]) (by kernel_rfl) (by kernel_rfl) rfl (by repeat' (first | exact trivial | refine ⟨fun _ => by first | rfl | assumption | exact one_if (by assumption), ?_⟩ | refine ⟨fun ⟨_, h⟩ => by simp at h, ?_⟩)) rfl) ?_
 refine l_e rfl (fun K hK => ?_)
 refine e_boxA hS3 rfl (fun b4 w4 (hS4 : St _ _ [.blk b4 (.cells #[.map (some m3), .int .i64 (0 : Int), .int .i64 (0 : Int), .int .i64 (0 : Int)] 60), _] _) => ?_)
 clear hS3
 refine hK _ _ ?_; clear hK K
 refine l_q rfl rfl (q_assignP rfl) ?_
 refine l_nil ?_
 refine hK2 _ _ ?_
 refine wp_ret ?_
 refine c_ret1 rfl rfl ?_
 exact ⟨_, _, rfl, ⟨_, _, rfl, rfl⟩, hS4⟩

set_option maxRecDepth 100000 in
theorem look_hit_ok (k mb s t o : Nat) (L : List (Int × Ent)) (n : Int) (e : Ent) (he : (n, e) ∈ L) (w : World) (hk : w.heap[k]? = some (ntO mb s t o)) (hM : MapSat (.int .i64) mb (List.map nc L) w) (hE : EOk (hw w) L) : Calls Try.prog 16 #[pV k, .int .i64 n] w (PostN w fun v G => ∃ an cn, v = .tuple #[.agg (LV e.l an cn).toArray, .int .i64 0] ∧ G = [.ow 3 1 an e.l.nd.length cn (iv e.l.nd)]) := by
 have hS := St.start w
 refine c_enter Try.func16 rfl rfl rfl ?_
 refine wp_seq_k (fun K1 hK1 => ?_)
 refine wp_region_lit ?_
 refine l_e rfl (fun K hK => ?_)
 refine e_alloc (zv := .agg #[.int .i64 0, .int .i64 0, .int .i64 0, .int .i64 0, .slice none 0 0]) hS (by kernel_rfl) (fun b2 w2 (hS2 : St _ _ [.blk b2 (.cells #[.int .i64 (0 : Int), .int .i64 (0 : Int), .int .i64 (0 : Int), .int .i64 (0 : Int), .slice none 0 0] 25)] _) => ?_)
 clear hS
 refine hK _ _ ?_; clear hK K
 refine l_q rfl rfl (q_assignI rfl) ?_
 refine l_nil ?_
 refine hK1 _ _ ?_
 refine wp_seq_k (fun K3 hK3 => ?_)
 refine wp_seq_k (fun K4 hK4 => ?_)
 refine wp_region_lit ?_
 refine l_q rfl rfl (q_moveP rfl) ?_
 refine l_q rfl rfl (q_peq rfl (by kernel_rfl)) ?_
 refine l_nil ?_
 refine hK4 _ _ ?_
 refine c_condF rfl rfl ?_
 refine wp_skip ?_
 refine hK3 _ _ ?_
 refine wp_seq_k (fun K6 hK6 => ?_)
 have hec := (hE _ he).2.2
 refine wp_region_lit ?_
 refine l_q rfl rfl (q_moveP rfl) ?_
 refine l_q rfl rfl (q_nilCheck rfl) ?_
 refine l_q rfl rfl (q_fieldAddr (ft := 58) (o := 0) rfl (by kernel_rfl)) ?_
 refine l_q rfl rfl (q_load1 rfl (by kernel_rfl) (cell_blk (hS2.base _ _ hk) rfl)) ?_
 refine l_q rfl rfl (q_moveI rfl) ?_
 refine l_q rfl rfl (q_lookHit (zv := .slice none 0 0) rfl rfl (by kernel_rfl) (by first | rfl | trivial) (hM.mono hS2.base) (look_hit he rfl)) ?_
 refine l_q rfl rfl (q_move rfl) ?_
 refine l_q rfl rfl (q_extract rfl rfl) ?_
 refine l_q rfl rfl (q_extract rfl rfl) ?_
 refine l_q rfl rfl (q_assignS rfl) ?_
 refine l_q rfl rfl (q_assignB rfl) ?_
 refine l_nil ?_
 refine hK6 _ _ ?_
 refine wp_seq_k (fun K7 hK7 => ?_)
 refine wp_seq_k (fun K8 hK8 => ?_)
 refine wp_region_lit ?_
 refine l_q rfl rfl (q_moveB rfl) ?_
 refine l_q rfl rfl (q_not rfl) ?_
 refine l_nil ?_
 refine hK8 _ _ ?_
 refine c_condF rfl rfl ?_
 refine wp_skip ?_
 refine hK7 _ _ ?_
 refine wp_seq_k (fun K10 hK10 => ?_)
 refine wp_region_lit ?_
 refine l_q rfl rfl (q_moveS rfl) ?_
 refine l_e rfl (fun K hK => ?_)
 refine e_call (by kernel_rfl) (ldec_ok e.l (hE _ he).2.1 ((encL e.l).length) (by first | omega | (simp only [List.length_append, List.length_map, List.length_cons, List.length_nil, List.length_take, List.length_drop, List.length_set] <;> omega)) _ _ (by first | omega | (simp only [List.length_append, List.length_map, List.length_cons, List.length_nil, List.length_take, List.length_drop, List.length_set] <;> omega)) _ ((hE _ he).1.mono hS2.base)) rfl (after_N hS2 (fun v11 G11 w11 hv11 hS11 => ?_))
 clear hS2
 obtain ⟨an11, cn11, rfl, rfl⟩ := hv11
 have hS12 : St _ _ [.ow 3 1 an11 e.l.nd.length cn11 (iv e.l.nd), _] _ := hS11; clear hS11
 refine hK _ _ ?_; clear hK K
 refine l_q rfl rfl (q_extract rfl rfl) ?_
 refine l_q rfl rfl (q_extract rfl rfl) ?_
 refine l_e rfl (fun K hK => ?_)
 refine e_storeA hS12 rfl rfl (by kernel_rfl) (by repeat' (first | exact trivial | refine ⟨by first | rfl | assumption | exact one_if (by assumption), ?_⟩)) (i := 1) rfl rfl (fun w13 (hS13 : St _ _ [_, .blk b2 (.cells #[.int .i64 e.l.k, .int .i64 e.l.f, .int .i64 e.l.t, .int .i64 e.l.x, .slice an11 e.l.nd.length cn11] 25)] _) => ?_)
 clear hS12
 refine hK _ _ ?_; clear hK K
 refine l_q rfl rfl (q_assignI rfl) ?_
 refine l_nil ?_
 refine hK10 _ _ ?_
 refine wp_ret ?_
 refine c_retCT (m := 5) rfl (by kernel_rfl) (by kernel_rfl) rfl (hS13.blk (i := 1) rfl) rfl rfl ?_
 have hS14 : St _ _ [_] _ := hS13.only 1; clear hS13
 exact ⟨_, _, rfl, ⟨_, _, rfl, rfl⟩, hS14⟩

set_option maxRecDepth 100000 in
theorem look_miss_ok (k mb s t o : Nat) (L : List (Int × Ent)) (n : Int) (hn : ∀ q ∈ L, q.1 ≠ n) (w : World) (hk : w.heap[k]? = some (ntO mb s t o)) (hM : MapSat (.int .i64) mb (List.map nc L) w) (hE : EOk (hw w) L) : Calls Try.prog 16 #[pV k, .int .i64 n] w (PostR w fun v => v = .tuple #[.agg #[.int .i64 0, .int .i64 0, .int .i64 0, .int .i64 0, .slice none 0 0], .int .i64 121]) := by
 have hS := St.start w
 refine c_enter Try.func16 rfl rfl rfl ?_
 refine wp_seq_k (fun K1 hK1 => ?_)
 refine wp_region_lit ?_
 refine l_e rfl (fun K hK => ?_)
 refine e_alloc (zv := .agg #[.int .i64 0, .int .i64 0, .int .i64 0, .int .i64 0, .slice none 0 0]) hS (by kernel_rfl) (fun b2 w2 (hS2 : St _ _ [.blk b2 (.cells #[.int .i64 (0 : Int), .int .i64 (0 : Int), .int .i64 (0 : Int), .int .i64 (0 : Int), .slice none 0 0] 25)] _) => ?_)
 clear hS
 refine hK _ _ ?_; clear hK K
 refine l_q rfl rfl (q_assignI rfl) ?_
 refine l_nil ?_
 refine hK1 _ _ ?_
 refine wp_seq_k (fun K3 hK3 => ?_)
 refine wp_seq_k (fun K4 hK4 => ?_)
 refine wp_region_lit ?_
 refine l_q rfl rfl (q_moveP rfl) ?_
 refine l_q rfl rfl (q_peq rfl (by kernel_rfl)) ?_
 refine l_nil ?_
 refine hK4 _ _ ?_
 refine c_condF rfl rfl ?_
 refine wp_skip ?_
 refine hK3 _ _ ?_
 refine wp_seq_k (fun K6 hK6 => ?_)
 refine wp_region_lit ?_
 refine l_q rfl rfl (q_moveP rfl) ?_
 refine l_q rfl rfl (q_nilCheck rfl) ?_
 refine l_q rfl rfl (q_fieldAddr (ft := 58) (o := 0) rfl (by kernel_rfl)) ?_
 refine l_q rfl rfl (q_load1 rfl (by kernel_rfl) (cell_blk (hS2.base _ _ hk) rfl)) ?_
 refine l_q rfl rfl (q_moveI rfl) ?_
 refine l_q rfl rfl (q_lookMiss (zv := .slice none 0 0) rfl rfl (by kernel_rfl) (by first | rfl | trivial) (hM.mono hS2.base) (nc_miss hn)) ?_
 refine l_q rfl rfl (q_move rfl) ?_
 refine l_q rfl rfl (q_extract rfl rfl) ?_
 refine l_q rfl rfl (q_extract rfl rfl) ?_
 refine l_q rfl rfl (q_assignS rfl) ?_
 refine l_q rfl rfl (q_assignB rfl) ?_
 refine l_nil ?_
 refine hK6 _ _ ?_
 refine wp_seq_k (fun K7 hK7 => ?_)
 refine wp_seq_k (fun K8 hK8 => ?_)
 refine wp_region_lit ?_
 refine l_q rfl rfl (q_moveB rfl) ?_
 refine l_q rfl rfl (q_not rfl) ?_
 refine l_nil ?_
 refine hK8 _ _ ?_
 refine c_condT rfl rfl ?_
 refine wp_seq_k (fun K10 hK10 => ?_)
 refine wp_region_lit ?_
 refine l_q rfl rfl (q_build (ps := [(0, 1), (1, 1), (2, 1), (3, 1), (4, 1)]) (zv := .agg #[.int .i64 0, .int .i64 0, .int .i64 0, .int .i64 0, .slice none 0 0]) (by kernel_rfl) (by kernel_rfl) rfl (by repeat' (first | exact trivial | refine ⟨fun _ => by first | rfl | assumption | exact one_if (by assumption), ?_⟩ | refine ⟨fun ⟨_, h⟩ => by simp at h, ?_⟩)) rfl) ?_
 refine l_e rfl (fun K hK => ?_)
 refine e_storeA hS2 rfl rfl (by kernel_rfl) (by repeat' (first | exact trivial | refine ⟨by first | rfl | assumption | exact one_if (by assumption), ?_⟩)) (i := 0) rfl rfl (fun w11 (hS11 : St _ _ [_] _) => ?_)
 clear hS2
 refine hK _ _ ?_; clear hK K
 refine l_q rfl rfl (q_assignI rfl) ?_
 refine l_nil ?_
 refine hK10 _ _ ?_
 refine wp_ret ?_
 refine c_retCT (m := 5) rfl (by kernel_rfl) (by kernel_rfl) rfl (hS11.blk (i := 0) rfl) rfl rfl ?_
 exact ⟨_, rfl, rfl, hS11.drop⟩

set_option maxRecDepth 100000 in
theorem told_ok (k mb s t o : Nat) (w : World) (hk : w.heap[k]? = some (ntO mb s t o)) : Calls Try.prog 18 #[pV k] w (PostR w fun v => v = .tuple #[.int .i64 (s : Int), .int .i64 (t : Int), .int .i64 (o : Int)]) := by
 have hS := St.start w
 refine c_enter Try.func18 rfl rfl rfl ?_
 refine wp_seq_k (fun K1 hK1 => ?_)
 refine wp_region_lit ?_
 refine l_q rfl rfl (q_assignI rfl) ?_
 refine l_q rfl rfl (q_assignI rfl) ?_
 refine l_q rfl rfl (q_assignI rfl) ?_
 refine l_nil ?_
 refine hK1 _ _ ?_
 refine wp_seq_k (fun K2 hK2 => ?_)
 refine wp_seq_k (fun K3 hK3 => ?_)
 refine wp_region_lit ?_
 refine l_q rfl rfl (q_moveP rfl) ?_
 refine l_q rfl rfl (q_peq rfl (by kernel_rfl)) ?_
 refine l_nil ?_
 refine hK3 _ _ ?_
 refine c_condF rfl rfl ?_
 refine wp_skip ?_
 refine hK2 _ _ ?_
 refine wp_seq_k (fun K5 hK5 => ?_)
 refine r_any (by kernel_rfl) hS (fun w6 hS6 => ?_)
 clear hS
 refine o_pure (i := 0) (fun _ _ => trivial) rfl rfl (by kernel_rfl) (goes0 rfl) (QOk.then QOk.body) (fun w => q_moveP rfl) ?_
 refine o_pure (i := 1) (fun _ _ => trivial) rfl rfl (by kernel_rfl) (goes0 rfl) (QOk.then QOk.body) (fun w => q_nilCheck rfl) ?_
 refine o_pure (i := 2) (fun _ _ => trivial) rfl rfl (by kernel_rfl) (goes0 rfl) (QOk.then QOk.body) (fun w => q_fieldAddr (ft := 3) (o := 1) rfl (by kernel_rfl)) ?_
 refine o_held (i := 3) [12, 13, 14] (fun _ _ => trivial) rfl rfl (by kernel_rfl) (goes0 rfl) (QOk.then QOk.body) (q_load1 rfl (by kernel_rfl) (cell_blk (hS6.base _ _ hk) rfl)) ?_
 refine o_pure (i := 4) (fun j w => ⟨(fun _ _ => trivial) j w, fun _ h => h⟩) rfl rfl (by kernel_rfl) (goes0 rfl) (QOk.then QOk.body) (fun w => q_moveP rfl) ?_
 refine o_pure (i := 5) (fun j w => ⟨(fun _ _ => trivial) j w, fun _ h => h⟩) rfl rfl (by kernel_rfl) (goes0 rfl) (QOk.then QOk.body) (fun w => q_nilCheck rfl) ?_
 refine o_pure (i := 6) (fun j w => ⟨(fun _ _ => trivial) j w, fun _ h => h⟩) rfl rfl (by kernel_rfl) (goes0 rfl) (QOk.then QOk.body) (fun w => q_fieldAddr (ft := 3) (o := 2) rfl (by kernel_rfl)) ?_
 refine o_held (i := 7) [13, 14] (fun j w => ⟨(fun _ _ => trivial) j w, fun _ h => h⟩) rfl rfl (by kernel_rfl) (goes0 rfl) (QOk.then QOk.body) (q_load1 rfl (by kernel_rfl) (cell_blk (hS6.base _ _ hk) rfl)) ?_
 refine o_pure (i := 8) (fun j w => ⟨(fun j w => ⟨(fun _ _ => trivial) j w, fun _ h => h⟩) j w, fun _ h => h⟩) rfl rfl (by kernel_rfl) (goes0 rfl) (QOk.then QOk.body) (fun w => q_moveP rfl) ?_
 refine o_pure (i := 9) (fun j w => ⟨(fun j w => ⟨(fun _ _ => trivial) j w, fun _ h => h⟩) j w, fun _ h => h⟩) rfl rfl (by kernel_rfl) (goes0 rfl) (QOk.then QOk.body) (fun w => q_nilCheck rfl) ?_
 refine o_pure (i := 10) (fun j w => ⟨(fun j w => ⟨(fun _ _ => trivial) j w, fun _ h => h⟩) j w, fun _ h => h⟩) rfl rfl (by kernel_rfl) (goes0 rfl) (QOk.then QOk.body) (fun w => q_fieldAddr (ft := 3) (o := 3) rfl (by kernel_rfl)) ?_
 refine o_held (i := 11) [14] (fun j w => ⟨(fun j w => ⟨(fun _ _ => trivial) j w, fun _ h => h⟩) j w, fun _ h => h⟩) rfl rfl (by kernel_rfl) (goes0 rfl) (QOk.then QOk.body) (q_load1 rfl (by kernel_rfl) (cell_blk (hS6.base _ _ hk) rfl)) ?_
 refine o_pure (i := 12) (fun j w => ⟨(fun j w => ⟨(fun j w => ⟨(fun _ _ => trivial) j w, fun _ h => h⟩) j w, fun _ h => h⟩) j w, fun _ h => h⟩) rfl rfl (by kernel_rfl) (goes0 rfl) (QOk.then QOk.body) (fun w => q_assignI rfl) ?_
 refine o_pure (i := 13) (fun j w => ⟨(fun j w => ⟨(fun j w => ⟨(fun _ _ => trivial) j w, fun _ h => h⟩) j w, fun _ h => h⟩) j w, fun _ h => h⟩) rfl rfl (by kernel_rfl) (goes0 rfl) (QOk.then QOk.body) (fun w => q_assignI rfl) ?_
 refine o_pure (i := 14) (fun j w => ⟨(fun j w => ⟨(fun j w => ⟨(fun _ _ => trivial) j w, fun _ h => h⟩) j w, fun _ h => h⟩) j w, fun _ h => h⟩) rfl rfl (by kernel_rfl) (goes0 rfl) (QOk.then QOk.body) (fun w => q_assignI rfl) ?_
 refine o_done (by kernel_rfl) ?_
 refine hK5 _ _ ?_
 refine wp_ret ?_
 refine c_ret3 rfl rfl rfl rfl ?_
 exact ⟨_, rfl, rfl, hS6.drop⟩

set_option maxRecDepth 100000 in
theorem put_full (k mb s t o : Nat) (L : List (Int × Ent)) (ad : Option Addr) (cap : Nat) (l : Lr) (m : Nat) (hm : (encL l).length = m) (hf : 1024 ≤ L.length) (w : World) (hS : St w (owns [.blk k (.cells #[.map (some mb), .int .i64 (s : Int), .int .i64 (t : Int), .int .i64 (o : Int)] 60), .mp (.int .i64) mb (List.map nc L)]) [.blk k (.cells #[.map (some mb), .int .i64 (s : Int), .int .i64 (t : Int), .int .i64 (o : Int)] 60), .mp (.int .i64) mb (List.map nc L)] w) : Calls Try.prog 28 #[pV k, .slice ad m cap] w (Post w [.blk k (.cells #[.map (some mb), .int .i64 (s : Int), .int .i64 (t : Int), .int .i64 (o : Int)] 60), .mp (.int .i64) mb (List.map nc L)] fun v G => v = .tuple #[.int .i64 0, .int .i64 62] ∧ G = [.blk k (ntO mb s t o), .mp (.int .i64) mb (List.map nc L)]) := by
 have hlm : (List.map nc L).length = L.length := List.length_map nc
 refine c_enter Try.func28 rfl rfl rfl ?_
 refine wp_seq_k (fun K1 hK1 => ?_)
 refine wp_region_lit ?_
 refine l_q rfl rfl (q_assignI rfl) ?_
 refine l_q rfl rfl (q_assignI rfl) ?_
 refine l_nil ?_
 refine hK1 _ _ ?_
 refine wp_seq_k (fun K2 hK2 => ?_)
 refine wp_seq_k (fun K3 hK3 => ?_)
 refine wp_region_lit ?_
 refine l_q rfl rfl (q_moveP rfl) ?_
 refine l_q rfl rfl (q_nilCheck rfl) ?_
 refine l_q rfl rfl (q_fieldAddr (ft := 58) (o := 0) rfl (by kernel_rfl)) ?_
 refine l_q rfl rfl (q_load1 rfl (by kernel_rfl) (hS.cell (i := 0) rfl rfl)) ?_
 refine l_q rfl rfl (q_lenMap (zv := .slice none 0 0) rfl (by kernel_rfl) (hS.map (i := 1) rfl)) ?_
 refine l_q rfl rfl (q_geq rfl rfl) ?_
 refine l_nil ?_
 refine hK3 _ _ ?_
 refine c_condT rfl (decide_eq_true (by omega)) ?_
 refine wp_seq_k (fun K5 hK5 => ?_)
 refine wp_region_lit ?_
 refine l_q rfl rfl (q_assignI rfl) ?_
 refine l_q rfl rfl (q_assignI rfl) ?_
 refine l_nil ?_
 refine hK5 _ _ ?_
 refine wp_ret ?_
 refine c_ret2 rfl rfl rfl ?_
 exact ⟨_, _, rfl, ⟨rfl, rfl⟩, hS⟩

set_option maxRecDepth 100000 in
theorem put_ok (k mb s t o : Nat) (L : List (Int × Ent)) (ad : Option Addr) (cap : Nat) (l : Lr) (m : Nat) (hm : (encL l).length = m) (hf : L.length < 1024) (hs : s ≤ 1000000) (hn : ∀ q ∈ L, q.1 ≠ (s : Int)) (w : World) (hS : St w (owns [.blk k (.cells #[.map (some mb), .int .i64 (s : Int), .int .i64 (t : Int), .int .i64 (o : Int)] 60), .mp (.int .i64) mb (List.map nc L)]) [.blk k (.cells #[.map (some mb), .int .i64 (s : Int), .int .i64 (t : Int), .int .i64 (o : Int)] 60), .mp (.int .i64) mb (List.map nc L)] w) : Calls Try.prog 28 #[pV k, .slice ad m cap] w (Post w [.blk k (.cells #[.map (some mb), .int .i64 (s : Int), .int .i64 (t : Int), .int .i64 (o : Int)] 60), .mp (.int .i64) mb (List.map nc L)] fun v G => v = .tuple #[.int .i64 (s : Int), .int .i64 0] ∧ G = [.blk k (ntO mb (s + 1) t o), .mp (.int .i64) mb (List.map nc (L ++ [((s : Int), ⟨ad, cap, l⟩)]))]) := by
 have hlm : (List.map nc L).length = L.length := List.length_map nc
 have hd := nc_apart (hS.map (i := 1) rfl)
 refine c_enter Try.func28 rfl rfl rfl ?_
 refine wp_seq_k (fun K1 hK1 => ?_)
 refine wp_region_lit ?_
 refine l_q rfl rfl (q_assignI rfl) ?_
 refine l_q rfl rfl (q_assignI rfl) ?_
 refine l_nil ?_
 refine hK1 _ _ ?_
 refine wp_seq_k (fun K2 hK2 => ?_)
 refine wp_seq_k (fun K3 hK3 => ?_)
 refine wp_region_lit ?_
 refine l_q rfl rfl (q_moveP rfl) ?_
 refine l_q rfl rfl (q_nilCheck rfl) ?_
 refine l_q rfl rfl (q_fieldAddr (ft := 58) (o := 0) rfl (by kernel_rfl)) ?_
 refine l_q rfl rfl (q_load1 rfl (by kernel_rfl) (hS.cell (i := 0) rfl rfl)) ?_
 refine l_q rfl rfl (q_lenMap (zv := .slice none 0 0) rfl (by kernel_rfl) (hS.map (i := 1) rfl)) ?_
 refine l_q rfl rfl (q_geq rfl rfl) ?_
 refine l_nil ?_
 refine hK3 _ _ ?_
 refine c_condF rfl (decide_eq_false (by omega)) ?_
 refine wp_skip ?_
 refine hK2 _ _ ?_
 refine wp_seq_k (fun K5 hK5 => ?_)
 refine r_any (by kernel_rfl) hS (fun w6 hS6 => ?_)
 clear hS
 refine o_pure (i := 0) (fun _ _ => trivial) rfl rfl (by kernel_rfl) (goes0 rfl) (QOk.then QOk.body) (fun w => q_moveP rfl) ?_
 refine o_pure (i := 1) (fun _ _ => trivial) rfl rfl (by kernel_rfl) (goes0 rfl) (QOk.then QOk.body) (fun w => q_nilCheck rfl) ?_
 refine o_pure (i := 2) (fun _ _ => trivial) rfl rfl (by kernel_rfl) (goes0 rfl) (QOk.then QOk.body) (fun w => q_fieldAddr (ft := 58) (o := 0) rfl (by kernel_rfl)) ?_
 refine o_held (i := 3) [9] (fun _ _ => trivial) rfl rfl (by kernel_rfl) (goes0 rfl) (QOk.then QOk.body) (q_load1 rfl (by kernel_rfl) (hS6.cell (i := 0) rfl rfl)) ?_
 refine o_pure (i := 4) (fun j w => ⟨(fun _ _ => trivial) j w, fun _ h => h⟩) rfl rfl (by kernel_rfl) (goes0 rfl) (QOk.then QOk.body) (fun w => q_moveP rfl) ?_
 refine o_pure (i := 5) (fun j w => ⟨(fun _ _ => trivial) j w, fun _ h => h⟩) rfl rfl (by kernel_rfl) (goes0 rfl) (QOk.then QOk.body) (fun w => q_nilCheck rfl) ?_
 refine o_pure (i := 6) (fun j w => ⟨(fun _ _ => trivial) j w, fun _ h => h⟩) rfl rfl (by kernel_rfl) (goes0 rfl) (QOk.then QOk.body) (fun w => q_fieldAddr (ft := 3) (o := 1) rfl (by kernel_rfl)) ?_
 refine o_held (i := 7) [9] (fun j w => ⟨(fun _ _ => trivial) j w, fun _ h => h⟩) rfl rfl (by kernel_rfl) (goes0 rfl) (QOk.then QOk.body) (q_load1 rfl (by kernel_rfl) (hS6.cell (i := 0) rfl rfl)) ?_
 refine o_pure (i := 8) (fun j w => ⟨(fun j w => ⟨(fun _ _ => trivial) j w, fun _ h => h⟩) j w, fun _ h => h⟩) rfl rfl (by kernel_rfl) (goes0 rfl) (QOk.then QOk.body) (fun w => q_moveS rfl) ?_
 refine o_eff (i := 9) (by kernel_rfl) rfl (goes0 rfl) (fun K hK => ?_)
 refine e_mapUp (zv := .slice none 0 0) hS6 rfl rfl rfl (by kernel_rfl) (by first | rfl | trivial) (i := 1) rfl (nc_up (e := ⟨ad, cap, l⟩) hd hn (by rw [hm]; rfl)) (fun w7 (hS7 : St _ _ [.blk k (.cells #[.map (some mb), .int .i64 (s : Int), .int .i64 (t : Int), .int .i64 (o : Int)] 60), .mp (.int .i64) mb (List.map nc (L ++ [((s : Int), ⟨ad, cap, l⟩)]))] _) => ?_)
 clear hS6
 refine hK _ _ ⟨⟨trivial, fun h => absurd h (by decide)⟩, fun h => absurd h (by decide)⟩ ?_; clear hK K
 refine o_done (by kernel_rfl) ?_
 refine hK5 _ _ ?_
 refine wp_seq_k (fun K8 hK8 => ?_)
 refine wp_region_lit ?_
 refine l_q rfl rfl (q_moveP rfl) ?_
 refine l_q rfl rfl (q_nilCheck rfl) ?_
 refine l_q rfl rfl (q_fieldAddr (ft := 3) (o := 1) rfl (by kernel_rfl)) ?_
 refine l_q rfl rfl (q_load1 rfl (by kernel_rfl) (hS7.cell (i := 0) rfl rfl)) ?_
 refine l_q rfl rfl (q_addx rfl rfl (by first | decide | omega) (by first | decide | omega)) ?_
 refine l_q rfl rfl (q_nilCheck rfl) ?_
 refine l_q rfl rfl (q_fieldAddr (ft := 3) (o := 1) rfl (by kernel_rfl)) ?_
 refine l_e rfl (fun K hK => ?_)
 refine e_store1 hS7 rfl rfl (by kernel_rfl) (by first | rfl | assumption) (i := 0) rfl rfl (fun w9 (hS9 : St _ _ [.blk k (.cells #[.map (some mb), .int .i64 ((s : Int) + (1 : Int)), .int .i64 (t : Int), .int .i64 (o : Int)] 60), _] _) => ?_)
 clear hS7
 refine hK _ _ ?_; clear hK K
 refine l_nil ?_
 refine hK8 _ _ ?_
 refine wp_seq_k (fun K10 hK10 => ?_)
 refine wp_region_lit ?_
 refine l_q rfl rfl (q_moveP rfl) ?_
 refine l_q rfl rfl (q_nilCheck rfl) ?_
 refine l_q rfl rfl (q_fieldAddr (ft := 3) (o := 1) rfl (by kernel_rfl)) ?_
 refine l_q rfl rfl (q_load1 rfl (by kernel_rfl) (hS9.cell (i := 0) rfl rfl)) ?_
 refine l_q rfl rfl (q_subx rfl rfl (by first | decide | omega) (by first | decide | omega)) ?_
 refine l_q rfl rfl (q_assignI rfl) ?_
 refine l_q rfl rfl (q_assignI rfl) ?_
 refine l_nil ?_
 refine hK10 _ _ ?_
 refine wp_ret ?_
 refine c_ret2 rfl rfl rfl ?_
 exact ⟨_, _, rfl, ⟨congrArg (fun z => Value.tuple #[.int .i64 z, .int .i64 0]) (by omega), rfl⟩, hS9⟩

end Go.Proofs.Ytlplhlncdfhhoaa
