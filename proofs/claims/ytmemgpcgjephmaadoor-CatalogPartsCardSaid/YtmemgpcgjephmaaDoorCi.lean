/- The catalog: what is told of a fault; the document's Right. -/
import Derived.Test.YtmemgpcgjephmaaDoorCe
import Derived.Test.YtmemgpcgjephmaaDoorF4
set_option linter.unusedVariables false
set_option linter.unusedSimpArgs false
namespace Go.Proofs.YtmemgpcgjephmaaDoor
open Go.RowKit
theorem good1 {c a : Int} (hc : c ≠ 0) : (Er.flt c a .nil).Good := ⟨hc, trivial⟩
theorem Code1_ok (c a : Int) (b : Nat) (hc : c ≠ 0) (w : World) (hl : LaidV w) (hb : w.heap[b]? = some (fO c a .nilIface)) : Calls Tryd.prog 38 #[fV b] w (PostR w fun v => v = .int .i64 c) :=
  Code_some (Er.flt c a .nil) (good1 hc) (fV b) b c a .nilIface w hl rfl ⟨(Array.getElem?_eq_some_iff.1 hb).1, id⟩ hb
theorem At1_ok (c a : Int) (b : Nat) (hc : c ≠ 0) (w : World) (hl : LaidV w) (hb : w.heap[b]? = some (fO c a .nilIface)) : Calls Tryd.prog 39 #[fV b] w (PostR w fun v => v = .int .i64 a) :=
  At_some (Er.flt c a .nil) (good1 hc) (fV b) b c a .nilIface w hl rfl ⟨(Array.getElem?_eq_some_iff.1 hb).1, id⟩ hb
theorem codesR (e : Er) (v : Value) (w : World) (hn : e.list.length ≤ 1000000) (hl : LaidV w) (hE : ErIn (Ro w (fun _ => False)) w e v) : Calls Tryd.prog 40 #[v] w (PostR w fun v => ∃ ad cap, v = .slice ad e.list.length cap) :=
  (Codes_ok e v w hn hl hE).mono fun _ w' ⟨v, G, he, hG, hS⟩ => by
    subst hG
    obtain ⟨ad, cap, h⟩ := own_slice (hS.sl (i := 0) rfl)
    exact ⟨v, he, ⟨ad, cap, h⟩, hS.drop⟩
theorem Codes0_ok (w : World) (hl : LaidV w) : Calls Tryd.prog 40 #[.nilIface] w (PostR w fun v => ∃ ad cap, v = .slice ad 0 cap) := codesR .nil .nilIface w (by decide) hl rfl
theorem Codes1_ok (c a : Int) (b : Nat) (hc : c ≠ 0) (w : World) (hl : LaidV w) (hb : w.heap[b]? = some (fO c a .nilIface)) : Calls Tryd.prog 40 #[fV b] w (PostR w fun v => ∃ ad cap, v = .slice ad 1 cap) :=
  codesR (.flt c a .nil) (fV b) w (by show 1 ≤ 1000000; decide) hl ⟨b, .nilIface, rfl, ⟨(Array.getElem?_eq_some_iff.1 hb).1, id⟩, hb, rfl⟩
/-- What the inner loop has seen. -/
def FitTo (t : Tb) (s : List Nat) (k : Nat) (f : Bool) : Prop := f = true ↔ (NameP s ∧ ∀ j, j < k → ∀ d, t.cs[j]? = some d → d.nm ≠ s)
theorem FitTo.zero {t : Tb} {s : List Nat} {f : Bool} (h : f = pB (NameP s)) : FitTo t s 0 f := by
  unfold FitTo; rw [h, pB_iff]; exact ⟨fun h => ⟨h, fun j hj => absurd hj (Nat.not_lt_zero _)⟩, fun h => h.1⟩
theorem FitTo.off {t : Tb} {s : List Nat} {k : Nat} {f : Bool} (h : FitTo t s k f) (hf : f = false) : FitTo t s (k + 1) false := by
  unfold FitTo at *
  constructor
  · intro h'; cases h'
  · rintro ⟨h1, h2⟩
    rw [h.2 ⟨h1, fun j hj => h2 j (by omega)⟩] at hf; cases hf
theorem FitTo.on {t : Tb} {s : List Nat} {k : Nat} {f : Bool} {x : Co} (h : FitTo t s k f) (hf : f = true) (hx : t.cs[k]? = some x) : FitTo t s (k + 1) (!decide (x.nm = s)) := by
  unfold FitTo at *
  rw [Bool.not_eq_true', decide_eq_false_iff_not]
  obtain ⟨h1, h2⟩ := h.1 hf
  constructor
  · intro hn
    refine ⟨h1, fun j hj d hd => ?_⟩
    by_cases e : j = k
    · subst e; rw [hx] at hd; injection hd with hd; subst hd; exact hn
    · exact h2 j (by omega) d hd
  · rintro ⟨_, h3⟩; exact h3 k (by omega) x hx
theorem fit_col {t : Tb} {i : Nat} {c : Co} {f : Bool} (h : FitTo t c.nm i f) (hf : f = true) (hk : 1 ≤ c.k ∧ c.k ≤ 5) (hm : (i : Int) < t.key → c.m = true) : ColP t i c := ⟨(h.1 hf).1, (h.1 hf).2, hk.1, hk.2, hm⟩
theorem fit_no {t : Tb} {i : Nat} {c : Co} {f : Bool} (h : FitTo t c.nm i f) (hn : f = false ∨ ¬(1 ≤ c.k ∧ c.k ≤ 5) ∨ ((i : Int) < t.key ∧ c.m = false)) : ¬ColP t i c := by
  rintro ⟨g1, g2, g3, g4, g5⟩
  rcases hn with hn | hn | ⟨hn, hm⟩
  · rw [h.2 ⟨g1, g2⟩] at hn; cases hn
  · exact hn ⟨g3, g4⟩
  · rw [g5 hn] at hm; cases hm
theorem RtA.col {t : Tb} {i : Nat} {d : Co} (hH : HeadP t) (hd : t.cs[i]? = some d) (hk : ColsTo t i) (hn : ¬ColP t i d) : RtA t 182 ((i : Nat) : Int) := .inr (.inl ⟨hH, i, d, hd, hk, hn, rfl, rfl⟩)
/-- What a table's head must be, but for its bounds. -/
def HeadQ (t : Tb) : Prop := NameP t.nm ∧ 1 ≤ t.cs.length ∧ t.cs.length ≤ 16 ∧ 1 ≤ t.key ∧ t.key ≤ t.cs.length ∧ 0 ≤ t.pt ∧ t.pt ≤ 64 ∧ t.bd.length ≤ 63 ∧ (0 < t.pt → t.bd.length = 0)
theorem headq_no {t : Tb} (h : ¬HeadQ t) : ¬HeadP t := fun ⟨h1, h2, h3, h4, h5, h6, h7, h8, h9, _⟩ => h ⟨h1, h2, h3, h4, h5, h6, h7, h8, h9⟩
theorem headq_bd {t : Tb} (h : HeadQ t) (hb : BdP (k0 t.cs) t.bd) : HeadP t := ⟨h.1, h.2.1, h.2.2.1, h.2.2.2.1, h.2.2.2.2.1, h.2.2.2.2.2.1, h.2.2.2.2.2.2.1, h.2.2.2.2.2.2.2.1, h.2.2.2.2.2.2.2.2, hb⟩
theorem RtA.ok {t : Tb} (hH : HeadP t) (hk : ColsTo t t.cs.length) : RtA t 0 (-1) := .inr (.inr ⟨⟨hH, hk⟩, rfl, rfl⟩)
attribute [local irreducible] Oper.wp Sem.run Code.wp wpList wpAnyO callFunc execOp Calls
attribute [local irreducible] toU enc encR rightB vcmp pB okc hashB hashF overN RtA FitTo

set_option maxRecDepth 100000 in
theorem told_nil (fc fa : Int) (w : World) (hl : LaidV w) : Calls Tryd.prog 16 #[.nilIface, .agg #[.int .i64 fc, .int .i64 fa]] w (PostR w fun v => v = .bool (decide (0 = fc ∧ -1 = fa))) := by
 have hS := St.start w
 refine c_enter Tryd.func16 rfl rfl rfl ?_
 refine wp_seq_k (fun K1 hK1 => ?_)
 refine wp_region_lit ?_
 refine l_e rfl (fun K hK => ?_)
 refine e_boxA hS rfl (fun b2 w2 (hS2 : St _ _ [.blk b2 (.cells #[.int .i64 fc, .int .i64 fa] 51)] _) => ?_)
 clear hS
 refine hK _ _ ?_; clear hK K
 refine l_q rfl rfl (q_assignB rfl) ?_
 refine l_nil ?_
 refine hK1 _ _ ?_
 refine wp_seq_k (fun K3 hK3 => ?_)
 refine r_any (by kernel_rfl) hS2 (fun w4 hS4 => ?_)
 clear hS2
 refine o_pure (i := 0) (fun _ _ => trivial) rfl rfl (by kernel_rfl) (goes0 rfl) (QOk.then QOk.body) (fun w => q_move rfl) ?_
 refine o_pure (i := 2) (fun _ _ => trivial) rfl rfl (by kernel_rfl) (goes0 rfl) (QOk.then QOk.body) (fun w => q_fieldAddr (ft := 49) (o := 0) rfl (by kernel_rfl)) ?_
 refine o_held (i := 3) [4, 5, 6, 7, 8, 9, 10, 11, 12, 13, 14, 15, 16, 17, 18] (fun _ _ => trivial) rfl rfl (by kernel_rfl) (goes0 rfl) (QOk.then QOk.body) (q_load1 rfl (by kernel_rfl) (hS4.cell (i := 0) rfl rfl)) ?_
 refine o_eff (i := 1) (by kernel_rfl) rfl (goes0 rfl) (fun K hK => ?_)
 refine e_call (by kernel_rfl) (Code_nil _) rfl (after_R hS4 (fun v5 w5 hv5 hS5 => ?_))
 clear hS4
 obtain rfl := hv5
 refine hK _ _ ⟨trivial, fun _ _ => by first | exact q_load1 rfl (by kernel_rfl) (hS5.cell (i := 0) rfl rfl)⟩ ?_; clear hK K
 refine o_pure (i := 4) (fun j w => ⟨(fun _ _ => trivial) j w, fun _ h => h⟩) rfl rfl (by kernel_rfl) (goes0 rfl) (QOk.then QOk.body) (fun w => q_eql rfl rfl) ?_
 refine o_pure (i := 5) (fun j w => ⟨(fun _ _ => trivial) j w, fun _ h => h⟩) rfl rfl (by kernel_rfl) (goes0 rfl) (QOk.then QOk.body) (fun w => q_moveB rfl) ?_
 refine g_splitO (t := 10) rfl (fun hg6 => ?_) (fun hg6 => ?_)
 ·
  have hg6b := hg6
  try simp only [decide_eq_true_eq, decide_eq_false_iff_not, Bool.not_eq_true', Bool.not_eq_false', Bool.and_eq_true, Bool.or_eq_true, Int.not_lt, Int.not_le, ne_eq, Decidable.not_not] at hg6
  refine o_pure (i := 6) (fun j w => ⟨(fun _ _ => trivial) j w, fun _ h => h⟩) rfl rfl (by kernel_rfl) (goes1 rfl rfl hg6b) (QOk.then QOk.body) (fun w => q_move rfl) ?_
  refine o_pure (i := 8) (fun j w => ⟨(fun _ _ => trivial) j w, fun _ h => h⟩) rfl rfl (by kernel_rfl) (goes1 rfl rfl hg6b) (QOk.then QOk.body) (fun w => q_fieldAddr (ft := 3) (o := 1) rfl (by kernel_rfl)) ?_
  refine o_held (i := 9) [10, 11, 12, 13, 14, 15, 16, 17, 18] (fun j w => ⟨(fun _ _ => trivial) j w, fun _ h => h⟩) rfl rfl (by kernel_rfl) (goes1 rfl rfl hg6b) (QOk.then QOk.body) (q_load1 rfl (by kernel_rfl) (hS5.cell (i := 0) rfl rfl)) ?_
  refine o_eff (i := 7) (by kernel_rfl) rfl (goes1 rfl rfl hg6b) (fun K hK => ?_)
  refine e_call (by kernel_rfl) (At_nil _) rfl (after_R hS5 (fun v7 w7 hv7 hS7 => ?_))
  clear hS5
  obtain rfl := hv7
  refine hK _ _ ⟨⟨trivial, fun h => absurd h (by decide)⟩, fun _ _ => by first | exact q_load1 rfl (by kernel_rfl) (hS7.cell (i := 0) rfl rfl)⟩ ?_; clear hK K
  refine o_pure (i := 10) (fun j w => ⟨(fun j w => ⟨(fun _ _ => trivial) j w, fun _ h => h⟩) j w, fun _ h => h⟩) rfl rfl (by kernel_rfl) (goes1 rfl rfl hg6b) (QOk.then QOk.body) (fun w => q_eql rfl rfl) ?_
  refine o_pure (i := 11) (fun j w => ⟨(fun j w => ⟨(fun _ _ => trivial) j w, fun _ h => h⟩) j w, fun _ h => h⟩) rfl rfl (by kernel_rfl) (goes0 rfl) (QOk.then QOk.body) (fun w => q_pickT rfl hg6b rfl) ?_
  refine o_pure (i := 12) (fun j w => ⟨(fun j w => ⟨(fun _ _ => trivial) j w, fun _ h => h⟩) j w, fun _ h => h⟩) rfl rfl (by kernel_rfl) (goes0 rfl) (QOk.then QOk.body) (fun w => q_moveB rfl) ?_
  refine g_splitO (t := 17) rfl (fun hg8 => ?_) (fun hg8 => ?_)
  ·
   have hg8b := hg8
   try simp only [decide_eq_true_eq, decide_eq_false_iff_not, Bool.not_eq_true', Bool.not_eq_false', Bool.and_eq_true, Bool.or_eq_true, Int.not_lt, Int.not_le, ne_eq, Decidable.not_not] at hg8
   refine o_pure (i := 13) (fun j w => ⟨(fun j w => ⟨(fun _ _ => trivial) j w, fun _ h => h⟩) j w, fun _ h => h⟩) rfl rfl (by kernel_rfl) (goes1 rfl rfl hg8b) (QOk.then QOk.body) (fun w => q_move rfl) ?_
   refine o_eff (i := 14) (by kernel_rfl) rfl (goes1 rfl rfl hg8b) (fun K hK => ?_)
   refine e_call (by kernel_rfl) (Codes0_ok _ (hl.keep id hS7)) rfl (after_R hS7 (fun v9 w9 hv9 hS9 => ?_))
   clear hS7
   obtain ⟨ad9, cp9, rfl⟩ := hv9
   refine hK _ _ ⟨⟨trivial, fun h => absurd h (by decide)⟩, fun h => absurd h (by decide)⟩ ?_; clear hK K
   refine o_pure (i := 15) (fun j w => ⟨(fun j w => ⟨(fun _ _ => trivial) j w, fun _ h => h⟩) j w, fun _ h => h⟩) rfl rfl (by kernel_rfl) (goes1 rfl rfl hg8b) (QOk.then QOk.body) (fun w => q_lenSl (e := 49) rfl (by kernel_rfl)) ?_
   refine o_pure (i := 16) (fun j w => ⟨(fun j w => ⟨(fun _ _ => trivial) j w, fun _ h => h⟩) j w, fun _ h => h⟩) rfl rfl (by kernel_rfl) (goes1 rfl rfl hg8b) (QOk.then QOk.body) (fun w => q_leq rfl rfl) ?_
   refine o_pure (i := 17) (fun j w => ⟨(fun j w => ⟨(fun _ _ => trivial) j w, fun _ h => h⟩) j w, fun _ h => h⟩) rfl rfl (by kernel_rfl) (goes0 rfl) (QOk.then QOk.body) (fun w => q_pickT rfl hg8b rfl) ?_
   refine o_pure (i := 18) (fun j w => ⟨(fun j w => ⟨(fun _ _ => trivial) j w, fun _ h => h⟩) j w, fun _ h => h⟩) rfl rfl (by kernel_rfl) (goes0 rfl) (QOk.then QOk.body) (fun w => q_assignB rfl) ?_
   refine o_done (by kernel_rfl) ?_
   refine hK3 _ _ ?_
   refine wp_ret ?_
   refine c_ret1 rfl rfl ?_
   exact ⟨_, rfl, congrArg Value.bool (by first | (symm; exact decide_eq_true (by omega)) | (symm; exact decide_eq_false (by omega)) | exact decide_eq_decide.2 (by omega)), hS9.drop⟩
  ·
   have hg8b := hg8
   try simp only [decide_eq_true_eq, decide_eq_false_iff_not, Bool.not_eq_true', Bool.not_eq_false', Bool.and_eq_true, Bool.or_eq_true, Int.not_lt, Int.not_le, ne_eq, Decidable.not_not] at hg8
   refine o_off (i := 13) (fun j w => ⟨(fun j w => ⟨(fun _ _ => trivial) j w, fun _ h => h⟩) j w, fun _ h => h⟩) rfl rfl (by kernel_rfl) rfl rfl hg8b (QOk.then QOk.body) ?_
   refine o_off (i := 14) (fun j w => ⟨(fun j w => ⟨(fun _ _ => trivial) j w, fun _ h => h⟩) j w, fun _ h => h⟩) rfl rfl (by kernel_rfl) rfl rfl hg8b (QOk.then QOk.body) ?_
   refine o_off (i := 15) (fun j w => ⟨(fun j w => ⟨(fun _ _ => trivial) j w, fun _ h => h⟩) j w, fun _ h => h⟩) rfl rfl (by kernel_rfl) rfl rfl hg8b (QOk.then QOk.body) ?_
   refine o_off (i := 16) (fun j w => ⟨(fun j w => ⟨(fun _ _ => trivial) j w, fun _ h => h⟩) j w, fun _ h => h⟩) rfl rfl (by kernel_rfl) rfl rfl hg8b (QOk.then QOk.body) ?_
   refine o_pure (i := 17) (fun j w => ⟨(fun j w => ⟨(fun _ _ => trivial) j w, fun _ h => h⟩) j w, fun _ h => h⟩) rfl rfl (by kernel_rfl) (goes0 rfl) (QOk.then QOk.body) (fun w => q_pickF rfl hg8b rfl) ?_
   refine o_pure (i := 18) (fun j w => ⟨(fun j w => ⟨(fun _ _ => trivial) j w, fun _ h => h⟩) j w, fun _ h => h⟩) rfl rfl (by kernel_rfl) (goes0 rfl) (QOk.then QOk.body) (fun w => q_assignB rfl) ?_
   refine o_done (by kernel_rfl) ?_
   refine hK3 _ _ ?_
   refine wp_ret ?_
   refine c_ret1 rfl rfl ?_
   exact ⟨_, rfl, congrArg Value.bool (by first | (symm; exact decide_eq_true (by omega)) | (symm; exact decide_eq_false (by omega)) | exact decide_eq_decide.2 (by omega)), hS7.drop⟩
 ·
  have hg6b := hg6
  try simp only [decide_eq_true_eq, decide_eq_false_iff_not, Bool.not_eq_true', Bool.not_eq_false', Bool.and_eq_true, Bool.or_eq_true, Int.not_lt, Int.not_le, ne_eq, Decidable.not_not] at hg6
  refine o_off (i := 6) (fun j w => ⟨(fun _ _ => trivial) j w, fun _ h => h⟩) rfl rfl (by kernel_rfl) rfl rfl hg6b (QOk.then QOk.body) ?_
  refine o_off (i := 7) (fun j w => ⟨(fun _ _ => trivial) j w, fun _ h => h⟩) rfl rfl (by kernel_rfl) rfl rfl hg6b (QOk.then QOk.body) ?_
  refine o_off (i := 8) (fun j w => ⟨(fun _ _ => trivial) j w, fun _ h => h⟩) rfl rfl (by kernel_rfl) rfl rfl hg6b (QOk.then QOk.body) ?_
  refine o_off (i := 9) (fun j w => ⟨(fun _ _ => trivial) j w, fun _ h => h⟩) rfl rfl (by kernel_rfl) rfl rfl hg6b (QOk.then QOk.body) ?_
  refine o_off (i := 10) (fun j w => ⟨(fun _ _ => trivial) j w, fun _ h => h⟩) rfl rfl (by kernel_rfl) rfl rfl hg6b (QOk.then QOk.body) ?_
  refine o_pure (i := 11) (fun j w => ⟨(fun _ _ => trivial) j w, fun _ h => h⟩) rfl rfl (by kernel_rfl) (goes0 rfl) (QOk.then QOk.body) (fun w => q_pickF rfl hg6b rfl) ?_
  refine o_pure (i := 12) (fun j w => ⟨(fun _ _ => trivial) j w, fun _ h => h⟩) rfl rfl (by kernel_rfl) (goes0 rfl) (QOk.then QOk.body) (fun w => q_moveB rfl) ?_
  refine o_off (i := 13) (fun j w => ⟨(fun _ _ => trivial) j w, fun _ h => h⟩) rfl rfl (by kernel_rfl) rfl rfl rfl (QOk.then QOk.body) ?_
  refine o_off (i := 14) (fun j w => ⟨(fun _ _ => trivial) j w, fun _ h => h⟩) rfl rfl (by kernel_rfl) rfl rfl rfl (QOk.then QOk.body) ?_
  refine o_off (i := 15) (fun j w => ⟨(fun _ _ => trivial) j w, fun _ h => h⟩) rfl rfl (by kernel_rfl) rfl rfl rfl (QOk.then QOk.body) ?_
  refine o_off (i := 16) (fun j w => ⟨(fun _ _ => trivial) j w, fun _ h => h⟩) rfl rfl (by kernel_rfl) rfl rfl rfl (QOk.then QOk.body) ?_
  refine o_pure (i := 17) (fun j w => ⟨(fun _ _ => trivial) j w, fun _ h => h⟩) rfl rfl (by kernel_rfl) (goes0 rfl) (QOk.then QOk.body) (fun w => q_pickF rfl rfl rfl) ?_
  refine o_pure (i := 18) (fun j w => ⟨(fun _ _ => trivial) j w, fun _ h => h⟩) rfl rfl (by kernel_rfl) (goes0 rfl) (QOk.then QOk.body) (fun w => q_assignB rfl) ?_
  refine o_done (by kernel_rfl) ?_
  refine hK3 _ _ ?_
  refine wp_ret ?_
  refine c_ret1 rfl rfl ?_
  exact ⟨_, rfl, congrArg Value.bool (by first | (symm; exact decide_eq_true (by omega)) | (symm; exact decide_eq_false (by omega)) | exact decide_eq_decide.2 (by omega)), hS5.drop⟩

set_option maxRecDepth 100000 in
theorem told_flt (cz az : Int) (bz : Nat) (hcz : cz ≠ 0) (fc fa : Int) (w : World) (hl : LaidV w) (hbz : w.heap[bz]? = some (fO cz az .nilIface)) : Calls Tryd.prog 16 #[fV bz, .agg #[.int .i64 fc, .int .i64 fa]] w (PostR w fun v => v = .bool (decide (cz = fc ∧ az = fa))) := by
 have hS := St.start w
 refine c_enter Tryd.func16 rfl rfl rfl ?_
 refine wp_seq_k (fun K1 hK1 => ?_)
 refine wp_region_lit ?_
 refine l_e rfl (fun K hK => ?_)
 refine e_boxA hS rfl (fun b2 w2 (hS2 : St _ _ [.blk b2 (.cells #[.int .i64 fc, .int .i64 fa] 51)] _) => ?_)
 clear hS
 refine hK _ _ ?_; clear hK K
 refine l_q rfl rfl (q_assignB rfl) ?_
 refine l_nil ?_
 refine hK1 _ _ ?_
 refine wp_seq_k (fun K3 hK3 => ?_)
 refine r_any (by kernel_rfl) hS2 (fun w4 hS4 => ?_)
 clear hS2
 refine o_pure (i := 0) (fun _ _ => trivial) rfl rfl (by kernel_rfl) (goes0 rfl) (QOk.then QOk.body) (fun w => q_move rfl) ?_
 refine o_pure (i := 2) (fun _ _ => trivial) rfl rfl (by kernel_rfl) (goes0 rfl) (QOk.then QOk.body) (fun w => q_fieldAddr (ft := 49) (o := 0) rfl (by kernel_rfl)) ?_
 refine o_held (i := 3) [4, 5, 6, 7, 8, 9, 10, 11, 12, 13, 14, 15, 16, 17, 18] (fun _ _ => trivial) rfl rfl (by kernel_rfl) (goes0 rfl) (QOk.then QOk.body) (q_load1 rfl (by kernel_rfl) (hS4.cell (i := 0) rfl rfl)) ?_
 refine o_eff (i := 1) (by kernel_rfl) rfl (goes0 rfl) (fun K hK => ?_)
 refine e_call (by kernel_rfl) (Code1_ok cz az bz hcz _ (hl.keep id hS4) (hS4.base _ _ hbz)) rfl (after_R hS4 (fun v5 w5 hv5 hS5 => ?_))
 clear hS4
 obtain rfl := hv5
 refine hK _ _ ⟨trivial, fun _ _ => by first | exact q_load1 rfl (by kernel_rfl) (hS5.cell (i := 0) rfl rfl)⟩ ?_; clear hK K
 refine o_pure (i := 4) (fun j w => ⟨(fun _ _ => trivial) j w, fun _ h => h⟩) rfl rfl (by kernel_rfl) (goes0 rfl) (QOk.then QOk.body) (fun w => q_eql rfl rfl) ?_
 refine o_pure (i := 5) (fun j w => ⟨(fun _ _ => trivial) j w, fun _ h => h⟩) rfl rfl (by kernel_rfl) (goes0 rfl) (QOk.then QOk.body) (fun w => q_moveB rfl) ?_
 refine g_splitO (t := 10) rfl (fun hg6 => ?_) (fun hg6 => ?_)
 ·
  have hg6b := hg6
  try simp only [decide_eq_true_eq, decide_eq_false_iff_not, Bool.not_eq_true', Bool.not_eq_false', Bool.and_eq_true, Bool.or_eq_true, Int.not_lt, Int.not_le, ne_eq, Decidable.not_not] at hg6
  refine o_pure (i := 6) (fun j w => ⟨(fun _ _ => trivial) j w, fun _ h => h⟩) rfl rfl (by kernel_rfl) (goes1 rfl rfl hg6b) (QOk.then QOk.body) (fun w => q_move rfl) ?_
  refine o_pure (i := 8) (fun j w => ⟨(fun _ _ => trivial) j w, fun _ h => h⟩) rfl rfl (by kernel_rfl) (goes1 rfl rfl hg6b) (QOk.then QOk.body) (fun w => q_fieldAddr (ft := 3) (o := 1) rfl (by kernel_rfl)) ?_
  refine o_held (i := 9) [10, 11, 12, 13, 14, 15, 16, 17, 18] (fun j w => ⟨(fun _ _ => trivial) j w, fun _ h => h⟩) rfl rfl (by kernel_rfl) (goes1 rfl rfl hg6b) (QOk.then QOk.body) (q_load1 rfl (by kernel_rfl) (hS5.cell (i := 0) rfl rfl)) ?_
  refine o_eff (i := 7) (by kernel_rfl) rfl (goes1 rfl rfl hg6b) (fun K hK => ?_)
  refine e_call (by kernel_rfl) (At1_ok cz az bz hcz _ (hl.keep id hS5) (hS5.base _ _ hbz)) rfl (after_R hS5 (fun v7 w7 hv7 hS7 => ?_))
  clear hS5
  obtain rfl := hv7
  refine hK _ _ ⟨⟨trivial, fun h => absurd h (by decide)⟩, fun _ _ => by first | exact q_load1 rfl (by kernel_rfl) (hS7.cell (i := 0) rfl rfl)⟩ ?_; clear hK K
  refine o_pure (i := 10) (fun j w => ⟨(fun j w => ⟨(fun _ _ => trivial) j w, fun _ h => h⟩) j w, fun _ h => h⟩) rfl rfl (by kernel_rfl) (goes1 rfl rfl hg6b) (QOk.then QOk.body) (fun w => q_eql rfl rfl) ?_
  refine o_pure (i := 11) (fun j w => ⟨(fun j w => ⟨(fun _ _ => trivial) j w, fun _ h => h⟩) j w, fun _ h => h⟩) rfl rfl (by kernel_rfl) (goes0 rfl) (QOk.then QOk.body) (fun w => q_pickT rfl hg6b rfl) ?_
  refine o_pure (i := 12) (fun j w => ⟨(fun j w => ⟨(fun _ _ => trivial) j w, fun _ h => h⟩) j w, fun _ h => h⟩) rfl rfl (by kernel_rfl) (goes0 rfl) (QOk.then QOk.body) (fun w => q_moveB rfl) ?_
  refine g_splitO (t := 17) rfl (fun hg8 => ?_) (fun hg8 => ?_)
  ·
   have hg8b := hg8
   try simp only [decide_eq_true_eq, decide_eq_false_iff_not, Bool.not_eq_true', Bool.not_eq_false', Bool.and_eq_true, Bool.or_eq_true, Int.not_lt, Int.not_le, ne_eq, Decidable.not_not] at hg8
   refine o_pure (i := 13) (fun j w => ⟨(fun j w => ⟨(fun _ _ => trivial) j w, fun _ h => h⟩) j w, fun _ h => h⟩) rfl rfl (by kernel_rfl) (goes1 rfl rfl hg8b) (QOk.then QOk.body) (fun w => q_move rfl) ?_
   refine o_eff (i := 14) (by kernel_rfl) rfl (goes1 rfl rfl hg8b) (fun K hK => ?_)
   refine e_call (by kernel_rfl) (Codes1_ok cz az bz hcz _ (hl.keep id hS7) (hS7.base _ _ hbz)) rfl (after_R hS7 (fun v9 w9 hv9 hS9 => ?_))
   clear hS7
   obtain ⟨ad9, cp9, rfl⟩ := hv9
   refine hK _ _ ⟨⟨trivial, fun h => absurd h (by decide)⟩, fun h => absurd h (by decide)⟩ ?_; clear hK K
   refine o_pure (i := 15) (fun j w => ⟨(fun j w => ⟨(fun _ _ => trivial) j w, fun _ h => h⟩) j w, fun _ h => h⟩) rfl rfl (by kernel_rfl) (goes1 rfl rfl hg8b) (QOk.then QOk.body) (fun w => q_lenSl (e := 49) rfl (by kernel_rfl)) ?_
   refine o_pure (i := 16) (fun j w => ⟨(fun j w => ⟨(fun _ _ => trivial) j w, fun _ h => h⟩) j w, fun _ h => h⟩) rfl rfl (by kernel_rfl) (goes1 rfl rfl hg8b) (QOk.then QOk.body) (fun w => q_leq rfl rfl) ?_
   refine o_pure (i := 17) (fun j w => ⟨(fun j w => ⟨(fun _ _ => trivial) j w, fun _ h => h⟩) j w, fun _ h => h⟩) rfl rfl (by kernel_rfl) (goes0 rfl) (QOk.then QOk.body) (fun w => q_pickT rfl hg8b rfl) ?_
   refine o_pure (i := 18) (fun j w => ⟨(fun j w => ⟨(fun _ _ => trivial) j w, fun _ h => h⟩) j w, fun _ h => h⟩) rfl rfl (by kernel_rfl) (goes0 rfl) (QOk.then QOk.body) (fun w => q_assignB rfl) ?_
   refine o_done (by kernel_rfl) ?_
   refine hK3 _ _ ?_
   refine wp_ret ?_
   refine c_ret1 rfl rfl ?_
   exact ⟨_, rfl, congrArg Value.bool (by first | (symm; exact decide_eq_true (by omega)) | (symm; exact decide_eq_false (by omega)) | exact decide_eq_decide.2 (by omega)), hS9.drop⟩
  ·
   have hg8b := hg8
   try simp only [decide_eq_true_eq, decide_eq_false_iff_not, Bool.not_eq_true', Bool.not_eq_false', Bool.and_eq_true, Bool.or_eq_true, Int.not_lt, Int.not_le, ne_eq, Decidable.not_not] at hg8
   refine o_off (i := 13) (fun j w => ⟨(fun j w => ⟨(fun _ _ => trivial) j w, fun _ h => h⟩) j w, fun _ h => h⟩) rfl rfl (by kernel_rfl) rfl rfl hg8b (QOk.then QOk.body) ?_
   refine o_off (i := 14) (fun j w => ⟨(fun j w => ⟨(fun _ _ => trivial) j w, fun _ h => h⟩) j w, fun _ h => h⟩) rfl rfl (by kernel_rfl) rfl rfl hg8b (QOk.then QOk.body) ?_
   refine o_off (i := 15) (fun j w => ⟨(fun j w => ⟨(fun _ _ => trivial) j w, fun _ h => h⟩) j w, fun _ h => h⟩) rfl rfl (by kernel_rfl) rfl rfl hg8b (QOk.then QOk.body) ?_
   refine o_off (i := 16) (fun j w => ⟨(fun j w => ⟨(fun _ _ => trivial) j w, fun _ h => h⟩) j w, fun _ h => h⟩) rfl rfl (by kernel_rfl) rfl rfl hg8b (QOk.then QOk.body) ?_
   refine o_pure (i := 17) (fun j w => ⟨(fun j w => ⟨(fun _ _ => trivial) j w, fun _ h => h⟩) j w, fun _ h => h⟩) rfl rfl (by kernel_rfl) (goes0 rfl) (QOk.then QOk.body) (fun w => q_pickF rfl hg8b rfl) ?_
   refine o_pure (i := 18) (fun j w => ⟨(fun j w => ⟨(fun _ _ => trivial) j w, fun _ h => h⟩) j w, fun _ h => h⟩) rfl rfl (by kernel_rfl) (goes0 rfl) (QOk.then QOk.body) (fun w => q_assignB rfl) ?_
   refine o_done (by kernel_rfl) ?_
   refine hK3 _ _ ?_
   refine wp_ret ?_
   refine c_ret1 rfl rfl ?_
   exact ⟨_, rfl, congrArg Value.bool (by first | (symm; exact decide_eq_true (by omega)) | (symm; exact decide_eq_false (by omega)) | exact decide_eq_decide.2 (by omega)), hS7.drop⟩
 ·
  have hg6b := hg6
  try simp only [decide_eq_true_eq, decide_eq_false_iff_not, Bool.not_eq_true', Bool.not_eq_false', Bool.and_eq_true, Bool.or_eq_true, Int.not_lt, Int.not_le, ne_eq, Decidable.not_not] at hg6
  refine o_off (i := 6) (fun j w => ⟨(fun _ _ => trivial) j w, fun _ h => h⟩) rfl rfl (by kernel_rfl) rfl rfl hg6b (QOk.then QOk.body) ?_
  refine o_off (i := 7) (fun j w => ⟨(fun _ _ => trivial) j w, fun _ h => h⟩) rfl rfl (by kernel_rfl) rfl rfl hg6b (QOk.then QOk.body) ?_
  refine o_off (i := 8) (fun j w => ⟨(fun _ _ => trivial) j w, fun _ h => h⟩) rfl rfl (by kernel_rfl) rfl rfl hg6b (QOk.then QOk.body) ?_
  refine o_off (i := 9) (fun j w => ⟨(fun _ _ => trivial) j w, fun _ h => h⟩) rfl rfl (by kernel_rfl) rfl rfl hg6b (QOk.then QOk.body) ?_
  refine o_off (i := 10) (fun j w => ⟨(fun _ _ => trivial) j w, fun _ h => h⟩) rfl rfl (by kernel_rfl) rfl rfl hg6b (QOk.then QOk.body) ?_
  refine o_pure (i := 11) (fun j w => ⟨(fun _ _ => trivial) j w, fun _ h => h⟩) rfl rfl (by kernel_rfl) (goes0 rfl) (QOk.then QOk.body) (fun w => q_pickF rfl hg6b rfl) ?_
  refine o_pure (i := 12) (fun j w => ⟨(fun _ _ => trivial) j w, fun _ h => h⟩) rfl rfl (by kernel_rfl) (goes0 rfl) (QOk.then QOk.body) (fun w => q_moveB rfl) ?_
  refine o_off (i := 13) (fun j w => ⟨(fun _ _ => trivial) j w, fun _ h => h⟩) rfl rfl (by kernel_rfl) rfl rfl rfl (QOk.then QOk.body) ?_
  refine o_off (i := 14) (fun j w => ⟨(fun _ _ => trivial) j w, fun _ h => h⟩) rfl rfl (by kernel_rfl) rfl rfl rfl (QOk.then QOk.body) ?_
  refine o_off (i := 15) (fun j w => ⟨(fun _ _ => trivial) j w, fun _ h => h⟩) rfl rfl (by kernel_rfl) rfl rfl rfl (QOk.then QOk.body) ?_
  refine o_off (i := 16) (fun j w => ⟨(fun _ _ => trivial) j w, fun _ h => h⟩) rfl rfl (by kernel_rfl) rfl rfl rfl (QOk.then QOk.body) ?_
  refine o_pure (i := 17) (fun j w => ⟨(fun _ _ => trivial) j w, fun _ h => h⟩) rfl rfl (by kernel_rfl) (goes0 rfl) (QOk.then QOk.body) (fun w => q_pickF rfl rfl rfl) ?_
  refine o_pure (i := 18) (fun j w => ⟨(fun _ _ => trivial) j w, fun _ h => h⟩) rfl rfl (by kernel_rfl) (goes0 rfl) (QOk.then QOk.body) (fun w => q_assignB rfl) ?_
  refine o_done (by kernel_rfl) ?_
  refine hK3 _ _ ?_
  refine wp_ret ?_
  refine c_ret1 rfl rfl ?_
  exact ⟨_, rfl, congrArg Value.bool (by first | (symm; exact decide_eq_true (by omega)) | (symm; exact decide_eq_false (by omega)) | exact decide_eq_decide.2 (by omega)), hS5.drop⟩

set_option maxRecDepth 100000 in
theorem fine_ok (w : World) : Calls Tryd.prog 43 #[] w (PostR w fun v => v = .agg #[.int .i64 0, .int .i64 (-1)]) := by
 have hS := St.start w
 refine c_enter Tryd.func43 rfl rfl rfl ?_
 refine wp_seq_k (fun K1 hK1 => ?_)
 refine wp_region_lit ?_
 refine l_e rfl (fun K hK => ?_)
 refine e_alloc (zv := .agg #[.int .i64 0, .int .i64 0]) hS (by kernel_rfl) (fun b2 w2 (hS2 : St _ _ [.blk b2 (.cells #[.int .i64 (0 : Int), .int .i64 (0 : Int)] 51)] _) => ?_)
 clear hS
 refine hK _ _ ?_; clear hK K
 refine l_nil ?_
 refine hK1 _ _ ?_
 refine wp_seq_k (fun K3 hK3 => ?_)
 refine wp_region_lit ?_
 refine l_q rfl rfl (q_build (ps := [(0, 1), (1, 1)]) (zv := .agg #[.int .i64 0, .int .i64 0]) (by kernel_rfl) (by kernel_rfl) rfl (by repeat' (first | exact trivial | refine ⟨fun _ => by first | rfl | assumption | exact one_if (by assumption), ?_⟩ | refine ⟨fun ⟨_, h⟩ => by simp at h, ?_⟩)) rfl) ?_
 refine l_e rfl (fun K hK => ?_)
 refine e_storeA hS2 rfl rfl (by kernel_rfl) (by repeat' (first | exact trivial | refine ⟨by first | rfl | assumption | exact one_if (by assumption), ?_⟩)) (i := 0) rfl rfl (fun w4 (hS4 : St _ _ [.blk b2 (.cells #[.int .i64 (0 : Int), .int .i64 (-1 : Int)] 51)] _) => ?_)
 clear hS2
 refine hK _ _ ?_; clear hK K
 refine l_nil ?_
 refine hK3 _ _ ?_
 refine wp_ret ?_
 refine c_retC (m := 2) rfl (by kernel_rfl) (by kernel_rfl) rfl (by first | exact hS4.blk (i := 0) rfl | exact hS4.blk (i := 1) rfl | exact hS4.blk (i := 2) rfl | exact hS4.blk (i := 3) rfl | exact hS4.blk (i := 4) rfl) rfl ?_
 exact ⟨_, rfl, rfl, hS4.drop⟩

set_option maxHeartbeats 4000000 in
set_option maxRecDepth 100000 in
theorem rright18_ok (t : Tb) (htn : Bytes t.nm) (htc : CsOk t.cs) (htb : VsOk t.bd) (nc nb : Nat) (hnc : t.cs.length = nc) (hnb : t.bd.length = nb) (hmc : nc ≤ 2000000) (hmb : nb ≤ 2000000) (hnm : t.nm.length ≤ 9223372036854775807) (hcm : ∀ (i : Nat) (c : Co), t.cs[i]? = some c → c.nm.length ≤ 9223372036854775807) (ca ba : Option Addr) (cca cba : Nat) (w : World) (hCG : SlG (hw w) ca (List.flatMap cc t.cs)) (hBG : SlG (hw w) ba (List.flatMap vl t.bd)) : Calls Tryd.prog 17 #[.agg #[.string (bs t.nm), .slice ca nc cca, .int .i64 t.key, .int .i64 t.pt, .slice ba nb cba]] w (PostR w fun v => ∃ c a, RtA t c a ∧ v = .agg #[.int .i64 c, .int .i64 a]) := by
 have hS := St.start w
 subst hnc hnb
 refine c_enter Tryd.func17 rfl rfl rfl ?_
 refine wp_seq_k (fun K1 hK1 => ?_)
 refine wp_region_lit ?_
 refine l_e rfl (fun K hK => ?_)
 refine e_boxA hS rfl (fun b2 w2 (hS2 : St _ _ [.blk b2 (.cells #[.string (bs t.nm), .slice ca t.cs.length cca, .int .i64 t.key, .int .i64 t.pt, .slice ba t.bd.length cba] 29)] _) => ?_)
 clear hS
 refine hK _ _ ?_; clear hK K
 refine l_e rfl (fun K hK => ?_)
 refine e_alloc (zv := .agg #[.int .i64 0, .int .i64 0]) hS2 (by kernel_rfl) (fun b3 w3 (hS3 : St _ _ [.blk b3 (.cells #[.int .i64 (0 : Int), .int .i64 (0 : Int)] 51), _] _) => ?_)
 clear hS2
 refine hK _ _ ?_; clear hK K
 refine l_nil ?_
 refine hK1 _ _ ?_
 refine wp_seq_k (fun K4 hK4 => ?_)
 refine wp_region_lit ?_
 refine l_q rfl rfl (q_build (ps := [(0, 1), (1, 1)]) (zv := .agg #[.int .i64 0, .int .i64 0]) (by kernel_rfl) (by kernel_rfl) rfl (by repeat' (first | exact trivial | refine ⟨fun _ => by first | rfl | assumption | exact one_if (by assumption), ?_⟩ | refine ⟨fun ⟨_, h⟩ => by simp at h, ?_⟩)) rfl) ?_
 refine l_e rfl (fun K hK => ?_)
 refine e_alloc (zv := .agg #[.int .i64 0, .int .i64 0]) hS3 (by kernel_rfl) (fun b5 w5 (hS5 : St _ _ [.blk b5 (.cells #[.int .i64 (0 : Int), .int .i64 (0 : Int)] 51), _, _] _) => ?_)
 clear hS3
 refine hK _ _ ?_; clear hK K
 refine l_e rfl (fun K hK => ?_)
 refine e_storeA hS5 rfl rfl (by kernel_rfl) (by repeat' (first | exact trivial | refine ⟨by first | rfl | assumption | exact one_if (by assumption), ?_⟩)) (i := 0) rfl rfl (fun w6 (hS6 : St _ _ [.blk b5 (.cells #[.int .i64 (182 : Int), .int .i64 (-1 : Int)] 51), _, _] _) => ?_)
 clear hS5
 refine hK _ _ ?_; clear hK K
 refine l_nil ?_
 refine hK4 _ _ ?_
 refine wp_seq_k (fun K7 hK7 => ?_)
 refine wp_region_lit ?_
 refine l_q rfl rfl (q_fieldAddr (ft := 9) (o := 0) rfl (by kernel_rfl)) ?_
 refine l_q rfl rfl (q_load1 rfl (by kernel_rfl) (hS6.cell (i := 2) rfl rfl)) ?_
 refine l_e rfl (fun K hK => ?_)
 refine e_call (by kernel_rfl) (rname_ok t.nm htn (by first | omega | assumption) _) rfl (after_R hS6 (fun v8 w8 hv8 hS8 => ?_))
 clear hS6
 obtain rfl := hv8
 refine hK _ _ ?_; clear hK K
 refine l_q rfl rfl (q_assignB rfl) ?_
 refine l_nil ?_
 refine hK7 _ _ ?_
 refine wp_seq_k (fun K9 hK9 => ?_)
 refine c_cut (τ := Bool) [(15, 68)] (fun x => (fun (bq : Bool) => [(68, .bool bq)]) x) (fun x w' => (fun (bq : Bool) => St w (fun _ => False) [.blk b5 (.cells #[.int .i64 (182 : Int), .int .i64 (-1 : Int)] 51), .blk b3 (.cells #[.int .i64 (0 : Int), .int .i64 (0 : Int)] 51), .blk b2 (.cells #[.string (bs t.nm), .slice ca t.cs.length cca, .int .i64 t.key, .int .i64 t.pt, .slice ba t.bd.length cba] 29)] w' ∧ (bq = true → ¬HeadQ t) ∧ (bq = false → HeadQ t)) x) (fun K11 hK11 => ?_) (fun bq j11 w11 hJ11 => ?_)
 ·
  refine wp_region_lit ?_
  refine l_q rfl rfl (q_moveB rfl) ?_
  refine l_q rfl rfl (q_not rfl) ?_
  refine l_q rfl rfl (q_moveB rfl) ?_
  refine g_splitL (t := 17) rfl (fun hg12 => ?_) (fun hg12 => ?_)
  ·
   have hg12b := hg12
   try simp only [decide_eq_true_eq, decide_eq_false_iff_not, Bool.not_eq_true', Bool.not_eq_false', Bool.and_eq_true, Bool.or_eq_true, Int.not_lt, Int.not_le, ne_eq, Decidable.not_not] at hg12
   refine l_off rfl rfl rfl hg12b ?_
   refine l_off rfl rfl rfl hg12b ?_
   refine l_off rfl rfl rfl hg12b ?_
   refine l_off rfl rfl rfl hg12b ?_
   refine l_q rfl rfl (q_pickT rfl hg12b rfl) ?_
   refine l_q rfl rfl (q_moveB rfl) ?_
   refine l_off rfl rfl rfl rfl ?_
   refine l_off rfl rfl rfl rfl ?_
   refine l_off rfl rfl rfl rfl ?_
   refine l_off rfl rfl rfl rfl ?_
   refine l_q rfl rfl (q_pickT rfl rfl rfl) ?_
   refine l_q rfl rfl (q_moveB rfl) ?_
   refine l_off rfl rfl rfl rfl ?_
   refine l_off rfl rfl rfl rfl ?_
   refine l_off rfl rfl rfl rfl ?_
   refine l_q rfl rfl (q_pickT rfl rfl rfl) ?_
   refine l_q rfl rfl (q_moveB rfl) ?_
   refine l_off rfl rfl rfl rfl ?_
   refine l_off rfl rfl rfl rfl ?_
   refine l_off rfl rfl rfl rfl ?_
   refine l_off rfl rfl rfl rfl ?_
   refine l_off rfl rfl rfl rfl ?_
   refine l_off rfl rfl rfl rfl ?_
   refine l_q rfl rfl (q_pickT rfl rfl rfl) ?_
   refine l_q rfl rfl (q_moveB rfl) ?_
   refine l_off rfl rfl rfl rfl ?_
   refine l_off rfl rfl rfl rfl ?_
   refine l_off rfl rfl rfl rfl ?_
   refine l_q rfl rfl (q_pickT rfl rfl rfl) ?_
   refine l_q rfl rfl (q_moveB rfl) ?_
   refine l_off rfl rfl rfl rfl ?_
   refine l_off rfl rfl rfl rfl ?_
   refine l_off rfl rfl rfl rfl ?_
   refine l_q rfl rfl (q_pickT rfl rfl rfl) ?_
   refine l_q rfl rfl (q_moveB rfl) ?_
   refine l_off rfl rfl rfl rfl ?_
   refine l_off rfl rfl rfl rfl ?_
   refine l_off rfl rfl rfl rfl ?_
   refine l_off rfl rfl rfl rfl ?_
   refine l_offN rfl rfl rfl ?_
   refine l_offN rfl rfl rfl ?_
   refine l_offN rfl rfl rfl ?_
   refine l_offN rfl rfl rfl ?_
   refine l_off rfl rfl rfl rfl ?_
   refine l_q rfl rfl (q_pickT rfl rfl rfl) ?_
   refine l_q rfl rfl (q_moveB rfl) ?_
   refine l_off rfl rfl rfl rfl ?_
   refine l_off rfl rfl rfl rfl ?_
   refine l_off rfl rfl rfl rfl ?_
   refine l_off rfl rfl rfl rfl ?_
   refine l_q rfl rfl (q_pickT rfl rfl rfl) ?_
   refine l_nil ?_
   refine hK11 _ _ (came (true) (by repeat' (first | exact Agree.refl _ _ | refine Agree.up ?_ rfl | refine Agree.hav2 ?_ rfl | refine Agree.ups2 ?_ rfl)) (by refine ⟨congrArg Value.bool rfl, trivial⟩) ?_)
   exact ⟨hS8, (fun _ => fun ⟨g1, g2, g3, g4, g5, g6, g7, g8, g9⟩ => by first | omega | exact absurd g1 (pB_no.1 (by assumption))), fun h => by cases h⟩
  ·
   have hg12b := hg12
   try simp only [decide_eq_true_eq, decide_eq_false_iff_not, Bool.not_eq_true', Bool.not_eq_false', Bool.and_eq_true, Bool.or_eq_true, Int.not_lt, Int.not_le, ne_eq, Decidable.not_not] at hg12
   refine l_on rfl rfl hg12b ?_
   refine l_q rfl rfl (q_fieldAddr (ft := 26) (o := 1) rfl (by kernel_rfl)) ?_
   refine l_on rfl rfl hg12b ?_
   refine l_q rfl rfl (q_load1 rfl (by kernel_rfl) (hS8.cell (i := 2) rfl rfl)) ?_
   refine l_on rfl rfl hg12b ?_
   refine l_q rfl rfl (q_lenSl (e := 25) rfl (by kernel_rfl)) ?_
   refine l_on rfl rfl hg12b ?_
   refine l_q rfl rfl (q_lss rfl rfl) ?_
   refine l_q rfl rfl (q_pickF rfl hg12b rfl) ?_
   refine l_q rfl rfl (q_moveB rfl) ?_
   refine g_splitL (t := 23) rfl (fun hg13 => ?_) (fun hg13 => ?_)
   ·
    have hg13b := hg13
    try simp only [decide_eq_true_eq, decide_eq_false_iff_not, Bool.not_eq_true', Bool.not_eq_false', Bool.and_eq_true, Bool.or_eq_true, Int.not_lt, Int.not_le, ne_eq, Decidable.not_not] at hg13
    refine l_off rfl rfl rfl hg13b ?_
    refine l_off rfl rfl rfl hg13b ?_
    refine l_off rfl rfl rfl hg13b ?_
    refine l_off rfl rfl rfl hg13b ?_
    refine l_q rfl rfl (q_pickT rfl hg13b rfl) ?_
    refine l_q rfl rfl (q_moveB rfl) ?_
    refine l_off rfl rfl rfl rfl ?_
    refine l_off rfl rfl rfl rfl ?_
    refine l_off rfl rfl rfl rfl ?_
    refine l_q rfl rfl (q_pickT rfl rfl rfl) ?_
    refine l_q rfl rfl (q_moveB rfl) ?_
    refine l_off rfl rfl rfl rfl ?_
    refine l_off rfl rfl rfl rfl ?_
    refine l_off rfl rfl rfl rfl ?_
    refine l_off rfl rfl rfl rfl ?_
    refine l_off rfl rfl rfl rfl ?_
    refine l_off rfl rfl rfl rfl ?_
    refine l_q rfl rfl (q_pickT rfl rfl rfl) ?_
    refine l_q rfl rfl (q_moveB rfl) ?_
    refine l_off rfl rfl rfl rfl ?_
    refine l_off rfl rfl rfl rfl ?_
    refine l_off rfl rfl rfl rfl ?_
    refine l_q rfl rfl (q_pickT rfl rfl rfl) ?_
    refine l_q rfl rfl (q_moveB rfl) ?_
    refine l_off rfl rfl rfl rfl ?_
    refine l_off rfl rfl rfl rfl ?_
    refine l_off rfl rfl rfl rfl ?_
    refine l_q rfl rfl (q_pickT rfl rfl rfl) ?_
    refine l_q rfl rfl (q_moveB rfl) ?_
    refine l_off rfl rfl rfl rfl ?_
    refine l_off rfl rfl rfl rfl ?_
    refine l_off rfl rfl rfl rfl ?_
    refine l_off rfl rfl rfl rfl ?_
    refine l_offN rfl rfl rfl ?_
    refine l_offN rfl rfl rfl ?_
    refine l_offN rfl rfl rfl ?_
    refine l_offN rfl rfl rfl ?_
    refine l_off rfl rfl rfl rfl ?_
    refine l_q rfl rfl (q_pickT rfl rfl rfl) ?_
    refine l_q rfl rfl (q_moveB rfl) ?_
    refine l_off rfl rfl rfl rfl ?_
    refine l_off rfl rfl rfl rfl ?_
    refine l_off rfl rfl rfl rfl ?_
    refine l_off rfl rfl rfl rfl ?_
    refine l_q rfl rfl (q_pickT rfl rfl rfl) ?_
    refine l_nil ?_
    refine hK11 _ _ (came (true) (by repeat' (first | exact Agree.refl _ _ | refine Agree.up ?_ rfl | refine Agree.hav2 ?_ rfl | refine Agree.ups2 ?_ rfl)) (by refine ⟨congrArg Value.bool rfl, trivial⟩) ?_)
    exact ⟨hS8, (fun _ => fun ⟨g1, g2, g3, g4, g5, g6, g7, g8, g9⟩ => by first | omega | exact absurd g1 (pB_no.1 (by assumption))), fun h => by cases h⟩
   ·
    have hg13b := hg13
    try simp only [decide_eq_true_eq, decide_eq_false_iff_not, Bool.not_eq_true', Bool.not_eq_false', Bool.and_eq_true, Bool.or_eq_true, Int.not_lt, Int.not_le, ne_eq, Decidable.not_not] at hg13
    refine l_on rfl rfl hg13b ?_
    refine l_q rfl rfl (q_fieldAddr (ft := 26) (o := 1) rfl (by kernel_rfl)) ?_
    refine l_on rfl rfl hg13b ?_
    refine l_q rfl rfl (q_load1 rfl (by kernel_rfl) (hS8.cell (i := 2) rfl rfl)) ?_
    refine l_on rfl rfl hg13b ?_
    refine l_q rfl rfl (q_lenSl (e := 25) rfl (by kernel_rfl)) ?_
    refine l_on rfl rfl hg13b ?_
    refine l_q rfl rfl (q_gtr rfl rfl) ?_
    refine l_q rfl rfl (q_pickF rfl hg13b rfl) ?_
    refine l_q rfl rfl (q_moveB rfl) ?_
    refine g_splitL (t := 29) rfl (fun hg14 => ?_) (fun hg14 => ?_)
    ·
     have hg14b := hg14
     try simp only [decide_eq_true_eq, decide_eq_false_iff_not, Bool.not_eq_true', Bool.not_eq_false', Bool.and_eq_true, Bool.or_eq_true, Int.not_lt, Int.not_le, ne_eq, Decidable.not_not] at hg14
     refine l_off rfl rfl rfl hg14b ?_
     refine l_off rfl rfl rfl hg14b ?_
     refine l_off rfl rfl rfl hg14b ?_
     refine l_q rfl rfl (q_pickT rfl hg14b rfl) ?_
     refine l_q rfl rfl (q_moveB rfl) ?_
     refine l_off rfl rfl rfl rfl ?_
     refine l_off rfl rfl rfl rfl ?_
     refine l_off rfl rfl rfl rfl ?_
     refine l_off rfl rfl rfl rfl ?_
     refine l_off rfl rfl rfl rfl ?_
     refine l_off rfl rfl rfl rfl ?_
     refine l_q rfl rfl (q_pickT rfl rfl rfl) ?_
     refine l_q rfl rfl (q_moveB rfl) ?_
     refine l_off rfl rfl rfl rfl ?_
     refine l_off rfl rfl rfl rfl ?_
     refine l_off rfl rfl rfl rfl ?_
     refine l_q rfl rfl (q_pickT rfl rfl rfl) ?_
     refine l_q rfl rfl (q_moveB rfl) ?_
     refine l_off rfl rfl rfl rfl ?_
     refine l_off rfl rfl rfl rfl ?_
     refine l_off rfl rfl rfl rfl ?_
     refine l_q rfl rfl (q_pickT rfl rfl rfl) ?_
     refine l_q rfl rfl (q_moveB rfl) ?_
     refine l_off rfl rfl rfl rfl ?_
     refine l_off rfl rfl rfl rfl ?_
     refine l_off rfl rfl rfl rfl ?_
     refine l_off rfl rfl rfl rfl ?_
     refine l_offN rfl rfl rfl ?_
     refine l_offN rfl rfl rfl ?_
     refine l_offN rfl rfl rfl ?_
     refine l_offN rfl rfl rfl ?_
     refine l_off rfl rfl rfl rfl ?_
     refine l_q rfl rfl (q_pickT rfl rfl rfl) ?_
     refine l_q rfl rfl (q_moveB rfl) ?_
     refine l_off rfl rfl rfl rfl ?_
     refine l_off rfl rfl rfl rfl ?_
     refine l_off rfl rfl rfl rfl ?_
     refine l_off rfl rfl rfl rfl ?_
     refine l_q rfl rfl (q_pickT rfl rfl rfl) ?_
     refine l_nil ?_
     refine hK11 _ _ (came (true) (by repeat' (first | exact Agree.refl _ _ | refine Agree.up ?_ rfl | refine Agree.hav2 ?_ rfl | refine Agree.ups2 ?_ rfl)) (by refine ⟨congrArg Value.bool rfl, trivial⟩) ?_)
     exact ⟨hS8, (fun _ => fun ⟨g1, g2, g3, g4, g5, g6, g7, g8, g9⟩ => by first | omega | exact absurd g1 (pB_no.1 (by assumption))), fun h => by cases h⟩
    ·
     have hg14b := hg14
     try simp only [decide_eq_true_eq, decide_eq_false_iff_not, Bool.not_eq_true', Bool.not_eq_false', Bool.and_eq_true, Bool.or_eq_true, Int.not_lt, Int.not_le, ne_eq, Decidable.not_not] at hg14
     refine l_on rfl rfl hg14b ?_
     refine l_q rfl rfl (q_fieldAddr (ft := 3) (o := 2) rfl (by kernel_rfl)) ?_
     refine l_on rfl rfl hg14b ?_
     refine l_q rfl rfl (q_load1 rfl (by kernel_rfl) (hS8.cell (i := 2) rfl rfl)) ?_
     refine l_on rfl rfl hg14b ?_
     refine l_q rfl rfl (q_lss rfl rfl) ?_
     refine l_q rfl rfl (q_pickF rfl hg14b rfl) ?_
     refine l_q rfl rfl (q_moveB rfl) ?_
     refine g_splitL (t := 34) rfl (fun hg15 => ?_) (fun hg15 => ?_)
     ·
      have hg15b := hg15
      try simp only [decide_eq_true_eq, decide_eq_false_iff_not, Bool.not_eq_true', Bool.not_eq_false', Bool.and_eq_true, Bool.or_eq_true, Int.not_lt, Int.not_le, ne_eq, Decidable.not_not] at hg15
      refine l_off rfl rfl rfl hg15b ?_
      refine l_off rfl rfl rfl hg15b ?_
      refine l_off rfl rfl rfl hg15b ?_
      refine l_off rfl rfl rfl hg15b ?_
      refine l_off rfl rfl rfl hg15b ?_
      refine l_off rfl rfl rfl hg15b ?_
      refine l_q rfl rfl (q_pickT rfl hg15b rfl) ?_
      refine l_q rfl rfl (q_moveB rfl) ?_
      refine l_off rfl rfl rfl rfl ?_
      refine l_off rfl rfl rfl rfl ?_
      refine l_off rfl rfl rfl rfl ?_
      refine l_q rfl rfl (q_pickT rfl rfl rfl) ?_
      refine l_q rfl rfl (q_moveB rfl) ?_
      refine l_off rfl rfl rfl rfl ?_
      refine l_off rfl rfl rfl rfl ?_
      refine l_off rfl rfl rfl rfl ?_
      refine l_q rfl rfl (q_pickT rfl rfl rfl) ?_
      refine l_q rfl rfl (q_moveB rfl) ?_
      refine l_off rfl rfl rfl rfl ?_
      refine l_off rfl rfl rfl rfl ?_
      refine l_off rfl rfl rfl rfl ?_
      refine l_off rfl rfl rfl rfl ?_
      refine l_offN rfl rfl rfl ?_
      refine l_offN rfl rfl rfl ?_
      refine l_offN rfl rfl rfl ?_
      refine l_offN rfl rfl rfl ?_
      refine l_off rfl rfl rfl rfl ?_
      refine l_q rfl rfl (q_pickT rfl rfl rfl) ?_
      refine l_q rfl rfl (q_moveB rfl) ?_
      refine l_off rfl rfl rfl rfl ?_
      refine l_off rfl rfl rfl rfl ?_
      refine l_off rfl rfl rfl rfl ?_
      refine l_off rfl rfl rfl rfl ?_
      refine l_q rfl rfl (q_pickT rfl rfl rfl) ?_
      refine l_nil ?_
      refine hK11 _ _ (came (true) (by repeat' (first | exact Agree.refl _ _ | refine Agree.up ?_ rfl | refine Agree.hav2 ?_ rfl | refine Agree.ups2 ?_ rfl)) (by refine ⟨congrArg Value.bool rfl, trivial⟩) ?_)
      exact ⟨hS8, (fun _ => fun ⟨g1, g2, g3, g4, g5, g6, g7, g8, g9⟩ => by first | omega | exact absurd g1 (pB_no.1 (by assumption))), fun h => by cases h⟩
     ·
      have hg15b := hg15
      try simp only [decide_eq_true_eq, decide_eq_false_iff_not, Bool.not_eq_true', Bool.not_eq_false', Bool.and_eq_true, Bool.or_eq_true, Int.not_lt, Int.not_le, ne_eq, Decidable.not_not] at hg15
      refine l_on rfl rfl hg15b ?_
      refine l_q rfl rfl (q_fieldAddr (ft := 3) (o := 2) rfl (by kernel_rfl)) ?_
      refine l_on rfl rfl hg15b ?_
      refine l_q rfl rfl (q_load1 rfl (by kernel_rfl) (hS8.cell (i := 2) rfl rfl)) ?_
      refine l_on rfl rfl hg15b ?_
      refine l_q rfl rfl (q_fieldAddr (ft := 26) (o := 1) rfl (by kernel_rfl)) ?_
      refine l_on rfl rfl hg15b ?_
      refine l_q rfl rfl (q_load1 rfl (by kernel_rfl) (hS8.cell (i := 2) rfl rfl)) ?_
      refine l_on rfl rfl hg15b ?_
      refine l_q rfl rfl (q_lenSl (e := 25) rfl (by kernel_rfl)) ?_
      refine l_on rfl rfl hg15b ?_
      refine l_q rfl rfl (q_gtr rfl rfl) ?_
      refine l_q rfl rfl (q_pickF rfl hg15b rfl) ?_
      refine l_q rfl rfl (q_moveB rfl) ?_
      refine g_splitL (t := 42) rfl (fun hg16 => ?_) (fun hg16 => ?_)
      ·
       have hg16b := hg16
       try simp only [decide_eq_true_eq, decide_eq_false_iff_not, Bool.not_eq_true', Bool.not_eq_false', Bool.and_eq_true, Bool.or_eq_true, Int.not_lt, Int.not_le, ne_eq, Decidable.not_not] at hg16
       refine l_off rfl rfl rfl hg16b ?_
       refine l_off rfl rfl rfl hg16b ?_
       refine l_off rfl rfl rfl hg16b ?_
       refine l_q rfl rfl (q_pickT rfl hg16b rfl) ?_
       refine l_q rfl rfl (q_moveB rfl) ?_
       refine l_off rfl rfl rfl rfl ?_
       refine l_off rfl rfl rfl rfl ?_
       refine l_off rfl rfl rfl rfl ?_
       refine l_q rfl rfl (q_pickT rfl rfl rfl) ?_
       refine l_q rfl rfl (q_moveB rfl) ?_
       refine l_off rfl rfl rfl rfl ?_
       refine l_off rfl rfl rfl rfl ?_
       refine l_off rfl rfl rfl rfl ?_
       refine l_off rfl rfl rfl rfl ?_
       refine l_offN rfl rfl rfl ?_
       refine l_offN rfl rfl rfl ?_
       refine l_offN rfl rfl rfl ?_
       refine l_offN rfl rfl rfl ?_
       refine l_off rfl rfl rfl rfl ?_
       refine l_q rfl rfl (q_pickT rfl rfl rfl) ?_
       refine l_q rfl rfl (q_moveB rfl) ?_
       refine l_off rfl rfl rfl rfl ?_
       refine l_off rfl rfl rfl rfl ?_
       refine l_off rfl rfl rfl rfl ?_
       refine l_off rfl rfl rfl rfl ?_
       refine l_q rfl rfl (q_pickT rfl rfl rfl) ?_
       refine l_nil ?_
       refine hK11 _ _ (came (true) (by repeat' (first | exact Agree.refl _ _ | refine Agree.up ?_ rfl | refine Agree.hav2 ?_ rfl | refine Agree.ups2 ?_ rfl)) (by refine ⟨congrArg Value.bool rfl, trivial⟩) ?_)
       exact ⟨hS8, (fun _ => fun ⟨g1, g2, g3, g4, g5, g6, g7, g8, g9⟩ => by first | omega | exact absurd g1 (pB_no.1 (by assumption))), fun h => by cases h⟩
      ·
       have hg16b := hg16
       try simp only [decide_eq_true_eq, decide_eq_false_iff_not, Bool.not_eq_true', Bool.not_eq_false', Bool.and_eq_true, Bool.or_eq_true, Int.not_lt, Int.not_le, ne_eq, Decidable.not_not] at hg16
       refine l_on rfl rfl hg16b ?_
       refine l_q rfl rfl (q_fieldAddr (ft := 3) (o := 3) rfl (by kernel_rfl)) ?_
       refine l_on rfl rfl hg16b ?_
       refine l_q rfl rfl (q_load1 rfl (by kernel_rfl) (hS8.cell (i := 2) rfl rfl)) ?_
       refine l_on rfl rfl hg16b ?_
       refine l_q rfl rfl (q_lss rfl rfl) ?_
       refine l_q rfl rfl (q_pickF rfl hg16b rfl) ?_
       refine l_q rfl rfl (q_moveB rfl) ?_
       refine g_splitL (t := 47) rfl (fun hg17 => ?_) (fun hg17 => ?_)
       ·
        have hg17b := hg17
        try simp only [decide_eq_true_eq, decide_eq_false_iff_not, Bool.not_eq_true', Bool.not_eq_false', Bool.and_eq_true, Bool.or_eq_true, Int.not_lt, Int.not_le, ne_eq, Decidable.not_not] at hg17
        refine l_off rfl rfl rfl hg17b ?_
        refine l_off rfl rfl rfl hg17b ?_
        refine l_off rfl rfl rfl hg17b ?_
        refine l_q rfl rfl (q_pickT rfl hg17b rfl) ?_
        refine l_q rfl rfl (q_moveB rfl) ?_
        refine l_off rfl rfl rfl rfl ?_
        refine l_off rfl rfl rfl rfl ?_
        refine l_off rfl rfl rfl rfl ?_
        refine l_off rfl rfl rfl rfl ?_
        refine l_offN rfl rfl rfl ?_
        refine l_offN rfl rfl rfl ?_
        refine l_offN rfl rfl rfl ?_
        refine l_offN rfl rfl rfl ?_
        refine l_off rfl rfl rfl rfl ?_
        refine l_q rfl rfl (q_pickT rfl rfl rfl) ?_
        refine l_q rfl rfl (q_moveB rfl) ?_
        refine l_off rfl rfl rfl rfl ?_
        refine l_off rfl rfl rfl rfl ?_
        refine l_off rfl rfl rfl rfl ?_
        refine l_off rfl rfl rfl rfl ?_
        refine l_q rfl rfl (q_pickT rfl rfl rfl) ?_
        refine l_nil ?_
        refine hK11 _ _ (came (true) (by repeat' (first | exact Agree.refl _ _ | refine Agree.up ?_ rfl | refine Agree.hav2 ?_ rfl | refine Agree.ups2 ?_ rfl)) (by refine ⟨congrArg Value.bool rfl, trivial⟩) ?_)
        exact ⟨hS8, (fun _ => fun ⟨g1, g2, g3, g4, g5, g6, g7, g8, g9⟩ => by first | omega | exact absurd g1 (pB_no.1 (by assumption))), fun h => by cases h⟩
       ·
        have hg17b := hg17
        try simp only [decide_eq_true_eq, decide_eq_false_iff_not, Bool.not_eq_true', Bool.not_eq_false', Bool.and_eq_true, Bool.or_eq_true, Int.not_lt, Int.not_le, ne_eq, Decidable.not_not] at hg17
        refine l_on rfl rfl hg17b ?_
        refine l_q rfl rfl (q_fieldAddr (ft := 3) (o := 3) rfl (by kernel_rfl)) ?_
        refine l_on rfl rfl hg17b ?_
        refine l_q rfl rfl (q_load1 rfl (by kernel_rfl) (hS8.cell (i := 2) rfl rfl)) ?_
        refine l_on rfl rfl hg17b ?_
        refine l_q rfl rfl (q_gtr rfl rfl) ?_
        refine l_q rfl rfl (q_pickF rfl hg17b rfl) ?_
        refine l_q rfl rfl (q_moveB rfl) ?_
        refine g_splitL (t := 52) rfl (fun hg18 => ?_) (fun hg18 => ?_)
        ·
         have hg18b := hg18
         try simp only [decide_eq_true_eq, decide_eq_false_iff_not, Bool.not_eq_true', Bool.not_eq_false', Bool.and_eq_true, Bool.or_eq_true, Int.not_lt, Int.not_le, ne_eq, Decidable.not_not] at hg18
         refine l_off rfl rfl rfl hg18b ?_
         refine l_off rfl rfl rfl hg18b ?_
         refine l_off rfl rfl rfl hg18b ?_
         refine l_off rfl rfl rfl hg18b ?_
         refine l_offN rfl rfl rfl ?_
         refine l_offN rfl rfl rfl ?_
         refine l_offN rfl rfl rfl ?_
         refine l_offN rfl rfl rfl ?_
         refine l_off rfl rfl rfl hg18b ?_
         refine l_q rfl rfl (q_pickT rfl hg18b rfl) ?_
         refine l_q rfl rfl (q_moveB rfl) ?_
         refine l_off rfl rfl rfl rfl ?_
         refine l_off rfl rfl rfl rfl ?_
         refine l_off rfl rfl rfl rfl ?_
         refine l_off rfl rfl rfl rfl ?_
         refine l_q rfl rfl (q_pickT rfl rfl rfl) ?_
         refine l_nil ?_
         refine hK11 _ _ (came (true) (by repeat' (first | exact Agree.refl _ _ | refine Agree.up ?_ rfl | refine Agree.hav2 ?_ rfl | refine Agree.ups2 ?_ rfl)) (by refine ⟨congrArg Value.bool rfl, trivial⟩) ?_)
         exact ⟨hS8, (fun _ => fun ⟨g1, g2, g3, g4, g5, g6, g7, g8, g9⟩ => by first | omega | exact absurd g1 (pB_no.1 (by assumption))), fun h => by cases h⟩
        ·
         have hg18b := hg18
         try simp only [decide_eq_true_eq, decide_eq_false_iff_not, Bool.not_eq_true', Bool.not_eq_false', Bool.and_eq_true, Bool.or_eq_true, Int.not_lt, Int.not_le, ne_eq, Decidable.not_not] at hg18
         refine l_on rfl rfl hg18b ?_
         refine l_q rfl rfl (q_fieldAddr (ft := 3) (o := 3) rfl (by kernel_rfl)) ?_
         refine l_on rfl rfl hg18b ?_
         refine l_q rfl rfl (q_load1 rfl (by kernel_rfl) (hS8.cell (i := 2) rfl rfl)) ?_
         refine l_on rfl rfl hg18b ?_
         refine l_q rfl rfl (q_gtr rfl rfl) ?_
         refine l_on rfl rfl hg18b ?_
         refine l_q rfl rfl (q_moveB rfl) ?_
         refine g_splitL (t := 56) rfl (fun hg19 => ?_) (fun hg19 => ?_)
         ·
          have hg19b := hg19
          try simp only [decide_eq_true_eq, decide_eq_false_iff_not, Bool.not_eq_true', Bool.not_eq_false', Bool.and_eq_true, Bool.or_eq_true, Int.not_lt, Int.not_le, ne_eq, Decidable.not_not] at hg19
          refine l_on rfl rfl hg19b ?_
          refine l_q rfl rfl (q_fieldAddr (ft := 27) (o := 4) rfl (by kernel_rfl)) ?_
          refine l_on rfl rfl hg19b ?_
          refine l_q rfl rfl (q_load1 rfl (by kernel_rfl) (hS8.cell (i := 2) rfl rfl)) ?_
          refine l_on rfl rfl hg19b ?_
          refine l_q rfl rfl (q_lenSl (e := 32) rfl (by kernel_rfl)) ?_
          refine l_on rfl rfl hg19b ?_
          refine l_q rfl rfl (q_gtr rfl rfl) ?_
          refine l_on rfl rfl hg18b ?_
          refine l_q rfl rfl (q_pickT rfl hg19b rfl) ?_
          refine l_q rfl rfl (q_pickF rfl hg18b rfl) ?_
          refine l_q rfl rfl (q_moveB rfl) ?_
          refine g_splitL (t := 63) rfl (fun hg20 => ?_) (fun hg20 => ?_)
          ·
           have hg20b := hg20
           try simp only [decide_eq_true_eq, decide_eq_false_iff_not, Bool.not_eq_true', Bool.not_eq_false', Bool.and_eq_true, Bool.or_eq_true, Int.not_lt, Int.not_le, ne_eq, Decidable.not_not] at hg20
           refine l_off rfl rfl rfl hg20b ?_
           refine l_off rfl rfl rfl hg20b ?_
           refine l_off rfl rfl rfl hg20b ?_
           refine l_off rfl rfl rfl hg20b ?_
           refine l_q rfl rfl (q_pickT rfl hg20b rfl) ?_
           refine l_nil ?_
           refine hK11 _ _ (came (true) (by repeat' (first | exact Agree.refl _ _ | refine Agree.up ?_ rfl | refine Agree.hav2 ?_ rfl | refine Agree.ups2 ?_ rfl)) (by refine ⟨congrArg Value.bool rfl, trivial⟩) ?_)
           exact ⟨hS8, (fun _ => fun ⟨g1, g2, g3, g4, g5, g6, g7, g8, g9⟩ => by first | omega | exact absurd g1 (pB_no.1 (by assumption))), fun h => by cases h⟩
          ·
           have hg20b := hg20
           try simp only [decide_eq_true_eq, decide_eq_false_iff_not, Bool.not_eq_true', Bool.not_eq_false', Bool.and_eq_true, Bool.or_eq_true, Int.not_lt, Int.not_le, ne_eq, Decidable.not_not] at hg20
           refine l_on rfl rfl hg20b ?_
           refine l_q rfl rfl (q_fieldAddr (ft := 27) (o := 4) rfl (by kernel_rfl)) ?_
           refine l_on rfl rfl hg20b ?_
           refine l_q rfl rfl (q_load1 rfl (by kernel_rfl) (hS8.cell (i := 2) rfl rfl)) ?_
           refine l_on rfl rfl hg20b ?_
           refine l_q rfl rfl (q_lenSl (e := 32) rfl (by kernel_rfl)) ?_
           refine l_on rfl rfl hg20b ?_
           refine l_q rfl rfl (q_gtr rfl rfl) ?_
           by_cases hb63 : 63 < t.bd.length
           ·
            refine l_q rfl rfl (q_pickF rfl hg20b rfl) ?_
            refine l_nil ?_
            refine hK11 _ _ (came (true) (by repeat' (first | exact Agree.refl _ _ | refine Agree.up ?_ rfl | refine Agree.hav2 ?_ rfl | refine Agree.ups2 ?_ rfl)) (by refine ⟨congrArg Value.bool (decide_eq_true (by omega)), trivial⟩) ?_)
            exact ⟨hS8, (fun _ => fun ⟨g1, g2, g3, g4, g5, g6, g7, g8, g9⟩ => by first | omega | exact absurd g1 (pB_no.1 (by assumption))), fun h => by cases h⟩
           ·
            refine l_q rfl rfl (q_pickF rfl hg20b rfl) ?_
            refine l_nil ?_
            refine hK11 _ _ (came (false) (by repeat' (first | exact Agree.refl _ _ | refine Agree.up ?_ rfl | refine Agree.hav2 ?_ rfl | refine Agree.ups2 ?_ rfl)) (by refine ⟨congrArg Value.bool (decide_eq_false (by omega)), trivial⟩) ?_)
            exact ⟨hS8, (fun h => by cases h), fun _ => ⟨pB_iff.1 (by assumption), by omega, by omega, by omega, by omega, by omega, by omega, by omega, by omega⟩⟩
         ·
          have hg19b := hg19
          try simp only [decide_eq_true_eq, decide_eq_false_iff_not, Bool.not_eq_true', Bool.not_eq_false', Bool.and_eq_true, Bool.or_eq_true, Int.not_lt, Int.not_le, ne_eq, Decidable.not_not] at hg19
          refine l_off rfl rfl rfl hg19b ?_
          refine l_off rfl rfl rfl hg19b ?_
          refine l_off rfl rfl rfl hg19b ?_
          refine l_off rfl rfl rfl hg19b ?_
          refine l_on rfl rfl hg18b ?_
          refine l_q rfl rfl (q_pickF rfl hg19b rfl) ?_
          refine l_q rfl rfl (q_pickF rfl hg18b rfl) ?_
          refine l_q rfl rfl (q_moveB rfl) ?_
          refine l_on rfl rfl rfl ?_
          refine l_q rfl rfl (q_fieldAddr (ft := 27) (o := 4) rfl (by kernel_rfl)) ?_
          refine l_on rfl rfl rfl ?_
          refine l_q rfl rfl (q_load1 rfl (by kernel_rfl) (hS8.cell (i := 2) rfl rfl)) ?_
          refine l_on rfl rfl rfl ?_
          refine l_q rfl rfl (q_lenSl (e := 32) rfl (by kernel_rfl)) ?_
          refine l_on rfl rfl rfl ?_
          refine l_q rfl rfl (q_gtr rfl rfl) ?_
          by_cases hb63 : 63 < t.bd.length
          ·
           refine l_q rfl rfl (q_pickF rfl rfl rfl) ?_
           refine l_nil ?_
           refine hK11 _ _ (came (true) (by repeat' (first | exact Agree.refl _ _ | refine Agree.up ?_ rfl | refine Agree.hav2 ?_ rfl | refine Agree.ups2 ?_ rfl)) (by refine ⟨congrArg Value.bool (decide_eq_true (by omega)), trivial⟩) ?_)
           exact ⟨hS8, (fun _ => fun ⟨g1, g2, g3, g4, g5, g6, g7, g8, g9⟩ => by first | omega | exact absurd g1 (pB_no.1 (by assumption))), fun h => by cases h⟩
          ·
           refine l_q rfl rfl (q_pickF rfl rfl rfl) ?_
           refine l_nil ?_
           refine hK11 _ _ (came (false) (by repeat' (first | exact Agree.refl _ _ | refine Agree.up ?_ rfl | refine Agree.hav2 ?_ rfl | refine Agree.ups2 ?_ rfl)) (by refine ⟨congrArg Value.bool (decide_eq_false (by omega)), trivial⟩) ?_)
           exact ⟨hS8, (fun h => by cases h), fun _ => ⟨pB_iff.1 (by assumption), by omega, by omega, by omega, by omega, by omega, by omega, by omega, by omega⟩⟩
 ·
  obtain ⟨hS11, hqt, hqf⟩ := hJ11
  try dsimp only at hS11 hqt hqf ⊢
  refine c_cond rfl (fun hc21 => ?_) (fun hc21 => ?_)
  ·
   have hc21b := hc21
   try simp only [decide_eq_true_eq, decide_eq_false_iff_not, Bool.not_eq_true', Bool.not_eq_false', Bool.and_eq_true, Bool.or_eq_true, Int.not_lt, Int.not_le, ne_eq, Decidable.not_not] at hc21
   refine wp_seq_k (fun K22 hK22 => ?_)
   refine wp_region_lit ?_
   refine l_q rfl rfl (q_loadA (m := 2) rfl (by kernel_rfl) (by kernel_rfl) (hS11.blk (i := 0) rfl) rfl rfl) ?_
   refine l_e rfl (fun K hK => ?_)
   refine e_storeA hS11 rfl rfl (by kernel_rfl) (by repeat' (first | exact trivial | refine ⟨by first | rfl | assumption | exact one_if (by assumption), ?_⟩)) (i := 1) rfl rfl (fun w23 (hS23 : St _ _ [_, .blk b3 (.cells #[.int .i64 (182 : Int), .int .i64 (-1 : Int)] 51), _] _) => ?_)
   clear hS11
   refine hK _ _ ?_; clear hK K
   refine l_nil ?_
   refine hK22 _ _ ?_
   refine wp_ret ?_
   refine c_retC (m := 2) rfl (by kernel_rfl) (by kernel_rfl) rfl (by first | exact hS23.blk (i := 0) rfl | exact hS23.blk (i := 1) rfl | exact hS23.blk (i := 2) rfl | exact hS23.blk (i := 3) rfl | exact hS23.blk (i := 4) rfl) rfl ?_
   exact ⟨_, rfl, ⟨_, _, head_no (headq_no (hqt (by assumption))), rfl⟩, hS23.drop⟩
  ·
   have hc21b := hc21
   try simp only [decide_eq_true_eq, decide_eq_false_iff_not, Bool.not_eq_true', Bool.not_eq_false', Bool.and_eq_true, Bool.or_eq_true, Int.not_lt, Int.not_le, ne_eq, Decidable.not_not] at hc21
   have hQ := hqf hc21
   obtain ⟨_, hq1, hq2, hq3, hq4, hq5, hq6, hq7, hq8⟩ := id hQ
   refine wp_skip ?_
   refine hK9 _ _ ?_
   refine wp_seq_k (fun K24 hK24 => ?_)
   refine wp_seq_k (fun K25 hK25 => ?_)
   refine wp_region_lit ?_
   refine l_q rfl rfl (q_assignI rfl) ?_
   refine l_nil ?_
   refine hK25 _ _ ?_
   refine wp_block ?_
   have hS26 := hS11.fr1; clear hS11
   have hS27 := hS26.fr2; clear hS26
   refine c_loop (τ := Nat) [(5, 6), (70, 118)] (fun x => (fun (i : Nat) => [(5, .int .i64 (i : Int))]) x) (fun x w' => (fun (i : Nat) => St w (fun _ => False) [.blk b2 (.cells #[.string (bs t.nm), .slice ca t.cs.length cca, .int .i64 t.key, .int .i64 t.pt, .slice ba t.bd.length cba] 29), .blk b3 (.cells #[.int .i64 (0 : Int), .int .i64 (0 : Int)] 51), .blk b5 (.cells #[.int .i64 (182 : Int), .int .i64 (-1 : Int)] 51)] w' ∧ i ≤ t.bd.length ∧ BdTo (k0 t.cs) t.bd i) x) (fun x => (fun (i : Nat) => t.bd.length - i) x) (0) ?_ (by repeat' (first | exact trivial | refine ⟨by first | rfl | exact int_succ _ | assumption, ?_⟩)) (fun i j28 w28 hJ28 K28 hK28 => ?_)
   ·
    exact ⟨hS27, Nat.zero_le _, BdTo.zero _ _⟩
   ·
    obtain ⟨hS28, hi, hk⟩ := hJ28
    try dsimp only at hS28 hi hk ⊢
    refine wp_seq_k (fun K29 hK29 => ?_)
    refine wp_seq_k (fun K30 hK30 => ?_)
    refine wp_region_lit ?_
    refine l_q rfl rfl (q_moveI rfl) ?_
    refine l_q rfl rfl (q_fieldAddr (ft := 27) (o := 4) rfl (by kernel_rfl)) ?_
    refine l_q rfl rfl (q_load1 rfl (by kernel_rfl) (hS28.cell (i := 0) rfl rfl)) ?_
    refine l_q rfl rfl (q_lenSl (e := 32) rfl (by kernel_rfl)) ?_
    refine l_q rfl rfl (q_lss rfl rfl) ?_
    refine l_nil ?_
    refine hK30 _ _ ?_
    refine c_cond rfl (fun hc31 => ?_) (fun hc31 => ?_)
    ·
     have hc31b := hc31
     try simp only [decide_eq_true_eq, decide_eq_false_iff_not, Bool.not_eq_true', Bool.not_eq_false', Bool.and_eq_true, Bool.or_eq_true, Int.not_lt, Int.not_le, ne_eq, Decidable.not_not] at hc31
     refine wp_skip ?_
     refine hK29 _ _ ?_
     refine wp_seq_k (fun K32 hK32 => ?_)
     refine wp_block ?_
     refine wp_seq_k (fun K33 hK33 => ?_)
     refine wp_region_lit ?_
     refine l_q rfl rfl (q_fieldAddr (ft := 27) (o := 4) rfl (by kernel_rfl)) ?_
     refine l_q rfl rfl (q_load1 rfl (by kernel_rfl) (hS28.cell (i := 0) rfl rfl)) ?_
     refine l_q rfl rfl (q_moveI rfl) ?_
     refine l_q rfl rfl (q_ixG (e := 32) (m := 3) (j := i) rfl rfl (by kernel_rfl) (by kernel_rfl) (by first | rfl | omega) (by omega) hBG (by rw [rows_len (c := vl) (m := 3) (fun _ => rfl)]; first | omega | (simp only [lls] <;> omega))) ?_
     obtain ⟨x34, hx34⟩ : ∃ x, (t.bd)[i]? = some x := ⟨_, List.getElem?_eq_getElem (by first | omega | (simp only [lls] <;> omega) | (simp <;> omega))⟩
     have hvb_x34 := (htb x34 (List.mem_of_getElem? hx34)).2
     refine l_q rfl rfl (q_loadGA (m := 3) rfl (by kernel_rfl) (by kernel_rfl) (hBG.mono hS28.base) (row_take hx34 (c := vl) (m := 3) (fun _ => rfl)) rfl (by decide)) ?_
     refine l_e rfl (fun K hK => ?_)
     refine e_call (by kernel_rfl) (rright_ok x34 (htb x34 (List.mem_of_getElem? hx34)).1 _) rfl (after_R hS28 (fun v35 w35 hv35 hS35 => ?_))
     clear hS28
     obtain rfl := hv35
     refine hK _ _ ?_; clear hK K
     refine l_q rfl rfl (q_assignB rfl) ?_
     refine l_nil ?_
     refine hK33 _ _ ?_
     refine wp_seq_k (fun K36 hK36 => ?_)
     refine r_any (by kernel_rfl) hS35 (fun w37 hS37 => ?_)
     clear hS35
     refine o_pure (i := 0) (fun _ _ => trivial) rfl rfl (by kernel_rfl) (goes0 rfl) (QOk.then (QOk.inBlock (QOk.then (QOk.then (QOk.inBlock (QOk.then QOk.body)))))) (fun w => q_moveB rfl) ?_
     refine o_pure (i := 1) (fun _ _ => trivial) rfl rfl (by kernel_rfl) (goes0 rfl) (QOk.then (QOk.inBlock (QOk.then (QOk.then (QOk.inBlock (QOk.then QOk.body)))))) (fun w => q_not rfl) ?_
     refine o_pure (i := 2) (fun _ _ => trivial) rfl rfl (by kernel_rfl) (goes0 rfl) (QOk.then (QOk.inBlock (QOk.then (QOk.then (QOk.inBlock (QOk.then QOk.body)))))) (fun w => q_moveB rfl) ?_
     refine g_splitO (t := 85) rfl (fun hg38 => ?_) (fun hg38 => ?_)
     ·
      have hg38b := hg38
      try simp only [decide_eq_true_eq, decide_eq_false_iff_not, Bool.not_eq_true', Bool.not_eq_false', Bool.and_eq_true, Bool.or_eq_true, Int.not_lt, Int.not_le, ne_eq, Decidable.not_not] at hg38
      refine o_off (i := 3) (fun _ _ => trivial) rfl rfl (by kernel_rfl) rfl rfl hg38b (QOk.then (QOk.inBlock (QOk.then (QOk.then (QOk.inBlock (QOk.then QOk.body)))))) ?_
      refine o_off (i := 4) (fun _ _ => trivial) rfl rfl (by kernel_rfl) rfl rfl hg38b (QOk.then (QOk.inBlock (QOk.then (QOk.then (QOk.inBlock (QOk.then QOk.body)))))) ?_
      refine o_off (i := 5) (fun _ _ => trivial) rfl rfl (by kernel_rfl) rfl rfl hg38b (QOk.then (QOk.inBlock (QOk.then (QOk.then (QOk.inBlock (QOk.then QOk.body)))))) ?_
      refine o_off (i := 6) (fun _ _ => trivial) rfl rfl (by kernel_rfl) rfl rfl hg38b (QOk.then (QOk.inBlock (QOk.then (QOk.then (QOk.inBlock (QOk.then QOk.body)))))) ?_
      refine o_off (i := 7) (fun _ _ => trivial) rfl rfl (by kernel_rfl) rfl rfl hg38b (QOk.then (QOk.inBlock (QOk.then (QOk.then (QOk.inBlock (QOk.then QOk.body)))))) ?_
      refine o_off (i := 8) (fun _ _ => trivial) rfl rfl (by kernel_rfl) rfl rfl hg38b (QOk.then (QOk.inBlock (QOk.then (QOk.then (QOk.inBlock (QOk.then QOk.body)))))) ?_
      refine o_off (i := 9) (fun _ _ => trivial) rfl rfl (by kernel_rfl) rfl rfl hg38b (QOk.then (QOk.inBlock (QOk.then (QOk.then (QOk.inBlock (QOk.then QOk.body)))))) ?_
      refine o_off (i := 10) (fun _ _ => trivial) rfl rfl (by kernel_rfl) rfl rfl hg38b (QOk.then (QOk.inBlock (QOk.then (QOk.then (QOk.inBlock (QOk.then QOk.body)))))) ?_
      refine o_off (i := 11) (fun _ _ => trivial) rfl rfl (by kernel_rfl) rfl rfl hg38b (QOk.then (QOk.inBlock (QOk.then (QOk.then (QOk.inBlock (QOk.then QOk.body)))))) ?_
      refine o_off (i := 12) (fun _ _ => trivial) rfl rfl (by kernel_rfl) rfl rfl hg38b (QOk.then (QOk.inBlock (QOk.then (QOk.then (QOk.inBlock (QOk.then QOk.body)))))) ?_
      refine o_off (i := 13) (fun _ _ => trivial) rfl rfl (by kernel_rfl) rfl rfl hg38b (QOk.then (QOk.inBlock (QOk.then (QOk.then (QOk.inBlock (QOk.then QOk.body)))))) ?_
      refine o_off (i := 14) (fun _ _ => trivial) rfl rfl (by kernel_rfl) rfl rfl hg38b (QOk.then (QOk.inBlock (QOk.then (QOk.then (QOk.inBlock (QOk.then QOk.body)))))) ?_
      refine o_pure (i := 15) (fun _ _ => trivial) rfl rfl (by kernel_rfl) (goes0 rfl) (QOk.then (QOk.inBlock (QOk.then (QOk.then (QOk.inBlock (QOk.then QOk.body)))))) (fun w => q_pickT rfl hg38b rfl) ?_
      refine o_pure (i := 16) (fun _ _ => trivial) rfl rfl (by kernel_rfl) (goes0 rfl) (QOk.then (QOk.inBlock (QOk.then (QOk.then (QOk.inBlock (QOk.then QOk.body)))))) (fun w => q_moveB rfl) ?_
      refine o_off (i := 17) (fun _ _ => trivial) rfl rfl (by kernel_rfl) rfl rfl rfl (QOk.then (QOk.inBlock (QOk.then (QOk.then (QOk.inBlock (QOk.then QOk.body)))))) ?_
      refine o_off (i := 18) (fun _ _ => trivial) rfl rfl (by kernel_rfl) rfl rfl rfl (QOk.then (QOk.inBlock (QOk.then (QOk.then (QOk.inBlock (QOk.then QOk.body)))))) ?_
      refine o_off (i := 19) (fun _ _ => trivial) rfl rfl (by kernel_rfl) rfl rfl rfl (QOk.then (QOk.inBlock (QOk.then (QOk.then (QOk.inBlock (QOk.then QOk.body)))))) ?_
      refine o_offN (i := 20) (fun _ _ => trivial) rfl rfl (by kernel_rfl) rfl rfl (QOk.then (QOk.inBlock (QOk.then (QOk.then (QOk.inBlock (QOk.then QOk.body)))))) ?_
      refine o_offN (i := 21) (fun _ _ => trivial) rfl rfl (by kernel_rfl) rfl rfl (QOk.then (QOk.inBlock (QOk.then (QOk.then (QOk.inBlock (QOk.then QOk.body)))))) ?_
      refine o_offN (i := 22) (fun _ _ => trivial) rfl rfl (by kernel_rfl) rfl rfl (QOk.then (QOk.inBlock (QOk.then (QOk.then (QOk.inBlock (QOk.then QOk.body)))))) ?_
      refine o_offN (i := 23) (fun _ _ => trivial) rfl rfl (by kernel_rfl) rfl rfl (QOk.then (QOk.inBlock (QOk.then (QOk.then (QOk.inBlock (QOk.then QOk.body)))))) ?_
      refine o_offN (i := 24) (fun _ _ => trivial) rfl rfl (by kernel_rfl) rfl rfl (QOk.then (QOk.inBlock (QOk.then (QOk.then (QOk.inBlock (QOk.then QOk.body)))))) ?_
      refine o_offN (i := 25) (fun _ _ => trivial) rfl rfl (by kernel_rfl) rfl rfl (QOk.then (QOk.inBlock (QOk.then (QOk.then (QOk.inBlock (QOk.then QOk.body)))))) ?_
      refine o_offN (i := 26) (fun _ _ => trivial) rfl rfl (by kernel_rfl) rfl rfl (QOk.then (QOk.inBlock (QOk.then (QOk.then (QOk.inBlock (QOk.then QOk.body)))))) ?_
      refine o_offN (i := 27) (fun _ _ => trivial) rfl rfl (by kernel_rfl) rfl rfl (QOk.then (QOk.inBlock (QOk.then (QOk.then (QOk.inBlock (QOk.then QOk.body)))))) ?_
      refine o_offN (i := 28) (fun _ _ => trivial) rfl rfl (by kernel_rfl) rfl rfl (QOk.then (QOk.inBlock (QOk.then (QOk.then (QOk.inBlock (QOk.then QOk.body)))))) ?_
      refine o_offN (i := 29) (fun _ _ => trivial) rfl rfl (by kernel_rfl) rfl rfl (QOk.then (QOk.inBlock (QOk.then (QOk.then (QOk.inBlock (QOk.then QOk.body)))))) ?_
      refine o_offN (i := 30) (fun _ _ => trivial) rfl rfl (by kernel_rfl) rfl rfl (QOk.then (QOk.inBlock (QOk.then (QOk.then (QOk.inBlock (QOk.then QOk.body)))))) ?_
      refine o_offN (i := 31) (fun _ _ => trivial) rfl rfl (by kernel_rfl) rfl rfl (QOk.then (QOk.inBlock (QOk.then (QOk.then (QOk.inBlock (QOk.then QOk.body)))))) ?_
      refine o_offN (i := 32) (fun _ _ => trivial) rfl rfl (by kernel_rfl) rfl rfl (QOk.then (QOk.inBlock (QOk.then (QOk.then (QOk.inBlock (QOk.then QOk.body)))))) ?_
      refine o_off (i := 33) (fun _ _ => trivial) rfl rfl (by kernel_rfl) rfl rfl rfl (QOk.then (QOk.inBlock (QOk.then (QOk.then (QOk.inBlock (QOk.then QOk.body)))))) ?_
      refine o_pure (i := 34) (fun _ _ => trivial) rfl rfl (by kernel_rfl) (goes0 rfl) (QOk.then (QOk.inBlock (QOk.then (QOk.then (QOk.inBlock (QOk.then QOk.body)))))) (fun w => q_pickT rfl rfl rfl) ?_
      refine o_done (by kernel_rfl) ?_
      refine hK36 _ _ ?_
      refine c_condT rfl rfl ?_
      refine wp_seq_k (fun K40 hK40 => ?_)
      refine wp_region_lit ?_
      refine l_q rfl rfl (q_loadA (m := 2) rfl (by kernel_rfl) (by kernel_rfl) (hS37.blk (i := 2) rfl) rfl rfl) ?_
      refine l_e rfl (fun K hK => ?_)
      refine e_storeA hS37 rfl rfl (by kernel_rfl) (by repeat' (first | exact trivial | refine ⟨by first | rfl | assumption | exact one_if (by assumption), ?_⟩)) (i := 1) rfl rfl (fun w41 (hS41 : St _ _ [_, _, _] _) => ?_)
      clear hS37
      refine hK _ _ ?_; clear hK K
      refine l_nil ?_
      refine hK40 _ _ ?_
      refine wp_ret ?_
      refine c_retC (m := 2) rfl (by kernel_rfl) (by kernel_rfl) rfl (by first | exact hS41.blk (i := 0) rfl | exact hS41.blk (i := 1) rfl | exact hS41.blk (i := 2) rfl | exact hS41.blk (i := 3) rfl | exact hS41.blk (i := 4) rfl) rfl ?_
      exact ⟨_, rfl, ⟨_, _, head_no (fun hH => absurd hH.2.2.2.2.2.2.2.2.2 (bd_no hx34 (fun ⟨h1, h2, h3⟩ => by first | exact Bool.false_ne_true (Eq.trans (Eq.symm (by assumption)) h1)))), rfl⟩, hS41.drop⟩
     ·
      have hg38b := hg38
      try simp only [decide_eq_true_eq, decide_eq_false_iff_not, Bool.not_eq_true', Bool.not_eq_false', Bool.and_eq_true, Bool.or_eq_true, Int.not_lt, Int.not_le, ne_eq, Decidable.not_not] at hg38
      refine o_pure (i := 3) (fun _ _ => trivial) rfl rfl (by kernel_rfl) (goes1 rfl rfl hg38b) (QOk.then (QOk.inBlock (QOk.then (QOk.then (QOk.inBlock (QOk.then QOk.body)))))) (fun w => q_fieldAddr (ft := 27) (o := 4) rfl (by kernel_rfl)) ?_
      refine o_held (i := 4) [6, 7, 8, 14, 15, 16, 17, 18, 19, 20, 21, 22, 23, 24, 25, 26, 27, 28, 29, 30, 31, 32, 33, 34] (fun _ _ => trivial) rfl rfl (by kernel_rfl) (goes1 rfl rfl hg38b) (QOk.then (QOk.inBlock (QOk.then (QOk.then (QOk.inBlock (QOk.then QOk.body)))))) (q_load1 rfl (by kernel_rfl) (hS37.cell (i := 0) rfl rfl)) ?_
      refine o_pure (i := 5) (fun j w => ⟨(fun _ _ => trivial) j w, fun _ h => h⟩) rfl rfl (by kernel_rfl) (goes1 rfl rfl hg38b) (QOk.then (QOk.inBlock (QOk.then (QOk.then (QOk.inBlock (QOk.then QOk.body)))))) (fun w => q_moveI rfl) ?_
      refine o_pure (i := 6) (fun j w => ⟨(fun _ _ => trivial) j w, fun _ h => h⟩) rfl rfl (by kernel_rfl) (goes1 rfl rfl hg38b) (QOk.then (QOk.inBlock (QOk.then (QOk.then (QOk.inBlock (QOk.then QOk.body)))))) (fun w => q_ixG (e := 32) (m := 3) (j := i) rfl rfl (by kernel_rfl) (by kernel_rfl) (by first | rfl | omega) (by omega) hBG (by rw [rows_len (c := vl) (m := 3) (fun _ => rfl)]; first | omega | (simp only [lls] <;> omega))) ?_
      refine o_pure (i := 7) (fun j w => ⟨(fun _ _ => trivial) j w, fun _ h => h⟩) rfl rfl (by kernel_rfl) (goes1 rfl rfl hg38b) (QOk.then (QOk.inBlock (QOk.then (QOk.then (QOk.inBlock (QOk.then QOk.body)))))) (fun w => q_fieldG (ft := 23) (o := 0) rfl (by kernel_rfl)) ?_
      refine o_held (i := 8) [14, 15, 16, 17, 18, 19, 20, 21, 22, 23, 24, 25, 26, 27, 28, 29, 30, 31, 32, 33, 34] (fun j w => ⟨(fun _ _ => trivial) j w, fun _ h => h⟩) rfl rfl (by kernel_rfl) (goes1 rfl rfl hg38b) (QOk.then (QOk.inBlock (QOk.then (QOk.then (QOk.inBlock (QOk.then QOk.body)))))) (q_load1 rfl (by kernel_rfl) (SlG.cell (hBG.mono hS37.base) (Gle.refl _) (row_at hx34 (c := vl) (m := 3) (fun _ => rfl) (j := 0) rfl))) ?_
      refine o_pure (i := 9) (fun j w => ⟨(fun j w => ⟨(fun _ _ => trivial) j w, fun _ h => h⟩) j w, fun _ h => h⟩) rfl rfl (by kernel_rfl) (goes1 rfl rfl hg38b) (QOk.then (QOk.inBlock (QOk.then (QOk.then (QOk.inBlock (QOk.then QOk.body)))))) (fun w => q_fieldAddr (ft := 26) (o := 1) rfl (by kernel_rfl)) ?_
      refine o_held (i := 10) [11, 12, 13, 14, 15, 16, 17, 18, 19, 20, 21, 22, 23, 24, 25, 26, 27, 28, 29, 30, 31, 32, 33, 34] (fun j w => ⟨(fun j w => ⟨(fun _ _ => trivial) j w, fun _ h => h⟩) j w, fun _ h => h⟩) rfl rfl (by kernel_rfl) (goes1 rfl rfl hg38b) (QOk.then (QOk.inBlock (QOk.then (QOk.then (QOk.inBlock (QOk.then QOk.body)))))) (q_load1 rfl (by kernel_rfl) (hS37.cell (i := 0) rfl rfl)) ?_
      refine o_pure (i := 11) (fun j w => ⟨(fun j w => ⟨(fun j w => ⟨(fun _ _ => trivial) j w, fun _ h => h⟩) j w, fun _ h => h⟩) j w, fun _ h => h⟩) rfl rfl (by kernel_rfl) (goes1 rfl rfl hg38b) (QOk.then (QOk.inBlock (QOk.then (QOk.then (QOk.inBlock (QOk.then QOk.body)))))) (fun w => q_ixG (e := 25) (m := 3) (j := 0) rfl rfl (by kernel_rfl) (by kernel_rfl) (by first | rfl | omega) (by omega) hCG (by rw [rows_len (c := cc) (m := 3) (fun _ => rfl)]; first | omega | (simp only [lls] <;> omega))) ?_
      refine o_pure (i := 12) (fun j w => ⟨(fun j w => ⟨(fun j w => ⟨(fun _ _ => trivial) j w, fun _ h => h⟩) j w, fun _ h => h⟩) j w, fun _ h => h⟩) rfl rfl (by kernel_rfl) (goes1 rfl rfl hg38b) (QOk.then (QOk.inBlock (QOk.then (QOk.then (QOk.inBlock (QOk.then QOk.body)))))) (fun w => q_fieldG (ft := 23) (o := 1) rfl (by kernel_rfl)) ?_
      obtain ⟨x42, hx42⟩ : ∃ x, (t.cs)[0]? = some x := ⟨_, List.getElem?_eq_getElem (by first | omega | (simp only [lls] <;> omega) | (simp <;> omega))⟩
      have hcb_x42 := (htc x42 (List.mem_of_getElem? hx42)).2
      refine o_held (i := 13) [14, 15, 16, 17, 18, 19, 20, 21, 22, 23, 24, 25, 26, 27, 28, 29, 30, 31, 32, 33, 34] (fun j w => ⟨(fun j w => ⟨(fun j w => ⟨(fun _ _ => trivial) j w, fun _ h => h⟩) j w, fun _ h => h⟩) j w, fun _ h => h⟩) rfl rfl (by kernel_rfl) (goes1 rfl rfl hg38b) (QOk.then (QOk.inBlock (QOk.then (QOk.then (QOk.inBlock (QOk.then QOk.body)))))) (q_load1 rfl (by kernel_rfl) (SlG.cell (hCG.mono hS37.base) (Gle.refl _) (row_at hx42 (c := cc) (m := 3) (fun _ => rfl) (j := 1) rfl))) ?_
      refine o_pure (i := 14) (fun j w => ⟨(fun j w => ⟨(fun j w => ⟨(fun j w => ⟨(fun _ _ => trivial) j w, fun _ h => h⟩) j w, fun _ h => h⟩) j w, fun _ h => h⟩) j w, fun _ h => h⟩) rfl rfl (by kernel_rfl) (goes1 rfl rfl hg38b) (QOk.then (QOk.inBlock (QOk.then (QOk.then (QOk.inBlock (QOk.then QOk.body)))))) (fun w => q_neq rfl rfl) ?_
      refine o_pure (i := 15) (fun j w => ⟨(fun j w => ⟨(fun j w => ⟨(fun j w => ⟨(fun _ _ => trivial) j w, fun _ h => h⟩) j w, fun _ h => h⟩) j w, fun _ h => h⟩) j w, fun _ h => h⟩) rfl rfl (by kernel_rfl) (goes0 rfl) (QOk.then (QOk.inBlock (QOk.then (QOk.then (QOk.inBlock (QOk.then QOk.body)))))) (fun w => q_pickF rfl hg38b rfl) ?_
      refine o_pure (i := 16) (fun j w => ⟨(fun j w => ⟨(fun j w => ⟨(fun j w => ⟨(fun _ _ => trivial) j w, fun _ h => h⟩) j w, fun _ h => h⟩) j w, fun _ h => h⟩) j w, fun _ h => h⟩) rfl rfl (by kernel_rfl) (goes0 rfl) (QOk.then (QOk.inBlock (QOk.then (QOk.then (QOk.inBlock (QOk.then QOk.body)))))) (fun w => q_moveB rfl) ?_
      refine g_splitO (t := 99) rfl (fun hg43 => ?_) (fun hg43 => ?_)
      ·
       have hg43b := hg43
       try simp only [decide_eq_true_eq, decide_eq_false_iff_not, Bool.not_eq_true', Bool.not_eq_false', Bool.and_eq_true, Bool.or_eq_true, Int.not_lt, Int.not_le, ne_eq, Decidable.not_not] at hg43
       refine o_off (i := 17) (fun j w => ⟨(fun j w => ⟨(fun j w => ⟨(fun j w => ⟨(fun _ _ => trivial) j w, fun _ h => h⟩) j w, fun _ h => h⟩) j w, fun _ h => h⟩) j w, fun _ h => h⟩) rfl rfl (by kernel_rfl) rfl rfl hg43b (QOk.then (QOk.inBlock (QOk.then (QOk.then (QOk.inBlock (QOk.then QOk.body)))))) ?_
       refine o_off (i := 18) (fun j w => ⟨(fun j w => ⟨(fun j w => ⟨(fun j w => ⟨(fun _ _ => trivial) j w, fun _ h => h⟩) j w, fun _ h => h⟩) j w, fun _ h => h⟩) j w, fun _ h => h⟩) rfl rfl (by kernel_rfl) rfl rfl hg43b (QOk.then (QOk.inBlock (QOk.then (QOk.then (QOk.inBlock (QOk.then QOk.body)))))) ?_
       refine o_off (i := 19) (fun j w => ⟨(fun j w => ⟨(fun j w => ⟨(fun j w => ⟨(fun _ _ => trivial) j w, fun _ h => h⟩) j w, fun _ h => h⟩) j w, fun _ h => h⟩) j w, fun _ h => h⟩) rfl rfl (by kernel_rfl) rfl rfl hg43b (QOk.then (QOk.inBlock (QOk.then (QOk.then (QOk.inBlock (QOk.then QOk.body)))))) ?_
       refine o_offN (i := 20) (fun j w => ⟨(fun j w => ⟨(fun j w => ⟨(fun j w => ⟨(fun _ _ => trivial) j w, fun _ h => h⟩) j w, fun _ h => h⟩) j w, fun _ h => h⟩) j w, fun _ h => h⟩) rfl rfl (by kernel_rfl) rfl rfl (QOk.then (QOk.inBlock (QOk.then (QOk.then (QOk.inBlock (QOk.then QOk.body)))))) ?_
       refine o_offN (i := 21) (fun j w => ⟨(fun j w => ⟨(fun j w => ⟨(fun j w => ⟨(fun _ _ => trivial) j w, fun _ h => h⟩) j w, fun _ h => h⟩) j w, fun _ h => h⟩) j w, fun _ h => h⟩) rfl rfl (by kernel_rfl) rfl rfl (QOk.then (QOk.inBlock (QOk.then (QOk.then (QOk.inBlock (QOk.then QOk.body)))))) ?_
       refine o_offN (i := 22) (fun j w => ⟨(fun j w => ⟨(fun j w => ⟨(fun j w => ⟨(fun _ _ => trivial) j w, fun _ h => h⟩) j w, fun _ h => h⟩) j w, fun _ h => h⟩) j w, fun _ h => h⟩) rfl rfl (by kernel_rfl) rfl rfl (QOk.then (QOk.inBlock (QOk.then (QOk.then (QOk.inBlock (QOk.then QOk.body)))))) ?_
       refine o_offN (i := 23) (fun j w => ⟨(fun j w => ⟨(fun j w => ⟨(fun j w => ⟨(fun _ _ => trivial) j w, fun _ h => h⟩) j w, fun _ h => h⟩) j w, fun _ h => h⟩) j w, fun _ h => h⟩) rfl rfl (by kernel_rfl) rfl rfl (QOk.then (QOk.inBlock (QOk.then (QOk.then (QOk.inBlock (QOk.then QOk.body)))))) ?_
       refine o_offN (i := 24) (fun j w => ⟨(fun j w => ⟨(fun j w => ⟨(fun j w => ⟨(fun _ _ => trivial) j w, fun _ h => h⟩) j w, fun _ h => h⟩) j w, fun _ h => h⟩) j w, fun _ h => h⟩) rfl rfl (by kernel_rfl) rfl rfl (QOk.then (QOk.inBlock (QOk.then (QOk.then (QOk.inBlock (QOk.then QOk.body)))))) ?_
       refine o_offN (i := 25) (fun j w => ⟨(fun j w => ⟨(fun j w => ⟨(fun j w => ⟨(fun _ _ => trivial) j w, fun _ h => h⟩) j w, fun _ h => h⟩) j w, fun _ h => h⟩) j w, fun _ h => h⟩) rfl rfl (by kernel_rfl) rfl rfl (QOk.then (QOk.inBlock (QOk.then (QOk.then (QOk.inBlock (QOk.then QOk.body)))))) ?_
       refine o_offN (i := 26) (fun j w => ⟨(fun j w => ⟨(fun j w => ⟨(fun j w => ⟨(fun _ _ => trivial) j w, fun _ h => h⟩) j w, fun _ h => h⟩) j w, fun _ h => h⟩) j w, fun _ h => h⟩) rfl rfl (by kernel_rfl) rfl rfl (QOk.then (QOk.inBlock (QOk.then (QOk.then (QOk.inBlock (QOk.then QOk.body)))))) ?_
       refine o_offN (i := 27) (fun j w => ⟨(fun j w => ⟨(fun j w => ⟨(fun j w => ⟨(fun _ _ => trivial) j w, fun _ h => h⟩) j w, fun _ h => h⟩) j w, fun _ h => h⟩) j w, fun _ h => h⟩) rfl rfl (by kernel_rfl) rfl rfl (QOk.then (QOk.inBlock (QOk.then (QOk.then (QOk.inBlock (QOk.then QOk.body)))))) ?_
       refine o_offN (i := 28) (fun j w => ⟨(fun j w => ⟨(fun j w => ⟨(fun j w => ⟨(fun _ _ => trivial) j w, fun _ h => h⟩) j w, fun _ h => h⟩) j w, fun _ h => h⟩) j w, fun _ h => h⟩) rfl rfl (by kernel_rfl) rfl rfl (QOk.then (QOk.inBlock (QOk.then (QOk.then (QOk.inBlock (QOk.then QOk.body)))))) ?_
       refine o_offN (i := 29) (fun j w => ⟨(fun j w => ⟨(fun j w => ⟨(fun j w => ⟨(fun _ _ => trivial) j w, fun _ h => h⟩) j w, fun _ h => h⟩) j w, fun _ h => h⟩) j w, fun _ h => h⟩) rfl rfl (by kernel_rfl) rfl rfl (QOk.then (QOk.inBlock (QOk.then (QOk.then (QOk.inBlock (QOk.then QOk.body)))))) ?_
       refine o_offN (i := 30) (fun j w => ⟨(fun j w => ⟨(fun j w => ⟨(fun j w => ⟨(fun _ _ => trivial) j w, fun _ h => h⟩) j w, fun _ h => h⟩) j w, fun _ h => h⟩) j w, fun _ h => h⟩) rfl rfl (by kernel_rfl) rfl rfl (QOk.then (QOk.inBlock (QOk.then (QOk.then (QOk.inBlock (QOk.then QOk.body)))))) ?_
       refine o_offN (i := 31) (fun j w => ⟨(fun j w => ⟨(fun j w => ⟨(fun j w => ⟨(fun _ _ => trivial) j w, fun _ h => h⟩) j w, fun _ h => h⟩) j w, fun _ h => h⟩) j w, fun _ h => h⟩) rfl rfl (by kernel_rfl) rfl rfl (QOk.then (QOk.inBlock (QOk.then (QOk.then (QOk.inBlock (QOk.then QOk.body)))))) ?_
       refine o_offN (i := 32) (fun j w => ⟨(fun j w => ⟨(fun j w => ⟨(fun j w => ⟨(fun _ _ => trivial) j w, fun _ h => h⟩) j w, fun _ h => h⟩) j w, fun _ h => h⟩) j w, fun _ h => h⟩) rfl rfl (by kernel_rfl) rfl rfl (QOk.then (QOk.inBlock (QOk.then (QOk.then (QOk.inBlock (QOk.then QOk.body)))))) ?_
       refine o_off (i := 33) (fun j w => ⟨(fun j w => ⟨(fun j w => ⟨(fun j w => ⟨(fun _ _ => trivial) j w, fun _ h => h⟩) j w, fun _ h => h⟩) j w, fun _ h => h⟩) j w, fun _ h => h⟩) rfl rfl (by kernel_rfl) rfl rfl hg43b (QOk.then (QOk.inBlock (QOk.then (QOk.then (QOk.inBlock (QOk.then QOk.body)))))) ?_
       refine o_pure (i := 34) (fun j w => ⟨(fun j w => ⟨(fun j w => ⟨(fun j w => ⟨(fun _ _ => trivial) j w, fun _ h => h⟩) j w, fun _ h => h⟩) j w, fun _ h => h⟩) j w, fun _ h => h⟩) rfl rfl (by kernel_rfl) (goes0 rfl) (QOk.then (QOk.inBlock (QOk.then (QOk.then (QOk.inBlock (QOk.then QOk.body)))))) (fun w => q_pickT rfl hg43b rfl) ?_
       refine o_done (by kernel_rfl) ?_
       refine hK36 _ _ ?_
       refine c_condT rfl rfl ?_
       refine wp_seq_k (fun K45 hK45 => ?_)
       refine wp_region_lit ?_
       refine l_q rfl rfl (q_loadA (m := 2) rfl (by kernel_rfl) (by kernel_rfl) (hS37.blk (i := 2) rfl) rfl rfl) ?_
       refine l_e rfl (fun K hK => ?_)
       refine e_storeA hS37 rfl rfl (by kernel_rfl) (by repeat' (first | exact trivial | refine ⟨by first | rfl | assumption | exact one_if (by assumption), ?_⟩)) (i := 1) rfl rfl (fun w46 (hS46 : St _ _ [_, _, _] _) => ?_)
       clear hS37
       refine hK _ _ ?_; clear hK K
       refine l_nil ?_
       refine hK45 _ _ ?_
       refine wp_ret ?_
       refine c_retC (m := 2) rfl (by kernel_rfl) (by kernel_rfl) rfl (by first | exact hS46.blk (i := 0) rfl | exact hS46.blk (i := 1) rfl | exact hS46.blk (i := 2) rfl | exact hS46.blk (i := 3) rfl | exact hS46.blk (i := 4) rfl) rfl ?_
       exact ⟨_, rfl, ⟨_, _, head_no (fun hH => absurd hH.2.2.2.2.2.2.2.2.2 (bd_no hx34 (fun ⟨h1, h2, h3⟩ => by first | exact Bool.false_ne_true (Eq.trans (Eq.symm (by assumption)) h1) | (rw [k0_at hx42] at h2; exact absurd h2 (by omega))))), rfl⟩, hS46.drop⟩
      ·
       have hg43b := hg43
       try simp only [decide_eq_true_eq, decide_eq_false_iff_not, Bool.not_eq_true', Bool.not_eq_false', Bool.and_eq_true, Bool.or_eq_true, Int.not_lt, Int.not_le, ne_eq, Decidable.not_not] at hg43
       refine o_pure (i := 17) (fun j w => ⟨(fun j w => ⟨(fun j w => ⟨(fun j w => ⟨(fun _ _ => trivial) j w, fun _ h => h⟩) j w, fun _ h => h⟩) j w, fun _ h => h⟩) j w, fun _ h => h⟩) rfl rfl (by kernel_rfl) (goes1 rfl rfl hg43b) (QOk.then (QOk.inBlock (QOk.then (QOk.then (QOk.inBlock (QOk.then QOk.body)))))) (fun w => q_moveI rfl) ?_
       refine o_pure (i := 18) (fun j w => ⟨(fun j w => ⟨(fun j w => ⟨(fun j w => ⟨(fun _ _ => trivial) j w, fun _ h => h⟩) j w, fun _ h => h⟩) j w, fun _ h => h⟩) j w, fun _ h => h⟩) rfl rfl (by kernel_rfl) (goes1 rfl rfl hg43b) (QOk.then (QOk.inBlock (QOk.then (QOk.then (QOk.inBlock (QOk.then QOk.body)))))) (fun w => q_gtr rfl rfl) ?_
       refine o_pure (i := 19) (fun j w => ⟨(fun j w => ⟨(fun j w => ⟨(fun j w => ⟨(fun _ _ => trivial) j w, fun _ h => h⟩) j w, fun _ h => h⟩) j w, fun _ h => h⟩) j w, fun _ h => h⟩) rfl rfl (by kernel_rfl) (goes1 rfl rfl hg43b) (QOk.then (QOk.inBlock (QOk.then (QOk.then (QOk.inBlock (QOk.then QOk.body)))))) (fun w => q_moveB rfl) ?_
       refine g_splitO (t := 102) rfl (fun hg47 => ?_) (fun hg47 => ?_)
       ·
        have hg47b := hg47
        try simp only [decide_eq_true_eq, decide_eq_false_iff_not, Bool.not_eq_true', Bool.not_eq_false', Bool.and_eq_true, Bool.or_eq_true, Int.not_lt, Int.not_le, ne_eq, Decidable.not_not] at hg47
        refine o_pure (i := 20) (fun j w => ⟨(fun j w => ⟨(fun j w => ⟨(fun j w => ⟨(fun _ _ => trivial) j w, fun _ h => h⟩) j w, fun _ h => h⟩) j w, fun _ h => h⟩) j w, fun _ h => h⟩) rfl rfl (by kernel_rfl) (goes1 rfl rfl hg47b) (QOk.then (QOk.inBlock (QOk.then (QOk.then (QOk.inBlock (QOk.then QOk.body)))))) (fun w => q_fieldAddr (ft := 27) (o := 4) rfl (by kernel_rfl)) ?_
        refine o_held (i := 21) [24, 25, 31, 32, 33, 34] (fun j w => ⟨(fun j w => ⟨(fun j w => ⟨(fun j w => ⟨(fun _ _ => trivial) j w, fun _ h => h⟩) j w, fun _ h => h⟩) j w, fun _ h => h⟩) j w, fun _ h => h⟩) rfl rfl (by kernel_rfl) (goes1 rfl rfl hg47b) (QOk.then (QOk.inBlock (QOk.then (QOk.then (QOk.inBlock (QOk.then QOk.body)))))) (q_load1 rfl (by kernel_rfl) (hS37.cell (i := 0) rfl rfl)) ?_
        refine o_pure (i := 22) (fun j w => ⟨(fun j w => ⟨(fun j w => ⟨(fun j w => ⟨(fun j w => ⟨(fun _ _ => trivial) j w, fun _ h => h⟩) j w, fun _ h => h⟩) j w, fun _ h => h⟩) j w, fun _ h => h⟩) j w, fun _ h => h⟩) rfl rfl (by kernel_rfl) (goes1 rfl rfl hg47b) (QOk.then (QOk.inBlock (QOk.then (QOk.then (QOk.inBlock (QOk.then QOk.body)))))) (fun w => q_moveI rfl) ?_
        refine o_pure (i := 23) (fun j w => ⟨(fun j w => ⟨(fun j w => ⟨(fun j w => ⟨(fun j w => ⟨(fun _ _ => trivial) j w, fun _ h => h⟩) j w, fun _ h => h⟩) j w, fun _ h => h⟩) j w, fun _ h => h⟩) j w, fun _ h => h⟩) rfl rfl (by kernel_rfl) (goes1 rfl rfl hg47b) (QOk.then (QOk.inBlock (QOk.then (QOk.then (QOk.inBlock (QOk.then QOk.body)))))) (fun w => q_subx rfl rfl (by first | decide | omega) (by first | decide | omega)) ?_
        refine o_pure (i := 24) (fun j w => ⟨(fun j w => ⟨(fun j w => ⟨(fun j w => ⟨(fun j w => ⟨(fun _ _ => trivial) j w, fun _ h => h⟩) j w, fun _ h => h⟩) j w, fun _ h => h⟩) j w, fun _ h => h⟩) j w, fun _ h => h⟩) rfl rfl (by kernel_rfl) (goes1 rfl rfl hg47b) (QOk.then (QOk.inBlock (QOk.then (QOk.then (QOk.inBlock (QOk.then QOk.body)))))) (fun w => q_ixG (e := 32) (m := 3) (j := (i - 1)) rfl rfl (by kernel_rfl) (by kernel_rfl) (by first | rfl | omega) (by omega) hBG (by rw [rows_len (c := vl) (m := 3) (fun _ => rfl)]; first | omega | (simp only [lls] <;> omega))) ?_
        obtain ⟨x48, hx48⟩ : ∃ x, (t.bd)[(i - 1)]? = some x := ⟨_, List.getElem?_eq_getElem (by first | omega | (simp only [lls] <;> omega) | (simp <;> omega))⟩
        have hvb_x48 := (htb x48 (List.mem_of_getElem? hx48)).2
        refine o_held (i := 25) [31, 32, 33, 34] (fun j w => ⟨(fun j w => ⟨(fun j w => ⟨(fun j w => ⟨(fun j w => ⟨(fun _ _ => trivial) j w, fun _ h => h⟩) j w, fun _ h => h⟩) j w, fun _ h => h⟩) j w, fun _ h => h⟩) j w, fun _ h => h⟩) rfl rfl (by kernel_rfl) (goes1 rfl rfl hg47b) (QOk.then (QOk.inBlock (QOk.then (QOk.then (QOk.inBlock (QOk.then QOk.body)))))) (q_loadGA (m := 3) rfl (by kernel_rfl) (by kernel_rfl) (hBG.mono hS37.base) (row_take hx48 (c := vl) (m := 3) (fun _ => rfl)) rfl (by decide)) ?_
        refine o_pure (i := 26) (fun j w => ⟨(fun j w => ⟨(fun j w => ⟨(fun j w => ⟨(fun j w => ⟨(fun j w => ⟨(fun _ _ => trivial) j w, fun _ h => h⟩) j w, fun _ h => h⟩) j w, fun _ h => h⟩) j w, fun _ h => h⟩) j w, fun _ h => h⟩) j w, fun _ h => h⟩) rfl rfl (by kernel_rfl) (goes1 rfl rfl hg47b) (QOk.then (QOk.inBlock (QOk.then (QOk.then (QOk.inBlock (QOk.then QOk.body)))))) (fun w => q_fieldAddr (ft := 27) (o := 4) rfl (by kernel_rfl)) ?_
        refine o_held (i := 27) [29, 30, 31, 32, 33, 34] (fun j w => ⟨(fun j w => ⟨(fun j w => ⟨(fun j w => ⟨(fun j w => ⟨(fun j w => ⟨(fun _ _ => trivial) j w, fun _ h => h⟩) j w, fun _ h => h⟩) j w, fun _ h => h⟩) j w, fun _ h => h⟩) j w, fun _ h => h⟩) j w, fun _ h => h⟩) rfl rfl (by kernel_rfl) (goes1 rfl rfl hg47b) (QOk.then (QOk.inBlock (QOk.then (QOk.then (QOk.inBlock (QOk.then QOk.body)))))) (q_load1 rfl (by kernel_rfl) (hS37.cell (i := 0) rfl rfl)) ?_
        refine o_pure (i := 28) (fun j w => ⟨(fun j w => ⟨(fun j w => ⟨(fun j w => ⟨(fun j w => ⟨(fun j w => ⟨(fun j w => ⟨(fun _ _ => trivial) j w, fun _ h => h⟩) j w, fun _ h => h⟩) j w, fun _ h => h⟩) j w, fun _ h => h⟩) j w, fun _ h => h⟩) j w, fun _ h => h⟩) j w, fun _ h => h⟩) rfl rfl (by kernel_rfl) (goes1 rfl rfl hg47b) (QOk.then (QOk.inBlock (QOk.then (QOk.then (QOk.inBlock (QOk.then QOk.body)))))) (fun w => q_moveI rfl) ?_
        refine o_pure (i := 29) (fun j w => ⟨(fun j w => ⟨(fun j w => ⟨(fun j w => ⟨(fun j w => ⟨(fun j w => ⟨(fun j w => ⟨(fun _ _ => trivial) j w, fun _ h => h⟩) j w, fun _ h => h⟩) j w, fun _ h => h⟩) j w, fun _ h => h⟩) j w, fun _ h => h⟩) j w, fun _ h => h⟩) j w, fun _ h => h⟩) rfl rfl (by kernel_rfl) (goes1 rfl rfl hg47b) (QOk.then (QOk.inBlock (QOk.then (QOk.then (QOk.inBlock (QOk.then QOk.body)))))) (fun w => q_ixG (e := 32) (m := 3) (j := i) rfl rfl (by kernel_rfl) (by kernel_rfl) (by first | rfl | omega) (by omega) hBG (by rw [rows_len (c := vl) (m := 3) (fun _ => rfl)]; first | omega | (simp only [lls] <;> omega))) ?_
        refine o_held (i := 30) [31, 32, 33, 34] (fun j w => ⟨(fun j w => ⟨(fun j w => ⟨(fun j w => ⟨(fun j w => ⟨(fun j w => ⟨(fun j w => ⟨(fun _ _ => trivial) j w, fun _ h => h⟩) j w, fun _ h => h⟩) j w, fun _ h => h⟩) j w, fun _ h => h⟩) j w, fun _ h => h⟩) j w, fun _ h => h⟩) j w, fun _ h => h⟩) rfl rfl (by kernel_rfl) (goes1 rfl rfl hg47b) (QOk.then (QOk.inBlock (QOk.then (QOk.then (QOk.inBlock (QOk.then QOk.body)))))) (q_loadGA (m := 3) rfl (by kernel_rfl) (by kernel_rfl) (hBG.mono hS37.base) (row_take hx34 (c := vl) (m := 3) (fun _ => rfl)) rfl (by decide)) ?_
        refine o_eff (i := 31) (by kernel_rfl) rfl (goes1 rfl rfl hg47b) (fun K hK => ?_)
        refine e_call (by kernel_rfl) (rorder_ok x48 x34 (htb x48 (List.mem_of_getElem? hx48)).1 (htb x34 (List.mem_of_getElem? hx34)).1 _) rfl (after_R hS37 (fun v49 w49 hv49 hS49 => ?_))
        clear hS37
        obtain rfl := hv49
        refine hK _ _ ⟨⟨⟨⟨⟨⟨⟨⟨trivial, fun h => absurd h (by decide)⟩, fun h => absurd h (by decide)⟩, fun h => absurd h (by decide)⟩, fun h => absurd h (by decide)⟩, fun h => absurd h (by decide)⟩, fun h => absurd h (by decide)⟩, fun h => absurd h (by decide)⟩, fun h => absurd h (by decide)⟩ ?_; clear hK K
        refine o_pure (i := 32) (fun j w => ⟨(fun j w => ⟨(fun j w => ⟨(fun j w => ⟨(fun j w => ⟨(fun j w => ⟨(fun j w => ⟨(fun j w => ⟨(fun _ _ => trivial) j w, fun _ h => h⟩) j w, fun _ h => h⟩) j w, fun _ h => h⟩) j w, fun _ h => h⟩) j w, fun _ h => h⟩) j w, fun _ h => h⟩) j w, fun _ h => h⟩) j w, fun _ h => h⟩) rfl rfl (by kernel_rfl) (goes1 rfl rfl hg47b) (QOk.then (QOk.inBlock (QOk.then (QOk.then (QOk.inBlock (QOk.then QOk.body)))))) (fun w => q_geq rfl rfl) ?_
        refine o_pure (i := 33) (fun j w => ⟨(fun j w => ⟨(fun j w => ⟨(fun j w => ⟨(fun j w => ⟨(fun j w => ⟨(fun j w => ⟨(fun j w => ⟨(fun _ _ => trivial) j w, fun _ h => h⟩) j w, fun _ h => h⟩) j w, fun _ h => h⟩) j w, fun _ h => h⟩) j w, fun _ h => h⟩) j w, fun _ h => h⟩) j w, fun _ h => h⟩) j w, fun _ h => h⟩) rfl rfl (by kernel_rfl) (goes1 rfl rfl hg43b) (QOk.then (QOk.inBlock (QOk.then (QOk.then (QOk.inBlock (QOk.then QOk.body)))))) (fun w => q_pickT rfl hg47b rfl) ?_
        refine o_pure (i := 34) (fun j w => ⟨(fun j w => ⟨(fun j w => ⟨(fun j w => ⟨(fun j w => ⟨(fun j w => ⟨(fun j w => ⟨(fun j w => ⟨(fun _ _ => trivial) j w, fun _ h => h⟩) j w, fun _ h => h⟩) j w, fun _ h => h⟩) j w, fun _ h => h⟩) j w, fun _ h => h⟩) j w, fun _ h => h⟩) j w, fun _ h => h⟩) j w, fun _ h => h⟩) rfl rfl (by kernel_rfl) (goes0 rfl) (QOk.then (QOk.inBlock (QOk.then (QOk.then (QOk.inBlock (QOk.then QOk.body)))))) (fun w => q_pickF rfl hg43b rfl) ?_
        refine o_done (by kernel_rfl) ?_
        refine hK36 _ _ ?_
        refine c_cond rfl (fun hc50 => ?_) (fun hc50 => ?_)
        ·
         have hc50b := hc50
         try simp only [decide_eq_true_eq, decide_eq_false_iff_not, Bool.not_eq_true', Bool.not_eq_false', Bool.and_eq_true, Bool.or_eq_true, Int.not_lt, Int.not_le, ne_eq, Decidable.not_not] at hc50
         refine wp_seq_k (fun K51 hK51 => ?_)
         refine wp_region_lit ?_
         refine l_q rfl rfl (q_loadA (m := 2) rfl (by kernel_rfl) (by kernel_rfl) (hS49.blk (i := 2) rfl) rfl rfl) ?_
         refine l_e rfl (fun K hK => ?_)
         refine e_storeA hS49 rfl rfl (by kernel_rfl) (by repeat' (first | exact trivial | refine ⟨by first | rfl | assumption | exact one_if (by assumption), ?_⟩)) (i := 1) rfl rfl (fun w52 (hS52 : St _ _ [_, _, _] _) => ?_)
         clear hS49
         refine hK _ _ ?_; clear hK K
         refine l_nil ?_
         refine hK51 _ _ ?_
         refine wp_ret ?_
         refine c_retC (m := 2) rfl (by kernel_rfl) (by kernel_rfl) rfl (by first | exact hS52.blk (i := 0) rfl | exact hS52.blk (i := 1) rfl | exact hS52.blk (i := 2) rfl | exact hS52.blk (i := 3) rfl | exact hS52.blk (i := 4) rfl) rfl ?_
         exact ⟨_, rfl, ⟨_, _, head_no (fun hH => absurd hH.2.2.2.2.2.2.2.2.2 (bd_no hx34 (fun ⟨h1, h2, h3⟩ => by first | exact Bool.false_ne_true (Eq.trans (Eq.symm (by assumption)) h1) | (rw [k0_at hx42] at h2; exact absurd h2 (by omega)) | exact absurd (h3 _ (by omega) hx48) (by omega)))), rfl⟩, hS52.drop⟩
        ·
         have hc50b := hc50
         try simp only [decide_eq_true_eq, decide_eq_false_iff_not, Bool.not_eq_true', Bool.not_eq_false', Bool.and_eq_true, Bool.or_eq_true, Int.not_lt, Int.not_le, ne_eq, Decidable.not_not] at hc50
         refine wp_skip ?_
         refine hK32 _ _ ?_
         refine wp_region_lit ?_
         refine l_q rfl rfl (q_moveI rfl) ?_
         refine l_q rfl rfl (q_addx rfl rfl (by first | decide | omega) (by first | decide | omega)) ?_
         refine l_q rfl rfl (q_assignI rfl) ?_
         refine l_nil ?_
         refine hK28 _ _ (came ((i + 1)) (by repeat' (first | exact Agree.refl _ _ | refine Agree.up ?_ rfl | refine Agree.hav2 ?_ rfl | refine Agree.ups2 ?_ rfl)) (by repeat' (first | exact trivial | refine ⟨by first | rfl | exact int_succ _ | assumption, ?_⟩)) ?_)
         exact ⟨⟨hS49, (by show i + 1 ≤ t.bd.length; omega), hk.next hx34 (by assumption) (by rw [k0_at hx42]; omega) (fun u h0 hu => by first | omega | (have e := Option.some.inj (hu.symm.trans hx48); subst e; omega))⟩, by (show t.bd.length - (i + 1) < t.bd.length - i); omega⟩
       ·
        have hg47b := hg47
        try simp only [decide_eq_true_eq, decide_eq_false_iff_not, Bool.not_eq_true', Bool.not_eq_false', Bool.and_eq_true, Bool.or_eq_true, Int.not_lt, Int.not_le, ne_eq, Decidable.not_not] at hg47
        refine o_off (i := 20) (fun j w => ⟨(fun j w => ⟨(fun j w => ⟨(fun j w => ⟨(fun _ _ => trivial) j w, fun _ h => h⟩) j w, fun _ h => h⟩) j w, fun _ h => h⟩) j w, fun _ h => h⟩) rfl rfl (by kernel_rfl) rfl rfl hg47b (QOk.then (QOk.inBlock (QOk.then (QOk.then (QOk.inBlock (QOk.then QOk.body)))))) ?_
        refine o_off (i := 21) (fun j w => ⟨(fun j w => ⟨(fun j w => ⟨(fun j w => ⟨(fun _ _ => trivial) j w, fun _ h => h⟩) j w, fun _ h => h⟩) j w, fun _ h => h⟩) j w, fun _ h => h⟩) rfl rfl (by kernel_rfl) rfl rfl hg47b (QOk.then (QOk.inBlock (QOk.then (QOk.then (QOk.inBlock (QOk.then QOk.body)))))) ?_
        refine o_off (i := 22) (fun j w => ⟨(fun j w => ⟨(fun j w => ⟨(fun j w => ⟨(fun _ _ => trivial) j w, fun _ h => h⟩) j w, fun _ h => h⟩) j w, fun _ h => h⟩) j w, fun _ h => h⟩) rfl rfl (by kernel_rfl) rfl rfl hg47b (QOk.then (QOk.inBlock (QOk.then (QOk.then (QOk.inBlock (QOk.then QOk.body)))))) ?_
        refine o_off (i := 23) (fun j w => ⟨(fun j w => ⟨(fun j w => ⟨(fun j w => ⟨(fun _ _ => trivial) j w, fun _ h => h⟩) j w, fun _ h => h⟩) j w, fun _ h => h⟩) j w, fun _ h => h⟩) rfl rfl (by kernel_rfl) rfl rfl hg47b (QOk.then (QOk.inBlock (QOk.then (QOk.then (QOk.inBlock (QOk.then QOk.body)))))) ?_
        refine o_off (i := 24) (fun j w => ⟨(fun j w => ⟨(fun j w => ⟨(fun j w => ⟨(fun _ _ => trivial) j w, fun _ h => h⟩) j w, fun _ h => h⟩) j w, fun _ h => h⟩) j w, fun _ h => h⟩) rfl rfl (by kernel_rfl) rfl rfl hg47b (QOk.then (QOk.inBlock (QOk.then (QOk.then (QOk.inBlock (QOk.then QOk.body)))))) ?_
        refine o_off (i := 25) (fun j w => ⟨(fun j w => ⟨(fun j w => ⟨(fun j w => ⟨(fun _ _ => trivial) j w, fun _ h => h⟩) j w, fun _ h => h⟩) j w, fun _ h => h⟩) j w, fun _ h => h⟩) rfl rfl (by kernel_rfl) rfl rfl hg47b (QOk.then (QOk.inBlock (QOk.then (QOk.then (QOk.inBlock (QOk.then QOk.body)))))) ?_
        refine o_off (i := 26) (fun j w => ⟨(fun j w => ⟨(fun j w => ⟨(fun j w => ⟨(fun _ _ => trivial) j w, fun _ h => h⟩) j w, fun _ h => h⟩) j w, fun _ h => h⟩) j w, fun _ h => h⟩) rfl rfl (by kernel_rfl) rfl rfl hg47b (QOk.then (QOk.inBlock (QOk.then (QOk.then (QOk.inBlock (QOk.then QOk.body)))))) ?_
        refine o_off (i := 27) (fun j w => ⟨(fun j w => ⟨(fun j w => ⟨(fun j w => ⟨(fun _ _ => trivial) j w, fun _ h => h⟩) j w, fun _ h => h⟩) j w, fun _ h => h⟩) j w, fun _ h => h⟩) rfl rfl (by kernel_rfl) rfl rfl hg47b (QOk.then (QOk.inBlock (QOk.then (QOk.then (QOk.inBlock (QOk.then QOk.body)))))) ?_
        refine o_off (i := 28) (fun j w => ⟨(fun j w => ⟨(fun j w => ⟨(fun j w => ⟨(fun _ _ => trivial) j w, fun _ h => h⟩) j w, fun _ h => h⟩) j w, fun _ h => h⟩) j w, fun _ h => h⟩) rfl rfl (by kernel_rfl) rfl rfl hg47b (QOk.then (QOk.inBlock (QOk.then (QOk.then (QOk.inBlock (QOk.then QOk.body)))))) ?_
        refine o_off (i := 29) (fun j w => ⟨(fun j w => ⟨(fun j w => ⟨(fun j w => ⟨(fun _ _ => trivial) j w, fun _ h => h⟩) j w, fun _ h => h⟩) j w, fun _ h => h⟩) j w, fun _ h => h⟩) rfl rfl (by kernel_rfl) rfl rfl hg47b (QOk.then (QOk.inBlock (QOk.then (QOk.then (QOk.inBlock (QOk.then QOk.body)))))) ?_
        refine o_off (i := 30) (fun j w => ⟨(fun j w => ⟨(fun j w => ⟨(fun j w => ⟨(fun _ _ => trivial) j w, fun _ h => h⟩) j w, fun _ h => h⟩) j w, fun _ h => h⟩) j w, fun _ h => h⟩) rfl rfl (by kernel_rfl) rfl rfl hg47b (QOk.then (QOk.inBlock (QOk.then (QOk.then (QOk.inBlock (QOk.then QOk.body)))))) ?_
        refine o_off (i := 31) (fun j w => ⟨(fun j w => ⟨(fun j w => ⟨(fun j w => ⟨(fun _ _ => trivial) j w, fun _ h => h⟩) j w, fun _ h => h⟩) j w, fun _ h => h⟩) j w, fun _ h => h⟩) rfl rfl (by kernel_rfl) rfl rfl hg47b (QOk.then (QOk.inBlock (QOk.then (QOk.then (QOk.inBlock (QOk.then QOk.body)))))) ?_
        refine o_off (i := 32) (fun j w => ⟨(fun j w => ⟨(fun j w => ⟨(fun j w => ⟨(fun _ _ => trivial) j w, fun _ h => h⟩) j w, fun _ h => h⟩) j w, fun _ h => h⟩) j w, fun _ h => h⟩) rfl rfl (by kernel_rfl) rfl rfl hg47b (QOk.then (QOk.inBlock (QOk.then (QOk.then (QOk.inBlock (QOk.then QOk.body)))))) ?_
        refine o_pure (i := 33) (fun j w => ⟨(fun j w => ⟨(fun j w => ⟨(fun j w => ⟨(fun _ _ => trivial) j w, fun _ h => h⟩) j w, fun _ h => h⟩) j w, fun _ h => h⟩) j w, fun _ h => h⟩) rfl rfl (by kernel_rfl) (goes1 rfl rfl hg43b) (QOk.then (QOk.inBlock (QOk.then (QOk.then (QOk.inBlock (QOk.then QOk.body)))))) (fun w => q_pickF rfl hg47b rfl) ?_
        refine o_pure (i := 34) (fun j w => ⟨(fun j w => ⟨(fun j w => ⟨(fun j w => ⟨(fun _ _ => trivial) j w, fun _ h => h⟩) j w, fun _ h => h⟩) j w, fun _ h => h⟩) j w, fun _ h => h⟩) rfl rfl (by kernel_rfl) (goes0 rfl) (QOk.then (QOk.inBlock (QOk.then (QOk.then (QOk.inBlock (QOk.then QOk.body)))))) (fun w => q_pickF rfl hg43b rfl) ?_
        refine o_done (by kernel_rfl) ?_
        refine hK36 _ _ ?_
        refine c_condF rfl rfl ?_
        refine wp_skip ?_
        refine hK32 _ _ ?_
        refine wp_region_lit ?_
        refine l_q rfl rfl (q_moveI rfl) ?_
        refine l_q rfl rfl (q_addx rfl rfl (by first | decide | omega) (by first | decide | omega)) ?_
        refine l_q rfl rfl (q_assignI rfl) ?_
        refine l_nil ?_
        refine hK28 _ _ (came ((i + 1)) (by repeat' (first | exact Agree.refl _ _ | refine Agree.up ?_ rfl | refine Agree.hav2 ?_ rfl | refine Agree.ups2 ?_ rfl)) (by repeat' (first | exact trivial | refine ⟨by first | rfl | exact int_succ _ | assumption, ?_⟩)) ?_)
        exact ⟨⟨hS37, (by show i + 1 ≤ t.bd.length; omega), hk.next hx34 (by assumption) (by rw [k0_at hx42]; omega) (fun u h0 hu => by first | omega | (have e := Option.some.inj (hu.symm.trans hx34); subst e; omega))⟩, by (show t.bd.length - (i + 1) < t.bd.length - i); omega⟩
    ·
     have hc31b := hc31
     try simp only [decide_eq_true_eq, decide_eq_false_iff_not, Bool.not_eq_true', Bool.not_eq_false', Bool.and_eq_true, Bool.or_eq_true, Int.not_lt, Int.not_le, ne_eq, Decidable.not_not] at hc31
     refine wp_exit ?_
     refine hK24 _ _ ?_
     refine wp_seq_k (fun K54 hK54 => ?_)
     refine wp_seq_k (fun K55 hK55 => ?_)
     refine wp_region_lit ?_
     refine l_q rfl rfl (q_assignI rfl) ?_
     refine l_nil ?_
     refine hK55 _ _ ?_
     refine wp_block ?_
     have hib : i = t.bd.length := by omega
     rw [hib] at hk
     have hH := headq_bd hQ hk
     refine c_loop (τ := Nat) [(7, 10), (119, 175)] (fun x => (fun (i : Nat) => [(7, .int .i64 (i : Int))]) x) (fun x w' => (fun (i : Nat) => St w (fun _ => False) [.blk b2 (.cells #[.string (bs t.nm), .slice ca t.cs.length cca, .int .i64 t.key, .int .i64 t.pt, .slice ba t.bd.length cba] 29), .blk b3 (.cells #[.int .i64 (0 : Int), .int .i64 (0 : Int)] 51), .blk b5 (.cells #[.int .i64 (182 : Int), .int .i64 (-1 : Int)] 51)] w' ∧ i ≤ t.cs.length ∧ ColsTo t i) x) (fun x => (fun (i : Nat) => t.cs.length - i) x) (0) ?_ (by repeat' (first | exact trivial | refine ⟨by first | rfl | exact int_succ _ | assumption, ?_⟩)) (fun i j56 w56 hJ56 K56 hK56 => ?_)
     ·
      exact ⟨hS28, Nat.zero_le _, ColsTo.zero _⟩
     ·
      obtain ⟨hS56, hi, hco⟩ := hJ56
      try dsimp only at hS56 hi hco ⊢
      refine wp_seq_k (fun K57 hK57 => ?_)
      refine wp_seq_k (fun K58 hK58 => ?_)
      refine wp_region_lit ?_
      refine l_q rfl rfl (q_moveI rfl) ?_
      refine l_q rfl rfl (q_fieldAddr (ft := 26) (o := 1) rfl (by kernel_rfl)) ?_
      refine l_q rfl rfl (q_load1 rfl (by kernel_rfl) (hS56.cell (i := 0) rfl rfl)) ?_
      refine l_q rfl rfl (q_lenSl (e := 25) rfl (by kernel_rfl)) ?_
      refine l_q rfl rfl (q_lss rfl rfl) ?_
      refine l_nil ?_
      refine hK58 _ _ ?_
      refine c_cond rfl (fun hc59 => ?_) (fun hc59 => ?_)
      ·
       have hc59b := hc59
       try simp only [decide_eq_true_eq, decide_eq_false_iff_not, Bool.not_eq_true', Bool.not_eq_false', Bool.and_eq_true, Bool.or_eq_true, Int.not_lt, Int.not_le, ne_eq, Decidable.not_not] at hc59
       refine wp_skip ?_
       refine hK57 _ _ ?_
       refine wp_seq_k (fun K60 hK60 => ?_)
       refine wp_block ?_
       refine wp_seq_k (fun K61 hK61 => ?_)
       refine wp_region_lit ?_
       refine l_q rfl rfl (q_fieldAddr (ft := 26) (o := 1) rfl (by kernel_rfl)) ?_
       refine l_q rfl rfl (q_load1 rfl (by kernel_rfl) (hS56.cell (i := 0) rfl rfl)) ?_
       refine l_q rfl rfl (q_moveI rfl) ?_
       refine l_q rfl rfl (q_ixG (e := 25) (m := 3) (j := i) rfl rfl (by kernel_rfl) (by kernel_rfl) (by first | rfl | omega) (by omega) hCG (by rw [rows_len (c := cc) (m := 3) (fun _ => rfl)]; first | omega | (simp only [lls] <;> omega))) ?_
       obtain ⟨x62, hx62⟩ : ∃ x, (t.cs)[i]? = some x := ⟨_, List.getElem?_eq_getElem (by first | omega | (simp only [lls] <;> omega) | (simp <;> omega))⟩
       have hcb_x62 := (htc x62 (List.mem_of_getElem? hx62)).2
       refine l_q rfl rfl (q_loadGA (m := 3) rfl (by kernel_rfl) (by kernel_rfl) (hCG.mono hS56.base) (row_take hx62 (c := cc) (m := 3) (fun _ => rfl)) rfl (by decide)) ?_
       refine l_e rfl (fun K hK => ?_)
       refine e_alloc (zv := .agg #[.string ⟨#[]⟩, .int .i64 0, .bool false]) hS56 (by kernel_rfl) (fun b63 w63 (hS63 : St _ _ [.blk b63 (.cells #[.string (bs []), .int .i64 (0 : Int), .bool false] 25), _, _, _] _) => ?_)
       clear hS56
       refine hK _ _ ?_; clear hK K
       refine l_e rfl (fun K hK => ?_)
       refine e_storeA hS63 rfl rfl (by kernel_rfl) (by repeat' (first | exact trivial | refine ⟨by first | rfl | assumption | exact one_if (by assumption), ?_⟩)) (i := 0) rfl rfl (fun w64 (hS64 : St _ _ [.blk b63 (.cells #[.string (bs x62.nm), .int .i64 x62.k, .bool x62.m] 25), _, _, _] _) => ?_)
       clear hS63
       refine hK _ _ ?_; clear hK K
       refine l_nil ?_
       refine hK61 _ _ ?_
       refine wp_seq_k (fun K65 hK65 => ?_)
       have hcn := hcm _ _ hx62
       refine wp_region_lit ?_
       refine l_q rfl rfl (q_fieldAddr (ft := 9) (o := 0) rfl (by kernel_rfl)) ?_
       refine l_q rfl rfl (q_load1 rfl (by kernel_rfl) (hS64.cell (i := 0) rfl rfl)) ?_
       refine l_e rfl (fun K hK => ?_)
       refine e_call (by kernel_rfl) (rname_ok x62.nm (htc x62 (List.mem_of_getElem? hx62)).1 (by first | omega | assumption) _) rfl (after_R hS64 (fun v66 w66 hv66 hS66 => ?_))
       clear hS64
       obtain rfl := hv66
       refine hK _ _ ?_; clear hK K
       refine l_q rfl rfl (q_assignB rfl) ?_
       refine l_nil ?_
       refine hK65 _ _ ?_
       refine wp_seq_k (fun K67 hK67 => ?_)
       refine wp_seq_k (fun K68 hK68 => ?_)
       refine wp_region_lit ?_
       refine l_q rfl rfl (q_assignI rfl) ?_
       refine l_nil ?_
       refine hK68 _ _ ?_
       refine wp_block ?_
       have hS69 := hS66.fr3; clear hS66
       have hS70 := hS69.fr3; clear hS69
       have hS71 := hS70.fr3; clear hS70
       refine c_loop (τ := Nat × Bool) [(9, 10), (134, 150)] (fun x => (fun (k : Nat) (f : Bool) => [(10, .int .i64 (k : Int)), (9, .bool f)]) x.1 x.2) (fun x w' => (fun (k : Nat) (f : Bool) => St w (fun _ => False) [.blk b2 (.cells #[.string (bs t.nm), .slice ca t.cs.length cca, .int .i64 t.key, .int .i64 t.pt, .slice ba t.bd.length cba] 29), .blk b3 (.cells #[.int .i64 (0 : Int), .int .i64 (0 : Int)] 51), .blk b5 (.cells #[.int .i64 (182 : Int), .int .i64 (-1 : Int)] 51), .blk b63 (.cells #[.string (bs x62.nm), .int .i64 x62.k, .bool x62.m] 25)] w' ∧ k ≤ i ∧ FitTo t x62.nm k f) x.1 x.2) (fun x => (fun (k : Nat) (f : Bool) => i - k) x.1 x.2) (⟨0, (pB (NameP x62.nm))⟩) ?_ (by repeat' (first | exact trivial | refine ⟨by first | rfl | exact int_succ _ | assumption, ?_⟩)) (fun x72 j72 w72 hJ72 K72 hK72 => ?_)
       ·
        exact ⟨hS71, Nat.zero_le _, FitTo.zero rfl⟩
       ·
        obtain ⟨k, f⟩ := x72
        obtain ⟨hS72, hki, hft⟩ := hJ72
        try dsimp only at hS72 hki hft ⊢
        refine wp_seq_k (fun K73 hK73 => ?_)
        refine wp_seq_k (fun K74 hK74 => ?_)
        refine wp_region_lit ?_
        refine l_q rfl rfl (q_moveI rfl) ?_
        refine l_q rfl rfl (q_moveI rfl) ?_
        refine l_q rfl rfl (q_lss rfl rfl) ?_
        refine l_nil ?_
        refine hK74 _ _ ?_
        refine c_cond rfl (fun hc75 => ?_) (fun hc75 => ?_)
        ·
         have hc75b := hc75
         try simp only [decide_eq_true_eq, decide_eq_false_iff_not, Bool.not_eq_true', Bool.not_eq_false', Bool.and_eq_true, Bool.or_eq_true, Int.not_lt, Int.not_le, ne_eq, Decidable.not_not] at hc75
         refine wp_skip ?_
         refine hK73 _ _ ?_
         refine wp_seq_k (fun K76 hK76 => ?_)
         refine wp_block ?_
         refine r_any (by kernel_rfl) hS72 (fun w77 hS77 => ?_)
         clear hS72
         refine o_pure (i := 0) (fun _ _ => trivial) rfl rfl (by kernel_rfl) (goes0 rfl) (QOk.inBlock (QOk.then (QOk.then (QOk.inBlock (QOk.then (QOk.inBlock (QOk.then (QOk.then (QOk.inBlock (QOk.then QOk.body)))))))))) (fun w => q_moveB rfl) ?_
         refine o_pure (i := 1) (fun _ _ => trivial) rfl rfl (by kernel_rfl) (goes0 rfl) (QOk.inBlock (QOk.then (QOk.then (QOk.inBlock (QOk.then (QOk.inBlock (QOk.then (QOk.then (QOk.inBlock (QOk.then QOk.body)))))))))) (fun w => q_moveB rfl) ?_
         refine g_splitO (t := 140) rfl (fun hg78 => ?_) (fun hg78 => ?_)
         ·
          have hg78b := hg78
          try simp only [decide_eq_true_eq, decide_eq_false_iff_not, Bool.not_eq_true', Bool.not_eq_false', Bool.and_eq_true, Bool.or_eq_true, Int.not_lt, Int.not_le, ne_eq, Decidable.not_not] at hg78
          refine o_pure (i := 2) (fun _ _ => trivial) rfl rfl (by kernel_rfl) (goes1 rfl rfl hg78b) (QOk.inBlock (QOk.then (QOk.then (QOk.inBlock (QOk.then (QOk.inBlock (QOk.then (QOk.then (QOk.inBlock (QOk.then QOk.body)))))))))) (fun w => q_fieldAddr (ft := 26) (o := 1) rfl (by kernel_rfl)) ?_
          refine o_held (i := 3) [5, 6, 7, 10, 11, 12] (fun _ _ => trivial) rfl rfl (by kernel_rfl) (goes1 rfl rfl hg78b) (QOk.inBlock (QOk.then (QOk.then (QOk.inBlock (QOk.then (QOk.inBlock (QOk.then (QOk.then (QOk.inBlock (QOk.then QOk.body)))))))))) (q_load1 rfl (by kernel_rfl) (hS77.cell (i := 0) rfl rfl)) ?_
          refine o_pure (i := 4) (fun j w => ⟨(fun _ _ => trivial) j w, fun _ h => h⟩) rfl rfl (by kernel_rfl) (goes1 rfl rfl hg78b) (QOk.inBlock (QOk.then (QOk.then (QOk.inBlock (QOk.then (QOk.inBlock (QOk.then (QOk.then (QOk.inBlock (QOk.then QOk.body)))))))))) (fun w => q_moveI rfl) ?_
          refine o_pure (i := 5) (fun j w => ⟨(fun _ _ => trivial) j w, fun _ h => h⟩) rfl rfl (by kernel_rfl) (goes1 rfl rfl hg78b) (QOk.inBlock (QOk.then (QOk.then (QOk.inBlock (QOk.then (QOk.inBlock (QOk.then (QOk.then (QOk.inBlock (QOk.then QOk.body)))))))))) (fun w => q_ixG (e := 25) (m := 3) (j := k) rfl rfl (by kernel_rfl) (by kernel_rfl) (by first | rfl | omega) (by omega) hCG (by rw [rows_len (c := cc) (m := 3) (fun _ => rfl)]; first | omega | (simp only [lls] <;> omega))) ?_
          refine o_pure (i := 6) (fun j w => ⟨(fun _ _ => trivial) j w, fun _ h => h⟩) rfl rfl (by kernel_rfl) (goes1 rfl rfl hg78b) (QOk.inBlock (QOk.then (QOk.then (QOk.inBlock (QOk.then (QOk.inBlock (QOk.then (QOk.then (QOk.inBlock (QOk.then QOk.body)))))))))) (fun w => q_fieldG (ft := 9) (o := 0) rfl (by kernel_rfl)) ?_
          obtain ⟨x79, hx79⟩ : ∃ x, (t.cs)[k]? = some x := ⟨_, List.getElem?_eq_getElem (by first | omega | (simp only [lls] <;> omega) | (simp <;> omega))⟩
          have hcb_x79 := (htc x79 (List.mem_of_getElem? hx79)).2
          refine o_held (i := 7) [10, 11, 12] (fun j w => ⟨(fun _ _ => trivial) j w, fun _ h => h⟩) rfl rfl (by kernel_rfl) (goes1 rfl rfl hg78b) (QOk.inBlock (QOk.then (QOk.then (QOk.inBlock (QOk.then (QOk.inBlock (QOk.then (QOk.then (QOk.inBlock (QOk.then QOk.body)))))))))) (q_load1 rfl (by kernel_rfl) (SlG.cell (hCG.mono hS77.base) (Gle.refl _) (row_at hx79 (c := cc) (m := 3) (fun _ => rfl) (j := 0) rfl))) ?_
          refine o_pure (i := 8) (fun j w => ⟨(fun j w => ⟨(fun _ _ => trivial) j w, fun _ h => h⟩) j w, fun _ h => h⟩) rfl rfl (by kernel_rfl) (goes1 rfl rfl hg78b) (QOk.inBlock (QOk.then (QOk.then (QOk.inBlock (QOk.then (QOk.inBlock (QOk.then (QOk.then (QOk.inBlock (QOk.then QOk.body)))))))))) (fun w => q_fieldAddr (ft := 9) (o := 0) rfl (by kernel_rfl)) ?_
          refine o_held (i := 9) [10, 11, 12] (fun j w => ⟨(fun j w => ⟨(fun _ _ => trivial) j w, fun _ h => h⟩) j w, fun _ h => h⟩) rfl rfl (by kernel_rfl) (goes1 rfl rfl hg78b) (QOk.inBlock (QOk.then (QOk.then (QOk.inBlock (QOk.then (QOk.inBlock (QOk.then (QOk.then (QOk.inBlock (QOk.then QOk.body)))))))))) (q_load1 rfl (by kernel_rfl) (hS77.cell (i := 3) rfl rfl)) ?_
          refine o_pure (i := 10) (fun j w => ⟨(fun j w => ⟨(fun j w => ⟨(fun _ _ => trivial) j w, fun _ h => h⟩) j w, fun _ h => h⟩) j w, fun _ h => h⟩) rfl rfl (by kernel_rfl) (goes1 rfl rfl hg78b) (QOk.inBlock (QOk.then (QOk.then (QOk.inBlock (QOk.then (QOk.inBlock (QOk.then (QOk.then (QOk.inBlock (QOk.then QOk.body)))))))))) (fun w => q_str_neq (l := x79.nm) (m := x62.nm) rfl rfl (htc x79 (List.mem_of_getElem? hx79)).1 (htc x62 (List.mem_of_getElem? hx62)).1) ?_
          refine o_pure (i := 11) (fun j w => ⟨(fun j w => ⟨(fun j w => ⟨(fun _ _ => trivial) j w, fun _ h => h⟩) j w, fun _ h => h⟩) j w, fun _ h => h⟩) rfl rfl (by kernel_rfl) (goes0 rfl) (QOk.inBlock (QOk.then (QOk.then (QOk.inBlock (QOk.then (QOk.inBlock (QOk.then (QOk.then (QOk.inBlock (QOk.then QOk.body)))))))))) (fun w => q_pickT rfl hg78b rfl) ?_
          refine o_pure (i := 12) (fun j w => ⟨(fun j w => ⟨(fun j w => ⟨(fun _ _ => trivial) j w, fun _ h => h⟩) j w, fun _ h => h⟩) j w, fun _ h => h⟩) rfl rfl (by kernel_rfl) (goes0 rfl) (QOk.inBlock (QOk.then (QOk.then (QOk.inBlock (QOk.then (QOk.inBlock (QOk.then (QOk.then (QOk.inBlock (QOk.then QOk.body)))))))))) (fun w => q_assignB rfl) ?_
          refine o_done (by kernel_rfl) ?_
          refine hK76 _ _ ?_
          refine wp_region_lit ?_
          refine l_q rfl rfl (q_moveI rfl) ?_
          refine l_q rfl rfl (q_addx rfl rfl (by first | decide | omega) (by first | decide | omega)) ?_
          refine l_q rfl rfl (q_assignI rfl) ?_
          refine l_nil ?_
          refine hK72 _ _ (came (⟨(k + 1), (!decide (x79.nm = x62.nm))⟩) (by repeat' (first | exact Agree.refl _ _ | refine Agree.up ?_ rfl | refine Agree.hav2 ?_ rfl | refine Agree.ups2 ?_ rfl)) (by repeat' (first | exact trivial | refine ⟨by first | rfl | exact int_succ _ | assumption, ?_⟩)) ?_)
          exact ⟨⟨hS77, (by show k + 1 ≤ i; omega), hft.on (by assumption) hx79⟩, by (show i - (k + 1) < i - k); omega⟩
         ·
          have hg78b := hg78
          try simp only [decide_eq_true_eq, decide_eq_false_iff_not, Bool.not_eq_true', Bool.not_eq_false', Bool.and_eq_true, Bool.or_eq_true, Int.not_lt, Int.not_le, ne_eq, Decidable.not_not] at hg78
          refine o_off (i := 2) (fun _ _ => trivial) rfl rfl (by kernel_rfl) rfl rfl hg78b (QOk.inBlock (QOk.then (QOk.then (QOk.inBlock (QOk.then (QOk.inBlock (QOk.then (QOk.then (QOk.inBlock (QOk.then QOk.body)))))))))) ?_
          refine o_off (i := 3) (fun _ _ => trivial) rfl rfl (by kernel_rfl) rfl rfl hg78b (QOk.inBlock (QOk.then (QOk.then (QOk.inBlock (QOk.then (QOk.inBlock (QOk.then (QOk.then (QOk.inBlock (QOk.then QOk.body)))))))))) ?_
          refine o_off (i := 4) (fun _ _ => trivial) rfl rfl (by kernel_rfl) rfl rfl hg78b (QOk.inBlock (QOk.then (QOk.then (QOk.inBlock (QOk.then (QOk.inBlock (QOk.then (QOk.then (QOk.inBlock (QOk.then QOk.body)))))))))) ?_
          refine o_off (i := 5) (fun _ _ => trivial) rfl rfl (by kernel_rfl) rfl rfl hg78b (QOk.inBlock (QOk.then (QOk.then (QOk.inBlock (QOk.then (QOk.inBlock (QOk.then (QOk.then (QOk.inBlock (QOk.then QOk.body)))))))))) ?_
          refine o_off (i := 6) (fun _ _ => trivial) rfl rfl (by kernel_rfl) rfl rfl hg78b (QOk.inBlock (QOk.then (QOk.then (QOk.inBlock (QOk.then (QOk.inBlock (QOk.then (QOk.then (QOk.inBlock (QOk.then QOk.body)))))))))) ?_
          refine o_off (i := 7) (fun _ _ => trivial) rfl rfl (by kernel_rfl) rfl rfl hg78b (QOk.inBlock (QOk.then (QOk.then (QOk.inBlock (QOk.then (QOk.inBlock (QOk.then (QOk.then (QOk.inBlock (QOk.then QOk.body)))))))))) ?_
          refine o_off (i := 8) (fun _ _ => trivial) rfl rfl (by kernel_rfl) rfl rfl hg78b (QOk.inBlock (QOk.then (QOk.then (QOk.inBlock (QOk.then (QOk.inBlock (QOk.then (QOk.then (QOk.inBlock (QOk.then QOk.body)))))))))) ?_
          refine o_off (i := 9) (fun _ _ => trivial) rfl rfl (by kernel_rfl) rfl rfl hg78b (QOk.inBlock (QOk.then (QOk.then (QOk.inBlock (QOk.then (QOk.inBlock (QOk.then (QOk.then (QOk.inBlock (QOk.then QOk.body)))))))))) ?_
          refine o_off (i := 10) (fun _ _ => trivial) rfl rfl (by kernel_rfl) rfl rfl hg78b (QOk.inBlock (QOk.then (QOk.then (QOk.inBlock (QOk.then (QOk.inBlock (QOk.then (QOk.then (QOk.inBlock (QOk.then QOk.body)))))))))) ?_
          refine o_pure (i := 11) (fun _ _ => trivial) rfl rfl (by kernel_rfl) (goes0 rfl) (QOk.inBlock (QOk.then (QOk.then (QOk.inBlock (QOk.then (QOk.inBlock (QOk.then (QOk.then (QOk.inBlock (QOk.then QOk.body)))))))))) (fun w => q_pickF rfl hg78b rfl) ?_
          refine o_pure (i := 12) (fun _ _ => trivial) rfl rfl (by kernel_rfl) (goes0 rfl) (QOk.inBlock (QOk.then (QOk.then (QOk.inBlock (QOk.then (QOk.inBlock (QOk.then (QOk.then (QOk.inBlock (QOk.then QOk.body)))))))))) (fun w => q_assignB rfl) ?_
          refine o_done (by kernel_rfl) ?_
          refine hK76 _ _ ?_
          refine wp_region_lit ?_
          refine l_q rfl rfl (q_moveI rfl) ?_
          refine l_q rfl rfl (q_addx rfl rfl (by first | decide | omega) (by first | decide | omega)) ?_
          refine l_q rfl rfl (q_assignI rfl) ?_
          refine l_nil ?_
          refine hK72 _ _ (came (⟨(k + 1), false⟩) (by repeat' (first | exact Agree.refl _ _ | refine Agree.up ?_ rfl | refine Agree.hav2 ?_ rfl | refine Agree.ups2 ?_ rfl)) (by repeat' (first | exact trivial | refine ⟨by first | rfl | exact int_succ _ | assumption, ?_⟩)) ?_)
          exact ⟨⟨hS77, (by show k + 1 ≤ i; omega), hft.off (by assumption)⟩, by (show i - (k + 1) < i - k); omega⟩
        ·
         have hc75b := hc75
         try simp only [decide_eq_true_eq, decide_eq_false_iff_not, Bool.not_eq_true', Bool.not_eq_false', Bool.and_eq_true, Bool.or_eq_true, Int.not_lt, Int.not_le, ne_eq, Decidable.not_not] at hc75
         refine wp_exit ?_
         refine hK67 _ _ ?_
         refine wp_seq_k (fun K80 hK80 => ?_)
         have hki2 : k = i := by omega
         rw [hki2] at hft
         refine wp_region_lit ?_
         refine l_q rfl rfl (q_moveB rfl) ?_
         refine l_q rfl rfl (q_not rfl) ?_
         refine l_q rfl rfl (q_moveB rfl) ?_
         refine g_splitL (t := 153) rfl (fun hg81 => ?_) (fun hg81 => ?_)
         ·
          have hg81b := hg81
          try simp only [decide_eq_true_eq, decide_eq_false_iff_not, Bool.not_eq_true', Bool.not_eq_false', Bool.and_eq_true, Bool.or_eq_true, Int.not_lt, Int.not_le, ne_eq, Decidable.not_not] at hg81
          refine l_off rfl rfl rfl hg81b ?_
          refine l_off rfl rfl rfl hg81b ?_
          refine l_off rfl rfl rfl hg81b ?_
          refine l_q rfl rfl (q_pickT rfl hg81b rfl) ?_
          refine l_q rfl rfl (q_moveB rfl) ?_
          refine l_off rfl rfl rfl rfl ?_
          refine l_off rfl rfl rfl rfl ?_
          refine l_off rfl rfl rfl rfl ?_
          refine l_q rfl rfl (q_pickT rfl rfl rfl) ?_
          refine l_q rfl rfl (q_moveB rfl) ?_
          refine l_off rfl rfl rfl rfl ?_
          refine l_off rfl rfl rfl rfl ?_
          refine l_off rfl rfl rfl rfl ?_
          refine l_off rfl rfl rfl rfl ?_
          refine l_off rfl rfl rfl rfl ?_
          refine l_offN rfl rfl rfl ?_
          refine l_offN rfl rfl rfl ?_
          refine l_offN rfl rfl rfl ?_
          refine l_off rfl rfl rfl rfl ?_
          refine l_q rfl rfl (q_pickT rfl rfl rfl) ?_
          refine l_nil ?_
          refine hK80 _ _ ?_
          refine c_condT rfl rfl ?_
          refine wp_seq_k (fun K83 hK83 => ?_)
          refine wp_region_lit ?_
          refine l_q rfl rfl (q_moveI rfl) ?_
          refine l_q rfl rfl (q_build (ps := [(0, 1), (1, 1)]) (zv := .agg #[.int .i64 0, .int .i64 0]) (by kernel_rfl) (by kernel_rfl) rfl (by repeat' (first | exact trivial | refine ⟨fun _ => by first | rfl | assumption | exact one_if (by assumption), ?_⟩ | refine ⟨fun ⟨_, h⟩ => by simp at h, ?_⟩)) rfl) ?_
          refine l_e rfl (fun K hK => ?_)
          refine e_storeA hS72 rfl rfl (by kernel_rfl) (by repeat' (first | exact trivial | refine ⟨by first | rfl | assumption | exact one_if (by assumption), ?_⟩)) (i := 1) rfl rfl (fun w84 (hS84 : St _ _ [_, .blk b3 (.cells #[.int .i64 (182 : Int), .int .i64 (i : Int)] 51), _, _] _) => ?_)
          clear hS72
          refine hK _ _ ?_; clear hK K
          refine l_nil ?_
          refine hK83 _ _ ?_
          refine wp_ret ?_
          refine c_retC (m := 2) rfl (by kernel_rfl) (by kernel_rfl) rfl (by first | exact hS84.blk (i := 0) rfl | exact hS84.blk (i := 1) rfl | exact hS84.blk (i := 2) rfl | exact hS84.blk (i := 3) rfl | exact hS84.blk (i := 4) rfl) rfl ?_
          exact ⟨_, rfl, ⟨_, _, RtA.col hH hx62 hco (fit_no hft (by first | exact .inl (by assumption) | exact .inr (.inl (by omega)) | exact .inr (.inr ⟨by omega, by assumption⟩))), rfl⟩, hS84.drop⟩
         ·
          have hg81b := hg81
          try simp only [decide_eq_true_eq, decide_eq_false_iff_not, Bool.not_eq_true', Bool.not_eq_false', Bool.and_eq_true, Bool.or_eq_true, Int.not_lt, Int.not_le, ne_eq, Decidable.not_not] at hg81
          refine l_on rfl rfl hg81b ?_
          refine l_q rfl rfl (q_fieldAddr (ft := 23) (o := 1) rfl (by kernel_rfl)) ?_
          refine l_on rfl rfl hg81b ?_
          refine l_q rfl rfl (q_load1 rfl (by kernel_rfl) (hS72.cell (i := 3) rfl rfl)) ?_
          refine l_on rfl rfl hg81b ?_
          refine l_q rfl rfl (q_lss rfl rfl) ?_
          refine l_q rfl rfl (q_pickF rfl hg81b rfl) ?_
          refine l_q rfl rfl (q_moveB rfl) ?_
          refine g_splitL (t := 158) rfl (fun hg85 => ?_) (fun hg85 => ?_)
          ·
           have hg85b := hg85
           try simp only [decide_eq_true_eq, decide_eq_false_iff_not, Bool.not_eq_true', Bool.not_eq_false', Bool.and_eq_true, Bool.or_eq_true, Int.not_lt, Int.not_le, ne_eq, Decidable.not_not] at hg85
           refine l_off rfl rfl rfl hg85b ?_
           refine l_off rfl rfl rfl hg85b ?_
           refine l_off rfl rfl rfl hg85b ?_
           refine l_q rfl rfl (q_pickT rfl hg85b rfl) ?_
           refine l_q rfl rfl (q_moveB rfl) ?_
           refine l_off rfl rfl rfl rfl ?_
           refine l_off rfl rfl rfl rfl ?_
           refine l_off rfl rfl rfl rfl ?_
           refine l_off rfl rfl rfl rfl ?_
           refine l_off rfl rfl rfl rfl ?_
           refine l_offN rfl rfl rfl ?_
           refine l_offN rfl rfl rfl ?_
           refine l_offN rfl rfl rfl ?_
           refine l_off rfl rfl rfl rfl ?_
           refine l_q rfl rfl (q_pickT rfl rfl rfl) ?_
           refine l_nil ?_
           refine hK80 _ _ ?_
           refine c_condT rfl rfl ?_
           refine wp_seq_k (fun K87 hK87 => ?_)
           refine wp_region_lit ?_
           refine l_q rfl rfl (q_moveI rfl) ?_
           refine l_q rfl rfl (q_build (ps := [(0, 1), (1, 1)]) (zv := .agg #[.int .i64 0, .int .i64 0]) (by kernel_rfl) (by kernel_rfl) rfl (by repeat' (first | exact trivial | refine ⟨fun _ => by first | rfl | assumption | exact one_if (by assumption), ?_⟩ | refine ⟨fun ⟨_, h⟩ => by simp at h, ?_⟩)) rfl) ?_
           refine l_e rfl (fun K hK => ?_)
           refine e_storeA hS72 rfl rfl (by kernel_rfl) (by repeat' (first | exact trivial | refine ⟨by first | rfl | assumption | exact one_if (by assumption), ?_⟩)) (i := 1) rfl rfl (fun w88 (hS88 : St _ _ [_, _, _, _] _) => ?_)
           clear hS72
           refine hK _ _ ?_; clear hK K
           refine l_nil ?_
           refine hK87 _ _ ?_
           refine wp_ret ?_
           refine c_retC (m := 2) rfl (by kernel_rfl) (by kernel_rfl) rfl (by first | exact hS88.blk (i := 0) rfl | exact hS88.blk (i := 1) rfl | exact hS88.blk (i := 2) rfl | exact hS88.blk (i := 3) rfl | exact hS88.blk (i := 4) rfl) rfl ?_
           exact ⟨_, rfl, ⟨_, _, RtA.col hH hx62 hco (fit_no hft (by first | exact .inl (by assumption) | exact .inr (.inl (by omega)) | exact .inr (.inr ⟨by omega, by assumption⟩))), rfl⟩, hS88.drop⟩
          ·
           have hg85b := hg85
           try simp only [decide_eq_true_eq, decide_eq_false_iff_not, Bool.not_eq_true', Bool.not_eq_false', Bool.and_eq_true, Bool.or_eq_true, Int.not_lt, Int.not_le, ne_eq, Decidable.not_not] at hg85
           refine l_on rfl rfl hg85b ?_
           refine l_q rfl rfl (q_fieldAddr (ft := 23) (o := 1) rfl (by kernel_rfl)) ?_
           refine l_on rfl rfl hg85b ?_
           refine l_q rfl rfl (q_load1 rfl (by kernel_rfl) (hS72.cell (i := 3) rfl rfl)) ?_
           refine l_on rfl rfl hg85b ?_
           refine l_q rfl rfl (q_gtr rfl rfl) ?_
           refine l_q rfl rfl (q_pickF rfl hg85b rfl) ?_
           refine l_q rfl rfl (q_moveB rfl) ?_
           refine g_splitL (t := 163) rfl (fun hg89 => ?_) (fun hg89 => ?_)
           ·
            have hg89b := hg89
            try simp only [decide_eq_true_eq, decide_eq_false_iff_not, Bool.not_eq_true', Bool.not_eq_false', Bool.and_eq_true, Bool.or_eq_true, Int.not_lt, Int.not_le, ne_eq, Decidable.not_not] at hg89
            refine l_off rfl rfl rfl hg89b ?_
            refine l_off rfl rfl rfl hg89b ?_
            refine l_off rfl rfl rfl hg89b ?_
            refine l_off rfl rfl rfl hg89b ?_
            refine l_off rfl rfl rfl hg89b ?_
            refine l_offN rfl rfl rfl ?_
            refine l_offN rfl rfl rfl ?_
            refine l_offN rfl rfl rfl ?_
            refine l_off rfl rfl rfl hg89b ?_
            refine l_q rfl rfl (q_pickT rfl hg89b rfl) ?_
            refine l_nil ?_
            refine hK80 _ _ ?_
            refine c_condT rfl rfl ?_
            refine wp_seq_k (fun K91 hK91 => ?_)
            refine wp_region_lit ?_
            refine l_q rfl rfl (q_moveI rfl) ?_
            refine l_q rfl rfl (q_build (ps := [(0, 1), (1, 1)]) (zv := .agg #[.int .i64 0, .int .i64 0]) (by kernel_rfl) (by kernel_rfl) rfl (by repeat' (first | exact trivial | refine ⟨fun _ => by first | rfl | assumption | exact one_if (by assumption), ?_⟩ | refine ⟨fun ⟨_, h⟩ => by simp at h, ?_⟩)) rfl) ?_
            refine l_e rfl (fun K hK => ?_)
            refine e_storeA hS72 rfl rfl (by kernel_rfl) (by repeat' (first | exact trivial | refine ⟨by first | rfl | assumption | exact one_if (by assumption), ?_⟩)) (i := 1) rfl rfl (fun w92 (hS92 : St _ _ [_, _, _, _] _) => ?_)
            clear hS72
            refine hK _ _ ?_; clear hK K
            refine l_nil ?_
            refine hK91 _ _ ?_
            refine wp_ret ?_
            refine c_retC (m := 2) rfl (by kernel_rfl) (by kernel_rfl) rfl (by first | exact hS92.blk (i := 0) rfl | exact hS92.blk (i := 1) rfl | exact hS92.blk (i := 2) rfl | exact hS92.blk (i := 3) rfl | exact hS92.blk (i := 4) rfl) rfl ?_
            exact ⟨_, rfl, ⟨_, _, RtA.col hH hx62 hco (fit_no hft (by first | exact .inl (by assumption) | exact .inr (.inl (by omega)) | exact .inr (.inr ⟨by omega, by assumption⟩))), rfl⟩, hS92.drop⟩
           ·
            have hg89b := hg89
            try simp only [decide_eq_true_eq, decide_eq_false_iff_not, Bool.not_eq_true', Bool.not_eq_false', Bool.and_eq_true, Bool.or_eq_true, Int.not_lt, Int.not_le, ne_eq, Decidable.not_not] at hg89
            refine l_on rfl rfl hg89b ?_
            refine l_q rfl rfl (q_moveI rfl) ?_
            refine l_on rfl rfl hg89b ?_
            refine l_q rfl rfl (q_fieldAddr (ft := 3) (o := 2) rfl (by kernel_rfl)) ?_
            refine l_on rfl rfl hg89b ?_
            refine l_q rfl rfl (q_load1 rfl (by kernel_rfl) (hS72.cell (i := 0) rfl rfl)) ?_
            refine l_on rfl rfl hg89b ?_
            refine l_q rfl rfl (q_lss rfl rfl) ?_
            refine l_on rfl rfl hg89b ?_
            refine l_q rfl rfl (q_moveB rfl) ?_
            refine g_splitL (t := 168) rfl (fun hg93 => ?_) (fun hg93 => ?_)
            ·
             have hg93b := hg93
             try simp only [decide_eq_true_eq, decide_eq_false_iff_not, Bool.not_eq_true', Bool.not_eq_false', Bool.and_eq_true, Bool.or_eq_true, Int.not_lt, Int.not_le, ne_eq, Decidable.not_not] at hg93
             refine l_on rfl rfl hg93b ?_
             refine l_q rfl rfl (q_fieldAddr (ft := 4) (o := 2) rfl (by kernel_rfl)) ?_
             refine l_on rfl rfl hg93b ?_
             refine l_q rfl rfl (q_load1 rfl (by kernel_rfl) (hS72.cell (i := 3) rfl rfl)) ?_
             refine l_on rfl rfl hg93b ?_
             refine l_q rfl rfl (q_not rfl) ?_
             refine l_on rfl rfl hg89b ?_
             refine l_q rfl rfl (q_pickT rfl hg93b rfl) ?_
             refine l_q rfl rfl (q_pickF rfl hg89b rfl) ?_
             refine l_nil ?_
             refine hK80 _ _ ?_
             refine c_cond rfl (fun hc94 => ?_) (fun hc94 => ?_)
             ·
              have hc94b := hc94
              try simp only [decide_eq_true_eq, decide_eq_false_iff_not, Bool.not_eq_true', Bool.not_eq_false', Bool.and_eq_true, Bool.or_eq_true, Int.not_lt, Int.not_le, ne_eq, Decidable.not_not] at hc94
              refine wp_seq_k (fun K95 hK95 => ?_)
              refine wp_region_lit ?_
              refine l_q rfl rfl (q_moveI rfl) ?_
              refine l_q rfl rfl (q_build (ps := [(0, 1), (1, 1)]) (zv := .agg #[.int .i64 0, .int .i64 0]) (by kernel_rfl) (by kernel_rfl) rfl (by repeat' (first | exact trivial | refine ⟨fun _ => by first | rfl | assumption | exact one_if (by assumption), ?_⟩ | refine ⟨fun ⟨_, h⟩ => by simp at h, ?_⟩)) rfl) ?_
              refine l_e rfl (fun K hK => ?_)
              refine e_storeA hS72 rfl rfl (by kernel_rfl) (by repeat' (first | exact trivial | refine ⟨by first | rfl | assumption | exact one_if (by assumption), ?_⟩)) (i := 1) rfl rfl (fun w96 (hS96 : St _ _ [_, _, _, _] _) => ?_)
              clear hS72
              refine hK _ _ ?_; clear hK K
              refine l_nil ?_
              refine hK95 _ _ ?_
              refine wp_ret ?_
              refine c_retC (m := 2) rfl (by kernel_rfl) (by kernel_rfl) rfl (by first | exact hS96.blk (i := 0) rfl | exact hS96.blk (i := 1) rfl | exact hS96.blk (i := 2) rfl | exact hS96.blk (i := 3) rfl | exact hS96.blk (i := 4) rfl) rfl ?_
              exact ⟨_, rfl, ⟨_, _, RtA.col hH hx62 hco (fit_no hft (by first | exact .inl (by assumption) | exact .inr (.inl (by omega)) | exact .inr (.inr ⟨by omega, by assumption⟩))), rfl⟩, hS96.drop⟩
             ·
              have hc94b := hc94
              try simp only [decide_eq_true_eq, decide_eq_false_iff_not, Bool.not_eq_true', Bool.not_eq_false', Bool.and_eq_true, Bool.or_eq_true, Int.not_lt, Int.not_le, ne_eq, Decidable.not_not] at hc94
              refine wp_skip ?_
              refine hK60 _ _ ?_
              refine wp_region_lit ?_
              refine l_q rfl rfl (q_moveI rfl) ?_
              refine l_q rfl rfl (q_addx rfl rfl (by first | decide | omega) (by first | decide | omega)) ?_
              refine l_q rfl rfl (q_assignI rfl) ?_
              refine l_nil ?_
              have hS97 : St _ _ [_, _, _] _ := hS72.only 3; clear hS72
              refine hK56 _ _ (came ((i + 1)) (by repeat' (first | exact Agree.refl _ _ | refine Agree.up ?_ rfl | refine Agree.hav2 ?_ rfl | refine Agree.ups2 ?_ rfl)) (by repeat' (first | exact trivial | refine ⟨by first | rfl | exact int_succ _ | assumption, ?_⟩)) ?_)
              exact ⟨⟨hS97, (by show i + 1 ≤ t.cs.length; omega), hco.next hx62 (fit_col hft (by assumption) (by omega) (fun h => by first | omega | assumption))⟩, by (show t.cs.length - (i + 1) < t.cs.length - i); omega⟩
            ·
             have hg93b := hg93
             try simp only [decide_eq_true_eq, decide_eq_false_iff_not, Bool.not_eq_true', Bool.not_eq_false', Bool.and_eq_true, Bool.or_eq_true, Int.not_lt, Int.not_le, ne_eq, Decidable.not_not] at hg93
             refine l_off rfl rfl rfl hg93b ?_
             refine l_off rfl rfl rfl hg93b ?_
             refine l_off rfl rfl rfl hg93b ?_
             refine l_on rfl rfl hg89b ?_
             refine l_q rfl rfl (q_pickF rfl hg93b rfl) ?_
             refine l_q rfl rfl (q_pickF rfl hg89b rfl) ?_
             refine l_nil ?_
             refine hK80 _ _ ?_
             refine c_condF rfl rfl ?_
             refine wp_skip ?_
             refine hK60 _ _ ?_
             refine wp_region_lit ?_
             refine l_q rfl rfl (q_moveI rfl) ?_
             refine l_q rfl rfl (q_addx rfl rfl (by first | decide | omega) (by first | decide | omega)) ?_
             refine l_q rfl rfl (q_assignI rfl) ?_
             refine l_nil ?_
             have hS99 : St _ _ [_, _, _] _ := hS72.only 3; clear hS72
             refine hK56 _ _ (came ((i + 1)) (by repeat' (first | exact Agree.refl _ _ | refine Agree.up ?_ rfl | refine Agree.hav2 ?_ rfl | refine Agree.ups2 ?_ rfl)) (by repeat' (first | exact trivial | refine ⟨by first | rfl | exact int_succ _ | assumption, ?_⟩)) ?_)
             exact ⟨⟨hS99, (by show i + 1 ≤ t.cs.length; omega), hco.next hx62 (fit_col hft (by assumption) (by omega) (fun h => by first | omega | assumption))⟩, by (show t.cs.length - (i + 1) < t.cs.length - i); omega⟩
      ·
       have hc59b := hc59
       try simp only [decide_eq_true_eq, decide_eq_false_iff_not, Bool.not_eq_true', Bool.not_eq_false', Bool.and_eq_true, Bool.or_eq_true, Int.not_lt, Int.not_le, ne_eq, Decidable.not_not] at hc59
       refine wp_exit ?_
       refine hK54 _ _ ?_
       refine wp_seq_k (fun K100 hK100 => ?_)
       refine wp_region_lit ?_
       refine l_e rfl (fun K hK => ?_)
       refine e_call (by kernel_rfl) (fine_ok _) rfl (after_R hS56 (fun v101 w101 hv101 hS101 => ?_))
       clear hS56
       obtain rfl := hv101
       refine hK _ _ ?_; clear hK K
       refine l_e rfl (fun K hK => ?_)
       refine e_storeA hS101 rfl rfl (by kernel_rfl) (by repeat' (first | exact trivial | refine ⟨by first | rfl | assumption | exact one_if (by assumption), ?_⟩)) (i := 1) rfl rfl (fun w102 (hS102 : St _ _ [_, .blk b3 (.cells #[.int .i64 (0 : Int), .int .i64 (-1 : Int)] 51), _] _) => ?_)
       clear hS101
       refine hK _ _ ?_; clear hK K
       refine l_nil ?_
       refine hK100 _ _ ?_
       refine wp_ret ?_
       refine c_retC (m := 2) rfl (by kernel_rfl) (by kernel_rfl) rfl (by first | exact hS102.blk (i := 0) rfl | exact hS102.blk (i := 1) rfl | exact hS102.blk (i := 2) rfl | exact hS102.blk (i := 3) rfl | exact hS102.blk (i := 4) rfl) rfl ?_
       have hii : i = t.cs.length := by omega
       rw [hii] at hco
       exact ⟨_, rfl, ⟨_, _, RtA.ok hH hco, rfl⟩, hS102.drop⟩

end Go.Proofs.YtmemgpcgjephmaaDoor
