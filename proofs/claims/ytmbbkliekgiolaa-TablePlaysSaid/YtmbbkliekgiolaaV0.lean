/- Package disk, bytes.Clone: contracts. -/
import Derived.Test.YtmbbkliekgiolaaW1
set_option linter.unusedVariables false
set_option linter.unusedSimpArgs false
namespace Go.Proofs.Ytmbbkliekgiolaa
open Go.RowKit
theorem SlG.slr {w : World} {ad : Option Addr} {xs : List Value} (h : SlG (hw w) ad xs) : SlR (Ro w fun _ => False) w ad xs := by
  rcases h with h | ⟨b, off, arr, T, fz, ha, hb, hx⟩
  · exact .inl h
  · exact .inr ⟨b, off, arr, T, fz, ha, ⟨(Array.getElem?_eq_some_iff.1 hb).1, id⟩, hb, hx⟩
abbrev pV (k : Nat) : Value := .pointer (some ⟨k, 0, none⟩)
/-- A disk's struct; a disk. -/
abbrev dO (ad : Option Addr) (m cap b s : Nat) : Obj := .cells #[.slice ad m cap, .int .i64 ((b : Nat) : Int), .int .i64 ((s : Nat) : Int)] 119
def dk (k : Nat) (ad : Option Addr) (cap : Nat) (l : List Nat) (b s : Nat) : Ch := .pk [.blk k (dO ad l.length cap b s), .ow 5 1 ad l.length cap (bv l)]
/-- What D1's Append leaves and answers. -/
def apL (l m : List Nat) : List Nat := if l.length + m.length ≤ 1048576 then l ++ m else l
def apE (l m : List Nat) : Nat := if l.length + m.length ≤ 1048576 then 0 else 62
def apN (l m : List Nat) (b : Nat) : Nat := if l.length + m.length ≤ 1048576 then b + l.length else 0
section
variable {w0 w : World} {D : Nat → Prop} {Γ : List Ch} {k cap b s : Nat} {ad : Option Addr} {l : List Nat}
theorem dk_open (h : St w0 D (dk k ad cap l b s :: Γ) w) : St w0 D (.blk k (dO ad l.length cap b s) :: .ow 5 1 ad l.length cap (bv l) :: Γ) w := h.unpk
theorem dk_close (h : St w0 D (.blk k (dO ad l.length cap b s) :: .ow 5 1 ad l.length cap (bv l) :: Γ) w) : St w0 D (dk k ad cap l b s :: Γ) w := h.pk
end
attribute [local irreducible] Oper.wp Sem.run Code.wp wpList wpAnyO callFunc execOp Calls

set_option maxRecDepth 100000 in
theorem Clone_ok (l : List Nat) (ad : Option Addr) (cap m : Nat) (hm : l.length = m) (hn : m ≤ 4000000000) (w : World) (hG : SlG (hw w) ad (bv l)) : Calls Try.prog 63 #[.slice ad m cap] w (PostN w fun v G => ∃ ad' cap', v = .slice ad' m cap' ∧ G = [.ow 5 1 ad' m cap' (bv l)]) := by
  have hS := St.start w
  have hl : True := trivial
  refine c_enter Try.func63 rfl rfl rfl ?_
  refine wp_seq_k (fun K1 hK1 => ?_)
  refine wp_region_lit ?_
  refine l_q rfl rfl (q_assignS rfl) ?_
  refine l_nil ?_
  refine hK1 _ _ ?_
  refine wp_seq_k (fun K2 hK2 => ?_)
  refine wp_seq_k (fun K3 hK3 => ?_)
  refine wp_region_lit ?_
  refine l_q rfl rfl (q_moveS rfl) ?_
  refine l_q rfl rfl (q_slice_eql 5 rfl rfl (by kernel_rfl)) ?_
  refine l_nil ?_
  refine hK3 _ _ ?_
  refine c_cond rfl (fun hc4 => ?_) (fun hc4 => ?_)
  ·
    have hc4b := hc4
    try simp only [decide_eq_true_eq, decide_eq_false_iff_not, Bool.not_eq_true', Bool.not_eq_false', Bool.and_eq_true, Bool.or_eq_true, Int.not_lt, Int.not_le, ne_eq, Decidable.not_not] at hc4
    have ha := hc4
    obtain rfl : ad = none := by cases ad with | none => rfl | some a => cases ha
    obtain rfl : l = [] := List.map_eq_nil_iff.1 (SlG.ofNone hG)
    subst hm
    refine wp_seq_k (fun K5 hK5 => ?_)
    refine wp_region_lit ?_
    refine l_q rfl rfl (q_assignS rfl) ?_
    refine l_nil ?_
    refine hK5 _ _ ?_
    refine wp_ret ?_
    refine c_ret1 rfl rfl ?_
    exact ⟨_, _, rfl, ⟨_, _, rfl, rfl⟩, hS.ow_nil _ _⟩
  ·
    have hc4b := hc4
    try simp only [decide_eq_true_eq, decide_eq_false_iff_not, Bool.not_eq_true', Bool.not_eq_false', Bool.and_eq_true, Bool.or_eq_true, Int.not_lt, Int.not_le, ne_eq, Decidable.not_not] at hc4
    refine wp_skip ?_
    refine hK2 _ _ ?_
    refine wp_seq_k (fun K6 hK6 => ?_)
    refine wp_region_lit ?_
    refine l_e rfl (fun K hK => ?_)
    refine e_buildSlice1 (e := 5) (zv := .int .u8 0) (xs := []) hS (by kernel_rfl) (by kernel_rfl) (by kernel_rfl) rfl rfl rfl rfl ((by intro u hu; cases hu)) rfl (fun b7 w7 (hS7 : St _ _ [.blk b7 (.cells #[] 5)] _) => ?_)
    clear hS
    have hS7o : St _ _ [.ow 5 1 (some ⟨b7, 0, none⟩) 0 0 (bv [])] _ := hS7.blkOw' (i := 0) (m := 0) (size := 1) (xs := bv []) rfl rfl rfl (by decide); clear hS7
    refine hK _ _ ?_; clear hK K
    refine l_q rfl rfl (q_moveS rfl) ?_
    refine l_e rfl (fun K hK => ?_)
    refine e_app (e := 5) (size := 1) (bytes := 1) (i := 0) (m' := m) (by kernel_rfl) hS7o rfl rfl rfl (SlG.src (e := 5) (by kernel_rfl) (hG.mono hS7o.base) (by first | (simp only [List.length_append, List.length_map, List.length_cons, List.length_nil, List.length_take, List.length_drop, List.length_set, Nat.mul_one]; done) | (simp only [List.length_append, List.length_map, List.length_cons, List.length_nil, List.length_take, List.length_drop, List.length_set]; omega) | rfl | (simp; done)) (by decide) (bv_one _)) (by first | omega | (simp only [List.length_append, List.length_map, List.length_cons, List.length_nil, List.length_take, List.length_drop, List.length_set]; omega) | (simp; done)) rfl (by first | omega | (simp only [maxLen, List.length_append, List.length_map, List.length_cons, List.length_nil, List.length_take, List.length_drop, List.length_set] <;> omega) | (simp only [maxLen]; omega)) (by first | omega | (simp only [List.length_append, List.length_map, List.length_cons, List.length_nil, List.length_take, List.length_drop, List.length_set] <;> omega)) (fun ad8 cp8 w8 (hS8 : St _ _ [.ow 5 1 ad8 m cp8 (bv l)] _) => ?_)
    clear hS7o
    refine hK _ _ ?_; clear hK K
    refine l_q rfl rfl (q_assignS rfl) ?_
    refine l_nil ?_
    refine hK6 _ _ ?_
    refine wp_ret ?_
    refine c_ret1 rfl rfl ?_
    exact ⟨_, _, rfl, ⟨_, _, rfl, rfl⟩, hS8⟩

set_option maxRecDepth 100000 in
theorem dNew_ok (w : World) : Calls Try.prog 29 #[] w (PostN w fun v G => ∃ k, v = pV k ∧ G = [dk k none 0 [] 0 0]) := by
  have hS := St.start w
  refine c_enter Try.func29 rfl rfl rfl ?_
  refine wp_seq_k (fun K1 hK1 => ?_)
  refine wp_region_lit ?_
  refine l_q rfl rfl (q_assignP rfl) ?_
  refine l_nil ?_
  refine hK1 _ _ ?_
  refine wp_seq_k (fun K2 hK2 => ?_)
  refine wp_region_lit ?_
  refine l_q rfl rfl (q_build (ps := [(0, 1), (1, 1), (2, 1)]) (zv := .agg #[.slice none 0 0, .int .i64 0, .int .i64 0]) (by kernel_rfl) (by kernel_rfl) rfl (by repeat' (first | exact trivial | refine ⟨fun _ => by first | rfl | assumption | exact one_if (by assumption), ?_⟩ | refine ⟨fun ⟨_, h⟩ => by simp at h, ?_⟩)) rfl) ?_
  refine l_e rfl (fun K hK => ?_)
  refine e_boxA hS rfl (fun b3 w3 (hS3 : St _ _ [.blk b3 (.cells #[.slice none 0 0, .int .i64 (0 : Int), .int .i64 (0 : Int)] 119)] _) => ?_)
  clear hS
  refine hK _ _ ?_; clear hK K
  refine l_q rfl rfl (q_assignP rfl) ?_
  refine l_nil ?_
  refine hK2 _ _ ?_
  refine wp_ret ?_
  refine c_ret1 rfl rfl ?_
  have hSn := hS3.ow_nil 5 1
  exact ⟨_, _, rfl, ⟨_, rfl, rfl⟩, dk_close (l := []) (hSn.fr1)⟩

set_option maxRecDepth 100000 in
theorem dBegin_ok (k : Nat) (ad : Option Addr) (cap : Nat) (l : List Nat) (b s : Nat)  (w : World) (hS : St w (owns [dk k ad cap l b s]) [dk k ad cap l b s] w) : Calls Try.prog 57 #[pV k] w (Post w [dk k ad cap l b s] fun v G => v = .int .i64 ((b : Nat) : Int) ∧ G = [dk k ad cap l b s]) := by
  refine c_enter Try.func57 rfl rfl rfl ?_
  refine wp_seq_k (fun K1 hK1 => ?_)
  have hS2 := dk_open hS; clear hS
  refine wp_region_lit ?_
  refine l_q rfl rfl (q_assignI rfl) ?_
  refine l_nil ?_
  refine hK1 _ _ ?_
  refine wp_seq_k (fun K3 hK3 => ?_)
  refine wp_seq_k (fun K4 hK4 => ?_)
  refine wp_region_lit ?_
  refine l_q rfl rfl (q_moveP rfl) ?_
  refine l_q rfl rfl (q_peq rfl (by kernel_rfl)) ?_
  refine l_nil ?_
  refine hK4 _ _ ?_
  refine c_condF rfl rfl ?_
  refine wp_skip ?_
  refine hK3 _ _ ?_
  refine wp_seq_k (fun K6 hK6 => ?_)
  refine wp_region_lit ?_
  refine l_q rfl rfl (q_moveP rfl) ?_
  refine l_q rfl rfl (q_nilCheck rfl) ?_
  refine l_q rfl rfl (q_fieldAddr (ft := 3) (o := 1) rfl (by kernel_rfl)) ?_
  refine l_q rfl rfl (q_load1 rfl (by kernel_rfl) (hS2.cell (i := 0) rfl rfl)) ?_
  refine l_q rfl rfl (q_assignI rfl) ?_
  refine l_nil ?_
  refine hK6 _ _ ?_
  refine wp_ret ?_
  refine c_ret1 rfl rfl ?_
  have hS7 := dk_close hS2; clear hS2
  exact ⟨_, _, rfl, ⟨rfl, rfl⟩, hS7⟩

set_option maxRecDepth 100000 in
theorem dEnd_ok (k : Nat) (ad : Option Addr) (cap : Nat) (l : List Nat) (b s : Nat)  (hl : Bytes l) (hb : b + l.length ≤ 2000000000) (hs : s ≤ l.length) (w : World) (hS : St w (owns [dk k ad cap l b s]) [dk k ad cap l b s] w) : Calls Try.prog 33 #[pV k] w (Post w [dk k ad cap l b s] fun v G => v = .int .i64 (((b + l.length) : Nat) : Int) ∧ G = [dk k ad cap l b s]) := by
  refine c_enter Try.func33 rfl rfl rfl ?_
  refine wp_seq_k (fun K1 hK1 => ?_)
  have hS2 := dk_open hS; clear hS
  refine wp_region_lit ?_
  refine l_q rfl rfl (q_assignI rfl) ?_
  refine l_nil ?_
  refine hK1 _ _ ?_
  refine wp_seq_k (fun K3 hK3 => ?_)
  refine wp_seq_k (fun K4 hK4 => ?_)
  refine wp_region_lit ?_
  refine l_q rfl rfl (q_moveP rfl) ?_
  refine l_q rfl rfl (q_peq rfl (by kernel_rfl)) ?_
  refine l_nil ?_
  refine hK4 _ _ ?_
  refine c_condF rfl rfl ?_
  refine wp_skip ?_
  refine hK3 _ _ ?_
  refine wp_seq_k (fun K6 hK6 => ?_)
  refine r_any (by kernel_rfl) hS2 (fun w7 hS7 => ?_)
  clear hS2
  refine o_pure (i := 0) (fun _ _ => trivial) rfl rfl (by kernel_rfl) (goes0 rfl) (QOk.then QOk.body) (fun w => q_moveP rfl) ?_
  refine o_pure (i := 1) (fun _ _ => trivial) rfl rfl (by kernel_rfl) (goes0 rfl) (QOk.then QOk.body) (fun w => q_nilCheck rfl) ?_
  refine o_pure (i := 2) (fun _ _ => trivial) rfl rfl (by kernel_rfl) (goes0 rfl) (QOk.then QOk.body) (fun w => q_fieldAddr (ft := 3) (o := 1) rfl (by kernel_rfl)) ?_
  refine o_held (i := 3) [9, 10] (fun _ _ => trivial) rfl rfl (by kernel_rfl) (goes0 rfl) (QOk.then QOk.body) (q_load1 rfl (by kernel_rfl) (hS7.cell (i := 0) rfl rfl)) ?_
  refine o_pure (i := 4) (fun j w => ⟨(fun _ _ => trivial) j w, fun _ h => h⟩) rfl rfl (by kernel_rfl) (goes0 rfl) (QOk.then QOk.body) (fun w => q_moveP rfl) ?_
  refine o_pure (i := 5) (fun j w => ⟨(fun _ _ => trivial) j w, fun _ h => h⟩) rfl rfl (by kernel_rfl) (goes0 rfl) (QOk.then QOk.body) (fun w => q_nilCheck rfl) ?_
  refine o_pure (i := 6) (fun j w => ⟨(fun _ _ => trivial) j w, fun _ h => h⟩) rfl rfl (by kernel_rfl) (goes0 rfl) (QOk.then QOk.body) (fun w => q_fieldAddr (ft := 23) (o := 0) rfl (by kernel_rfl)) ?_
  refine o_held (i := 7) [8, 9, 10] (fun j w => ⟨(fun _ _ => trivial) j w, fun _ h => h⟩) rfl rfl (by kernel_rfl) (goes0 rfl) (QOk.then QOk.body) (q_load1 rfl (by kernel_rfl) (hS7.cell (i := 0) rfl rfl)) ?_
  refine o_pure (i := 8) (fun j w => ⟨(fun j w => ⟨(fun _ _ => trivial) j w, fun _ h => h⟩) j w, fun _ h => h⟩) rfl rfl (by kernel_rfl) (goes0 rfl) (QOk.then QOk.body) (fun w => q_lenSl (e := 5) rfl (by kernel_rfl)) ?_
  refine o_pure (i := 9) (fun j w => ⟨(fun j w => ⟨(fun _ _ => trivial) j w, fun _ h => h⟩) j w, fun _ h => h⟩) rfl rfl (by kernel_rfl) (goes0 rfl) (QOk.then QOk.body) (fun w => q_addx rfl rfl (by first | decide | omega) (by first | decide | omega)) ?_
  refine o_pure (i := 10) (fun j w => ⟨(fun j w => ⟨(fun _ _ => trivial) j w, fun _ h => h⟩) j w, fun _ h => h⟩) rfl rfl (by kernel_rfl) (goes0 rfl) (QOk.then QOk.body) (fun w => q_assignI rfl) ?_
  refine o_done (by kernel_rfl) ?_
  refine hK6 _ _ ?_
  refine wp_ret ?_
  refine c_ret1 rfl rfl ?_
  have hS8 := dk_close hS7; clear hS7
  exact ⟨_, _, rfl, ⟨rfl, rfl⟩, hS8⟩

set_option maxRecDepth 100000 in
theorem dSafe_ok (k : Nat) (ad : Option Addr) (cap : Nat) (l : List Nat) (b s : Nat)  (hl : Bytes l) (hb : b + l.length ≤ 2000000000) (hs : s ≤ l.length) (w : World) (hS : St w (owns [dk k ad cap l b s]) [dk k ad cap l b s] w) : Calls Try.prog 35 #[pV k] w (Post w [dk k ad cap l b s] fun v G => v = .int .i64 (((b + s) : Nat) : Int) ∧ G = [dk k ad cap l b s]) := by
  refine c_enter Try.func35 rfl rfl rfl ?_
  refine wp_seq_k (fun K1 hK1 => ?_)
  have hS2 := dk_open hS; clear hS
  refine wp_region_lit ?_
  refine l_q rfl rfl (q_assignI rfl) ?_
  refine l_nil ?_
  refine hK1 _ _ ?_
  refine wp_seq_k (fun K3 hK3 => ?_)
  refine wp_seq_k (fun K4 hK4 => ?_)
  refine wp_region_lit ?_
  refine l_q rfl rfl (q_moveP rfl) ?_
  refine l_q rfl rfl (q_peq rfl (by kernel_rfl)) ?_
  refine l_nil ?_
  refine hK4 _ _ ?_
  refine c_condF rfl rfl ?_
  refine wp_skip ?_
  refine hK3 _ _ ?_
  refine wp_seq_k (fun K6 hK6 => ?_)
  refine r_any (by kernel_rfl) hS2 (fun w7 hS7 => ?_)
  clear hS2
  refine o_pure (i := 0) (fun _ _ => trivial) rfl rfl (by kernel_rfl) (goes0 rfl) (QOk.then QOk.body) (fun w => q_moveP rfl) ?_
  refine o_pure (i := 1) (fun _ _ => trivial) rfl rfl (by kernel_rfl) (goes0 rfl) (QOk.then QOk.body) (fun w => q_nilCheck rfl) ?_
  refine o_pure (i := 2) (fun _ _ => trivial) rfl rfl (by kernel_rfl) (goes0 rfl) (QOk.then QOk.body) (fun w => q_fieldAddr (ft := 3) (o := 1) rfl (by kernel_rfl)) ?_
  refine o_held (i := 3) [8, 9] (fun _ _ => trivial) rfl rfl (by kernel_rfl) (goes0 rfl) (QOk.then QOk.body) (q_load1 rfl (by kernel_rfl) (hS7.cell (i := 0) rfl rfl)) ?_
  refine o_pure (i := 4) (fun j w => ⟨(fun _ _ => trivial) j w, fun _ h => h⟩) rfl rfl (by kernel_rfl) (goes0 rfl) (QOk.then QOk.body) (fun w => q_moveP rfl) ?_
  refine o_pure (i := 5) (fun j w => ⟨(fun _ _ => trivial) j w, fun _ h => h⟩) rfl rfl (by kernel_rfl) (goes0 rfl) (QOk.then QOk.body) (fun w => q_nilCheck rfl) ?_
  refine o_pure (i := 6) (fun j w => ⟨(fun _ _ => trivial) j w, fun _ h => h⟩) rfl rfl (by kernel_rfl) (goes0 rfl) (QOk.then QOk.body) (fun w => q_fieldAddr (ft := 3) (o := 2) rfl (by kernel_rfl)) ?_
  refine o_held (i := 7) [8, 9] (fun j w => ⟨(fun _ _ => trivial) j w, fun _ h => h⟩) rfl rfl (by kernel_rfl) (goes0 rfl) (QOk.then QOk.body) (q_load1 rfl (by kernel_rfl) (hS7.cell (i := 0) rfl rfl)) ?_
  refine o_pure (i := 8) (fun j w => ⟨(fun j w => ⟨(fun _ _ => trivial) j w, fun _ h => h⟩) j w, fun _ h => h⟩) rfl rfl (by kernel_rfl) (goes0 rfl) (QOk.then QOk.body) (fun w => q_addx rfl rfl (by first | decide | omega) (by first | decide | omega)) ?_
  refine o_pure (i := 9) (fun j w => ⟨(fun j w => ⟨(fun _ _ => trivial) j w, fun _ h => h⟩) j w, fun _ h => h⟩) rfl rfl (by kernel_rfl) (goes0 rfl) (QOk.then QOk.body) (fun w => q_assignI rfl) ?_
  refine o_done (by kernel_rfl) ?_
  refine hK6 _ _ ?_
  refine wp_ret ?_
  refine c_ret1 rfl rfl ?_
  have hS8 := dk_close hS7; clear hS7
  exact ⟨_, _, rfl, ⟨rfl, rfl⟩, hS8⟩

set_option maxRecDepth 100000 in
theorem dSync_ok (k : Nat) (ad : Option Addr) (cap : Nat) (l : List Nat) (b s : Nat)  (w : World) (hS : St w (owns [dk k ad cap l b s]) [dk k ad cap l b s] w) : Calls Try.prog 72 #[pV k] w (Post w [dk k ad cap l b s] fun v G => v = .int .i64 0 ∧ G = [dk k ad cap l b l.length]) := by
  refine c_enter Try.func72 rfl rfl rfl ?_
  refine wp_seq_k (fun K1 hK1 => ?_)
  have hS2 := dk_open hS; clear hS
  refine wp_region_lit ?_
  refine l_q rfl rfl (q_assignI rfl) ?_
  refine l_nil ?_
  refine hK1 _ _ ?_
  refine wp_seq_k (fun K3 hK3 => ?_)
  refine wp_seq_k (fun K4 hK4 => ?_)
  refine wp_region_lit ?_
  refine l_q rfl rfl (q_moveP rfl) ?_
  refine l_q rfl rfl (q_peq rfl (by kernel_rfl)) ?_
  refine l_nil ?_
  refine hK4 _ _ ?_
  refine c_condF rfl rfl ?_
  refine wp_skip ?_
  refine hK3 _ _ ?_
  refine wp_seq_k (fun K6 hK6 => ?_)
  refine wp_region_lit ?_
  refine l_q rfl rfl (q_moveP rfl) ?_
  refine l_q rfl rfl (q_moveP rfl) ?_
  refine l_q rfl rfl (q_nilCheck rfl) ?_
  refine l_q rfl rfl (q_fieldAddr (ft := 23) (o := 0) rfl (by kernel_rfl)) ?_
  refine l_q rfl rfl (q_load1 rfl (by kernel_rfl) (hS2.cell (i := 0) rfl rfl)) ?_
  refine l_q rfl rfl (q_lenSl (e := 5) rfl (by kernel_rfl)) ?_
  refine l_q rfl rfl (q_nilCheck rfl) ?_
  refine l_q rfl rfl (q_fieldAddr (ft := 3) (o := 2) rfl (by kernel_rfl)) ?_
  refine l_e rfl (fun K hK => ?_)
  refine e_store1 hS2 rfl rfl (by kernel_rfl) (by first | rfl | assumption) (i := 0) rfl rfl (fun w7 (hS7 : St _ _ [.blk k (.cells #[.slice ad l.length cap, .int .i64 ((b : Nat) : Int), .int .i64 ((l.length : Nat) : Int)] 119), .ow 5 1 ad l.length cap (bv l)] _) => ?_)
  clear hS2
  refine hK _ _ ?_; clear hK K
  refine l_nil ?_
  refine hK6 _ _ ?_
  refine wp_seq_k (fun K8 hK8 => ?_)
  refine wp_region_lit ?_
  refine l_q rfl rfl (q_assignI rfl) ?_
  refine l_nil ?_
  refine hK8 _ _ ?_
  refine wp_ret ?_
  refine c_ret1 rfl rfl ?_
  have hS9 := dk_close hS7; clear hS7
  exact ⟨_, _, rfl, ⟨rfl, rfl⟩, hS9⟩

set_option maxRecDepth 100000 in
theorem dAppend_ok (k : Nat) (ad : Option Addr) (cap : Nat) (l : List Nat) (b s : Nat) (hl : Bytes l) (hb : b + l.length ≤ 2000000000) (hs : s ≤ l.length) (nm : Nat) (g : Gh) (m : List Nat) (hm : Bytes m) (am : Option Addr) (cm : Nat) (hM : SlG g am (bv m)) (w : World) (hg : Rog [dk k ad cap l b s] w g) (hnm : m.length = nm) (hbm : b + l.length + m.length ≤ 2000000000) (hS : St w (owns [dk k ad cap l b s]) [dk k ad cap l b s] w) : Calls Try.prog 34 #[pV k, .slice am nm cm] w (Post w [dk k ad cap l b s] fun v G => ∃ ad' cap', v = .tuple #[.int .i64 ((apN l m b : Nat) : Int), .int .i64 ((apE l m : Nat) : Int)] ∧ G = [dk k ad' cap' (apL l m) b s]) := by
  subst hnm
  refine c_enter Try.func34 rfl rfl rfl ?_
  refine wp_seq_k (fun K1 hK1 => ?_)
  have hS2 := dk_open hS; clear hS
  refine wp_region_lit ?_
  refine l_q rfl rfl (q_assignI rfl) ?_
  refine l_q rfl rfl (q_assignI rfl) ?_
  refine l_nil ?_
  refine hK1 _ _ ?_
  refine wp_seq_k (fun K3 hK3 => ?_)
  refine wp_block ?_
  refine wp_seq_k (fun K4 hK4 => ?_)
  refine wp_region_lit ?_
  refine l_q rfl rfl (q_moveP rfl) ?_
  refine l_q rfl rfl (q_peq rfl (by kernel_rfl)) ?_
  refine l_q rfl rfl (q_assignB rfl) ?_
  refine l_nil ?_
  refine hK4 _ _ ?_
  refine c_condF rfl rfl ?_
  refine wp_seq_k (fun K6 hK6 => ?_)
  refine wp_region_lit ?_
  refine l_q rfl rfl (q_moveS rfl) ?_
  refine l_q rfl rfl (q_lenSl (e := 5) rfl (by kernel_rfl)) ?_
  refine l_q rfl rfl (q_moveP rfl) ?_
  refine l_q rfl rfl (q_nilCheck rfl) ?_
  refine l_q rfl rfl (q_fieldAddr (ft := 23) (o := 0) rfl (by kernel_rfl)) ?_
  refine l_q rfl rfl (q_load1 rfl (by kernel_rfl) (hS2.cell (i := 0) rfl rfl)) ?_
  refine l_q rfl rfl (q_lenSl (e := 5) rfl (by kernel_rfl)) ?_
  refine l_q rfl rfl (q_subx rfl rfl (by first | decide | omega) (by first | decide | omega)) ?_
  refine l_q rfl rfl (q_gtr rfl rfl) ?_
  refine l_q rfl rfl (q_assignB rfl) ?_
  refine l_nil ?_
  refine hK6 _ _ ?_
  refine c_cond rfl (fun hc7 => ?_) (fun hc7 => ?_)
  ·
    have hc7b := hc7
    try simp only [decide_eq_true_eq, decide_eq_false_iff_not, Bool.not_eq_true', Bool.not_eq_false', Bool.and_eq_true, Bool.or_eq_true, Int.not_lt, Int.not_le, ne_eq, Decidable.not_not] at hc7
    have hx : ¬ (l.length + m.length ≤ 1048576) := by omega
    refine wp_seq_k (fun K8 hK8 => ?_)
    refine wp_region_lit ?_
    refine l_q rfl rfl (q_assignI rfl) ?_
    refine l_q rfl rfl (q_assignI rfl) ?_
    refine l_nil ?_
    refine hK8 _ _ ?_
    refine wp_ret ?_
    refine c_ret2 rfl rfl rfl ?_
    have hS9 := dk_close hS2; clear hS2
    exact ⟨_, _, rfl, ⟨ad, cap, by rw [apN, apE, if_neg hx, if_neg hx]; rfl, by rw [apL, if_neg hx]⟩, hS9⟩
  ·
    have hc7b := hc7
    try simp only [decide_eq_true_eq, decide_eq_false_iff_not, Bool.not_eq_true', Bool.not_eq_false', Bool.and_eq_true, Bool.or_eq_true, Int.not_lt, Int.not_le, ne_eq, Decidable.not_not] at hc7
    have hx : l.length + m.length ≤ 1048576 := by omega
    refine wp_skip ?_
    refine hK3 _ _ ?_
    refine wp_seq_k (fun K10 hK10 => ?_)
    refine wp_region_lit ?_
    refine l_q rfl rfl (q_moveP rfl) ?_
    refine l_e rfl (fun K hK => ?_)
    have hS12 := dk_close hS2; clear hS2
    refine e_call (by kernel_rfl) (dEnd_ok _ _ _ _ _ _ hl (by first | omega | (simp; omega)) (by first | omega | (simp; omega)) _ (St.begin (Γ := [_]) hS12)) rfl (after_M (Γ1 := [_]) hS12 (fun v11 G11 w11 hv11 hS11 => ?_))
    clear hS12
    obtain ⟨rfl, rfl⟩ := hv11
    have hS13 : St _ _ [dk k ad cap l b s] _ := hS11; clear hS11
    refine hK _ _ ?_; clear hK K
    refine l_q rfl rfl (q_assignI rfl) ?_
    refine l_nil ?_
    refine hK10 _ _ ?_
    refine wp_seq_k (fun K14 hK14 => ?_)
    refine wp_region_lit ?_
    refine l_q rfl rfl (q_moveP rfl) ?_
    refine l_q rfl rfl (q_moveP rfl) ?_
    refine l_q rfl rfl (q_nilCheck rfl) ?_
    refine l_q rfl rfl (q_fieldAddr (ft := 23) (o := 0) rfl (by kernel_rfl)) ?_
    have hS15 := dk_open hS13; clear hS13
    refine l_q rfl rfl (q_load1 rfl (by kernel_rfl) (hS15.cell (i := 0) rfl rfl)) ?_
    refine l_q rfl rfl (q_moveS rfl) ?_
    refine l_e rfl (fun K hK => ?_)
    have hB16 : Bytes (l ++ m) := Bytes.app hl hm
    refine e_app (e := 5) (size := 1) (bytes := 1) (i := 1) (m' := (l ++ m).length) (by kernel_rfl) hS15 rfl rfl rfl (SlG.src (e := 5) (by kernel_rfl) (hM.mono (hg.le hS15)) (by first | (simp only [List.length_append, List.length_map, List.length_cons, List.length_nil, List.length_take, List.length_drop, List.length_set, Nat.mul_one]; done) | (simp only [List.length_append, List.length_map, List.length_cons, List.length_nil, List.length_take, List.length_drop, List.length_set]; omega) | rfl | (simp; done)) (by decide) (bv_one _)) (by first | omega | (simp only [List.length_append, List.length_map, List.length_cons, List.length_nil, List.length_take, List.length_drop, List.length_set]; omega) | (simp; done)) bv_app (by first | omega | (simp only [maxLen, List.length_append, List.length_map, List.length_cons, List.length_nil, List.length_take, List.length_drop, List.length_set] <;> omega) | (simp only [maxLen]; omega)) (by first | omega | (simp only [List.length_append, List.length_map, List.length_cons, List.length_nil, List.length_take, List.length_drop, List.length_set] <;> omega)) (fun ad16 cp16 w16 (hS16 : St _ _ [.blk k (.cells #[.slice ad l.length cap, .int .i64 ((b : Nat) : Int), .int .i64 ((s : Nat) : Int)] 119), .ow 5 1 ad16 ((l ++ m).length) cp16 (bv (l ++ m))] _) => ?_)
    clear hS15
    refine hK _ _ ?_; clear hK K
    refine l_q rfl rfl (q_nilCheck rfl) ?_
    refine l_q rfl rfl (q_fieldAddr (ft := 23) (o := 0) rfl (by kernel_rfl)) ?_
    refine l_e rfl (fun K hK => ?_)
    refine e_store1 hS16 rfl rfl (by kernel_rfl) (by first | rfl | assumption) (i := 0) rfl rfl (fun w17 (hS17 : St _ _ [.blk k (.cells #[.slice ad16 ((l ++ m).length) cp16, .int .i64 ((b : Nat) : Int), .int .i64 ((s : Nat) : Int)] 119), .ow 5 1 ad16 ((l ++ m).length) cp16 (bv (l ++ m))] _) => ?_)
    clear hS16
    refine hK _ _ ?_; clear hK K
    refine l_nil ?_
    refine hK14 _ _ ?_
    refine wp_seq_k (fun K18 hK18 => ?_)
    refine wp_region_lit ?_
    refine l_q rfl rfl (q_moveI rfl) ?_
    refine l_q rfl rfl (q_assignI rfl) ?_
    refine l_q rfl rfl (q_assignI rfl) ?_
    refine l_nil ?_
    refine hK18 _ _ ?_
    refine wp_ret ?_
    refine c_ret2 rfl rfl rfl ?_
    have hS19 := dk_close hS17; clear hS17
    exact ⟨_, _, rfl, ⟨_, _, by rw [apN, apE, if_pos hx, if_pos hx]; rfl, by rw [apL, if_pos hx]⟩, hS19⟩

theorem apL_bytes {l m : List Nat} (h : Bytes l) (h' : Bytes m) : Bytes (apL l m) := by
  unfold apL
  split
  · exact h.app h'
  · exact h
theorem apL_len (l m : List Nat) : l.length ≤ (apL l m).length ∧ (apL l m).length ≤ l.length + m.length := by unfold apL; split <;> simp

set_option maxRecDepth 100000 in
theorem dDrop_ok (k : Nat) (ad : Option Addr) (cap : Nat) (l : List Nat) (b s : Nat)  (hl : Bytes l) (hb : b + l.length ≤ 2000000000) (hs : s ≤ l.length) (n : Int) (hn0 : -9223372036854775808 ≤ n) (hn1 : n ≤ 9223372036854775807) (w : World) (hS : St w (owns [dk k ad cap l b s]) [dk k ad cap l b s] w) : Calls Try.prog 76 #[pV k, .int .i64 n] w (Post w [dk k ad cap l b s] fun v G => (if (b : Int) ≤ n ∧ n ≤ ((b + s : Nat) : Int) then v = .int .i64 0 ∧ ∃ ad' cap', G = [dk k ad' cap' (l.drop (n.toNat - b)) n.toNat (s - (n.toNat - b))] else v = .int .i64 1 ∧ G = [dk k ad cap l b s])) := by
  refine c_enter Try.func76 rfl rfl rfl ?_
  refine wp_seq_k (fun K1 hK1 => ?_)
  have hS2 := dk_open hS; clear hS
  refine wp_region_lit ?_
  refine l_q rfl rfl (q_assignI rfl) ?_
  refine l_nil ?_
  refine hK1 _ _ ?_
  refine wp_seq_k (fun K3 hK3 => ?_)
  refine wp_seq_k (fun K4 hK4 => ?_)
  refine wp_region_lit ?_
  refine l_q rfl rfl (q_moveP rfl) ?_
  refine l_q rfl rfl (q_peq rfl (by kernel_rfl)) ?_
  refine l_q rfl rfl (q_moveB rfl) ?_
  refine l_on rfl rfl rfl ?_
  refine l_q rfl rfl (q_moveI rfl) ?_
  refine l_on rfl rfl rfl ?_
  refine l_q rfl rfl (q_moveP rfl) ?_
  refine l_on rfl rfl rfl ?_
  refine l_q rfl rfl (q_nilCheck rfl) ?_
  refine l_on rfl rfl rfl ?_
  refine l_q rfl rfl (q_fieldAddr (ft := 3) (o := 1) rfl (by kernel_rfl)) ?_
  refine l_on rfl rfl rfl ?_
  refine l_q rfl rfl (q_load1 rfl (by kernel_rfl) (hS2.cell (i := 0) rfl rfl)) ?_
  refine l_on rfl rfl rfl ?_
  refine l_q rfl rfl (q_lss rfl rfl) ?_
  refine l_q rfl rfl (q_pickF rfl rfl rfl) ?_
  refine l_q rfl rfl (q_moveB rfl) ?_
  refine g_splitL (t := 16) rfl (fun hg5 => ?_) (fun hg5 => ?_)
  ·
    have hg5b := hg5
    try simp only [decide_eq_true_eq, decide_eq_false_iff_not, Bool.not_eq_true', Bool.not_eq_false', Bool.and_eq_true, Bool.or_eq_true, Int.not_lt, Int.not_le, ne_eq, Decidable.not_not] at hg5
    have hx : ¬ ((b : Int) ≤ n ∧ n ≤ ((b + s : Nat) : Int)) := by omega
    refine l_off rfl rfl rfl hg5b ?_
    refine l_off rfl rfl rfl hg5b ?_
    refine l_off rfl rfl rfl hg5b ?_
    refine l_off rfl rfl rfl hg5b ?_
    refine l_q rfl rfl (q_pickT rfl hg5b rfl) ?_
    refine l_nil ?_
    refine hK4 _ _ ?_
    refine c_condT rfl rfl ?_
    refine wp_seq_k (fun K7 hK7 => ?_)
    refine wp_region_lit ?_
    refine l_q rfl rfl (q_assignI rfl) ?_
    refine l_nil ?_
    refine hK7 _ _ ?_
    refine wp_ret ?_
    refine c_ret1 rfl rfl ?_
    have hS8 := dk_close hS2; clear hS2
    exact ⟨_, _, rfl, ite_no hx ⟨rfl, rfl⟩, hS8⟩
  ·
    have hg5b := hg5
    try simp only [decide_eq_true_eq, decide_eq_false_iff_not, Bool.not_eq_true', Bool.not_eq_false', Bool.and_eq_true, Bool.or_eq_true, Int.not_lt, Int.not_le, ne_eq, Decidable.not_not] at hg5
    refine l_on rfl rfl hg5b ?_
    refine l_q rfl rfl (q_moveI rfl) ?_
    refine l_on rfl rfl hg5b ?_
    refine l_q rfl rfl (q_moveP rfl) ?_
    refine l_on rfl rfl hg5b ?_
    refine l_e rfl (fun K hK => ?_)
    have hS10 := dk_close hS2; clear hS2
    refine e_call (by kernel_rfl) (dSafe_ok _ _ _ _ _ _ hl (by first | omega | (simp; omega)) (by first | omega | (simp; omega)) _ (St.begin (Γ := [_]) hS10)) rfl (after_M (Γ1 := [_]) hS10 (fun v9 G9 w9 hv9 hS9 => ?_))
    clear hS10
    obtain ⟨rfl, rfl⟩ := hv9
    have hS11 : St _ _ [dk k ad cap l b s] _ := hS9; clear hS9
    refine hK _ _ ?_; clear hK K
    refine l_on rfl rfl hg5b ?_
    refine l_q rfl rfl (q_gtr rfl rfl) ?_
    refine l_q rfl rfl (q_pickF rfl hg5b rfl) ?_
    refine l_nil ?_
    refine hK4 _ _ ?_
    refine c_cond rfl (fun hc12 => ?_) (fun hc12 => ?_)
    ·
      have hc12b := hc12
      try simp only [decide_eq_true_eq, decide_eq_false_iff_not, Bool.not_eq_true', Bool.not_eq_false', Bool.and_eq_true, Bool.or_eq_true, Int.not_lt, Int.not_le, ne_eq, Decidable.not_not] at hc12
      have hx : ¬ ((b : Int) ≤ n ∧ n ≤ ((b + s : Nat) : Int)) := by omega
      refine wp_seq_k (fun K13 hK13 => ?_)
      refine wp_region_lit ?_
      refine l_q rfl rfl (q_assignI rfl) ?_
      refine l_nil ?_
      refine hK13 _ _ ?_
      refine wp_ret ?_
      refine c_ret1 rfl rfl ?_
      exact ⟨_, _, rfl, ite_no hx ⟨rfl, rfl⟩, hS11⟩
    ·
      have hc12b := hc12
      try simp only [decide_eq_true_eq, decide_eq_false_iff_not, Bool.not_eq_true', Bool.not_eq_false', Bool.and_eq_true, Bool.or_eq_true, Int.not_lt, Int.not_le, ne_eq, Decidable.not_not] at hc12
      have hx : ((b : Int) ≤ n ∧ n ≤ ((b + s : Nat) : Int)) := by omega
      refine wp_skip ?_
      refine hK3 _ _ ?_
      refine wp_seq_k (fun K14 hK14 => ?_)
      refine wp_region_lit ?_
      refine l_q rfl rfl (q_moveI rfl) ?_
      refine l_q rfl rfl (q_moveP rfl) ?_
      refine l_q rfl rfl (q_nilCheck rfl) ?_
      refine l_q rfl rfl (q_fieldAddr (ft := 3) (o := 1) rfl (by kernel_rfl)) ?_
      have hS15 := dk_open hS11; clear hS11
      refine l_q rfl rfl (q_load1 rfl (by kernel_rfl) (hS15.cell (i := 0) rfl rfl)) ?_
      refine l_q rfl rfl (q_subx rfl rfl (by first | decide | omega) (by first | decide | omega)) ?_
      refine l_q rfl rfl (q_assignI rfl) ?_
      refine l_nil ?_
      refine hK14 _ _ ?_
      refine wp_seq_k (fun K16 hK16 => ?_)
      refine r_any (by kernel_rfl) hS15 (fun w17 hS17 => ?_)
      clear hS15
      refine o_pure (i := 0) (fun _ _ => trivial) rfl rfl (by kernel_rfl) (goes0 rfl) (QOk.then QOk.body) (fun w => q_moveP rfl) ?_
      refine o_pure (i := 1) (fun _ _ => trivial) rfl rfl (by kernel_rfl) (goes0 rfl) (QOk.then QOk.body) (fun w => q_moveP rfl) ?_
      refine o_pure (i := 2) (fun _ _ => trivial) rfl rfl (by kernel_rfl) (goes0 rfl) (QOk.then QOk.body) (fun w => q_moveP rfl) ?_
      refine o_pure (i := 3) (fun _ _ => trivial) rfl rfl (by kernel_rfl) (goes0 rfl) (QOk.then QOk.body) (fun w => q_moveP rfl) ?_
      refine o_pure (i := 4) (fun _ _ => trivial) rfl rfl (by kernel_rfl) (goes0 rfl) (QOk.then QOk.body) (fun w => q_nilCheck rfl) ?_
      refine o_pure (i := 5) (fun _ _ => trivial) rfl rfl (by kernel_rfl) (goes0 rfl) (QOk.then QOk.body) (fun w => q_fieldAddr (ft := 23) (o := 0) rfl (by kernel_rfl)) ?_
      refine o_held (i := 6) [8, 9, 17, 18, 19, 20, 21, 22, 23, 24, 25] (fun _ _ => trivial) rfl rfl (by kernel_rfl) (goes0 rfl) (QOk.then QOk.body) (q_load1 rfl (by kernel_rfl) (hS17.cell (i := 0) rfl rfl)) ?_
      refine o_pure (i := 7) (fun j w => ⟨(fun _ _ => trivial) j w, fun _ h => h⟩) rfl rfl (by kernel_rfl) (goes0 rfl) (QOk.then QOk.body) (fun w => q_moveI rfl) ?_
      have hcp18 := (hS17.owLen (i := 1) rfl).2.1
      refine o_pure (i := 8) (fun j w => ⟨(fun _ _ => trivial) j w, fun _ h => h⟩) rfl rfl (by kernel_rfl) (goes0 rfl) (QOk.then QOk.body) (fun w => q_sliceX (e := 5) (size := 1) (l := (n.toNat - b)) (h := l.length) (m := cap) (ad' := (subS ad (n.toNat - b) 1 cap)) (len' := (l.length - (n.toNat - b))) (cap' := (cap - (n.toNat - b))) rfl (by kernel_rfl) (by kernel_rfl) rfl rfl ⟨_, int_nat (by first | rfl | omega) rfl⟩ (by omega) (by first | omega | (simp only [List.length_append, List.length_map, List.length_cons, List.length_nil, List.length_take, List.length_drop, List.length_set] <;> omega)) (by first | omega | (simp only [List.length_append, List.length_map, List.length_cons, List.length_nil, List.length_take, List.length_drop, List.length_set] <;> omega)) rfl rfl rfl rfl) ?_
      refine o_pure (i := 10) (fun j w => ⟨(fun _ _ => trivial) j w, fun _ h => h⟩) rfl rfl (by kernel_rfl) (goes0 rfl) (QOk.then QOk.body) (fun w => q_moveI rfl) ?_
      refine o_pure (i := 11) (fun j w => ⟨(fun _ _ => trivial) j w, fun _ h => h⟩) rfl rfl (by kernel_rfl) (goes0 rfl) (QOk.then QOk.body) (fun w => q_moveP rfl) ?_
      refine o_pure (i := 12) (fun j w => ⟨(fun _ _ => trivial) j w, fun _ h => h⟩) rfl rfl (by kernel_rfl) (goes0 rfl) (QOk.then QOk.body) (fun w => q_nilCheck rfl) ?_
      refine o_pure (i := 13) (fun j w => ⟨(fun _ _ => trivial) j w, fun _ h => h⟩) rfl rfl (by kernel_rfl) (goes0 rfl) (QOk.then QOk.body) (fun w => q_fieldAddr (ft := 3) (o := 2) rfl (by kernel_rfl)) ?_
      refine o_held (i := 14) [16, 17, 18, 19, 20, 21, 22, 23, 24, 25] (fun j w => ⟨(fun _ _ => trivial) j w, fun _ h => h⟩) rfl rfl (by kernel_rfl) (goes0 rfl) (QOk.then QOk.body) (q_load1 rfl (by kernel_rfl) (hS17.cell (i := 0) rfl rfl)) ?_
      refine o_pure (i := 15) (fun j w => ⟨(fun j w => ⟨(fun _ _ => trivial) j w, fun _ h => h⟩) j w, fun _ h => h⟩) rfl rfl (by kernel_rfl) (goes0 rfl) (QOk.then QOk.body) (fun w => q_moveI rfl) ?_
      refine o_pure (i := 16) (fun j w => ⟨(fun j w => ⟨(fun _ _ => trivial) j w, fun _ h => h⟩) j w, fun _ h => h⟩) rfl rfl (by kernel_rfl) (goes0 rfl) (QOk.then QOk.body) (fun w => q_subx rfl rfl (by first | decide | omega) (by first | decide | omega)) ?_
      refine o_eff (i := 9) (by kernel_rfl) rfl (goes0 rfl) (fun K hK => ?_)
      refine e_call (by kernel_rfl) (Clone_ok (l.drop (n.toNat - b)) _ _ (l.length - (n.toNat - b)) (by first | omega | (simp only [List.length_append, List.length_map, List.length_cons, List.length_nil, List.length_take, List.length_drop, List.length_set] <;> omega)) (by first | omega | (simp only [List.length_append, List.length_map, List.length_cons, List.length_nil, List.length_take, List.length_drop, List.length_set] <;> omega)) _ ((fun q => (bv_subD (by first | omega | (simp only [List.length_append, List.length_map, List.length_cons, List.length_nil, List.length_take, List.length_drop, List.length_set] <;> omega)) (SlG.sub (l := (n.toNat - b)) (size := 1) (m := cap) (n := l.length - (n.toNat - b)) q (by first | omega | (simp only [List.length_append, List.length_map, List.length_cons, List.length_nil, List.length_take, List.length_drop, List.length_set] <;> omega)) (by decide)))) (hS17.owG (i := 1) rfl))) rfl (after_N hS17 (fun v19 G19 w19 hv19 hS19 => ?_))
      clear hS17
      obtain ⟨ad19, cp19, rfl, rfl⟩ := hv19
      have hS20 : St _ _ [.ow 5 1 ad19 (l.length - (n.toNat - b)) cp19 (bv (l.drop (n.toNat - b))), .blk k (.cells #[.slice ad l.length cap, .int .i64 ((b : Nat) : Int), .int .i64 ((s : Nat) : Int)] 119), .ow 5 1 ad l.length cap (bv l)] _ := hS19; clear hS19
      refine hK _ _ ⟨⟨trivial, fun h => absurd h (by decide)⟩, fun _ _ => by first | exact q_load1 rfl (by kernel_rfl) (hS20.cell (i := 1) rfl rfl)⟩ ?_; clear hK K
      refine o_pure (i := 17) (fun j w => ⟨(fun j w => ⟨(fun _ _ => trivial) j w, fun _ h => h⟩) j w, fun _ h => h⟩) rfl rfl (by kernel_rfl) (goes0 rfl) (QOk.then QOk.body) (fun w => q_nilCheck rfl) ?_
      refine o_pure (i := 18) (fun j w => ⟨(fun j w => ⟨(fun _ _ => trivial) j w, fun _ h => h⟩) j w, fun _ h => h⟩) rfl rfl (by kernel_rfl) (goes0 rfl) (QOk.then QOk.body) (fun w => q_fieldAddr (ft := 23) (o := 0) rfl (by kernel_rfl)) ?_
      refine o_eff (i := 19) (by kernel_rfl) rfl (goes0 rfl) (fun K hK => ?_)
      refine e_store1 hS20 rfl rfl (by kernel_rfl) (by first | rfl | assumption) (i := 1) rfl rfl (fun w21 (hS21 : St _ _ [.ow 5 1 ad19 (l.length - (n.toNat - b)) cp19 (bv (l.drop (n.toNat - b))), .blk k (.cells #[.slice ad19 (l.length - (n.toNat - b)) cp19, .int .i64 ((b : Nat) : Int), .int .i64 ((s : Nat) : Int)] 119), .ow 5 1 ad l.length cap (bv l)] _) => ?_)
      clear hS20
      refine hK _ _ ⟨⟨trivial, fun h => absurd h (by decide)⟩, fun h => absurd h (by decide)⟩ ?_; clear hK K
      refine o_pure (i := 20) (fun j w => ⟨(fun j w => ⟨(fun _ _ => trivial) j w, fun _ h => h⟩) j w, fun _ h => h⟩) rfl rfl (by kernel_rfl) (goes0 rfl) (QOk.then QOk.body) (fun w => q_nilCheck rfl) ?_
      refine o_pure (i := 21) (fun j w => ⟨(fun j w => ⟨(fun _ _ => trivial) j w, fun _ h => h⟩) j w, fun _ h => h⟩) rfl rfl (by kernel_rfl) (goes0 rfl) (QOk.then QOk.body) (fun w => q_fieldAddr (ft := 3) (o := 1) rfl (by kernel_rfl)) ?_
      refine o_eff (i := 22) (by kernel_rfl) rfl (goes0 rfl) (fun K hK => ?_)
      refine e_store1 hS21 rfl rfl (by kernel_rfl) (by first | rfl | assumption) (i := 1) rfl rfl (fun w22 (hS22 : St _ _ [.ow 5 1 ad19 (l.length - (n.toNat - b)) cp19 (bv (l.drop (n.toNat - b))), .blk k (.cells #[.slice ad19 (l.length - (n.toNat - b)) cp19, .int .i64 n, .int .i64 ((s : Nat) : Int)] 119), .ow 5 1 ad l.length cap (bv l)] _) => ?_)
      clear hS21
      refine hK _ _ ⟨⟨trivial, fun h => absurd h (by decide)⟩, fun h => absurd h (by decide)⟩ ?_; clear hK K
      refine o_pure (i := 23) (fun j w => ⟨(fun j w => ⟨(fun _ _ => trivial) j w, fun _ h => h⟩) j w, fun _ h => h⟩) rfl rfl (by kernel_rfl) (goes0 rfl) (QOk.then QOk.body) (fun w => q_nilCheck rfl) ?_
      refine o_pure (i := 24) (fun j w => ⟨(fun j w => ⟨(fun _ _ => trivial) j w, fun _ h => h⟩) j w, fun _ h => h⟩) rfl rfl (by kernel_rfl) (goes0 rfl) (QOk.then QOk.body) (fun w => q_fieldAddr (ft := 3) (o := 2) rfl (by kernel_rfl)) ?_
      refine o_eff (i := 25) (by kernel_rfl) rfl (goes0 rfl) (fun K hK => ?_)
      refine e_store1 hS22 rfl rfl (by kernel_rfl) (by first | rfl | assumption) (i := 1) rfl rfl (fun w23 (hS23 : St _ _ [.ow 5 1 ad19 (l.length - (n.toNat - b)) cp19 (bv (l.drop (n.toNat - b))), .blk k (.cells #[.slice ad19 (l.length - (n.toNat - b)) cp19, .int .i64 n, .int .i64 (((s : Nat) : Int) - (n - ((b : Nat) : Int)))] 119), .ow 5 1 ad l.length cap (bv l)] _) => ?_)
      clear hS22
      refine hK _ _ ⟨⟨trivial, fun h => absurd h (by decide)⟩, fun h => absurd h (by decide)⟩ ?_; clear hK K
      refine o_done (by kernel_rfl) ?_
      refine hK16 _ _ ?_
      refine wp_seq_k (fun K24 hK24 => ?_)
      refine wp_region_lit ?_
      refine l_q rfl rfl (q_assignI rfl) ?_
      refine l_nil ?_
      refine hK24 _ _ ?_
      refine wp_ret ?_
      refine c_ret1 rfl rfl ?_
      have hS25 : St _ _ [.ow 5 1 ad19 ((l.drop (n.toNat - b)).length) cp19 (bv (l.drop (n.toNat - b))), .blk k (.cells #[.slice ad19 ((l.drop (n.toNat - b)).length) cp19, .int .i64 n, .int .i64 (((s : Nat) : Int) - (n - ((b : Nat) : Int)))] 119), .ow 5 1 ad l.length cap (bv l)] _ := hS23.cast (by rw [show (l.drop (n.toNat - b)).length = (l.length - (n.toNat - b)) from (by first | omega | (simp only [List.length_append, List.length_map, List.length_cons, List.length_nil, List.length_take, List.length_drop, List.length_set] <;> omega))]); clear hS23
      have hS26 : St _ _ [.ow 5 1 ad19 ((l.drop (n.toNat - b)).length) cp19 (bv (l.drop (n.toNat - b))), .blk k (.cells #[.slice ad19 ((l.drop (n.toNat - b)).length) cp19, .int .i64 ((n.toNat : Nat) : Int), .int .i64 (((s : Nat) : Int) - (n - ((b : Nat) : Int)))] 119), .ow 5 1 ad l.length cap (bv l)] _ := hS25.cast (by rw [show ((n.toNat : Nat) : Int) = n from by omega]); clear hS25
      have hS27 : St _ _ [.ow 5 1 ad19 ((l.drop (n.toNat - b)).length) cp19 (bv (l.drop (n.toNat - b))), .blk k (.cells #[.slice ad19 ((l.drop (n.toNat - b)).length) cp19, .int .i64 ((n.toNat : Nat) : Int), .int .i64 (((s - (n.toNat - b)) : Nat) : Int)] 119), .ow 5 1 ad l.length cap (bv l)] _ := hS26.cast (by rw [show (((s - (n.toNat - b)) : Nat) : Int) = (((s : Nat) : Int) - (n - ((b : Nat) : Int))) from by omega]); clear hS26
      have hS28 := hS27.fr1; clear hS27
      have hS29 := dk_close hS28; clear hS28
      have hS30 : St _ _ [dk k ad19 cp19 (l.drop (n.toNat - b)) n.toNat (s - (n.toNat - b))] _ := hS29.only 1; clear hS29
      exact ⟨_, _, rfl, ite_yes hx ⟨rfl, _, _, rfl⟩, hS30⟩

set_option maxRecDepth 100000 in
theorem dCut_ok (k : Nat) (ad : Option Addr) (cap : Nat) (l : List Nat) (b s : Nat)  (hl : Bytes l) (hb : b + l.length ≤ 2000000000) (hs : s ≤ l.length) (n : Int) (hn0 : -9223372036854775808 ≤ n) (hn1 : n ≤ 9223372036854775807) (w : World) (hS : St w (owns [dk k ad cap l b s]) [dk k ad cap l b s] w) : Calls Try.prog 71 #[pV k, .int .i64 n] w (Post w [dk k ad cap l b s] fun v G => (if (b : Int) ≤ n ∧ n ≤ ((b + l.length : Nat) : Int) then v = .int .i64 0 ∧ ∃ ad' cap', G = [dk k ad' cap' (l.take (n.toNat - b)) b (n.toNat - b)] else v = .int .i64 1 ∧ G = [dk k ad cap l b s])) := by
  refine c_enter Try.func71 rfl rfl rfl ?_
  refine wp_seq_k (fun K1 hK1 => ?_)
  have hS2 := dk_open hS; clear hS
  refine wp_region_lit ?_
  refine l_q rfl rfl (q_assignI rfl) ?_
  refine l_nil ?_
  refine hK1 _ _ ?_
  refine wp_seq_k (fun K3 hK3 => ?_)
  refine wp_seq_k (fun K4 hK4 => ?_)
  refine wp_region_lit ?_
  refine l_q rfl rfl (q_moveP rfl) ?_
  refine l_q rfl rfl (q_peq rfl (by kernel_rfl)) ?_
  refine l_q rfl rfl (q_moveB rfl) ?_
  refine l_on rfl rfl rfl ?_
  refine l_q rfl rfl (q_moveI rfl) ?_
  refine l_on rfl rfl rfl ?_
  refine l_q rfl rfl (q_moveP rfl) ?_
  refine l_on rfl rfl rfl ?_
  refine l_q rfl rfl (q_nilCheck rfl) ?_
  refine l_on rfl rfl rfl ?_
  refine l_q rfl rfl (q_fieldAddr (ft := 3) (o := 1) rfl (by kernel_rfl)) ?_
  refine l_on rfl rfl rfl ?_
  refine l_q rfl rfl (q_load1 rfl (by kernel_rfl) (hS2.cell (i := 0) rfl rfl)) ?_
  refine l_on rfl rfl rfl ?_
  refine l_q rfl rfl (q_lss rfl rfl) ?_
  refine l_q rfl rfl (q_pickF rfl rfl rfl) ?_
  refine l_q rfl rfl (q_moveB rfl) ?_
  refine g_splitL (t := 16) rfl (fun hg5 => ?_) (fun hg5 => ?_)
  ·
    have hg5b := hg5
    try simp only [decide_eq_true_eq, decide_eq_false_iff_not, Bool.not_eq_true', Bool.not_eq_false', Bool.and_eq_true, Bool.or_eq_true, Int.not_lt, Int.not_le, ne_eq, Decidable.not_not] at hg5
    have hx : ¬ ((b : Int) ≤ n ∧ n ≤ ((b + l.length : Nat) : Int)) := by omega
    refine l_off rfl rfl rfl hg5b ?_
    refine l_off rfl rfl rfl hg5b ?_
    refine l_off rfl rfl rfl hg5b ?_
    refine l_off rfl rfl rfl hg5b ?_
    refine l_q rfl rfl (q_pickT rfl hg5b rfl) ?_
    refine l_nil ?_
    refine hK4 _ _ ?_
    refine c_condT rfl rfl ?_
    refine wp_seq_k (fun K7 hK7 => ?_)
    refine wp_region_lit ?_
    refine l_q rfl rfl (q_assignI rfl) ?_
    refine l_nil ?_
    refine hK7 _ _ ?_
    refine wp_ret ?_
    refine c_ret1 rfl rfl ?_
    have hS8 := dk_close hS2; clear hS2
    exact ⟨_, _, rfl, ite_no hx ⟨rfl, rfl⟩, hS8⟩
  ·
    have hg5b := hg5
    try simp only [decide_eq_true_eq, decide_eq_false_iff_not, Bool.not_eq_true', Bool.not_eq_false', Bool.and_eq_true, Bool.or_eq_true, Int.not_lt, Int.not_le, ne_eq, Decidable.not_not] at hg5
    refine l_on rfl rfl hg5b ?_
    refine l_q rfl rfl (q_moveI rfl) ?_
    refine l_on rfl rfl hg5b ?_
    refine l_q rfl rfl (q_moveP rfl) ?_
    refine l_on rfl rfl hg5b ?_
    refine l_e rfl (fun K hK => ?_)
    have hS10 := dk_close hS2; clear hS2
    refine e_call (by kernel_rfl) (dEnd_ok _ _ _ _ _ _ hl (by first | omega | (simp; omega)) (by first | omega | (simp; omega)) _ (St.begin (Γ := [_]) hS10)) rfl (after_M (Γ1 := [_]) hS10 (fun v9 G9 w9 hv9 hS9 => ?_))
    clear hS10
    obtain ⟨rfl, rfl⟩ := hv9
    have hS11 : St _ _ [dk k ad cap l b s] _ := hS9; clear hS9
    refine hK _ _ ?_; clear hK K
    refine l_on rfl rfl hg5b ?_
    refine l_q rfl rfl (q_gtr rfl rfl) ?_
    refine l_q rfl rfl (q_pickF rfl hg5b rfl) ?_
    refine l_nil ?_
    refine hK4 _ _ ?_
    refine c_cond rfl (fun hc12 => ?_) (fun hc12 => ?_)
    ·
      have hc12b := hc12
      try simp only [decide_eq_true_eq, decide_eq_false_iff_not, Bool.not_eq_true', Bool.not_eq_false', Bool.and_eq_true, Bool.or_eq_true, Int.not_lt, Int.not_le, ne_eq, Decidable.not_not] at hc12
      have hx : ¬ ((b : Int) ≤ n ∧ n ≤ ((b + l.length : Nat) : Int)) := by omega
      refine wp_seq_k (fun K13 hK13 => ?_)
      refine wp_region_lit ?_
      refine l_q rfl rfl (q_assignI rfl) ?_
      refine l_nil ?_
      refine hK13 _ _ ?_
      refine wp_ret ?_
      refine c_ret1 rfl rfl ?_
      exact ⟨_, _, rfl, ite_no hx ⟨rfl, rfl⟩, hS11⟩
    ·
      have hc12b := hc12
      try simp only [decide_eq_true_eq, decide_eq_false_iff_not, Bool.not_eq_true', Bool.not_eq_false', Bool.and_eq_true, Bool.or_eq_true, Int.not_lt, Int.not_le, ne_eq, Decidable.not_not] at hc12
      have hx : ((b : Int) ≤ n ∧ n ≤ ((b + l.length : Nat) : Int)) := by omega
      refine wp_skip ?_
      refine hK3 _ _ ?_
      refine wp_seq_k (fun K14 hK14 => ?_)
      refine wp_region_lit ?_
      refine l_q rfl rfl (q_moveI rfl) ?_
      refine l_q rfl rfl (q_moveP rfl) ?_
      refine l_q rfl rfl (q_nilCheck rfl) ?_
      refine l_q rfl rfl (q_fieldAddr (ft := 3) (o := 1) rfl (by kernel_rfl)) ?_
      have hS15 := dk_open hS11; clear hS11
      refine l_q rfl rfl (q_load1 rfl (by kernel_rfl) (hS15.cell (i := 0) rfl rfl)) ?_
      refine l_q rfl rfl (q_subx rfl rfl (by first | decide | omega) (by first | decide | omega)) ?_
      refine l_q rfl rfl (q_assignI rfl) ?_
      refine l_nil ?_
      refine hK14 _ _ ?_
      refine wp_seq_k (fun K16 hK16 => ?_)
      refine wp_region_lit ?_
      refine l_q rfl rfl (q_moveP rfl) ?_
      refine l_q rfl rfl (q_moveP rfl) ?_
      refine l_q rfl rfl (q_moveP rfl) ?_
      refine l_q rfl rfl (q_nilCheck rfl) ?_
      refine l_q rfl rfl (q_fieldAddr (ft := 23) (o := 0) rfl (by kernel_rfl)) ?_
      refine l_q rfl rfl (q_load1 rfl (by kernel_rfl) (hS15.cell (i := 0) rfl rfl)) ?_
      refine l_q rfl rfl (q_moveI rfl) ?_
      refine l_q rfl rfl (q_moveI rfl) ?_
      have hcp17 := (hS15.owLen (i := 1) rfl).2.1
      refine l_q rfl rfl (q_sliceX (e := 5) (size := 1) (l := 0) (h := (n.toNat - b)) (m := (n.toNat - b)) (ad' := ad) (len' := (n.toNat - b)) (cap' := (n.toNat - b)) rfl (by kernel_rfl) (by kernel_rfl) ⟨_, int_nat (by first | rfl | omega) rfl⟩ ⟨_, int_nat (by first | rfl | omega) rfl⟩ rfl (by omega) (by first | omega | (simp only [List.length_append, List.length_map, List.length_cons, List.length_nil, List.length_take, List.length_drop, List.length_set] <;> omega)) (by first | omega | (simp only [List.length_append, List.length_map, List.length_cons, List.length_nil, List.length_take, List.length_drop, List.length_set] <;> omega)) rfl subS_zero (Nat.sub_zero _) (Nat.sub_zero _)) ?_
      refine l_q rfl rfl (q_moveI rfl) ?_
      refine l_q rfl rfl (q_nilCheck rfl) ?_
      refine l_q rfl rfl (q_fieldAddr (ft := 23) (o := 0) rfl (by kernel_rfl)) ?_
      refine l_e rfl (fun K hK => ?_)
      refine e_store1 hS15 rfl rfl (by kernel_rfl) (by first | rfl | assumption) (i := 0) rfl rfl (fun w18 (hS18 : St _ _ [.blk k (.cells #[.slice ad (n.toNat - b) (n.toNat - b), .int .i64 ((b : Nat) : Int), .int .i64 ((s : Nat) : Int)] 119), .ow 5 1 ad l.length cap (bv l)] _) => ?_)
      clear hS15
      refine hK _ _ ?_; clear hK K
      refine l_q rfl rfl (q_nilCheck rfl) ?_
      refine l_q rfl rfl (q_fieldAddr (ft := 3) (o := 2) rfl (by kernel_rfl)) ?_
      refine l_e rfl (fun K hK => ?_)
      refine e_store1 hS18 rfl rfl (by kernel_rfl) (by first | rfl | assumption) (i := 0) rfl rfl (fun w19 (hS19 : St _ _ [.blk k (.cells #[.slice ad (n.toNat - b) (n.toNat - b), .int .i64 ((b : Nat) : Int), .int .i64 (n - ((b : Nat) : Int))] 119), .ow 5 1 ad l.length cap (bv l)] _) => ?_)
      clear hS18
      refine hK _ _ ?_; clear hK K
      refine l_nil ?_
      refine hK16 _ _ ?_
      refine wp_seq_k (fun K20 hK20 => ?_)
      refine wp_region_lit ?_
      refine l_q rfl rfl (q_assignI rfl) ?_
      refine l_nil ?_
      refine hK20 _ _ ?_
      refine wp_ret ?_
      refine c_ret1 rfl rfl ?_
      have hS21 : St _ _ [.blk k (.cells #[.slice ad (n.toNat - b) (n.toNat - b), .int .i64 ((b : Nat) : Int), .int .i64 (n - ((b : Nat) : Int))] 119), .ow 5 1 ad (n.toNat - b) (n.toNat - b) (bv (l.take (n.toNat - b)))] _ := hS19.owSubX (i := 1) (l := 0) (hh := (n.toNat - b)) (mx := (n.toNat - b)) rfl (by omega) (by first | omega | (simp only [List.length_append, List.length_map, List.length_cons, List.length_nil, List.length_take, List.length_drop, List.length_set] <;> omega)) (by first | omega | (simp only [List.length_append, List.length_map, List.length_cons, List.length_nil, List.length_take, List.length_drop, List.length_set] <;> omega)) (by first | omega | (simp only [List.length_append, List.length_map, List.length_cons, List.length_nil, List.length_take, List.length_drop, List.length_set] <;> omega)) subS_zero (Nat.sub_zero _) (Nat.sub_zero _) (bv_subxT); clear hS19
      have hS22 : St _ _ [.blk k (.cells #[.slice ad ((l.take (n.toNat - b)).length) (n.toNat - b), .int .i64 ((b : Nat) : Int), .int .i64 (n - ((b : Nat) : Int))] 119), .ow 5 1 ad ((l.take (n.toNat - b)).length) (n.toNat - b) (bv (l.take (n.toNat - b)))] _ := hS21.cast (by rw [show (l.take (n.toNat - b)).length = (n.toNat - b) from (by first | omega | (simp only [List.length_append, List.length_map, List.length_cons, List.length_nil, List.length_take, List.length_drop, List.length_set] <;> omega))]); clear hS21
      have hS23 : St _ _ [.blk k (.cells #[.slice ad ((l.take (n.toNat - b)).length) (n.toNat - b), .int .i64 ((b : Nat) : Int), .int .i64 (((n.toNat - b) : Nat) : Int)] 119), .ow 5 1 ad ((l.take (n.toNat - b)).length) (n.toNat - b) (bv (l.take (n.toNat - b)))] _ := hS22.cast (by rw [show (((n.toNat - b) : Nat) : Int) = (n - ((b : Nat) : Int)) from by omega]); clear hS22
      have hS24 := dk_close hS23; clear hS23
      exact ⟨_, _, rfl, ite_yes hx ⟨rfl, _, _, rfl⟩, hS24⟩

set_option maxRecDepth 100000 in
theorem dRead_ok (k : Nat) (ad : Option Addr) (cap : Nat) (l : List Nat) (b s : Nat)  (hl : Bytes l) (hb : b + l.length ≤ 2000000000) (hs : s ≤ l.length) (n : Int) (hn0 : -9223372036854775808 ≤ n) (hn1 : n ≤ 9223372036854775807) (m : Int) (hm0 : -9223372036854775808 ≤ m) (hm1 : m ≤ 9223372036854775807) (w : World) (hS : St w (owns [dk k ad cap l b s]) [dk k ad cap l b s] w) : Calls Try.prog 69 #[pV k, .int .i64 n, .int .i64 m] w (Post w [dk k ad cap l b s] fun v G => (if ((b : Int) ≤ n ∧ n ≤ m ∧ m ≤ ((b + l.length : Nat) : Int)) then ∃ ad' cap', v = .tuple #[.slice ad' ((m.toNat - b) - (n.toNat - b)) cap', .int .i64 0] ∧ G = [.ow 5 1 ad' ((m.toNat - b) - (n.toNat - b)) cap' (bv ((l.drop (n.toNat - b)).take ((m.toNat - b) - (n.toNat - b)))), dk k ad cap l b s] else v = .tuple #[.slice none 0 0, .int .i64 61] ∧ G = [dk k ad cap l b s])) := by
  refine c_enter Try.func69 rfl rfl rfl ?_
  refine wp_seq_k (fun K1 hK1 => ?_)
  have hS2 := dk_open hS; clear hS
  refine wp_region_lit ?_
  refine l_q rfl rfl (q_assignS rfl) ?_
  refine l_q rfl rfl (q_assignI rfl) ?_
  refine l_nil ?_
  refine hK1 _ _ ?_
  refine wp_seq_k (fun K3 hK3 => ?_)
  refine wp_block ?_
  refine wp_seq_k (fun K4 hK4 => ?_)
  refine wp_region_lit ?_
  refine l_q rfl rfl (q_moveP rfl) ?_
  refine l_q rfl rfl (q_peq rfl (by kernel_rfl)) ?_
  refine l_q rfl rfl (q_assignB rfl) ?_
  refine l_nil ?_
  refine hK4 _ _ ?_
  refine c_condF rfl rfl ?_
  refine wp_seq_k (fun K6 hK6 => ?_)
  refine wp_region_lit ?_
  refine l_q rfl rfl (q_moveI rfl) ?_
  refine l_q rfl rfl (q_moveP rfl) ?_
  refine l_q rfl rfl (q_nilCheck rfl) ?_
  refine l_q rfl rfl (q_fieldAddr (ft := 3) (o := 1) rfl (by kernel_rfl)) ?_
  refine l_q rfl rfl (q_load1 rfl (by kernel_rfl) (hS2.cell (i := 0) rfl rfl)) ?_
  refine l_q rfl rfl (q_lss rfl rfl) ?_
  refine l_q rfl rfl (q_moveB rfl) ?_
  refine g_splitL (t := 18) rfl (fun hg7 => ?_) (fun hg7 => ?_)
  ·
    have hg7b := hg7
    try simp only [decide_eq_true_eq, decide_eq_false_iff_not, Bool.not_eq_true', Bool.not_eq_false', Bool.and_eq_true, Bool.or_eq_true, Int.not_lt, Int.not_le, ne_eq, Decidable.not_not] at hg7
    have hx : ¬ ((b : Int) ≤ n ∧ n ≤ m ∧ m ≤ ((b + l.length : Nat) : Int)) := by omega
    refine l_off rfl rfl rfl hg7b ?_
    refine l_off rfl rfl rfl hg7b ?_
    refine l_off rfl rfl rfl hg7b ?_
    refine l_q rfl rfl (q_pickT rfl hg7b rfl) ?_
    refine l_q rfl rfl (q_moveB rfl) ?_
    refine l_off rfl rfl rfl rfl ?_
    refine l_off rfl rfl rfl rfl ?_
    refine l_off rfl rfl rfl rfl ?_
    refine l_off rfl rfl rfl rfl ?_
    refine l_q rfl rfl (q_pickT rfl rfl rfl) ?_
    refine l_q rfl rfl (q_assignB rfl) ?_
    refine l_nil ?_
    refine hK6 _ _ ?_
    refine c_condT rfl rfl ?_
    refine wp_seq_k (fun K9 hK9 => ?_)
    refine wp_region_lit ?_
    refine l_q rfl rfl (q_assignS rfl) ?_
    refine l_q rfl rfl (q_assignI rfl) ?_
    refine l_nil ?_
    refine hK9 _ _ ?_
    refine wp_ret ?_
    refine c_ret2 rfl rfl rfl ?_
    have hS10 := dk_close hS2; clear hS2
    exact ⟨_, _, rfl, ite_no hx ⟨rfl, rfl⟩, hS10⟩
  ·
    have hg7b := hg7
    try simp only [decide_eq_true_eq, decide_eq_false_iff_not, Bool.not_eq_true', Bool.not_eq_false', Bool.and_eq_true, Bool.or_eq_true, Int.not_lt, Int.not_le, ne_eq, Decidable.not_not] at hg7
    refine l_on rfl rfl hg7b ?_
    refine l_q rfl rfl (q_moveI rfl) ?_
    refine l_on rfl rfl hg7b ?_
    refine l_q rfl rfl (q_moveI rfl) ?_
    refine l_on rfl rfl hg7b ?_
    refine l_q rfl rfl (q_gtr rfl rfl) ?_
    refine l_q rfl rfl (q_pickF rfl hg7b rfl) ?_
    refine l_q rfl rfl (q_moveB rfl) ?_
    refine g_splitL (t := 23) rfl (fun hg11 => ?_) (fun hg11 => ?_)
    ·
      have hg11b := hg11
      try simp only [decide_eq_true_eq, decide_eq_false_iff_not, Bool.not_eq_true', Bool.not_eq_false', Bool.and_eq_true, Bool.or_eq_true, Int.not_lt, Int.not_le, ne_eq, Decidable.not_not] at hg11
      have hx : ¬ ((b : Int) ≤ n ∧ n ≤ m ∧ m ≤ ((b + l.length : Nat) : Int)) := by omega
      refine l_off rfl rfl rfl hg11b ?_
      refine l_off rfl rfl rfl hg11b ?_
      refine l_off rfl rfl rfl hg11b ?_
      refine l_off rfl rfl rfl hg11b ?_
      refine l_q rfl rfl (q_pickT rfl hg11b rfl) ?_
      refine l_q rfl rfl (q_assignB rfl) ?_
      refine l_nil ?_
      refine hK6 _ _ ?_
      refine c_condT rfl rfl ?_
      refine wp_seq_k (fun K13 hK13 => ?_)
      refine wp_region_lit ?_
      refine l_q rfl rfl (q_assignS rfl) ?_
      refine l_q rfl rfl (q_assignI rfl) ?_
      refine l_nil ?_
      refine hK13 _ _ ?_
      refine wp_ret ?_
      refine c_ret2 rfl rfl rfl ?_
      have hS14 := dk_close hS2; clear hS2
      exact ⟨_, _, rfl, ite_no hx ⟨rfl, rfl⟩, hS14⟩
    ·
      have hg11b := hg11
      try simp only [decide_eq_true_eq, decide_eq_false_iff_not, Bool.not_eq_true', Bool.not_eq_false', Bool.and_eq_true, Bool.or_eq_true, Int.not_lt, Int.not_le, ne_eq, Decidable.not_not] at hg11
      refine l_on rfl rfl hg11b ?_
      refine l_q rfl rfl (q_moveI rfl) ?_
      refine l_on rfl rfl hg11b ?_
      refine l_q rfl rfl (q_moveP rfl) ?_
      refine l_on rfl rfl hg11b ?_
      refine l_e rfl (fun K hK => ?_)
      have hS16 := dk_close hS2; clear hS2
      refine e_call (by kernel_rfl) (dEnd_ok _ _ _ _ _ _ hl (by first | omega | (simp; omega)) (by first | omega | (simp; omega)) _ (St.begin (Γ := [_]) hS16)) rfl (after_M (Γ1 := [_]) hS16 (fun v15 G15 w15 hv15 hS15 => ?_))
      clear hS16
      obtain ⟨rfl, rfl⟩ := hv15
      have hS17 : St _ _ [dk k ad cap l b s] _ := hS15; clear hS15
      refine hK _ _ ?_; clear hK K
      refine l_on rfl rfl hg11b ?_
      refine l_q rfl rfl (q_gtr rfl rfl) ?_
      refine l_q rfl rfl (q_pickF rfl hg11b rfl) ?_
      refine l_q rfl rfl (q_assignB rfl) ?_
      refine l_nil ?_
      refine hK6 _ _ ?_
      refine c_cond rfl (fun hc18 => ?_) (fun hc18 => ?_)
      ·
        have hc18b := hc18
        try simp only [decide_eq_true_eq, decide_eq_false_iff_not, Bool.not_eq_true', Bool.not_eq_false', Bool.and_eq_true, Bool.or_eq_true, Int.not_lt, Int.not_le, ne_eq, Decidable.not_not] at hc18
        have hx : ¬ ((b : Int) ≤ n ∧ n ≤ m ∧ m ≤ ((b + l.length : Nat) : Int)) := by omega
        refine wp_seq_k (fun K19 hK19 => ?_)
        refine wp_region_lit ?_
        refine l_q rfl rfl (q_assignS rfl) ?_
        refine l_q rfl rfl (q_assignI rfl) ?_
        refine l_nil ?_
        refine hK19 _ _ ?_
        refine wp_ret ?_
        refine c_ret2 rfl rfl rfl ?_
        exact ⟨_, _, rfl, ite_no hx ⟨rfl, rfl⟩, hS17⟩
      ·
        have hc18b := hc18
        try simp only [decide_eq_true_eq, decide_eq_false_iff_not, Bool.not_eq_true', Bool.not_eq_false', Bool.and_eq_true, Bool.or_eq_true, Int.not_lt, Int.not_le, ne_eq, Decidable.not_not] at hc18
        have hx : ((b : Int) ≤ n ∧ n ≤ m ∧ m ≤ ((b + l.length : Nat) : Int)) := by omega
        refine wp_skip ?_
        refine hK3 _ _ ?_
        refine wp_seq_k (fun K20 hK20 => ?_)
        refine r_any (by kernel_rfl) hS17 (fun w21 hS21 => ?_)
        clear hS17
        refine o_pure (i := 0) (fun _ _ => trivial) rfl rfl (by kernel_rfl) (goes0 rfl) (QOk.then QOk.body) (fun w => q_moveP rfl) ?_
        refine o_pure (i := 1) (fun _ _ => trivial) rfl rfl (by kernel_rfl) (goes0 rfl) (QOk.then QOk.body) (fun w => q_nilCheck rfl) ?_
        refine o_pure (i := 2) (fun _ _ => trivial) rfl rfl (by kernel_rfl) (goes0 rfl) (QOk.then QOk.body) (fun w => q_fieldAddr (ft := 23) (o := 0) rfl (by kernel_rfl)) ?_
        have hS22 := dk_open hS21; clear hS21
        refine o_held (i := 3) [16, 17, 18, 19] (fun _ _ => trivial) rfl rfl (by kernel_rfl) (goes0 rfl) (QOk.then QOk.body) (q_load1 rfl (by kernel_rfl) (hS22.cell (i := 0) rfl rfl)) ?_
        refine o_pure (i := 4) (fun j w => ⟨(fun _ _ => trivial) j w, fun _ h => h⟩) rfl rfl (by kernel_rfl) (goes0 rfl) (QOk.then QOk.body) (fun w => q_moveI rfl) ?_
        refine o_pure (i := 5) (fun j w => ⟨(fun _ _ => trivial) j w, fun _ h => h⟩) rfl rfl (by kernel_rfl) (goes0 rfl) (QOk.then QOk.body) (fun w => q_moveP rfl) ?_
        refine o_pure (i := 6) (fun j w => ⟨(fun _ _ => trivial) j w, fun _ h => h⟩) rfl rfl (by kernel_rfl) (goes0 rfl) (QOk.then QOk.body) (fun w => q_nilCheck rfl) ?_
        refine o_pure (i := 7) (fun j w => ⟨(fun _ _ => trivial) j w, fun _ h => h⟩) rfl rfl (by kernel_rfl) (goes0 rfl) (QOk.then QOk.body) (fun w => q_fieldAddr (ft := 3) (o := 1) rfl (by kernel_rfl)) ?_
        refine o_held (i := 8) [9, 16, 17, 18, 19] (fun j w => ⟨(fun _ _ => trivial) j w, fun _ h => h⟩) rfl rfl (by kernel_rfl) (goes0 rfl) (QOk.then QOk.body) (q_load1 rfl (by kernel_rfl) (hS22.cell (i := 0) rfl rfl)) ?_
        refine o_pure (i := 9) (fun j w => ⟨(fun j w => ⟨(fun _ _ => trivial) j w, fun _ h => h⟩) j w, fun _ h => h⟩) rfl rfl (by kernel_rfl) (goes0 rfl) (QOk.then QOk.body) (fun w => q_subx rfl rfl (by first | decide | omega) (by first | decide | omega)) ?_
        refine o_pure (i := 10) (fun j w => ⟨(fun j w => ⟨(fun _ _ => trivial) j w, fun _ h => h⟩) j w, fun _ h => h⟩) rfl rfl (by kernel_rfl) (goes0 rfl) (QOk.then QOk.body) (fun w => q_moveI rfl) ?_
        refine o_pure (i := 11) (fun j w => ⟨(fun j w => ⟨(fun _ _ => trivial) j w, fun _ h => h⟩) j w, fun _ h => h⟩) rfl rfl (by kernel_rfl) (goes0 rfl) (QOk.then QOk.body) (fun w => q_moveP rfl) ?_
        refine o_pure (i := 12) (fun j w => ⟨(fun j w => ⟨(fun _ _ => trivial) j w, fun _ h => h⟩) j w, fun _ h => h⟩) rfl rfl (by kernel_rfl) (goes0 rfl) (QOk.then QOk.body) (fun w => q_nilCheck rfl) ?_
        refine o_pure (i := 13) (fun j w => ⟨(fun j w => ⟨(fun _ _ => trivial) j w, fun _ h => h⟩) j w, fun _ h => h⟩) rfl rfl (by kernel_rfl) (goes0 rfl) (QOk.then QOk.body) (fun w => q_fieldAddr (ft := 3) (o := 1) rfl (by kernel_rfl)) ?_
        refine o_held (i := 14) [15, 16, 17, 18, 19] (fun j w => ⟨(fun j w => ⟨(fun _ _ => trivial) j w, fun _ h => h⟩) j w, fun _ h => h⟩) rfl rfl (by kernel_rfl) (goes0 rfl) (QOk.then QOk.body) (q_load1 rfl (by kernel_rfl) (hS22.cell (i := 0) rfl rfl)) ?_
        refine o_pure (i := 15) (fun j w => ⟨(fun j w => ⟨(fun j w => ⟨(fun _ _ => trivial) j w, fun _ h => h⟩) j w, fun _ h => h⟩) j w, fun _ h => h⟩) rfl rfl (by kernel_rfl) (goes0 rfl) (QOk.then QOk.body) (fun w => q_subx rfl rfl (by first | decide | omega) (by first | decide | omega)) ?_
        have hcp23 := (hS22.owLen (i := 1) rfl).2.1
        refine o_pure (i := 16) (fun j w => ⟨(fun j w => ⟨(fun j w => ⟨(fun _ _ => trivial) j w, fun _ h => h⟩) j w, fun _ h => h⟩) j w, fun _ h => h⟩) rfl rfl (by kernel_rfl) (goes0 rfl) (QOk.then QOk.body) (fun w => q_sliceX (e := 5) (size := 1) (l := (n.toNat - b)) (h := (m.toNat - b)) (m := cap) (ad' := (subS ad (n.toNat - b) 1 cap)) (len' := ((m.toNat - b) - (n.toNat - b))) (cap' := (cap - (n.toNat - b))) rfl (by kernel_rfl) (by kernel_rfl) rfl ⟨_, int_nat (by first | rfl | omega) rfl⟩ ⟨_, int_nat (by first | rfl | omega) rfl⟩ (by omega) (by first | omega | (simp only [List.length_append, List.length_map, List.length_cons, List.length_nil, List.length_take, List.length_drop, List.length_set] <;> omega)) (by first | omega | (simp only [List.length_append, List.length_map, List.length_cons, List.length_nil, List.length_take, List.length_drop, List.length_set] <;> omega)) rfl rfl rfl rfl) ?_
        refine o_eff (i := 17) (by kernel_rfl) rfl (goes0 rfl) (fun K hK => ?_)
        refine e_call (by kernel_rfl) (Clone_ok ((l.drop (n.toNat - b)).take ((m.toNat - b) - (n.toNat - b))) _ _ ((m.toNat - b) - (n.toNat - b)) (by first | omega | (simp only [List.length_append, List.length_map, List.length_cons, List.length_nil, List.length_take, List.length_drop, List.length_set] <;> omega)) (by first | omega | (simp only [List.length_append, List.length_map, List.length_cons, List.length_nil, List.length_take, List.length_drop, List.length_set] <;> omega)) _ ((fun q => (bv_sub (SlG.sub (l := (n.toNat - b)) (size := 1) (m := cap) (n := (m.toNat - b) - (n.toNat - b)) q (by first | omega | (simp only [List.length_append, List.length_map, List.length_cons, List.length_nil, List.length_take, List.length_drop, List.length_set] <;> omega)) (by decide)))) (hS22.owG (i := 1) rfl))) rfl (after_N hS22 (fun v24 G24 w24 hv24 hS24 => ?_))
        clear hS22
        obtain ⟨ad24, cp24, rfl, rfl⟩ := hv24
        have hS25 : St _ _ [.ow 5 1 ad24 ((m.toNat - b) - (n.toNat - b)) cp24 (bv ((l.drop (n.toNat - b)).take ((m.toNat - b) - (n.toNat - b)))), .blk k (.cells #[.slice ad l.length cap, .int .i64 ((b : Nat) : Int), .int .i64 ((s : Nat) : Int)] 119), .ow 5 1 ad l.length cap (bv l)] _ := hS24; clear hS24
        refine hK _ _ ⟨⟨⟨trivial, fun h => absurd h (by decide)⟩, fun h => absurd h (by decide)⟩, fun h => absurd h (by decide)⟩ ?_; clear hK K
        refine o_pure (i := 18) (fun j w => ⟨(fun j w => ⟨(fun j w => ⟨(fun _ _ => trivial) j w, fun _ h => h⟩) j w, fun _ h => h⟩) j w, fun _ h => h⟩) rfl rfl (by kernel_rfl) (goes0 rfl) (QOk.then QOk.body) (fun w => q_assignS rfl) ?_
        refine o_pure (i := 19) (fun j w => ⟨(fun j w => ⟨(fun j w => ⟨(fun _ _ => trivial) j w, fun _ h => h⟩) j w, fun _ h => h⟩) j w, fun _ h => h⟩) rfl rfl (by kernel_rfl) (goes0 rfl) (QOk.then QOk.body) (fun w => q_assignI rfl) ?_
        refine o_done (by kernel_rfl) ?_
        refine hK20 _ _ ?_
        refine wp_ret ?_
        refine c_ret2 rfl rfl rfl ?_
        have hS26 := hS25.fr2; clear hS25
        have hS27 := hS26.fr2; clear hS26
        have hS28 := dk_close hS27; clear hS27
        have hS29 := hS28.fr1; clear hS28
        exact ⟨_, _, rfl, ite_yes hx ⟨_, _, rfl, rfl⟩, hS29⟩

/-- What D1's Drop and Cut leave and answer. -/
def drOk (b s : Nat) (n : Int) : Prop := (b : Int) ≤ n ∧ n ≤ ((b + s : Nat) : Int)
instance (b s : Nat) (n : Int) : Decidable (drOk b s n) := inferInstanceAs (Decidable (_ ∧ _))
def drE (b s : Nat) (n : Int) : Nat := if drOk b s n then 0 else 1
def drL (l : List Nat) (b s : Nat) (n : Int) : List Nat := if drOk b s n then l.drop (n.toNat - b) else l
def drB (b s : Nat) (n : Int) : Nat := if drOk b s n then n.toNat else b
def drS (b s : Nat) (n : Int) : Nat := if drOk b s n then s - (n.toNat - b) else s
def ctL (l : List Nat) (b : Nat) (n : Int) : List Nat := if drOk b l.length n then l.take (n.toNat - b) else l
def ctS (l : List Nat) (b s : Nat) (n : Int) : Nat := if drOk b l.length n then n.toNat - b else s
theorem drL_bytes {l : List Nat} (h : Bytes l) (b s : Nat) (n : Int) : Bytes (drL l b s n) := by
  unfold drL
  split
  · exact h.drop
  · exact h
theorem ctL_bytes {l : List Nat} (h : Bytes l) (b : Nat) (n : Int) : Bytes (ctL l b n) := by
  unfold ctL
  split
  · exact h.take
  · exact h
/-- What they leave is a disk still. -/
theorem dr_fit {l : List Nat} {b s : Nat} (n : Int) (hs : s ≤ l.length) : drS b s n ≤ (drL l b s n).length ∧ drB b s n + (drL l b s n).length = b + l.length := by
  unfold drS drL drB
  by_cases h : drOk b s n
  · rw [if_pos h, if_pos h, if_pos h, List.length_drop]
    unfold drOk at h; omega
  · rw [if_neg h, if_neg h, if_neg h]; exact ⟨hs, rfl⟩
theorem ct_fit {l : List Nat} {b s : Nat} (n : Int) (hs : s ≤ l.length) : ctS l b s n ≤ (ctL l b n).length ∧ (ctL l b n).length ≤ l.length := by
  unfold ctS ctL
  by_cases h : drOk b l.length n
  · rw [if_pos h, if_pos h, List.length_take]
    unfold drOk at h; omega
  · rw [if_neg h, if_neg h]; exact ⟨hs, Nat.le_refl _⟩
theorem dDropF (k : Nat) (ad : Option Addr) (cap : Nat) (l : List Nat) (b s : Nat) (hl : Bytes l) (hb : b + l.length ≤ 2000000000) (hs : s ≤ l.length) (n : Int) (hn0 : -9223372036854775808 ≤ n) (hn1 : n ≤ 9223372036854775807) (w : World) (hS : St w (owns [dk k ad cap l b s]) [dk k ad cap l b s] w) :
    Calls Try.prog 76 #[pV k, .int .i64 n] w (Post w [dk k ad cap l b s] fun v G => ∃ ad' cap', v = .int .i64 ((drE b s n : Nat) : Int) ∧ G = [dk k ad' cap' (drL l b s n) (drB b s n) (drS b s n)]) :=
  (dDrop_ok k ad cap l b s hl hb hs n hn0 hn1 w hS).mono fun e w' ⟨v, G, he, hp, hS'⟩ => ⟨v, G, he, by
    unfold drE drL drB drS
    by_cases h : drOk b s n
    · obtain ⟨rfl, ad', cap', rfl⟩ := (if_pos (c := drOk b s n) h) ▸ (show if drOk b s n then _ else _ from hp)
      rw [if_pos h, if_pos h, if_pos h, if_pos h]; exact ⟨ad', cap', rfl, rfl⟩
    · obtain ⟨rfl, rfl⟩ := (if_neg (c := drOk b s n) h) ▸ (show if drOk b s n then _ else _ from hp)
      rw [if_neg h, if_neg h, if_neg h, if_neg h]; exact ⟨ad, cap, rfl, rfl⟩, hS'⟩
theorem dCutF (k : Nat) (ad : Option Addr) (cap : Nat) (l : List Nat) (b s : Nat) (hl : Bytes l) (hb : b + l.length ≤ 2000000000) (hs : s ≤ l.length) (n : Int) (hn0 : -9223372036854775808 ≤ n) (hn1 : n ≤ 9223372036854775807) (w : World) (hS : St w (owns [dk k ad cap l b s]) [dk k ad cap l b s] w) :
    Calls Try.prog 71 #[pV k, .int .i64 n] w (Post w [dk k ad cap l b s] fun v G => ∃ ad' cap', v = .int .i64 ((drE b l.length n : Nat) : Int) ∧ G = [dk k ad' cap' (ctL l b n) b (ctS l b s n)]) :=
  (dCut_ok k ad cap l b s hl hb hs n hn0 hn1 w hS).mono fun e w' ⟨v, G, he, hp, hS'⟩ => ⟨v, G, he, by
    unfold drE ctL ctS
    by_cases h : drOk b l.length n
    · obtain ⟨rfl, ad', cap', rfl⟩ := (if_pos (c := drOk b l.length n) h) ▸ (show if drOk b l.length n then _ else _ from hp)
      rw [if_pos h, if_pos h, if_pos h]; exact ⟨ad', cap', rfl, rfl⟩
    · obtain ⟨rfl, rfl⟩ := (if_neg (c := drOk b l.length n) h) ▸ (show if drOk b l.length n then _ else _ from hp)
      rw [if_neg h, if_neg h, if_neg h]; exact ⟨ad, cap, rfl, rfl⟩, hS'⟩
theorem dReadAll (k : Nat) (ad : Option Addr) (cap : Nat) (l : List Nat) (b s : Nat) (hl : Bytes l) (hb : b + l.length ≤ 2000000000) (hs : s ≤ l.length) (w : World) (hS : St w (owns [dk k ad cap l b s]) [dk k ad cap l b s] w) :
    Calls Try.prog 69 #[pV k, .int .i64 ((b : Nat) : Int), .int .i64 ((b + l.length : Nat) : Int)] w (Post w [dk k ad cap l b s] fun v G => ∃ ad' cap', v = .tuple #[.slice ad' l.length cap', .int .i64 0] ∧ G = [.ow 5 1 ad' l.length cap' (bv l), dk k ad cap l b s]) :=
  (dRead_ok k ad cap l b s hl hb hs (b : Nat) (by omega) (by omega) ((b + l.length : Nat) : Int) (by omega) (by omega) w hS).mono fun e w' ⟨v, G, he, hp, hS'⟩ => ⟨v, G, he, by
    dsimp only at hp
    rw [if_pos (by omega)] at hp
    obtain ⟨ad', cap', h1, h2⟩ := hp
    have e1 : (((b + l.length : Nat) : Int).toNat - b) - (((b : Nat) : Int).toNat - b) = l.length := by omega
    have e2 : ((b : Nat) : Int).toNat - b = 0 := by omega
    rw [e1] at h1 h2
    rw [e2, List.drop_zero, List.take_length] at h2
    exact ⟨ad', cap', h1, h2⟩, hS'⟩

/-- A raw number counted round. -/
def pickN (c : Int) (n : Nat) : Nat := (if c < 0 then -(c + 1) else c).toNat % n
theorem pickN_lt (c : Int) {n : Nat} (h : 0 < n) : pickN c n < n := Nat.mod_lt _ h
theorem pickN_neg {c : Int} {n : Nat} (h0 : -9223372036854775808 ≤ c) (hc : c < 0) (hn : 0 < n) : (IntKind.i64.wrap (0 - (c + 1))).tmod (n : Int) = (pickN c n : Int) := by
  rw [wrap_in (by omega) (by omega), Int.tmod_eq_emod_of_nonneg (by omega), pickN, if_pos hc]
  have : (((-(c + 1)).toNat : Nat) : Int) = -(c + 1) := by omega
  rw [Int.natCast_emod, this]; congr 1; omega
theorem pickN_pos {c : Int} {n : Nat} (hc : 0 ≤ c) (hn : 0 < n) : c.tmod (n : Int) = (pickN c n : Int) := by
  rw [Int.tmod_eq_emod_of_nonneg hc, pickN, if_neg (by omega), Int.natCast_emod]
  have : ((c.toNat : Nat) : Int) = c := by omega
  rw [this]

set_option maxRecDepth 100000 in
theorem round_ok (c : Int) (n : Nat) (h0 : -9223372036854775808 ≤ c) (hn : 0 < n) (w : World) : Calls Try.prog 83 #[.int .i64 c, .int .i64 ((n : Nat) : Int)] w (PostR w fun v => v = .int .i64 ((pickN c n : Nat) : Int)) := by
  have hS := St.start w
  refine c_enter Try.func83 rfl rfl rfl ?_
  refine wp_seq_k (fun K1 hK1 => ?_)
  refine wp_region_lit ?_
  refine l_q rfl rfl (q_assignI rfl) ?_
  refine l_nil ?_
  refine hK1 _ _ ?_
  refine c_cut (τ := Int) [(0, 0), (5, 9)] (fun x => (fun (y : Int) => [(0, .int .i64 y)]) x) (fun x w' => (fun (y : Int) => St w (fun _ => False) [] w' ∧ y.tmod ((n : Nat) : Int) = ((pickN c n : Nat) : Int)) x) (fun K3 hK3 => ?_) (fun y j3 w3 hJ3 => ?_)
  ·
    refine wp_seq_k (fun K4 hK4 => ?_)
    refine wp_region_lit ?_
    refine l_q rfl rfl (q_moveI rfl) ?_
    refine l_q rfl rfl (q_lss rfl rfl) ?_
    refine l_nil ?_
    refine hK4 _ _ ?_
    refine c_cond rfl (fun hc5 => ?_) (fun hc5 => ?_)
    ·
      have hc5b := hc5
      try simp only [decide_eq_true_eq, decide_eq_false_iff_not, Bool.not_eq_true', Bool.not_eq_false', Bool.and_eq_true, Bool.or_eq_true, Int.not_lt, Int.not_le, ne_eq, Decidable.not_not] at hc5
      have hcc := hc5
      refine wp_region_lit ?_
      refine l_q rfl rfl (q_moveI rfl) ?_
      refine l_q rfl rfl (q_addx rfl rfl (by first | decide | omega) (by first | decide | omega)) ?_
      refine l_q rfl rfl (q_neg rfl) ?_
      refine l_q rfl rfl (q_assignI rfl) ?_
      refine l_nil ?_
      refine hK3 _ _ (came ((IntKind.i64.wrap (0 - (c + (1 : Int))))) (by repeat' (first | exact Agree.refl _ _ | refine Agree.up ?_ rfl | refine Agree.hav2 ?_ rfl | refine Agree.ups2 ?_ rfl)) (by repeat' (first | exact trivial | refine ⟨by first | rfl | exact int_succ _ | assumption, ?_⟩)) ?_)
      exact ⟨hS, by first | exact pickN_neg h0 hcc hn | exact pickN_pos hcc hn⟩
    ·
      have hc5b := hc5
      try simp only [decide_eq_true_eq, decide_eq_false_iff_not, Bool.not_eq_true', Bool.not_eq_false', Bool.and_eq_true, Bool.or_eq_true, Int.not_lt, Int.not_le, ne_eq, Decidable.not_not] at hc5
      have hcc := hc5
      refine wp_skip ?_
      refine hK3 _ _ (came (c) (by repeat' (first | exact Agree.refl _ _ | refine Agree.up ?_ rfl | refine Agree.hav2 ?_ rfl | refine Agree.ups2 ?_ rfl)) (by repeat' (first | exact trivial | refine ⟨by first | rfl | exact int_succ _ | assumption, ?_⟩)) ?_)
      exact ⟨hS, by first | exact pickN_neg h0 hcc hn | exact pickN_pos hcc hn⟩
  ·
    obtain ⟨hS3, hy⟩ := hJ3
    try dsimp only at hS3 hy ⊢
    refine wp_seq_k (fun K6 hK6 => ?_)
    refine wp_region_lit ?_
    refine l_q rfl rfl (q_moveI rfl) ?_
    refine l_q rfl rfl (q_moveI rfl) ?_
    refine l_q rfl rfl (q_rem rfl rfl (by omega)) ?_
    refine l_q rfl rfl (q_assignI rfl) ?_
    refine l_nil ?_
    refine hK6 _ _ ?_
    refine wp_ret ?_
    refine c_ret1 rfl rfl ?_
    exact ⟨_, rfl, congrArg (Value.int .i64) hy, hS3.drop⟩

set_option maxRecDepth 100000 in
theorem pickR_ok (c : Int) (n : Nat) (h0 : -9223372036854775808 ≤ c) (hn : 0 < n) (w : World) : Calls Try.prog 28 #[.int .i64 c, .int .i64 ((n : Nat) : Int)] w (PostR w fun v => v = .int .i64 ((pickN c n : Nat) : Int)) := by
  have hS := St.start w
  refine c_enter Try.func28 rfl rfl rfl ?_
  refine wp_seq_k (fun K1 hK1 => ?_)
  refine wp_region_lit ?_
  refine l_q rfl rfl (q_assignI rfl) ?_
  refine l_nil ?_
  refine hK1 _ _ ?_
  refine c_cut (τ := Int) [(0, 0), (5, 9)] (fun x => (fun (y : Int) => [(0, .int .i64 y)]) x) (fun x w' => (fun (y : Int) => St w (fun _ => False) [] w' ∧ y.tmod ((n : Nat) : Int) = ((pickN c n : Nat) : Int)) x) (fun K3 hK3 => ?_) (fun y j3 w3 hJ3 => ?_)
  ·
    refine wp_seq_k (fun K4 hK4 => ?_)
    refine wp_region_lit ?_
    refine l_q rfl rfl (q_moveI rfl) ?_
    refine l_q rfl rfl (q_lss rfl rfl) ?_
    refine l_nil ?_
    refine hK4 _ _ ?_
    refine c_cond rfl (fun hc5 => ?_) (fun hc5 => ?_)
    ·
      have hc5b := hc5
      try simp only [decide_eq_true_eq, decide_eq_false_iff_not, Bool.not_eq_true', Bool.not_eq_false', Bool.and_eq_true, Bool.or_eq_true, Int.not_lt, Int.not_le, ne_eq, Decidable.not_not] at hc5
      have hcc := hc5
      refine wp_region_lit ?_
      refine l_q rfl rfl (q_moveI rfl) ?_
      refine l_q rfl rfl (q_addx rfl rfl (by first | decide | omega) (by first | decide | omega)) ?_
      refine l_q rfl rfl (q_neg rfl) ?_
      refine l_q rfl rfl (q_assignI rfl) ?_
      refine l_nil ?_
      refine hK3 _ _ (came ((IntKind.i64.wrap (0 - (c + (1 : Int))))) (by repeat' (first | exact Agree.refl _ _ | refine Agree.up ?_ rfl | refine Agree.hav2 ?_ rfl | refine Agree.ups2 ?_ rfl)) (by repeat' (first | exact trivial | refine ⟨by first | rfl | exact int_succ _ | assumption, ?_⟩)) ?_)
      exact ⟨hS, by first | exact pickN_neg h0 hcc hn | exact pickN_pos hcc hn⟩
    ·
      have hc5b := hc5
      try simp only [decide_eq_true_eq, decide_eq_false_iff_not, Bool.not_eq_true', Bool.not_eq_false', Bool.and_eq_true, Bool.or_eq_true, Int.not_lt, Int.not_le, ne_eq, Decidable.not_not] at hc5
      have hcc := hc5
      refine wp_skip ?_
      refine hK3 _ _ (came (c) (by repeat' (first | exact Agree.refl _ _ | refine Agree.up ?_ rfl | refine Agree.hav2 ?_ rfl | refine Agree.ups2 ?_ rfl)) (by repeat' (first | exact trivial | refine ⟨by first | rfl | exact int_succ _ | assumption, ?_⟩)) ?_)
      exact ⟨hS, by first | exact pickN_neg h0 hcc hn | exact pickN_pos hcc hn⟩
  ·
    obtain ⟨hS3, hy⟩ := hJ3
    try dsimp only at hS3 hy ⊢
    refine wp_seq_k (fun K6 hK6 => ?_)
    refine wp_region_lit ?_
    refine l_q rfl rfl (q_moveI rfl) ?_
    refine l_q rfl rfl (q_moveI rfl) ?_
    refine l_q rfl rfl (q_rem rfl rfl (by omega)) ?_
    refine l_q rfl rfl (q_assignI rfl) ?_
    refine l_nil ?_
    refine hK6 _ _ ?_
    refine wp_ret ?_
    refine c_ret1 rfl rfl ?_
    exact ⟨_, rfl, congrArg (Value.int .i64) hy, hS3.drop⟩

/-- How many bytes are left when power goes. -/
def pwN (l : List Nat) (s : Nat) (c : Int) : Nat := s + pickN c (l.length - s + 1)
theorem pwN_le {l : List Nat} {s : Nat} (c : Int) (h : s ≤ l.length) : s ≤ pwN l s c ∧ pwN l s c ≤ l.length := by
  have := pickN_lt c (n := l.length - s + 1) (by omega)
  unfold pwN; omega

attribute [local irreducible] pickN
set_option maxRecDepth 100000 in
theorem dPower_ok (k : Nat) (ad : Option Addr) (cap : Nat) (l : List Nat) (b s : Nat)  (hl : Bytes l) (hb : b + l.length ≤ 2000000000) (hs : s ≤ l.length) (c : Int) (hc0 : -9223372036854775808 ≤ c) (w : World) (hS : St w (owns [dk k ad cap l b s]) [dk k ad cap l b s] w) : Calls Try.prog 52 #[pV k, .int .i64 c] w (Post w [dk k ad cap l b s] fun v G => ∃ k' ad' cap', v = pV k' ∧ G = [dk k' ad' cap' (l.take (pwN l s c)) b (pwN l s c), dk k ad cap l b s]) := by
  refine c_enter Try.func52 rfl rfl rfl ?_
  refine wp_seq_k (fun K1 hK1 => ?_)
  have hS2 := dk_open hS; clear hS
  refine wp_region_lit ?_
  refine l_q rfl rfl (q_assignP rfl) ?_
  refine l_nil ?_
  refine hK1 _ _ ?_
  refine wp_seq_k (fun K3 hK3 => ?_)
  refine wp_seq_k (fun K4 hK4 => ?_)
  refine wp_region_lit ?_
  refine l_q rfl rfl (q_moveP rfl) ?_
  refine l_q rfl rfl (q_peq rfl (by kernel_rfl)) ?_
  refine l_nil ?_
  refine hK4 _ _ ?_
  refine c_condF rfl rfl ?_
  refine wp_skip ?_
  refine hK3 _ _ ?_
  refine wp_seq_k (fun K6 hK6 => ?_)
  refine r_any (by kernel_rfl) hS2 (fun w7 hS7 => ?_)
  clear hS2
  refine o_pure (i := 0) (fun _ _ => trivial) rfl rfl (by kernel_rfl) (goes0 rfl) (QOk.then QOk.body) (fun w => q_moveP rfl) ?_
  refine o_pure (i := 1) (fun _ _ => trivial) rfl rfl (by kernel_rfl) (goes0 rfl) (QOk.then QOk.body) (fun w => q_nilCheck rfl) ?_
  refine o_pure (i := 2) (fun _ _ => trivial) rfl rfl (by kernel_rfl) (goes0 rfl) (QOk.then QOk.body) (fun w => q_fieldAddr (ft := 3) (o := 2) rfl (by kernel_rfl)) ?_
  refine o_held (i := 3) [17, 18] (fun _ _ => trivial) rfl rfl (by kernel_rfl) (goes0 rfl) (QOk.then QOk.body) (q_load1 rfl (by kernel_rfl) (hS7.cell (i := 0) rfl rfl)) ?_
  refine o_pure (i := 4) (fun j w => ⟨(fun _ _ => trivial) j w, fun _ h => h⟩) rfl rfl (by kernel_rfl) (goes0 rfl) (QOk.then QOk.body) (fun w => q_moveI rfl) ?_
  refine o_pure (i := 5) (fun j w => ⟨(fun _ _ => trivial) j w, fun _ h => h⟩) rfl rfl (by kernel_rfl) (goes0 rfl) (QOk.then QOk.body) (fun w => q_moveP rfl) ?_
  refine o_pure (i := 6) (fun j w => ⟨(fun _ _ => trivial) j w, fun _ h => h⟩) rfl rfl (by kernel_rfl) (goes0 rfl) (QOk.then QOk.body) (fun w => q_nilCheck rfl) ?_
  refine o_pure (i := 7) (fun j w => ⟨(fun _ _ => trivial) j w, fun _ h => h⟩) rfl rfl (by kernel_rfl) (goes0 rfl) (QOk.then QOk.body) (fun w => q_fieldAddr (ft := 23) (o := 0) rfl (by kernel_rfl)) ?_
  refine o_held (i := 8) [9, 14, 15, 16, 17, 18] (fun j w => ⟨(fun _ _ => trivial) j w, fun _ h => h⟩) rfl rfl (by kernel_rfl) (goes0 rfl) (QOk.then QOk.body) (q_load1 rfl (by kernel_rfl) (hS7.cell (i := 0) rfl rfl)) ?_
  refine o_pure (i := 9) (fun j w => ⟨(fun j w => ⟨(fun _ _ => trivial) j w, fun _ h => h⟩) j w, fun _ h => h⟩) rfl rfl (by kernel_rfl) (goes0 rfl) (QOk.then QOk.body) (fun w => q_lenSl (e := 5) rfl (by kernel_rfl)) ?_
  refine o_pure (i := 10) (fun j w => ⟨(fun j w => ⟨(fun _ _ => trivial) j w, fun _ h => h⟩) j w, fun _ h => h⟩) rfl rfl (by kernel_rfl) (goes0 rfl) (QOk.then QOk.body) (fun w => q_moveP rfl) ?_
  refine o_pure (i := 11) (fun j w => ⟨(fun j w => ⟨(fun _ _ => trivial) j w, fun _ h => h⟩) j w, fun _ h => h⟩) rfl rfl (by kernel_rfl) (goes0 rfl) (QOk.then QOk.body) (fun w => q_nilCheck rfl) ?_
  refine o_pure (i := 12) (fun j w => ⟨(fun j w => ⟨(fun _ _ => trivial) j w, fun _ h => h⟩) j w, fun _ h => h⟩) rfl rfl (by kernel_rfl) (goes0 rfl) (QOk.then QOk.body) (fun w => q_fieldAddr (ft := 3) (o := 2) rfl (by kernel_rfl)) ?_
  refine o_held (i := 13) [14, 15, 16, 17, 18] (fun j w => ⟨(fun j w => ⟨(fun _ _ => trivial) j w, fun _ h => h⟩) j w, fun _ h => h⟩) rfl rfl (by kernel_rfl) (goes0 rfl) (QOk.then QOk.body) (q_load1 rfl (by kernel_rfl) (hS7.cell (i := 0) rfl rfl)) ?_
  refine o_pure (i := 14) (fun j w => ⟨(fun j w => ⟨(fun j w => ⟨(fun _ _ => trivial) j w, fun _ h => h⟩) j w, fun _ h => h⟩) j w, fun _ h => h⟩) rfl rfl (by kernel_rfl) (goes0 rfl) (QOk.then QOk.body) (fun w => q_subx rfl rfl (by first | decide | omega) (by first | decide | omega)) ?_
  refine o_pure (i := 15) (fun j w => ⟨(fun j w => ⟨(fun j w => ⟨(fun _ _ => trivial) j w, fun _ h => h⟩) j w, fun _ h => h⟩) j w, fun _ h => h⟩) rfl rfl (by kernel_rfl) (goes0 rfl) (QOk.then QOk.body) (fun w => q_addx rfl rfl (by first | decide | omega) (by first | decide | omega)) ?_
  refine o_eff (i := 16) (by kernel_rfl) rfl (goes0 rfl) (fun K hK => ?_)
  refine e_callA (by kernel_rfl) (round_ok c ((l.length - s) + 1) (by omega) (by omega) _) (show _ = [.int .i64 c, .int .i64 ((((l.length : Nat) : Int) - ((s : Nat) : Int)) + (1 : Int))] from rfl) (by rw [show ((((l.length - s) + 1) : Nat) : Int) = ((((l.length : Nat) : Int) - ((s : Nat) : Int)) + (1 : Int)) from by omega]) (after_R hS7 (fun v8 w8 hv8 hS8 => ?_))
  clear hS7
  obtain rfl := hv8
  refine hK _ _ ⟨⟨⟨trivial, fun _ _ => by first | exact q_load1 rfl (by kernel_rfl) (hS8.cell (i := 0) rfl rfl)⟩, fun h => absurd h (by decide)⟩, fun h => absurd h (by decide)⟩ ?_; clear hK K
  have hpw := pwN_le (l := l) c hs
  have hpe : s + pickN c (l.length - s + 1) = pwN l s c := rfl
  refine o_pure (i := 17) (fun j w => ⟨(fun j w => ⟨(fun j w => ⟨(fun _ _ => trivial) j w, fun _ h => h⟩) j w, fun _ h => h⟩) j w, fun _ h => h⟩) rfl rfl (by kernel_rfl) (goes0 rfl) (QOk.then QOk.body) (fun w => q_addx rfl rfl (by first | decide | omega) (by first | decide | omega)) ?_
  refine o_pure (i := 18) (fun j w => ⟨(fun j w => ⟨(fun j w => ⟨(fun _ _ => trivial) j w, fun _ h => h⟩) j w, fun _ h => h⟩) j w, fun _ h => h⟩) rfl rfl (by kernel_rfl) (goes0 rfl) (QOk.then QOk.body) (fun w => q_assignI rfl) ?_
  refine o_done (by kernel_rfl) ?_
  refine hK6 _ _ ?_
  refine wp_seq_k (fun K9 hK9 => ?_)
  refine r_any (by kernel_rfl) hS8 (fun w10 hS10 => ?_)
  clear hS8
  refine o_pure (i := 0) (fun _ _ => trivial) rfl rfl (by kernel_rfl) (goes0 rfl) (QOk.then QOk.body) (fun w => q_moveP rfl) ?_
  refine o_pure (i := 1) (fun _ _ => trivial) rfl rfl (by kernel_rfl) (goes0 rfl) (QOk.then QOk.body) (fun w => q_nilCheck rfl) ?_
  refine o_pure (i := 2) (fun _ _ => trivial) rfl rfl (by kernel_rfl) (goes0 rfl) (QOk.then QOk.body) (fun w => q_fieldAddr (ft := 23) (o := 0) rfl (by kernel_rfl)) ?_
  refine o_held (i := 3) [5, 6, 12, 13, 14] (fun _ _ => trivial) rfl rfl (by kernel_rfl) (goes0 rfl) (QOk.then QOk.body) (q_load1 rfl (by kernel_rfl) (hS10.cell (i := 0) rfl rfl)) ?_
  refine o_pure (i := 4) (fun j w => ⟨(fun _ _ => trivial) j w, fun _ h => h⟩) rfl rfl (by kernel_rfl) (goes0 rfl) (QOk.then QOk.body) (fun w => q_moveI rfl) ?_
  have hcp11 := (hS10.owLen (i := 1) rfl).2.1
  refine o_pure (i := 5) (fun j w => ⟨(fun _ _ => trivial) j w, fun _ h => h⟩) rfl rfl (by kernel_rfl) (goes0 rfl) (QOk.then QOk.body) (fun w => q_sliceX (e := 5) (size := 1) (l := 0) (h := (pwN l s c)) (m := cap) (ad' := ad) (len' := (pwN l s c)) (cap' := cap) rfl (by kernel_rfl) (by kernel_rfl) rfl ⟨_, int_nat (by first | rfl | omega) rfl⟩ rfl (by omega) (by first | omega | (simp only [List.length_append, List.length_map, List.length_cons, List.length_nil, List.length_take, List.length_drop, List.length_set] <;> omega)) (by first | omega | (simp only [List.length_append, List.length_map, List.length_cons, List.length_nil, List.length_take, List.length_drop, List.length_set] <;> omega)) rfl subS_zero (Nat.sub_zero _) (Nat.sub_zero _)) ?_
  refine o_pure (i := 7) (fun j w => ⟨(fun _ _ => trivial) j w, fun _ h => h⟩) rfl rfl (by kernel_rfl) (goes0 rfl) (QOk.then QOk.body) (fun w => q_moveP rfl) ?_
  refine o_pure (i := 8) (fun j w => ⟨(fun _ _ => trivial) j w, fun _ h => h⟩) rfl rfl (by kernel_rfl) (goes0 rfl) (QOk.then QOk.body) (fun w => q_nilCheck rfl) ?_
  refine o_pure (i := 9) (fun j w => ⟨(fun _ _ => trivial) j w, fun _ h => h⟩) rfl rfl (by kernel_rfl) (goes0 rfl) (QOk.then QOk.body) (fun w => q_fieldAddr (ft := 3) (o := 1) rfl (by kernel_rfl)) ?_
  refine o_held (i := 10) [12, 13, 14] (fun j w => ⟨(fun _ _ => trivial) j w, fun _ h => h⟩) rfl rfl (by kernel_rfl) (goes0 rfl) (QOk.then QOk.body) (q_load1 rfl (by kernel_rfl) (hS10.cell (i := 0) rfl rfl)) ?_
  refine o_pure (i := 11) (fun j w => ⟨(fun j w => ⟨(fun _ _ => trivial) j w, fun _ h => h⟩) j w, fun _ h => h⟩) rfl rfl (by kernel_rfl) (goes0 rfl) (QOk.then QOk.body) (fun w => q_moveI rfl) ?_
  refine o_eff (i := 6) (by kernel_rfl) rfl (goes0 rfl) (fun K hK => ?_)
  refine e_call (by kernel_rfl) (Clone_ok (l.take (pwN l s c)) _ _ (pwN l s c) (by first | omega | (simp only [List.length_append, List.length_map, List.length_cons, List.length_nil, List.length_take, List.length_drop, List.length_set] <;> omega)) (by first | omega | (simp only [List.length_append, List.length_map, List.length_cons, List.length_nil, List.length_take, List.length_drop, List.length_set] <;> omega)) _ ((fun q => (bv_takeG q)) (hS10.owG (i := 1) rfl))) rfl (after_N hS10 (fun v12 G12 w12 hv12 hS12 => ?_))
  clear hS10
  obtain ⟨ad12, cp12, rfl, rfl⟩ := hv12
  have hS13 : St _ _ [.ow 5 1 ad12 (pwN l s c) cp12 (bv (l.take (pwN l s c))), .blk k (.cells #[.slice ad l.length cap, .int .i64 ((b : Nat) : Int), .int .i64 ((s : Nat) : Int)] 119), .ow 5 1 ad l.length cap (bv l)] _ := hS12; clear hS12
  refine hK _ _ ⟨⟨trivial, fun h => absurd h (by decide)⟩, fun _ _ => by first | exact q_load1 rfl (by kernel_rfl) (hS13.cell (i := 1) rfl rfl)⟩ ?_; clear hK K
  refine o_pure (i := 12) (fun j w => ⟨(fun j w => ⟨(fun _ _ => trivial) j w, fun _ h => h⟩) j w, fun _ h => h⟩) rfl rfl (by kernel_rfl) (goes0 rfl) (QOk.then QOk.body) (fun w => q_build (ps := [(0, 1), (1, 1), (2, 1)]) (zv := .agg #[.slice none 0 0, .int .i64 0, .int .i64 0]) (by kernel_rfl) (by kernel_rfl) rfl (by repeat' (first | exact trivial | refine ⟨fun _ => by first | rfl | assumption | exact one_if (by assumption), ?_⟩ | refine ⟨fun ⟨_, h⟩ => by simp at h, ?_⟩)) rfl) ?_
  refine o_eff (i := 13) (by kernel_rfl) rfl (goes0 rfl) (fun K hK => ?_)
  refine e_boxA hS13 rfl (fun b14 w14 (hS14 : St _ _ [.blk b14 (.cells #[.slice ad12 (pwN l s c) cp12, .int .i64 ((b : Nat) : Int), .int .i64 (((pwN l s c) : Nat) : Int)] 119), .ow 5 1 ad12 (pwN l s c) cp12 (bv (l.take (pwN l s c))), .blk k (.cells #[.slice ad l.length cap, .int .i64 ((b : Nat) : Int), .int .i64 ((s : Nat) : Int)] 119), .ow 5 1 ad l.length cap (bv l)] _) => ?_)
  clear hS13
  refine hK _ _ ⟨⟨trivial, fun h => absurd h (by decide)⟩, fun h => absurd h (by decide)⟩ ?_; clear hK K
  refine o_pure (i := 14) (fun j w => ⟨(fun j w => ⟨(fun _ _ => trivial) j w, fun _ h => h⟩) j w, fun _ h => h⟩) rfl rfl (by kernel_rfl) (goes0 rfl) (QOk.then QOk.body) (fun w => q_assignP rfl) ?_
  refine o_done (by kernel_rfl) ?_
  refine hK9 _ _ ?_
  refine wp_ret ?_
  refine c_ret1 rfl rfl ?_
  have hS15 := hS14.fr3; clear hS14
  have hS16 := hS15.fr3; clear hS15
  have hS17 := dk_close hS16; clear hS16
  have hS18 : St _ _ [dk k ad cap l b s, .blk b14 (.cells #[.slice ad12 ((l.take (pwN l s c)).length) cp12, .int .i64 ((b : Nat) : Int), .int .i64 (((pwN l s c) : Nat) : Int)] 119), .ow 5 1 ad12 ((l.take (pwN l s c)).length) cp12 (bv (l.take (pwN l s c)))] _ := hS17.cast (by rw [show (l.take (pwN l s c)).length = (pwN l s c) from (by first | omega | (simp only [List.length_append, List.length_map, List.length_cons, List.length_nil, List.length_take, List.length_drop, List.length_set] <;> omega))]); clear hS17
  have hS19 := hS18.fr2; clear hS18
  have hS20 := hS19.fr2; clear hS19
  have hS21 := dk_close hS20; clear hS20
  exact ⟨_, _, rfl, ⟨_, _, _, rfl, rfl⟩, hS21⟩

end Go.Proofs.Ytmbbkliekgiolaa
