/- The catalog: a row's key, a key's part. -/
import Derived.Test.YtmemgpcgjephmaaGreatDoorCc
import Derived.Test.YtmemgpcgjephmaaGreatDoorCu
set_option linter.unusedVariables false
set_option linter.unusedSimpArgs false
namespace Go.Proofs.YtmemgpcgjephmaaGreatDoor
open Go.RowKit
/-- What Row hands back. -/
def RowV (t : Tb) (L : List Vl) (v : Value) (G : List Ch) : Prop := (∃ c a b, c ≠ 0 ∧ RwA t L c a ∧ v = .tuple #[.slice none 0 0, fV b] ∧ G = [.blk b (fO c a .nilIface)]) ∨
  (RwP t L ∧ ∃ ad cap, v = .tuple #[.slice ad t.key.toNat cap, .nilIface] ∧ G = [.ow 59 3 ad t.key.toNat cap (List.flatMap vl (L.take t.key.toNat))])
theorem RowV.yes {t : Tb} {L : List Vl} {v : Value} {G : List Ch} (h : RowV t L v G) (hp : RwP t L) : ∃ ad cap, v = .tuple #[.slice ad t.key.toNat cap, .nilIface] ∧ G = [.ow 59 3 ad t.key.toNat cap (List.flatMap vl (L.take t.key.toNat))] := by
  rcases h with ⟨c, a, b, h1, h2, _⟩ | ⟨_, h⟩
  · exact absurd (h2.yes hp).1 h1
  · exact h
theorem RowV.no {t : Tb} {L : List Vl} {v : Value} {G : List Ch} (h : RowV t L v G) (hp : ¬RwP t L) : ∃ c a b, (c ≠ 0 ∧ RwA t L c a) ∧ v = .tuple #[.slice none 0 0, fV b] ∧ G = [.blk b (fO c a .nilIface)] := by
  rcases h with ⟨c, a, b, h1, h2, h3, h4⟩ | ⟨h, _⟩
  · exact ⟨c, a, b, ⟨h1, h2⟩, h3, h4⟩
  · exact absurd h hp
theorem RowV.of {t : Tb} {L : List Vl} {c a : Int} {b : Nat} (h : RwA t L c a) (hc : c ≠ 0) : RowV t L (.tuple #[.slice none 0 0, fV b]) [.blk b (fO c a .nilIface)] := .inl ⟨c, a, b, hc, h, rfl, rfl⟩
theorem RwA.r1 {t : Tb} {L : List Vl} (h : ¬(L.length : Int) = t.cs.length) : RwA t L 51 (-1) := .inl ⟨fun e => h (by rw [e]), rfl, rfl⟩
theorem RwA.r2 {t : Tb} {L : List Vl} {i : Nat} {v : Vl} {d : Co} (h : (L.length : Int) = t.cs.length) (hv : L[i]? = some v) (hd : t.cs[i]? = some d) (hk : TyTo t L i) (hn : ¬TyP v d) : RwA t L 22 ((i : Nat) : Int) := .inr (.inl ⟨by omega, i, v, d, hv, hd, hk, hn, rfl, rfl⟩)
theorem RwA.r3 {t : Tb} {L : List Vl} {i : Nat} {v : Vl} {d : Co} (h : (L.length : Int) = t.cs.length) (hT : TyTo t L L.length) (hv : L[i]? = some v) (hd : t.cs[i]? = some d) (hk : MuTo t L i) (hn : v.1 = 0 ∧ d.m = true) : RwA t L 201 ((i : Nat) : Int) := .inr (.inr (.inl ⟨by omega, hT, i, v, d, hv, hd, hk, hn, rfl, rfl⟩))
theorem TyTo.zero (t : Tb) (L : List Vl) : TyTo t L 0 := fun i h => by omega
theorem MuTo.zero (t : Tb) (L : List Vl) : MuTo t L 0 := fun i h => by omega
theorem KdTo.zero (t : Tb) (L : List Vl) : KdTo t L 0 := fun i h => by omega
theorem TyTo.next {t : Tb} {L : List Vl} {i : Nat} {v : Vl} {d : Co} (h : TyTo t L i) (hv : L[i]? = some v) (hd : t.cs[i]? = some d) (hp : TyP v d) : TyTo t L (i + 1) := fun j hj x hx c hc => by
  by_cases e : j = i
  · subst e; rw [hv] at hx; injection hx with hx; subst hx; rw [hd] at hc; injection hc with hc; subst hc; exact hp
  · exact h j (by omega) x hx c hc
theorem MuTo.next {t : Tb} {L : List Vl} {i : Nat} {v : Vl} {d : Co} (h : MuTo t L i) (hv : L[i]? = some v) (hd : t.cs[i]? = some d) (hp : ¬(v.1 = 0 ∧ d.m = true)) : MuTo t L (i + 1) := fun j hj x hx c hc => by
  by_cases e : j = i
  · subst e; rw [hv] at hx; injection hx with hx; subst hx; rw [hd] at hc; injection hc with hc; subst hc; exact hp
  · exact h j (by omega) x hx c hc
theorem KdTo.next {t : Tb} {L : List Vl} {i : Nat} {v : Vl} {d : Co} (h : KdTo t L i) (hv : L[i]? = some v) (hd : t.cs[i]? = some d) (hp : v.1 = d.k) : KdTo t L (i + 1) := fun j hj x hx c hc => by
  by_cases e : j = i
  · subst e; rw [hv] at hx; injection hx with hx; subst hx; rw [hd] at hc; injection hc with hc; subst hc; exact hp
  · exact h j (by omega) x hx c hc
/-- What Part hands back. -/
def PartV (t : Tb) (L : List Vl) (v : Value) (G : List Ch) : Prop := (∃ a b, PtA t L 0 41 a ∧ v = .tuple #[.int .i64 0, fV b] ∧ G = [.blk b (fO 41 a .nilIface)]) ∨ (PtP t L ∧ KdTo t L L.length ∧ v = .tuple #[.int .i64 ((partN t L : Nat) : Int), .nilIface] ∧ G = [])
theorem PartV.yes {t : Tb} {L : List Vl} {v : Value} {G : List Ch} (h : PartV t L v G) (hp : PtP t L ∧ KdTo t L L.length) : v = .tuple #[.int .i64 ((partN t L : Nat) : Int), .nilIface] ∧ G = [] := by
  rcases h with ⟨a, b, h1, _⟩ | ⟨_, _, h⟩
  · have := (h1.yes hp.1 hp.2).2.1; omega
  · exact h
theorem PartV.no {t : Tb} {L : List Vl} {v : Value} {G : List Ch} (h : PartV t L v G) (hp : ¬(PtP t L ∧ KdTo t L L.length)) : ∃ a b, PtA t L 0 41 a ∧ v = .tuple #[.int .i64 0, fV b] ∧ G = [.blk b (fO 41 a .nilIface)] := by
  rcases h with h | ⟨h1, h2, _⟩
  · exact h
  · exact absurd ⟨h1, h2⟩ hp
theorem PtA.p1 {t : Tb} {L : List Vl} (h : ¬((L.length : Int) = t.key ∧ L.length ≤ 16 ∧ ∀ v ∈ L, rightB v = true)) : PtA t L 0 41 (-1) := .inl ⟨h, rfl, rfl, rfl⟩
theorem PtA.p2 {t : Tb} {L : List Vl} {i : Nat} {v : Vl} {d : Co} (h : PtP t L) (hv : L[i]? = some v) (hd : t.cs[i]? = some d) (hk : KdTo t L i) (hn : ¬v.1 = d.k) : PtA t L 0 41 ((i : Nat) : Int) := .inr (.inl ⟨h, i, v, d, hv, hd, hk, hn, rfl, rfl, rfl⟩)
theorem PartV.of {t : Tb} {L : List Vl} {a : Int} {b : Nat} (h : PtA t L 0 41 a) : PartV t L (.tuple #[.int .i64 0, fV b]) [.blk b (fO 41 a .nilIface)] := .inl ⟨a, b, h, rfl, rfl⟩
theorem PartV.ok {t : Tb} {L : List Vl} {z : Int} (h : PtP t L) (hk : KdTo t L L.length) (hz : z = ((partN t L : Nat) : Int)) : PartV t L (.tuple #[.int .i64 z, .nilIface]) [] := by subst hz; exact .inr ⟨h, hk, rfl, rfl⟩
theorem partN_hash {t : Tb} {L : List Vl} (h : 0 < t.pt) : partN t L = hashB (enc L) % t.pt.toNat := if_pos h
theorem partN_over {t : Tb} {L : List Vl} {v : Vl} (h : ¬0 < t.pt) (hv : L[0]? = some v) : partN t L = overN t.bd v := by
  unfold partN; rw [if_neg h, List.getD_eq_getElem?_getD, hv]; rfl
/-- The first bound above a value; -1: none. -/
def overI (l : List Vl) (v : Vl) : Int := if overN l v < l.length then (overN l v : Int) else -1
theorem overI_or (l : List Vl) (v : Vl) : (overI l v = (overN l v : Int) ∧ overN l v < l.length) ∨ (overI l v = -1 ∧ overN l v = l.length) := by
  unfold overI
  have := overN_le l v
  split
  · exact .inl ⟨rfl, by assumption⟩
  · exact .inr ⟨rfl, by omega⟩
theorem overI_at {l : List Vl} {v x : Vl} {i : Nat} (hx : l[i]? = some x) (h : 0 < vcmp x v) (hb : ∀ j, j < i → ∀ y, l[j]? = some y → ¬0 < vcmp y v) : ((i : Nat) : Int) = overI l v := by
  unfold overI
  rw [overN_at hx h hb, if_pos (List.getElem?_eq_some_iff.1 hx).1]
theorem overI_no {l : List Vl} {v : Vl} (hb : ∀ j, j < l.length → ∀ y, l[j]? = some y → ¬0 < vcmp y v) : -1 = overI l v := by
  unfold overI
  rw [overN_no hb, if_neg (Nat.lt_irrefl _)]
theorem ency_ok (L : List Vl) (hL : VsOk L) (h : L.length ≤ 16 ∧ ∀ v ∈ L, rightB v = true) (n : Nat) (hn : L.length = n) (al : Option Addr) (cl : Nat) (w : World) (hG : SlG (hw w) al (List.flatMap vl L)) :
    Calls Tryz.prog 42 #[.slice al n cl] w (PostN w fun v G => ∃ oa oc, v = .tuple #[.slice oa (enc L).length oc, .int .i64 0] ∧ G = [.ow 5 1 oa (enc L).length oc (bv (enc L))]) := by
  have := enc_ok L hL n hn al cl w hG
  rw [encR_yes h.1 h.2] at this
  exact this
theorem encn_ok (L : List Vl) (hL : VsOk L) (h : ¬(L.length ≤ 16 ∧ ∀ v ∈ L, rightB v = true)) (n : Nat) (hn : L.length = n) (al : Option Addr) (cl : Nat) (w : World) (hG : SlG (hw w) al (List.flatMap vl L)) :
    Calls Tryz.prog 42 #[.slice al n cl] w (PostN w fun v G => ∃ oa oc, v = .tuple #[.slice oa 0 oc, .int .i64 41] ∧ G = [.ow 5 1 oa 0 oc []]) := by
  have := enc_ok L hL n hn al cl w hG
  rw [show encR L = ([], 41) from if_neg h] at this
  exact this
attribute [local irreducible] Oper.wp Sem.run Code.wp wpList wpAnyO callFunc execOp Calls
attribute [local irreducible] toU enc encR rightB vcmp pB okc hashB hashF overN partN overI RwA PtA

set_option maxRecDepth 100000 in
theorem cloneV_ok (L : List Vl) (n : Nat) (hn : L.length = n) (hm : n ≤ 2000000) (al : Option Addr) (cl : Nat) (w : World) (hG : SlG (hw w) al (List.flatMap vl L)) : Calls Tryz.prog 41 #[.slice al n cl] w (PostN w fun v G => ∃ ad cap, v = .slice ad n cap ∧ G = [.ow 59 3 ad n cap (List.flatMap vl L)]) := by
 have hS := St.start w
 have hL : True := trivial
 refine c_enter Tryz.func41 rfl rfl rfl ?_
 refine wp_seq_k (fun K1 hK1 => ?_)
 refine wp_region_lit ?_
 refine l_q rfl rfl (q_assignS rfl) ?_
 refine l_nil ?_
 refine hK1 _ _ ?_
 refine wp_seq_k (fun K2 hK2 => ?_)
 refine wp_seq_k (fun K3 hK3 => ?_)
 refine wp_region_lit ?_
 refine l_q rfl rfl (q_moveS rfl) ?_
 refine l_q rfl rfl (q_slice_eql 59 rfl rfl (by kernel_rfl)) ?_
 refine l_nil ?_
 refine hK3 _ _ ?_
 refine c_cond rfl (fun hc4 => ?_) (fun hc4 => ?_)
 ·
  have hc4b := hc4
  try simp only [decide_eq_true_eq, decide_eq_false_iff_not, Bool.not_eq_true', Bool.not_eq_false', Bool.and_eq_true, Bool.or_eq_true, Int.not_lt, Int.not_le, ne_eq, Decidable.not_not] at hc4
  have ha := hc4
  obtain rfl : al = none := by cases al with | none => rfl | some a => cases ha
  obtain rfl : L = [] := by
   have h0 := SlG.ofNone hG
   cases L with
   | nil => rfl
   | cons v L => cases h0
  subst hn
  refine wp_seq_k (fun K5 hK5 => ?_)
  refine wp_region_lit ?_
  refine l_q rfl rfl (q_assignS rfl) ?_
  refine l_nil ?_
  refine hK5 _ _ ?_
  refine wp_ret ?_
  refine c_ret1 rfl rfl ?_
  exact ⟨_, _, rfl, ⟨_, _, rfl, rfl⟩, hS.ow_nil _ _⟩
 ·
  have hc4b := hc4
  try simp only [decide_eq_true_eq, decide_eq_false_iff_not, Bool.not_eq_true', Bool.not_eq_false', Bool.and_eq_true, Bool.or_eq_true, Int.not_lt, Int.not_le, ne_eq, Decidable.not_not] at hc4
  refine wp_skip ?_
  refine hK2 _ _ ?_
  refine wp_seq_k (fun K6 hK6 => ?_)
  refine wp_region_lit ?_
  refine l_e rfl (fun K hK => ?_)
  refine e_buildSlice0 (e := 59) (m := 3) hS (by kernel_rfl) (by kernel_rfl) (fun b7 w7 (hS7 : St _ _ [.blk b7 (.cells #[] 59)] _) => ?_)
  clear hS
  have hS7o : St _ _ [.ow 59 3 (some ⟨b7, 0, none⟩) 0 0 (List.flatMap vl [])] _ := hS7.blkOw' (i := 0) (m := 0) (size := 3) (xs := List.flatMap vl []) rfl rfl rfl (by decide); clear hS7
  refine hK _ _ ?_; clear hK K
  refine l_q rfl rfl (q_moveS rfl) ?_
  refine l_e rfl (fun K hK => ?_)
  refine e_app (e := 59) (size := 3) (bytes := 32) (i := 0) (m' := n) (by kernel_rfl) hS7o rfl rfl rfl (SlG.src (e := 59) (by kernel_rfl) (hG.mono hS7o.base) ((rows_len (c := vl) (m := 3) (fun _ => rfl) _).trans (by first | rfl | (simp only [lls]; done) | (simp only [lls]; omega) | omega)) (by decide) (rows_one vl_ones)) (by first | omega | (simp only [lls] <;> omega) | (simp; done)) rfl (by first | omega | (simp only [maxLen, lls] <;> omega) | (simp only [maxLen]; omega)) (by first | omega | (simp only [lls] <;> omega)) (fun ad8 cp8 w8 (hS8 : St _ _ [.ow 59 3 ad8 n cp8 (List.flatMap vl L)] _) => ?_)
  clear hS7o
  refine hK _ _ ?_; clear hK K
  refine l_q rfl rfl (q_assignS rfl) ?_
  refine l_nil ?_
  refine hK6 _ _ ?_
  refine wp_ret ?_
  refine c_ret1 rfl rfl ?_
  exact ⟨_, _, rfl, ⟨_, _, rfl, rfl⟩, hS8⟩

set_option maxRecDepth 100000 in
theorem pclos_ok (x v0 : Vl) (hx : Bytes x.2.2) (L : List Vl) (hL : VsOk L) (hv0 : L[0]? = some v0) (al : Option Addr) (cl bk : Nat) (w : World) (hG : SlG (hw w) al (List.flatMap vl L)) (hk : w.heap[bk]? = some (.cells #[.slice al L.length cl] 23)) : Calls Tryz.prog 44 #[.agg (vl x).toArray, .pointer (some ⟨bk, 0, none⟩)] w (PostR w fun v => v = .bool (decide (0 < vcmp x v0))) := by
 have hS := St.start w
 have hl0 := (List.getElem?_eq_some_iff.1 hv0).1
 refine c_enter Tryz.func44 rfl rfl rfl ?_
 refine wp_seq_k (fun K1 hK1 => ?_)
 refine wp_region_lit ?_
 refine l_e rfl (fun K hK => ?_)
 refine e_boxA hS rfl (fun b2 w2 (hS2 : St _ _ [.blk b2 (.cells #[.int .i64 x.1, .int .i64 x.2.1, .string (bs x.2.2)] 59)] _) => ?_)
 clear hS
 refine hK _ _ ?_; clear hK K
 refine l_q rfl rfl (q_assignB rfl) ?_
 refine l_nil ?_
 refine hK1 _ _ ?_
 refine wp_seq_k (fun K3 hK3 => ?_)
 refine r_any (by kernel_rfl) hS2 (fun w4 hS4 => ?_)
 clear hS2
 refine o_held (i := 0) [4, 5, 6] (fun _ _ => trivial) rfl rfl (by kernel_rfl) (goes0 rfl) (QOk.then QOk.body) (q_loadA (m := 3) rfl (by kernel_rfl) (by kernel_rfl) (hS4.blk (i := 0) rfl) rfl rfl) ?_
 refine o_held (i := 1) [2, 3, 4, 5, 6] (fun j w => ⟨(fun _ _ => trivial) j w, fun _ h => h⟩) rfl rfl (by kernel_rfl) (goes0 rfl) (QOk.then QOk.body) (q_load1 rfl (by kernel_rfl) (cell_blk (hS4.base _ _ hk) rfl)) ?_
 refine o_pure (i := 2) (fun j w => ⟨(fun j w => ⟨(fun _ _ => trivial) j w, fun _ h => h⟩) j w, fun _ h => h⟩) rfl rfl (by kernel_rfl) (goes0 rfl) (QOk.then QOk.body) (fun w => q_ixG (e := 59) (m := 3) (j := 0) rfl rfl (by kernel_rfl) (by kernel_rfl) (by first | rfl | omega) (by omega) hG (by rw [rows_len (c := vl) (m := 3) (fun _ => rfl)]; first | omega | (simp only [lls] <;> omega))) ?_
 refine o_held (i := 3) [4, 5, 6] (fun j w => ⟨(fun j w => ⟨(fun _ _ => trivial) j w, fun _ h => h⟩) j w, fun _ h => h⟩) rfl rfl (by kernel_rfl) (goes0 rfl) (QOk.then QOk.body) (q_loadGA (m := 3) rfl (by kernel_rfl) (by kernel_rfl) (hG.mono hS4.base) (row_take hv0 (c := vl) (m := 3) (fun _ => rfl)) rfl (by decide)) ?_
 refine o_eff (i := 4) (by kernel_rfl) rfl (goes0 rfl) (fun K hK => ?_)
 refine e_call (by kernel_rfl) (order_ok x v0 hx (hL v0 (List.mem_of_getElem? hv0)).1 _) rfl (after_R hS4 (fun v5 w5 hv5 hS5 => ?_))
 clear hS4
 obtain rfl := hv5
 refine hK _ _ ⟨⟨⟨trivial, fun h => absurd h (by decide)⟩, fun h => absurd h (by decide)⟩, fun h => absurd h (by decide)⟩ ?_; clear hK K
 refine o_pure (i := 5) (fun j w => ⟨(fun j w => ⟨(fun j w => ⟨(fun _ _ => trivial) j w, fun _ h => h⟩) j w, fun _ h => h⟩) j w, fun _ h => h⟩) rfl rfl (by kernel_rfl) (goes0 rfl) (QOk.then QOk.body) (fun w => q_gtr rfl rfl) ?_
 refine o_pure (i := 6) (fun j w => ⟨(fun j w => ⟨(fun j w => ⟨(fun _ _ => trivial) j w, fun _ h => h⟩) j w, fun _ h => h⟩) j w, fun _ h => h⟩) rfl rfl (by kernel_rfl) (goes0 rfl) (QOk.then QOk.body) (fun w => q_assignB rfl) ?_
 refine o_done (by kernel_rfl) ?_
 refine hK3 _ _ ?_
 refine wp_ret ?_
 refine c_ret1 rfl rfl ?_
 exact ⟨_, rfl, congrArg Value.bool (decide_eq_decide.2 (by omega)), hS5.drop⟩

set_option maxRecDepth 100000 in
theorem pidx_ok (B : List Vl) (hB : VsOk B) (nb : Nat) (hnb : B.length = nb) (hmb : nb ≤ 2000000) (ab : Option Addr) (cb : Nat) (v0 : Vl) (L : List Vl) (hL : VsOk L) (hv0 : L[0]? = some v0) (al : Option Addr) (cl bk : Nat) (w : World) (hGB : SlG (hw w) ab (List.flatMap vl B)) (hGL : SlG (hw w) al (List.flatMap vl L)) (hk : w.heap[bk]? = some (.cells #[.slice al L.length cl] 23)) : Calls Tryz.prog 43 #[.slice ab nb cb, .func (.func 44) #[] #[.pointer (some ⟨bk, 0, none⟩)]] w (PostR w fun v => v = .int .i64 (overI B v0)) := by
 have hS := St.start w
 subst hnb
 refine c_enter Tryz.func43 rfl rfl rfl ?_
 refine wp_seq_k (fun K1 hK1 => ?_)
 refine wp_region_lit ?_
 refine l_q rfl rfl (q_assignI rfl) ?_
 refine l_nil ?_
 refine hK1 _ _ ?_
 refine wp_seq_k (fun K2 hK2 => ?_)
 refine wp_seq_k (fun K3 hK3 => ?_)
 refine wp_region_lit ?_
 refine l_q rfl rfl (q_moveS rfl) ?_
 refine l_q rfl rfl (q_lenSl (e := 59) rfl (by kernel_rfl)) ?_
 refine l_q rfl rfl (q_moveI rfl) ?_
 refine l_nil ?_
 refine hK3 _ _ ?_
 refine wp_block ?_
 refine c_loop (τ := Nat) [(4, 5), (8, 18)] (fun x => (fun (i : Nat) => [(8, .int .i64 (i : Int))]) x) (fun x w' => (fun (i : Nat) => St w (fun _ => False) [] w' ∧ i ≤ B.length ∧ (∀ j, j < i → ∀ y, B[j]? = some y → ¬0 < vcmp y v0)) x) (fun x => (fun (i : Nat) => B.length - i) x) (0) ?_ (by repeat' (first | exact trivial | refine ⟨by first | rfl | exact int_succ _ | assumption, ?_⟩)) (fun i j4 w4 hJ4 K4 hK4 => ?_)
 ·
  exact ⟨hS, Nat.zero_le _, fun j hj => by omega⟩
 ·
  obtain ⟨hS4, hi, hj⟩ := hJ4
  try dsimp only at hS4 hi hj ⊢
  refine wp_seq_k (fun K5 hK5 => ?_)
  refine wp_region_lit ?_
  refine l_q rfl rfl (q_lss rfl rfl) ?_
  refine l_nil ?_
  refine hK5 _ _ ?_
  refine wp_seq_k (fun K6 hK6 => ?_)
  refine c_cond rfl (fun hc7 => ?_) (fun hc7 => ?_)
  ·
   have hc7b := hc7
   try simp only [decide_eq_true_eq, decide_eq_false_iff_not, Bool.not_eq_true', Bool.not_eq_false', Bool.and_eq_true, Bool.or_eq_true, Int.not_lt, Int.not_le, ne_eq, Decidable.not_not] at hc7
   refine wp_skip ?_
   refine hK6 _ _ ?_
   refine wp_seq_k (fun K8 hK8 => ?_)
   refine wp_block ?_
   refine wp_seq_k (fun K9 hK9 => ?_)
   refine wp_region_lit ?_
   refine l_q rfl rfl (q_moveI rfl) ?_
   refine l_q rfl rfl (q_assignI rfl) ?_
   refine l_nil ?_
   refine hK9 _ _ ?_
   refine wp_seq_k (fun K10 hK10 => ?_)
   refine wp_region_lit ?_
   refine l_q rfl rfl (q_move rfl) ?_
   refine l_q rfl rfl (q_moveS rfl) ?_
   refine l_q rfl rfl (q_moveI rfl) ?_
   refine l_q rfl rfl (q_ixG (e := 59) (m := 3) (j := i) rfl rfl (by kernel_rfl) (by kernel_rfl) (by first | rfl | omega) (by omega) hGB (by rw [rows_len (c := vl) (m := 3) (fun _ => rfl)]; first | omega | (simp only [lls] <;> omega))) ?_
   obtain ⟨x11, hx11⟩ : ∃ x, (B)[i]? = some x := ⟨_, List.getElem?_eq_getElem (by first | omega | (simp only [lls] <;> omega) | (simp <;> omega))⟩
   have hvb_x11 := (hB x11 (List.mem_of_getElem? hx11)).2
   refine l_q rfl rfl (q_loadGA (m := 3) rfl (by kernel_rfl) (by kernel_rfl) (hGB.mono hS4.base) (row_take hx11 (c := vl) (m := 3) (fun _ => rfl)) rfl (by decide)) ?_
   refine l_e rfl (fun K hK => ?_)
   refine e_callV (by kernel_rfl) rfl (pclos_ok x11 v0 (hB x11 (List.mem_of_getElem? hx11)).1 L hL hv0 al cl bk _ (hGL.mono hS4.base) (hS4.base _ _ hk)) rfl (after_R hS4 (fun v12 w12 hv12 hS12 => ?_))
   clear hS4
   obtain rfl := hv12
   refine hK _ _ ?_; clear hK K
   refine l_nil ?_
   refine hK10 _ _ ?_
   refine c_cond rfl (fun hc13 => ?_) (fun hc13 => ?_)
   ·
    have hc13b := hc13
    try simp only [decide_eq_true_eq, decide_eq_false_iff_not, Bool.not_eq_true', Bool.not_eq_false', Bool.and_eq_true, Bool.or_eq_true, Int.not_lt, Int.not_le, ne_eq, Decidable.not_not] at hc13
    refine wp_seq_k (fun K14 hK14 => ?_)
    refine wp_region_lit ?_
    refine l_q rfl rfl (q_moveI rfl) ?_
    refine l_q rfl rfl (q_assignI rfl) ?_
    refine l_nil ?_
    refine hK14 _ _ ?_
    refine wp_ret ?_
    refine c_ret1 rfl rfl ?_
    exact ⟨_, rfl, congrArg (Value.int .i64) (overI_at hx11 (by omega) hj), hS12.drop⟩
   ·
    have hc13b := hc13
    try simp only [decide_eq_true_eq, decide_eq_false_iff_not, Bool.not_eq_true', Bool.not_eq_false', Bool.and_eq_true, Bool.or_eq_true, Int.not_lt, Int.not_le, ne_eq, Decidable.not_not] at hc13
    refine wp_skip ?_
    refine hK8 _ _ ?_
    refine wp_region_lit ?_
    refine l_q rfl rfl (q_addx rfl rfl (by first | decide | omega) (by first | decide | omega)) ?_
    refine l_q rfl rfl (q_moveI rfl) ?_
    refine l_nil ?_
    refine hK4 _ _ (came ((i + 1)) (by repeat' (first | exact Agree.refl _ _ | refine Agree.up ?_ rfl | refine Agree.hav2 ?_ rfl | refine Agree.ups2 ?_ rfl)) (by repeat' (first | exact trivial | refine ⟨by first | rfl | exact int_succ _ | assumption, ?_⟩)) ?_)
    exact ⟨⟨hS12, (by show i + 1 ≤ B.length; omega), q_next (Q := fun y => ¬0 < vcmp y v0) hj hx11 (by omega)⟩, by (show B.length - (i + 1) < B.length - i); omega⟩
  ·
   have hc7b := hc7
   try simp only [decide_eq_true_eq, decide_eq_false_iff_not, Bool.not_eq_true', Bool.not_eq_false', Bool.and_eq_true, Bool.or_eq_true, Int.not_lt, Int.not_le, ne_eq, Decidable.not_not] at hc7
   refine wp_exit ?_
   refine hK2 _ _ ?_
   refine wp_seq_k (fun K15 hK15 => ?_)
   refine wp_region_lit ?_
   refine l_q rfl rfl (q_assignI rfl) ?_
   refine l_nil ?_
   refine hK15 _ _ ?_
   refine wp_ret ?_
   refine c_ret1 rfl rfl ?_
   exact ⟨_, rfl, congrArg (Value.int .i64) (overI_no (fun j hj' y hy => hj j (by omega) y hy)), hS4.drop⟩

set_option maxHeartbeats 2000000 in
set_option maxRecDepth 100000 in
theorem cpart_ok (t : Tb) (htn : Bytes t.nm) (htc : CsOk t.cs) (htb : VsOk t.bd) (nc nb : Nat) (hnc : t.cs.length = nc) (hnb : t.bd.length = nb) (hmc : nc ≤ 2000000) (hmb : nb ≤ 2000000) (hRt : RtP t) (L : List Vl) (hL : VsOk L) (n : Nat) (hn : L.length = n) (al : Option Addr) (cl : Nat) (hlm : n ≤ 9223372036854775807) (w : World) (hG : SlG (hw w) al (List.flatMap vl L)) (ca ba : Option Addr) (cca cba : Nat)  (hCG : SlG (hw w) ca (List.flatMap cc t.cs)) (hBG : SlG (hw w) ba (List.flatMap vl t.bd)) : Calls Tryz.prog 20 #[.agg #[.string (bs t.nm), .slice ca nc cca, .int .i64 t.key, .int .i64 t.pt, .slice ba nb cba], .slice al n cl] w (PostN w fun v G => PartV t L v G) := by
 have hS := St.start w
 subst hnc hnb
 subst hn
 obtain ⟨⟨_, hq1, hq2, hq3, hq4, hq5, hq6, _⟩, _⟩ := hRt
 refine c_enter Tryz.func20 rfl rfl rfl ?_
 refine wp_seq_k (fun K1 hK1 => ?_)
 refine wp_region_lit ?_
 refine l_e rfl (fun K hK => ?_)
 refine e_boxA hS rfl (fun b2 w2 (hS2 : St _ _ [.blk b2 (.cells #[.string (bs t.nm), .slice ca t.cs.length cca, .int .i64 t.key, .int .i64 t.pt, .slice ba t.bd.length cba] 25)] _) => ?_)
 clear hS
 refine hK _ _ ?_; clear hK K
 refine l_e rfl (fun K hK => ?_)
 refine e_box hS2 rfl (fun b3 w3 (hS3 : St _ _ [.blk b3 (.cells #[.slice al L.length cl] 23), _] _) => ?_)
 clear hS2
 refine hK _ _ ?_; clear hK K
 refine l_q rfl rfl (q_assignI rfl) ?_
 refine l_q rfl rfl (q_assign rfl) ?_
 refine l_nil ?_
 refine hK1 _ _ ?_
 refine wp_seq_k (fun K4 hK4 => ?_)
 refine wp_region_lit ?_
 refine l_q rfl rfl (q_load1 rfl (by kernel_rfl) (hS3.cell (i := 0) rfl rfl)) ?_
 by_cases hEn : L.length ≤ 16 ∧ ∀ v ∈ L, rightB v = true
 ·
  have hel := enc_len hEn.2
  refine l_e rfl (fun K hK => ?_)
  refine e_call (by kernel_rfl) (ency_ok L hL hEn L.length (by first | omega | (simp only [lls] <;> omega)) _ _ _ (hG.mono hS3.base)) rfl (after_N hS3 (fun v5 G5 w5 hv5 hS5 => ?_))
  clear hS3
  obtain ⟨oa5, oc5, rfl, rfl⟩ := hv5
  have hS6 : St _ _ [.ow 5 1 oa5 ((enc L).length) oc5 (bv (enc L)), _, _] _ := hS5; clear hS5
  refine hK _ _ ?_; clear hK K
  refine l_q rfl rfl (q_move rfl) ?_
  refine l_q rfl rfl (q_extract rfl rfl) ?_
  refine l_q rfl rfl (q_extract rfl rfl) ?_
  refine l_q rfl rfl (q_assignS rfl) ?_
  refine l_q rfl rfl (q_assignI rfl) ?_
  refine l_nil ?_
  refine hK4 _ _ ?_
  refine wp_seq_k (fun K7 hK7 => ?_)
  refine wp_seq_k (fun K8 hK8 => ?_)
  refine wp_region_lit ?_
  refine l_q rfl rfl (q_load1 rfl (by kernel_rfl) (hS6.cell (i := 1) rfl rfl)) ?_
  refine l_q rfl rfl (q_lenSl (e := 59) rfl (by kernel_rfl)) ?_
  refine l_q rfl rfl (q_fieldAddr (ft := 3) (o := 2) rfl (by kernel_rfl)) ?_
  refine l_q rfl rfl (q_load1 rfl (by kernel_rfl) (hS6.cell (i := 2) rfl rfl)) ?_
  refine l_q rfl rfl (q_neq rfl rfl) ?_
  refine l_q rfl rfl (q_moveB rfl) ?_
  refine g_splitL (t := 21) rfl (fun hg9 => ?_) (fun hg9 => ?_)
  ·
   have hg9b := hg9
   try simp only [decide_eq_true_eq, decide_eq_false_iff_not, Bool.not_eq_true', Bool.not_eq_false', Bool.and_eq_true, Bool.or_eq_true, Int.not_lt, Int.not_le, ne_eq, Decidable.not_not] at hg9
   refine l_off rfl rfl rfl hg9b ?_
   refine l_off rfl rfl rfl hg9b ?_
   refine l_q rfl rfl (q_pickT rfl hg9b rfl) ?_
   refine l_nil ?_
   refine hK8 _ _ ?_
   refine c_condT rfl rfl ?_
   refine wp_seq_k (fun K11 hK11 => ?_)
   refine wp_region_lit ?_
   refine l_e rfl (fun K hK => ?_)
   refine e_call (by kernel_rfl) (fnew_ok (41 : Int) (-1 : Int) rfl _) rfl (after_N hS6 (fun v12 G12 w12 hv12 hS12 => ?_))
   clear hS6
   obtain ⟨b12, rfl, rfl⟩ := hv12
   have hS13 : St _ _ [.blk b12 (.cells #[.int .i64 (41 : Int), .int .i64 (-1 : Int), _] 69), _, _, _] _ := hS12; clear hS12
   refine hK _ _ ?_; clear hK K
   refine l_q rfl rfl (q_assignI rfl) ?_
   refine l_q rfl rfl (q_assign rfl) ?_
   refine l_nil ?_
   refine hK11 _ _ ?_
   refine wp_ret ?_
   refine c_ret2 rfl rfl rfl ?_
   have hS14 : St _ _ [_] _ := hS13.only 1; clear hS13
   exact ⟨_, _, rfl, PartV.of (PtA.p1 (fun ⟨g1, g2, g3⟩ => by first | omega | exact absurd rfl ⟨g2, g3⟩)), hS14⟩
  ·
   have hg9b := hg9
   try simp only [decide_eq_true_eq, decide_eq_false_iff_not, Bool.not_eq_true', Bool.not_eq_false', Bool.and_eq_true, Bool.or_eq_true, Int.not_lt, Int.not_le, ne_eq, Decidable.not_not] at hg9
   refine l_on rfl rfl hg9b ?_
   refine l_q rfl rfl (q_moveI rfl) ?_
   refine l_on rfl rfl hg9b ?_
   refine l_q rfl rfl (q_neq rfl rfl) ?_
   refine l_q rfl rfl (q_pickF rfl hg9b rfl) ?_
   refine l_nil ?_
   refine hK8 _ _ ?_
   refine c_condF rfl (by decide) ?_
   refine wp_skip ?_
   refine hK7 _ _ ?_
   refine wp_seq_k (fun K16 hK16 => ?_)
   refine wp_seq_k (fun K17 hK17 => ?_)
   refine wp_region_lit ?_
   refine l_q rfl rfl (q_load1 rfl (by kernel_rfl) (hS6.cell (i := 1) rfl rfl)) ?_
   refine l_q rfl rfl (q_lenSl (e := 59) rfl (by kernel_rfl)) ?_
   refine l_q rfl rfl (q_moveI rfl) ?_
   refine l_nil ?_
   refine hK17 _ _ ?_
   refine wp_block ?_
   refine c_loop (τ := Nat) [(4, 5), (8, 9), (28, 44)] (fun x => (fun (i : Nat) => [(28, .int .i64 (i : Int))]) x) (fun x w' => (fun (i : Nat) => St w (fun _ => False) [.ow 5 1 oa5 ((enc L).length) oc5 (bv (enc L)), .blk b3 (.cells #[.slice al L.length cl] 23), .blk b2 (.cells #[.string (bs t.nm), .slice ca t.cs.length cca, .int .i64 t.key, .int .i64 t.pt, .slice ba t.bd.length cba] 25)] w' ∧ i ≤ L.length ∧ KdTo t L i) x) (fun x => (fun (i : Nat) => L.length - i) x) (0) ?_ (by repeat' (first | exact trivial | refine ⟨by first | rfl | exact int_succ _ | assumption, ?_⟩)) (fun i j18 w18 hJ18 K18 hK18 => ?_)
   ·
    exact ⟨hS6, Nat.zero_le _, KdTo.zero _ _⟩
   ·
    obtain ⟨hS18, hi, hkd⟩ := hJ18
    try dsimp only at hS18 hi hkd ⊢
    refine wp_seq_k (fun K19 hK19 => ?_)
    refine wp_region_lit ?_
    refine l_q rfl rfl (q_lss rfl rfl) ?_
    refine l_nil ?_
    refine hK19 _ _ ?_
    refine wp_seq_k (fun K20 hK20 => ?_)
    refine c_cond rfl (fun hc21 => ?_) (fun hc21 => ?_)
    ·
     have hc21b := hc21
     try simp only [decide_eq_true_eq, decide_eq_false_iff_not, Bool.not_eq_true', Bool.not_eq_false', Bool.and_eq_true, Bool.or_eq_true, Int.not_lt, Int.not_le, ne_eq, Decidable.not_not] at hc21
     refine wp_skip ?_
     refine hK20 _ _ ?_
     refine wp_seq_k (fun K22 hK22 => ?_)
     refine wp_block ?_
     refine wp_seq_k (fun K23 hK23 => ?_)
     obtain ⟨x24, hx24⟩ : ∃ x, (t.cs)[i]? = some x := ⟨_, List.getElem?_eq_getElem (by first | omega | (simp only [lls] <;> omega) | (simp <;> omega))⟩
     have hcb_x24 := (htc x24 (List.mem_of_getElem? hx24)).2
     refine wp_region_lit ?_
     refine l_q rfl rfl (q_moveI rfl) ?_
     refine l_q rfl rfl (q_ixG (e := 59) (m := 3) (j := i) rfl rfl (by kernel_rfl) (by kernel_rfl) (by first | rfl | omega) (by omega) hG (by rw [rows_len (c := vl) (m := 3) (fun _ => rfl)]; first | omega | (simp only [lls] <;> omega))) ?_
     obtain ⟨x25, hx25⟩ : ∃ x, (L)[i]? = some x := ⟨_, List.getElem?_eq_getElem (by first | omega | (simp only [lls] <;> omega) | (simp <;> omega))⟩
     have hvb_x25 := (hL x25 (List.mem_of_getElem? hx25)).2
     refine l_q rfl rfl (q_loadGA (m := 3) rfl (by kernel_rfl) (by kernel_rfl) (hG.mono hS18.base) (row_take hx25 (c := vl) (m := 3) (fun _ => rfl)) rfl (by decide)) ?_
     refine l_e rfl (fun K hK => ?_)
     refine e_alloc (zv := .agg #[.int .i64 0, .int .i64 0, .string ⟨#[]⟩]) hS18 (by kernel_rfl) (fun b26 w26 (hS26 : St _ _ [.blk b26 (.cells #[.int .i64 (0 : Int), .int .i64 (0 : Int), .string (bs [])] 59), _, _, _] _) => ?_)
     clear hS18
     refine hK _ _ ?_; clear hK K
     refine l_q rfl rfl (q_assignI rfl) ?_
     refine l_e rfl (fun K hK => ?_)
     refine e_storeA hS26 rfl rfl (by kernel_rfl) (by repeat' (first | exact trivial | refine ⟨by first | rfl | assumption | exact one_if (by assumption), ?_⟩)) (i := 0) rfl rfl (fun w27 (hS27 : St _ _ [.blk b26 (.cells #[.int .i64 x25.1, .int .i64 x25.2.1, .string (bs x25.2.2)] 59), _, _, _] _) => ?_)
     clear hS26
     refine hK _ _ ?_; clear hK K
     refine l_nil ?_
     refine hK23 _ _ ?_
     refine wp_seq_k (fun K28 hK28 => ?_)
     refine r_any (by kernel_rfl) hS27 (fun w29 hS29 => ?_)
     clear hS27
     refine o_pure (i := 0) (fun _ _ => trivial) rfl rfl (by kernel_rfl) (goes0 rfl) (QOk.then (QOk.inBlock (QOk.then (QOk.then (QOk.inBlock (QOk.then QOk.body)))))) (fun w => q_fieldAddr (ft := 45) (o := 0) rfl (by kernel_rfl)) ?_
     refine o_held (i := 1) [8] (fun _ _ => trivial) rfl rfl (by kernel_rfl) (goes0 rfl) (QOk.then (QOk.inBlock (QOk.then (QOk.then (QOk.inBlock (QOk.then QOk.body)))))) (q_load1 rfl (by kernel_rfl) (hS29.cell (i := 0) rfl rfl)) ?_
     refine o_pure (i := 2) (fun j w => ⟨(fun _ _ => trivial) j w, fun _ h => h⟩) rfl rfl (by kernel_rfl) (goes0 rfl) (QOk.then (QOk.inBlock (QOk.then (QOk.then (QOk.inBlock (QOk.then QOk.body)))))) (fun w => q_fieldAddr (ft := 22) (o := 1) rfl (by kernel_rfl)) ?_
     refine o_held (i := 3) [5, 6, 7, 8] (fun j w => ⟨(fun _ _ => trivial) j w, fun _ h => h⟩) rfl rfl (by kernel_rfl) (goes0 rfl) (QOk.then (QOk.inBlock (QOk.then (QOk.then (QOk.inBlock (QOk.then QOk.body)))))) (q_load1 rfl (by kernel_rfl) (hS29.cell (i := 3) rfl rfl)) ?_
     refine o_pure (i := 4) (fun j w => ⟨(fun j w => ⟨(fun _ _ => trivial) j w, fun _ h => h⟩) j w, fun _ h => h⟩) rfl rfl (by kernel_rfl) (goes0 rfl) (QOk.then (QOk.inBlock (QOk.then (QOk.then (QOk.inBlock (QOk.then QOk.body)))))) (fun w => q_moveI rfl) ?_
     refine o_pure (i := 5) (fun j w => ⟨(fun j w => ⟨(fun _ _ => trivial) j w, fun _ h => h⟩) j w, fun _ h => h⟩) rfl rfl (by kernel_rfl) (goes0 rfl) (QOk.then (QOk.inBlock (QOk.then (QOk.then (QOk.inBlock (QOk.then QOk.body)))))) (fun w => q_ixG (e := 47) (m := 3) (j := i) rfl rfl (by kernel_rfl) (by kernel_rfl) (by first | rfl | omega) (by omega) hCG (by rw [rows_len (c := cc) (m := 3) (fun _ => rfl)]; first | omega | (simp only [lls] <;> omega))) ?_
     refine o_pure (i := 6) (fun j w => ⟨(fun j w => ⟨(fun _ _ => trivial) j w, fun _ h => h⟩) j w, fun _ h => h⟩) rfl rfl (by kernel_rfl) (goes0 rfl) (QOk.then (QOk.inBlock (QOk.then (QOk.then (QOk.inBlock (QOk.then QOk.body)))))) (fun w => q_fieldG (ft := 45) (o := 1) rfl (by kernel_rfl)) ?_
     refine o_held (i := 7) [8] (fun j w => ⟨(fun j w => ⟨(fun _ _ => trivial) j w, fun _ h => h⟩) j w, fun _ h => h⟩) rfl rfl (by kernel_rfl) (goes0 rfl) (QOk.then (QOk.inBlock (QOk.then (QOk.then (QOk.inBlock (QOk.then QOk.body)))))) (q_load1 rfl (by kernel_rfl) (SlG.cell (hCG.mono hS29.base) (Gle.refl _) (row_at hx24 (c := cc) (m := 3) (fun _ => rfl) (j := 1) rfl))) ?_
     refine o_pure (i := 8) (fun j w => ⟨(fun j w => ⟨(fun j w => ⟨(fun _ _ => trivial) j w, fun _ h => h⟩) j w, fun _ h => h⟩) j w, fun _ h => h⟩) rfl rfl (by kernel_rfl) (goes0 rfl) (QOk.then (QOk.inBlock (QOk.then (QOk.then (QOk.inBlock (QOk.then QOk.body)))))) (fun w => q_neq rfl rfl) ?_
     refine o_done (by kernel_rfl) ?_
     refine hK28 _ _ ?_
     refine c_cond rfl (fun hc30 => ?_) (fun hc30 => ?_)
     ·
      have hc30b := hc30
      try simp only [decide_eq_true_eq, decide_eq_false_iff_not, Bool.not_eq_true', Bool.not_eq_false', Bool.and_eq_true, Bool.or_eq_true, Int.not_lt, Int.not_le, ne_eq, Decidable.not_not] at hc30
      refine wp_seq_k (fun K31 hK31 => ?_)
      refine wp_region_lit ?_
      refine l_q rfl rfl (q_moveI rfl) ?_
      refine l_e rfl (fun K hK => ?_)
      refine e_call (by kernel_rfl) (fnew_ok (41 : Int) (i : Int) rfl _) rfl (after_N hS29 (fun v32 G32 w32 hv32 hS32 => ?_))
      clear hS29
      obtain ⟨b32, rfl, rfl⟩ := hv32
      have hS33 : St _ _ [.blk b32 (.cells #[.int .i64 (41 : Int), .int .i64 (i : Int), _] 69), _, _, _, _] _ := hS32; clear hS32
      refine hK _ _ ?_; clear hK K
      refine l_q rfl rfl (q_assignI rfl) ?_
      refine l_q rfl rfl (q_assign rfl) ?_
      refine l_nil ?_
      refine hK31 _ _ ?_
      refine wp_ret ?_
      refine c_ret2 rfl rfl rfl ?_
      have hS34 : St _ _ [_] _ := hS33.only 1; clear hS33
      exact ⟨_, _, rfl, PartV.of (PtA.p2 ⟨by omega, hEn.1, hEn.2⟩ hx25 hx24 hkd (by omega)), hS34⟩
     ·
      have hc30b := hc30
      try simp only [decide_eq_true_eq, decide_eq_false_iff_not, Bool.not_eq_true', Bool.not_eq_false', Bool.and_eq_true, Bool.or_eq_true, Int.not_lt, Int.not_le, ne_eq, Decidable.not_not] at hc30
      refine wp_skip ?_
      refine hK22 _ _ ?_
      refine wp_region_lit ?_
      refine l_q rfl rfl (q_addx rfl rfl (by first | decide | omega) (by first | decide | omega)) ?_
      refine l_q rfl rfl (q_moveI rfl) ?_
      refine l_nil ?_
      have hS35 := hS29.fr3; clear hS29
      have hS36 := hS35.fr3; clear hS35
      have hS37 := hS36.fr3; clear hS36
      have hS38 : St _ _ [_, _, _] _ := hS37.only 3; clear hS37
      refine hK18 _ _ (came ((i + 1)) (by repeat' (first | exact Agree.refl _ _ | refine Agree.up ?_ rfl | refine Agree.hav2 ?_ rfl | refine Agree.ups2 ?_ rfl)) (by repeat' (first | exact trivial | refine ⟨by first | rfl | exact int_succ _ | assumption, ?_⟩)) ?_)
      exact ⟨⟨hS38, (by show i + 1 ≤ L.length; omega), hkd.next hx25 hx24 (by omega)⟩, by (show L.length - (i + 1) < L.length - i); omega⟩
    ·
     have hc21b := hc21
     try simp only [decide_eq_true_eq, decide_eq_false_iff_not, Bool.not_eq_true', Bool.not_eq_false', Bool.and_eq_true, Bool.or_eq_true, Int.not_lt, Int.not_le, ne_eq, Decidable.not_not] at hc21
     refine wp_exit ?_
     refine hK16 _ _ ?_
     refine wp_seq_k (fun K39 hK39 => ?_)
     refine wp_seq_k (fun K40 hK40 => ?_)
     refine wp_region_lit ?_
     refine l_q rfl rfl (q_fieldAddr (ft := 3) (o := 3) rfl (by kernel_rfl)) ?_
     refine l_q rfl rfl (q_load1 rfl (by kernel_rfl) (hS18.cell (i := 2) rfl rfl)) ?_
     refine l_q rfl rfl (q_gtr rfl rfl) ?_
     refine l_nil ?_
     refine hK40 _ _ ?_
     refine c_cond rfl (fun hc41 => ?_) (fun hc41 => ?_)
     ·
      have hc41b := hc41
      try simp only [decide_eq_true_eq, decide_eq_false_iff_not, Bool.not_eq_true', Bool.not_eq_false', Bool.and_eq_true, Bool.or_eq_true, Int.not_lt, Int.not_le, ne_eq, Decidable.not_not] at hc41
      refine wp_seq_k (fun K42 hK42 => ?_)
      have hhl := hashB_lt (enc L)
      have hml := Nat.mod_lt (hashB (enc L)) (y := t.pt.toNat) (by omega)
      refine r_any (by kernel_rfl) hS18 (fun w43 hS43 => ?_)
      clear hS18
      refine o_pure (i := 0) (fun _ _ => trivial) rfl rfl (by kernel_rfl) (goes0 rfl) (QOk.then (QOk.then QOk.body)) (fun w => q_moveS rfl) ?_
      refine o_pure (i := 2) (fun _ _ => trivial) rfl rfl (by kernel_rfl) (goes0 rfl) (QOk.then (QOk.then QOk.body)) (fun w => q_fieldAddr (ft := 3) (o := 3) rfl (by kernel_rfl)) ?_
      refine o_held (i := 3) [4, 5, 6, 7, 8] (fun _ _ => trivial) rfl rfl (by kernel_rfl) (goes0 rfl) (QOk.then (QOk.then QOk.body)) (q_load1 rfl (by kernel_rfl) (hS43.cell (i := 2) rfl rfl)) ?_
      refine o_pure (i := 4) (fun j w => ⟨(fun _ _ => trivial) j w, fun _ h => h⟩) rfl rfl (by kernel_rfl) (goes0 rfl) (QOk.then (QOk.then QOk.body)) (fun w => q_convN (a := t.pt.toNat) (int_nat (by omega) rfl) (by kernel_rfl) (by kernel_rfl) (wrap_fit_u32 (by omega))) ?_
      refine o_eff (i := 1) (by kernel_rfl) rfl (goes0 rfl) (fun K hK => ?_)
      refine e_call (by kernel_rfl) (hash_ok (enc L) (enc_bytes hL) ((enc L).length) (by first | omega | (simp only [lls] <;> omega)) (by first | omega | (simp only [lls] <;> omega)) _ _ _ (hS43.owG (i := 0) rfl)) rfl (after_R hS43 (fun v44 w44 hv44 hS44 => ?_))
      clear hS43
      obtain rfl := hv44
      refine hK _ _ ⟨trivial, fun _ _ => by first | exact q_load1 rfl (by kernel_rfl) (hS44.cell (i := 2) rfl rfl)⟩ ?_; clear hK K
      refine o_pure (i := 5) (fun j w => ⟨(fun _ _ => trivial) j w, fun _ h => h⟩) rfl rfl (by kernel_rfl) (goes0 rfl) (QOk.then (QOk.then QOk.body)) (fun w => q_remN (a := (hashB (enc L))) (b := t.pt.toNat) rfl rfl (by first | decide | omega)) ?_
      refine o_pure (i := 6) (fun j w => ⟨(fun _ _ => trivial) j w, fun _ h => h⟩) rfl rfl (by kernel_rfl) (goes0 rfl) (QOk.then (QOk.then QOk.body)) (fun w => q_convN (a := ((hashB (enc L)) % t.pt.toNat)) rfl (by kernel_rfl) (by kernel_rfl) (wrap_fit_i64 (by omega))) ?_
      refine o_pure (i := 7) (fun j w => ⟨(fun _ _ => trivial) j w, fun _ h => h⟩) rfl rfl (by kernel_rfl) (goes0 rfl) (QOk.then (QOk.then QOk.body)) (fun w => q_assignI rfl) ?_
      refine o_pure (i := 8) (fun j w => ⟨(fun _ _ => trivial) j w, fun _ h => h⟩) rfl rfl (by kernel_rfl) (goes0 rfl) (QOk.then (QOk.then QOk.body)) (fun w => q_assign rfl) ?_
      refine o_done (by kernel_rfl) ?_
      refine hK42 _ _ ?_
      refine wp_ret ?_
      refine c_ret2 rfl rfl rfl ?_
      have hS45 : St _ _ [] _ := hS44.only 0; clear hS44
      have hii : i = L.length := by omega
      rw [hii] at hkd
      exact ⟨_, _, rfl, PartV.ok ⟨by omega, hEn.1, hEn.2⟩ hkd (by rw [partN_hash (by omega)]), hS45⟩
     ·
      have hc41b := hc41
      try simp only [decide_eq_true_eq, decide_eq_false_iff_not, Bool.not_eq_true', Bool.not_eq_false', Bool.and_eq_true, Bool.or_eq_true, Int.not_lt, Int.not_le, ne_eq, Decidable.not_not] at hc41
      refine wp_skip ?_
      refine hK39 _ _ ?_
      refine wp_seq_k (fun K46 hK46 => ?_)
      refine wp_region_lit ?_
      refine l_q rfl rfl (q_fieldAddr (ft := 23) (o := 4) rfl (by kernel_rfl)) ?_
      refine l_q rfl rfl (q_load1 rfl (by kernel_rfl) (hS18.cell (i := 2) rfl rfl)) ?_
      refine l_q rfl rfl (q_makeFunc) ?_
      refine l_e rfl (fun K hK => ?_)
      obtain ⟨v0, hv0⟩ : ∃ v, L[0]? = some v := ⟨_, List.getElem?_eq_getElem (by omega)⟩
      have hor := overI_or t.bd v0
      refine e_call (by kernel_rfl) (pidx_ok t.bd htb t.bd.length (by first | omega | (simp only [lls] <;> omega)) (by first | omega | (simp only [lls] <;> omega)) _ _ v0 L hL hv0 _ _ b3 _ (hBG.mono hS18.base) (hG.mono hS18.base) (hS18.blk (i := 1) rfl)) rfl (after_R hS18 (fun v47 w47 hv47 hS47 => ?_))
      clear hS18
      obtain rfl := hv47
      refine hK _ _ ?_; clear hK K
      refine l_q rfl rfl (q_assignI rfl) ?_
      refine l_nil ?_
      refine hK46 _ _ ?_
      refine wp_seq_k (fun K48 hK48 => ?_)
      refine wp_seq_k (fun K49 hK49 => ?_)
      refine wp_region_lit ?_
      refine l_q rfl rfl (q_moveI rfl) ?_
      refine l_q rfl rfl (q_lss rfl rfl) ?_
      refine l_nil ?_
      refine hK49 _ _ ?_
      refine c_cond rfl (fun hc50 => ?_) (fun hc50 => ?_)
      ·
       have hc50b := hc50
       try simp only [decide_eq_true_eq, decide_eq_false_iff_not, Bool.not_eq_true', Bool.not_eq_false', Bool.and_eq_true, Bool.or_eq_true, Int.not_lt, Int.not_le, ne_eq, Decidable.not_not] at hc50
       refine wp_region_lit ?_
       refine l_q rfl rfl (q_fieldAddr (ft := 23) (o := 4) rfl (by kernel_rfl)) ?_
       refine l_q rfl rfl (q_load1 rfl (by kernel_rfl) (hS47.cell (i := 2) rfl rfl)) ?_
       refine l_q rfl rfl (q_lenSl (e := 59) rfl (by kernel_rfl)) ?_
       refine l_q rfl rfl (q_assignI rfl) ?_
       refine l_nil ?_
       refine hK48 _ _ ?_
       refine wp_seq_k (fun K51 hK51 => ?_)
       refine wp_region_lit ?_
       refine l_q rfl rfl (q_moveI rfl) ?_
       refine l_q rfl rfl (q_assignI rfl) ?_
       refine l_q rfl rfl (q_assign rfl) ?_
       refine l_nil ?_
       refine hK51 _ _ ?_
       refine wp_ret ?_
       refine c_ret2 rfl rfl rfl ?_
       have hS52 : St _ _ [] _ := hS47.only 0; clear hS47
       have hii : i = L.length := by omega
       rw [hii] at hkd
       exact ⟨_, _, rfl, PartV.ok ⟨by omega, hEn.1, hEn.2⟩ hkd (by rw [partN_over (by omega) hv0]; omega), hS52⟩
      ·
       have hc50b := hc50
       try simp only [decide_eq_true_eq, decide_eq_false_iff_not, Bool.not_eq_true', Bool.not_eq_false', Bool.and_eq_true, Bool.or_eq_true, Int.not_lt, Int.not_le, ne_eq, Decidable.not_not] at hc50
       refine wp_skip ?_
       refine hK48 _ _ ?_
       refine wp_seq_k (fun K53 hK53 => ?_)
       refine wp_region_lit ?_
       refine l_q rfl rfl (q_moveI rfl) ?_
       refine l_q rfl rfl (q_assignI rfl) ?_
       refine l_q rfl rfl (q_assign rfl) ?_
       refine l_nil ?_
       refine hK53 _ _ ?_
       refine wp_ret ?_
       refine c_ret2 rfl rfl rfl ?_
       have hS54 : St _ _ [] _ := hS47.only 0; clear hS47
       have hii : i = L.length := by omega
       rw [hii] at hkd
       exact ⟨_, _, rfl, PartV.ok ⟨by omega, hEn.1, hEn.2⟩ hkd (by rw [partN_over (by omega) hv0]; omega), hS54⟩
 ·
  refine l_e rfl (fun K hK => ?_)
  refine e_call (by kernel_rfl) (encn_ok L hL hEn L.length (by first | omega | (simp only [lls] <;> omega)) _ _ _ (hG.mono hS3.base)) rfl (after_N hS3 (fun v55 G55 w55 hv55 hS55 => ?_))
  clear hS3
  obtain ⟨oa55, oc55, rfl, rfl⟩ := hv55
  have hS56 : St _ _ [.ow 5 1 oa55 0 oc55 [], _, _] _ := hS55; clear hS55
  refine hK _ _ ?_; clear hK K
  refine l_q rfl rfl (q_move rfl) ?_
  refine l_q rfl rfl (q_extract rfl rfl) ?_
  refine l_q rfl rfl (q_extract rfl rfl) ?_
  refine l_q rfl rfl (q_assignS rfl) ?_
  refine l_q rfl rfl (q_assignI rfl) ?_
  refine l_nil ?_
  refine hK4 _ _ ?_
  refine wp_seq_k (fun K57 hK57 => ?_)
  refine wp_seq_k (fun K58 hK58 => ?_)
  refine wp_region_lit ?_
  refine l_q rfl rfl (q_load1 rfl (by kernel_rfl) (hS56.cell (i := 1) rfl rfl)) ?_
  refine l_q rfl rfl (q_lenSl (e := 59) rfl (by kernel_rfl)) ?_
  refine l_q rfl rfl (q_fieldAddr (ft := 3) (o := 2) rfl (by kernel_rfl)) ?_
  refine l_q rfl rfl (q_load1 rfl (by kernel_rfl) (hS56.cell (i := 2) rfl rfl)) ?_
  refine l_q rfl rfl (q_neq rfl rfl) ?_
  refine l_q rfl rfl (q_moveB rfl) ?_
  refine g_splitL (t := 21) rfl (fun hg59 => ?_) (fun hg59 => ?_)
  ·
   have hg59b := hg59
   try simp only [decide_eq_true_eq, decide_eq_false_iff_not, Bool.not_eq_true', Bool.not_eq_false', Bool.and_eq_true, Bool.or_eq_true, Int.not_lt, Int.not_le, ne_eq, Decidable.not_not] at hg59
   refine l_off rfl rfl rfl hg59b ?_
   refine l_off rfl rfl rfl hg59b ?_
   refine l_q rfl rfl (q_pickT rfl hg59b rfl) ?_
   refine l_nil ?_
   refine hK58 _ _ ?_
   refine c_condT rfl rfl ?_
   refine wp_seq_k (fun K61 hK61 => ?_)
   refine wp_region_lit ?_
   refine l_e rfl (fun K hK => ?_)
   refine e_call (by kernel_rfl) (fnew_ok (41 : Int) (-1 : Int) rfl _) rfl (after_N hS56 (fun v62 G62 w62 hv62 hS62 => ?_))
   clear hS56
   obtain ⟨b62, rfl, rfl⟩ := hv62
   have hS63 : St _ _ [.blk b62 (.cells #[.int .i64 (41 : Int), .int .i64 (-1 : Int), _] 69), _, _, _] _ := hS62; clear hS62
   refine hK _ _ ?_; clear hK K
   refine l_q rfl rfl (q_assignI rfl) ?_
   refine l_q rfl rfl (q_assign rfl) ?_
   refine l_nil ?_
   refine hK61 _ _ ?_
   refine wp_ret ?_
   refine c_ret2 rfl rfl rfl ?_
   have hS64 : St _ _ [_] _ := hS63.only 1; clear hS63
   exact ⟨_, _, rfl, PartV.of (PtA.p1 (fun ⟨g1, g2, g3⟩ => by first | omega | exact hEn ⟨g2, g3⟩)), hS64⟩
  ·
   have hg59b := hg59
   try simp only [decide_eq_true_eq, decide_eq_false_iff_not, Bool.not_eq_true', Bool.not_eq_false', Bool.and_eq_true, Bool.or_eq_true, Int.not_lt, Int.not_le, ne_eq, Decidable.not_not] at hg59
   refine l_on rfl rfl hg59b ?_
   refine l_q rfl rfl (q_moveI rfl) ?_
   refine l_on rfl rfl hg59b ?_
   refine l_q rfl rfl (q_neq rfl rfl) ?_
   refine l_q rfl rfl (q_pickF rfl hg59b rfl) ?_
   refine l_nil ?_
   refine hK58 _ _ ?_
   refine c_condT rfl (by decide) ?_
   refine wp_seq_k (fun K66 hK66 => ?_)
   refine wp_region_lit ?_
   refine l_e rfl (fun K hK => ?_)
   refine e_call (by kernel_rfl) (fnew_ok (41 : Int) (-1 : Int) rfl _) rfl (after_N hS56 (fun v67 G67 w67 hv67 hS67 => ?_))
   clear hS56
   obtain ⟨b67, rfl, rfl⟩ := hv67
   have hS68 : St _ _ [.blk b67 (.cells #[.int .i64 (41 : Int), .int .i64 (-1 : Int), _] 69), _, _, _] _ := hS67; clear hS67
   refine hK _ _ ?_; clear hK K
   refine l_q rfl rfl (q_assignI rfl) ?_
   refine l_q rfl rfl (q_assign rfl) ?_
   refine l_nil ?_
   refine hK66 _ _ ?_
   refine wp_ret ?_
   refine c_ret2 rfl rfl rfl ?_
   have hS69 : St _ _ [_] _ := hS68.only 1; clear hS68
   exact ⟨_, _, rfl, PartV.of (PtA.p1 (fun ⟨g1, g2, g3⟩ => by first | omega | exact hEn ⟨g2, g3⟩)), hS69⟩

theorem cpart_yes (t : Tb) (htn : Bytes t.nm) (htc : CsOk t.cs) (htb : VsOk t.bd) (nc nb : Nat) (hnc : t.cs.length = nc) (hnb : t.bd.length = nb) (hmc : nc ≤ 2000000) (hmb : nb ≤ 2000000) (hRt : RtP t) (L : List Vl) (hPt : PtP t L ∧ KdTo t L L.length) (hL : VsOk L) (n : Nat) (hn : L.length = n) (al : Option Addr) {cl : Nat} (w : World) (hlm : n ≤ 9223372036854775807) (hG : SlG (hw w) al (List.flatMap vl L)) (ca ba : Option Addr) (cca cba : Nat)  (hCG : SlG (hw w) ca (List.flatMap cc t.cs)) (hBG : SlG (hw w) ba (List.flatMap vl t.bd)) : Calls Tryz.prog 20 #[.agg #[.string (bs t.nm), .slice ca nc cca, .int .i64 t.key, .int .i64 t.pt, .slice ba nb cba], .slice al n cl] w (PostN w fun v G => v = .tuple #[.int .i64 ((partN t L : Nat) : Int), .nilIface] ∧ G = []) :=
 (cpart_ok t htn htc htb nc nb hnc hnb hmc hmb hRt L hL n hn al cl hlm w hG ca ba cca cba hCG hBG).mono fun _ w' ⟨v, G, he, hP, hS⟩ => ⟨v, G, he, hP.yes hPt, hS⟩
theorem cpart_no (t : Tb) (htn : Bytes t.nm) (htc : CsOk t.cs) (htb : VsOk t.bd) (nc nb : Nat) (hnc : t.cs.length = nc) (hnb : t.bd.length = nb) (hmc : nc ≤ 2000000) (hmb : nb ≤ 2000000) (hRt : RtP t) (L : List Vl) (hPt : ¬(PtP t L ∧ KdTo t L L.length)) (hL : VsOk L) (n : Nat) (hn : L.length = n) (al : Option Addr) {cl : Nat} (w : World) (hlm : n ≤ 9223372036854775807) (hG : SlG (hw w) al (List.flatMap vl L)) (ca ba : Option Addr) (cca cba : Nat)  (hCG : SlG (hw w) ca (List.flatMap cc t.cs)) (hBG : SlG (hw w) ba (List.flatMap vl t.bd)) : Calls Tryz.prog 20 #[.agg #[.string (bs t.nm), .slice ca nc cca, .int .i64 t.key, .int .i64 t.pt, .slice ba nb cba], .slice al n cl] w (PostN w fun v G => ∃ a b, PtA t L 0 41 a ∧ v = .tuple #[.int .i64 0, fV b] ∧ G = [.blk b (fO 41 a .nilIface)]) :=
 (cpart_ok t htn htc htb nc nb hnc hnb hmc hmb hRt L hL n hn al cl hlm w hG ca ba cca cba hCG hBG).mono fun _ w' ⟨v, G, he, hP, hS⟩ => ⟨v, G, he, hP.no hPt, hS⟩
end Go.Proofs.YtmemgpcgjephmaaGreatDoor
