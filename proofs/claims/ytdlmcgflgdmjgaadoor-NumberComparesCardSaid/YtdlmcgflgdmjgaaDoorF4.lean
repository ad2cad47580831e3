/- Package fault: deep, each, Codes, Places. -/
import Derived.Test.YtdlmcgflgdmjgaaDoorF3
set_option linter.unusedVariables false
set_option linter.unusedSimpArgs false
namespace Go.Proofs.YtdlmcgflgdmjgaaDoor
open Go.RowKit
attribute [local irreducible] Oper.wp Sem.run Code.wp wpList wpAnyO callFunc execOp Calls

set_option maxRecDepth 100000 in
theorem deep_jn_ (b : Nat) (xv yv : Value) (x y : Er) (w : World) (hr : Ro w (fun _ => False) b) (hb : w.heap[b]? = some (jO xv yv)) (hx : ErIn (Ro w fun _ => False) w x xv) (hy : ErIn (Ro w fun _ => False) w y yv) (ihx : ∀ w, ErIn (Ro w fun _ => False) w x xv → Calls Tryd.prog 46 #[xv] w (PostR w fun r => r = .int .i64 x.deep)) (ihy : ∀ w, ErIn (Ro w fun _ => False) w y yv → Calls Tryd.prog 46 #[yv] w (PostR w fun r => r = .int .i64 y.deep)) : Calls Tryd.prog 46 #[jV b] w (PostR w fun r => r = .int .i64 (max x.deep y.deep)) := by
  have hS := St.start w
  refine c_enter Tryd.func46 rfl rfl rfl ?_
  refine wp_seq_k (fun K1 hK1 => ?_)
  refine wp_region_lit ?_
  first | refine l_q rfl rfl (q_assignI rfl) ?_ | refine l_q rfl rfl (q_assign rfl) ?_
  refine l_nil ?_
  refine hK1 _ _ ?_
  refine wp_seq_k (fun K2 hK2 => ?_)
  refine wp_seq_k (fun K3 hK3 => ?_)
  refine wp_region_lit ?_
  refine l_q rfl rfl (q_move rfl) ?_
  refine l_nil ?_
  refine hK3 _ _ ?_
  refine wp_block ?_
  refine wp_seq_k (fun K4 hK4 => ?_)
  refine wp_region_lit ?_
  first | refine l_q rfl rfl (q_taHit rfl (by kernel_rfl)) ?_ | refine l_q rfl rfl (q_taMiss (z := .pointer none) rfl (by kernel_rfl) rfl (by kernel_rfl)) ?_ | refine l_q rfl rfl (q_taNil (z := .pointer none) rfl (by kernel_rfl) rfl) ?_
  refine l_q rfl rfl (q_extract rfl rfl) ?_
  refine l_q rfl rfl (q_extract rfl rfl) ?_
  refine l_nil ?_
  refine hK4 _ _ ?_
  refine c_condF rfl rfl ?_
  refine wp_seq_k (fun K6 hK6 => ?_)
  refine wp_region_lit ?_
  first | refine l_q rfl rfl (q_taHit rfl (by kernel_rfl)) ?_ | refine l_q rfl rfl (q_taMiss (z := .pointer none) rfl (by kernel_rfl) rfl (by kernel_rfl)) ?_ | refine l_q rfl rfl (q_taNil (z := .pointer none) rfl (by kernel_rfl) rfl) ?_
  refine l_q rfl rfl (q_extract rfl rfl) ?_
  refine l_q rfl rfl (q_extract rfl rfl) ?_
  refine l_nil ?_
  refine hK6 _ _ ?_
  refine c_condT rfl rfl ?_
  refine wp_seq_k (fun K8 hK8 => ?_)
  refine wp_region_lit ?_
  first | refine l_q rfl rfl (q_assignP rfl) ?_ | refine l_q rfl rfl (q_assign rfl) ?_
  refine l_nil ?_
  refine hK8 _ _ ?_
  refine wp_seq_k (fun K9 hK9 => ?_)
  refine r_any (by kernel_rfl) hS (fun w10 hS10 => ?_)
  clear hS
  first | refine o_pure (i := 0) (fun _ _ => trivial) rfl rfl (by kernel_rfl) (goes0 rfl) (QOk.then (QOk.inBlock (QOk.then QOk.body))) (fun w => q_moveP rfl) ?_ | refine o_pure (i := 0) (fun _ _ => trivial) rfl rfl (by kernel_rfl) (goes0 rfl) (QOk.then (QOk.inBlock (QOk.then QOk.body))) (fun w => q_move rfl) ?_
  refine o_pure (i := 1) (fun _ _ => trivial) rfl rfl (by kernel_rfl) (goes0 rfl) (QOk.then (QOk.inBlock (QOk.then QOk.body))) (fun w => q_nilCheck rfl) ?_
  refine o_pure (i := 2) (fun _ _ => trivial) rfl rfl (by kernel_rfl) (goes0 rfl) (QOk.then (QOk.inBlock (QOk.then QOk.body))) (fun w => q_fieldAddr (ft := 29) (o := 0) rfl (by kernel_rfl)) ?_
  refine o_held (i := 3) [4, 9, 10, 11] (fun _ _ => trivial) rfl rfl (by kernel_rfl) (goes0 rfl) (QOk.then (QOk.inBlock (QOk.then QOk.body))) (q_load1 rfl (by kernel_rfl) (cell_blk ((hr.same hS10).trans hb) rfl)) ?_
  first | refine o_pure (i := 5) (fun j w => ⟨(fun _ _ => trivial) j w, fun _ h => h⟩) rfl rfl (by kernel_rfl) (goes0 rfl) (QOk.then (QOk.inBlock (QOk.then QOk.body))) (fun w => q_moveP rfl) ?_ | refine o_pure (i := 5) (fun j w => ⟨(fun _ _ => trivial) j w, fun _ h => h⟩) rfl rfl (by kernel_rfl) (goes0 rfl) (QOk.then (QOk.inBlock (QOk.then QOk.body))) (fun w => q_move rfl) ?_
  refine o_pure (i := 6) (fun j w => ⟨(fun _ _ => trivial) j w, fun _ h => h⟩) rfl rfl (by kernel_rfl) (goes0 rfl) (QOk.then (QOk.inBlock (QOk.then QOk.body))) (fun w => q_nilCheck rfl) ?_
  refine o_pure (i := 7) (fun j w => ⟨(fun _ _ => trivial) j w, fun _ h => h⟩) rfl rfl (by kernel_rfl) (goes0 rfl) (QOk.then (QOk.inBlock (QOk.then QOk.body))) (fun w => q_fieldAddr (ft := 29) (o := 1) rfl (by kernel_rfl)) ?_
  refine o_held (i := 8) [9, 10, 11] (fun j w => ⟨(fun _ _ => trivial) j w, fun _ h => h⟩) rfl rfl (by kernel_rfl) (goes0 rfl) (QOk.then (QOk.inBlock (QOk.then QOk.body))) (q_load1 rfl (by kernel_rfl) (cell_blk ((hr.same hS10).trans hb) rfl)) ?_
  refine o_eff (i := 4) (by kernel_rfl) rfl (goes0 rfl) (fun K hK => ?_)
  refine e_call (by kernel_rfl) (ihx _ (hx.nextR hS10)) rfl (after_R hS10 (fun v11 w11 hv11 hS11 => ?_))
  clear hS10; replace hv11 := hv11.symm; subst hv11
  refine hK _ _ ⟨⟨trivial, fun h => absurd h (by decide)⟩, fun _ _ => by first | exact q_load1 rfl (by kernel_rfl) (cell_blk ((hr.same hS11).trans hb) rfl)⟩ ?_; clear hK K
  refine o_eff (i := 9) (by kernel_rfl) rfl (goes0 rfl) (fun K hK => ?_)
  refine e_call (by kernel_rfl) (ihy _ (hy.nextR hS11)) rfl (after_R hS11 (fun v12 w12 hv12 hS12 => ?_))
  clear hS11; replace hv12 := hv12.symm; subst hv12
  refine hK _ _ ⟨⟨trivial, fun h => absurd h (by decide)⟩, fun h => absurd h (by decide)⟩ ?_; clear hK K
  refine o_pure (i := 10) (fun j w => ⟨(fun j w => ⟨(fun _ _ => trivial) j w, fun _ h => h⟩) j w, fun _ h => h⟩) rfl rfl (by kernel_rfl) (goes0 rfl) (QOk.then (QOk.inBlock (QOk.then QOk.body))) (fun w => q_max rfl rfl) ?_
  first | refine o_pure (i := 11) (fun j w => ⟨(fun j w => ⟨(fun _ _ => trivial) j w, fun _ h => h⟩) j w, fun _ h => h⟩) rfl rfl (by kernel_rfl) (goes0 rfl) (QOk.then (QOk.inBlock (QOk.then QOk.body))) (fun w => q_assignI rfl) ?_ | refine o_pure (i := 11) (fun j w => ⟨(fun j w => ⟨(fun _ _ => trivial) j w, fun _ h => h⟩) j w, fun _ h => h⟩) rfl rfl (by kernel_rfl) (goes0 rfl) (QOk.then (QOk.inBlock (QOk.then QOk.body))) (fun w => q_assign rfl) ?_
  refine o_done (by kernel_rfl) ?_
  refine hK9 _ _ ?_
  refine wp_ret ?_
  refine c_ret1 rfl rfl ?_
  exact ⟨_, rfl, rfl, hS12.drop⟩

theorem deep_ok : ∀ (e : Er) (v : Value) (w : World), (e.deep : Int) ≤ 4611686018427387904 → ErIn (Ro w fun _ => False) w e v → Calls Tryd.prog 46 #[v] w (PostR w fun r => r = .int .i64 e.deep)
  | .nil, v, w, _, h => by
    obtain rfl : v = .nilIface := h
    exact deep_nil_ w
  | .flt c a u, v, w, hd, h => by
    obtain ⟨b, uv, rfl, hr, hb, hu⟩ := h
    have hd' : (u.deep : Int) ≤ 4611686018427387904 := by simp only [Er.deep] at hd; omega
    refine (deep_flt_ c a b uv u w hb hu hd' fun w' hu' => deep_ok u uv w' hd' hu').mono ?_
    rintro e w' ⟨r, rfl, rfl, hS⟩
    exact ⟨_, rfl, by simp [Er.deep], hS⟩
  | .jn x y, v, w, hd, h => by
    obtain ⟨b, xv, yv, rfl, hr, hb, hx, hy⟩ := h
    have hd1 : (x.deep : Int) ≤ 4611686018427387904 := by simp only [Er.deep] at hd; omega
    have hd2 : (y.deep : Int) ≤ 4611686018427387904 := by simp only [Er.deep] at hd; omega
    refine (deep_jn_ b xv yv x y w hr hb hx hy (fun w' h' => deep_ok x xv w' hd1 h') fun w' h' => deep_ok y yv w' hd2 h').mono ?_
    rintro e w' ⟨r, rfl, rfl, hS⟩
    exact ⟨_, rfl, by (show Value.int .i64 (max (x.deep : Int) (y.deep : Int)) = .int .i64 ((max x.deep y.deep : Nat) : Int)); congr 1; omega, hS⟩

set_option maxRecDepth 100000 in
theorem Deep_ok (e : Er) (v : Value) (w : World) (hd : (e.deep : Int) ≤ 4611686018427387904) (hE : ErIn (Ro w fun _ => False) w e v) : Calls Tryd.prog 24 #[v] w (PostR w fun r => r = .int .i64 e.deep) := by
  have hS := St.start w
  refine c_enter Tryd.func24 rfl rfl rfl ?_
  refine wp_seq_k (fun K1 hK1 => ?_)
  refine wp_region_lit ?_
  first | refine l_q rfl rfl (q_assignI rfl) ?_ | refine l_q rfl rfl (q_assign rfl) ?_
  refine l_nil ?_
  refine hK1 _ _ ?_
  refine wp_seq_k (fun K2 hK2 => ?_)
  refine wp_region_lit ?_
  refine l_q rfl rfl (q_move rfl) ?_
  refine l_e rfl (fun K hK => ?_)
  refine e_call (by kernel_rfl) (deep_ok e _ _ hd (hE.nextR hS)) rfl (after_R hS (fun v3 w3 hv3 hS3 => ?_))
  clear hS; replace hv3 := hv3.symm; subst hv3
  refine hK _ _ ?_; clear hK K
  first | refine l_q rfl rfl (q_assignI rfl) ?_ | refine l_q rfl rfl (q_assign rfl) ?_
  refine l_nil ?_
  refine hK2 _ _ ?_
  refine wp_ret ?_
  refine c_ret1 rfl rfl ?_
  exact ⟨_, rfl, rfl, hS3.drop⟩

/-- What a visitor does with one fault. -/
def Vis (fid : Nat) (cap : List Value) (G : List (Int × Int) → List Ch → Prop) : Prop := ∀ (xs : List (Int × Int)) (Γ : List Ch) (c a : Int) (uv : Value) (eb : Nat) (w : World), G xs Γ → xs.length ≤ 1000000 → St w (owns Γ) Γ w → Ro w (owns Γ) eb → w.heap[eb]? = some (fO c a uv) →
  Calls Tryd.prog fid (List.toArray (.pointer (some ⟨eb, 0, none⟩) :: cap)) w (Post w Γ fun _ Γ' => G (xs ++ [(c, a)]) Γ')
def EachOk (fid : Nat) (cap : List Value) (G : List (Int × Int) → List Ch → Prop) (e : Er) : Prop := ∀ (v : Value) (xs : List (Int × Int)) (Γ : List Ch) (w : World), G xs Γ → xs.length + e.list.length ≤ 1000000 → St w (owns Γ) Γ w → ¬ owns Γ 0 → LaidV w → ErIn (Ro w (owns Γ)) w e v →
  Calls Tryd.prog 41 #[v, .func (.func fid) #[] cap.toArray] w (Post w Γ fun _ Γ' => G (xs ++ e.list) Γ')

set_option maxRecDepth 100000 in
theorem each_nil (fid : Nat) (cap : List Value) (G : List (Int × Int) → List Ch → Prop) (hfid : callB Tryd.prog fid = true) (hV : Vis fid cap G)(xs : List (Int × Int)) (Γ : List Ch) (w : World) (hG : G xs Γ) (hS : St w (owns Γ) Γ w) (hz : ¬ owns Γ 0) (hl : LaidV w) : Calls Tryd.prog 41 #[.nilIface, .func (.func fid) #[] cap.toArray] w (Post w Γ fun _ Γ' => G (xs ++ Er.nil.list) Γ') := by
  refine c_enter Tryd.func41 rfl rfl rfl ?_
  refine wp_seq_k (fun K1 hK1 => ?_)
  refine wp_region_lit ?_
  refine l_e rfl (fun K hK => ?_)
  refine e_alloc (zv := .pointer none) hS (by kernel_rfl) (fun b2 w2 hS2 => ?_)
  clear hS
  refine hK _ _ ?_; clear hK K
  refine l_nil ?_
  refine hK1 _ _ ?_
  refine wp_seq_k (fun K3 hK3 => ?_)
  refine wp_region_lit ?_
  refine l_q rfl rfl (q_move rfl) ?_
  first | refine l_q rfl rfl (q_taHit rfl (by kernel_rfl)) ?_ | refine l_q rfl rfl (q_taMiss (z := .pointer none) rfl (by kernel_rfl) rfl (by kernel_rfl)) ?_ | refine l_q rfl rfl (q_taNil (z := .pointer none) rfl (by kernel_rfl) rfl) ?_
  refine l_q rfl rfl (q_move rfl) ?_
  refine l_q rfl rfl (q_extract rfl rfl) ?_
  refine l_q rfl rfl (q_extract rfl rfl) ?_
  first | refine l_q rfl rfl (q_assignP rfl) ?_ | refine l_q rfl rfl (q_assign rfl) ?_
  first | refine l_q rfl rfl (q_assignB rfl) ?_ | refine l_q rfl rfl (q_assign rfl) ?_
  refine l_nil ?_
  refine hK3 _ _ ?_
  refine wp_seq_k (fun K4 hK4 => ?_)
  refine wp_region_lit ?_
  first | refine l_q rfl rfl (q_moveB rfl) ?_ | refine l_q rfl rfl (q_move rfl) ?_
  refine l_nil ?_
  refine hK4 _ _ ?_
  refine c_condF rfl rfl ?_
  refine wp_seq_k (fun K6 hK6 => ?_)
  refine wp_region_lit ?_
  refine l_q rfl rfl (q_move rfl) ?_
  refine l_q rfl rfl (q_makeInterface rfl (by kernel_rfl)) ?_
  refine l_e rfl (fun K hK => ?_)
  refine e_call (by kernel_rfl) (As_nil _ _) rfl (after_R hS2 (fun v7 w7 hv7 hS7 => ?_))
  clear hS2; replace hv7 := hv7.symm; subst hv7
  refine hK _ _ ?_; clear hK K
  refine l_nil ?_
  refine hK6 _ _ ?_
  refine c_condF rfl rfl ?_
  refine wp_skip ?_
  refine c_end0 rfl ?_
  exact ⟨_, Γ, rfl, by simpa [Er.list] using hG, hS7.sub (.cons _ (.refl _))⟩

set_option maxRecDepth 100000 in
theorem each_flt (fid : Nat) (cap : List Value) (G : List (Int × Int) → List Ch → Prop) (hfid : callB Tryd.prog fid = true) (hV : Vis fid cap G)(xs : List (Int × Int)) (Γ : List Ch) (w : World) (hG : G xs Γ) (hS : St w (owns Γ) Γ w) (hz : ¬ owns Γ 0) (hl : LaidV w)(c a : Int) (u : Er) (b : Nat) (uv : Value) (hn : xs.length + (Er.flt c a u).list.length ≤ 1000000) (hr : Ro w (owns Γ) b) (hb : w.heap[b]? = some (fO c a uv)) (hu : ErIn (Ro w (owns Γ)) w u uv) (ih : EachOk fid cap G u) : Calls Tryd.prog 41 #[fV b, .func (.func fid) #[] cap.toArray] w (Post w Γ fun _ Γ' => G (xs ++ (Er.flt c a u).list) Γ') := by
  have hn1 : xs.length ≤ 1000000 := by omega
  refine c_enter Tryd.func41 rfl rfl rfl ?_
  refine wp_seq_k (fun K1 hK1 => ?_)
  refine wp_region_lit ?_
  refine l_e rfl (fun K hK => ?_)
  refine e_alloc (zv := .pointer none) hS (by kernel_rfl) (fun b2 w2 hS2 => ?_)
  clear hS
  refine hK _ _ ?_; clear hK K
  refine l_nil ?_
  refine hK1 _ _ ?_
  refine wp_seq_k (fun K3 hK3 => ?_)
  refine wp_region_lit ?_
  refine l_q rfl rfl (q_move rfl) ?_
  first | refine l_q rfl rfl (q_taHit rfl (by kernel_rfl)) ?_ | refine l_q rfl rfl (q_taMiss (z := .pointer none) rfl (by kernel_rfl) rfl (by kernel_rfl)) ?_ | refine l_q rfl rfl (q_taNil (z := .pointer none) rfl (by kernel_rfl) rfl) ?_
  refine l_q rfl rfl (q_move rfl) ?_
  refine l_q rfl rfl (q_extract rfl rfl) ?_
  refine l_q rfl rfl (q_extract rfl rfl) ?_
  first | refine l_q rfl rfl (q_assignP rfl) ?_ | refine l_q rfl rfl (q_assign rfl) ?_
  first | refine l_q rfl rfl (q_assignB rfl) ?_ | refine l_q rfl rfl (q_assign rfl) ?_
  refine l_nil ?_
  refine hK3 _ _ ?_
  refine wp_seq_k (fun K4 hK4 => ?_)
  refine wp_region_lit ?_
  first | refine l_q rfl rfl (q_moveB rfl) ?_ | refine l_q rfl rfl (q_move rfl) ?_
  refine l_nil ?_
  refine hK4 _ _ ?_
  refine c_condT rfl rfl ?_
  refine wp_seq_k (fun K6 hK6 => ?_)
  refine wp_region_lit ?_
  refine l_q rfl rfl (q_move rfl) ?_
  first | refine l_q rfl rfl (q_moveP rfl) ?_ | refine l_q rfl rfl (q_move rfl) ?_
  refine l_e rfl (fun K hK => ?_)
  have hP7 := hS2.perm (List.perm_append_comm (l₁ := [_]) (l₂ := Γ))
  refine e_callV hfid rfl (hV xs Γ c a uv b _ hG (by omega) hP7.begin (hr.next hP7) ((hr.same hS2).trans hb)) rfl (after_M hP7 (fun v7 Γ1 w7 hG1 hS7 => ?_))
  clear hS2 hP7
  refine hK _ _ ?_; clear hK K
  refine l_nil ?_
  refine hK6 _ _ ?_
  refine wp_region_lit ?_
  first | refine l_q rfl rfl (q_moveP rfl) ?_ | refine l_q rfl rfl (q_move rfl) ?_
  refine l_q rfl rfl (q_nilCheck rfl) ?_
  refine l_q rfl rfl (q_fieldAddr (ft := 29) (o := 2) rfl (by kernel_rfl)) ?_
  refine l_q rfl rfl (q_load1 rfl (by kernel_rfl) (cell_blk ((hr.same hS7).trans hb) rfl)) ?_
  refine l_q rfl rfl (q_move rfl) ?_
  refine l_e rfl (fun K hK => ?_)
  refine e_call (by kernel_rfl) (ih _ (xs ++ [(c, a)]) Γ1 _ hG1 (by simp only [Er.list, List.length_append, List.length_cons, List.length_nil] at hn ⊢; omega) hS7.begin (hS7.own0 hz hl.pos) (hl.keep hz hS7) (hu.next hS7)) rfl (after_M hS7 (fun v8 Γ2 w8 hΓ2 hS8 => ?_))
  clear hS7
  refine hK _ _ ?_; clear hK K
  refine l_nil ?_
  refine c_end0 rfl ?_
  exact ⟨_, Γ2, rfl, by simpa [Er.list] using hΓ2, hS8.sub (List.sublist_append_left _ _)⟩

theorem last_blk {w0 w : World} {D : Nat → Prop} {Γ : List Ch} {b : Nat} {o : Obj} (h : St w0 D (Γ ++ [.blk b o]) w) : w.heap[b]? = some o := (h.sat.mem (.blk b o) (by simp)).1
set_option maxRecDepth 100000 in
theorem each_jn (fid : Nat) (cap : List Value) (G : List (Int × Int) → List Ch → Prop) (hfid : callB Tryd.prog fid = true) (hV : Vis fid cap G)(xs : List (Int × Int)) (Γ : List Ch) (w : World) (hG : G xs Γ) (hS : St w (owns Γ) Γ w) (hz : ¬ owns Γ 0) (hl : LaidV w)(x y : Er) (b : Nat) (xv yv : Value) (hn : xs.length + (Er.jn x y).list.length ≤ 1000000) (hr : Ro w (owns Γ) b) (hb : w.heap[b]? = some (jO xv yv)) (hx : ErIn (Ro w (owns Γ)) w x xv) (hy : ErIn (Ro w (owns Γ)) w y yv) (ihx : EachOk fid cap G x) (ihy : EachOk fid cap G y) : Calls Tryd.prog 41 #[jV b, .func (.func fid) #[] cap.toArray] w (Post w Γ fun _ Γ' => G (xs ++ (Er.jn x y).list) Γ') := by
  refine c_enter Tryd.func41 rfl rfl rfl ?_
  refine wp_seq_k (fun K1 hK1 => ?_)
  refine wp_region_lit ?_
  refine l_e rfl (fun K hK => ?_)
  refine e_alloc (zv := .pointer none) hS (by kernel_rfl) (fun b2 w2 hS2 => ?_)
  clear hS
  refine hK _ _ ?_; clear hK K
  refine l_nil ?_
  refine hK1 _ _ ?_
  refine wp_seq_k (fun K3 hK3 => ?_)
  refine wp_region_lit ?_
  refine l_q rfl rfl (q_move rfl) ?_
  first | refine l_q rfl rfl (q_taHit rfl (by kernel_rfl)) ?_ | refine l_q rfl rfl (q_taMiss (z := .pointer none) rfl (by kernel_rfl) rfl (by kernel_rfl)) ?_ | refine l_q rfl rfl (q_taNil (z := .pointer none) rfl (by kernel_rfl) rfl) ?_
  refine l_q rfl rfl (q_move rfl) ?_
  refine l_q rfl rfl (q_extract rfl rfl) ?_
  refine l_q rfl rfl (q_extract rfl rfl) ?_
  first | refine l_q rfl rfl (q_assignP rfl) ?_ | refine l_q rfl rfl (q_assign rfl) ?_
  first | refine l_q rfl rfl (q_assignB rfl) ?_ | refine l_q rfl rfl (q_assign rfl) ?_
  refine l_nil ?_
  refine hK3 _ _ ?_
  refine wp_seq_k (fun K4 hK4 => ?_)
  refine wp_region_lit ?_
  first | refine l_q rfl rfl (q_moveB rfl) ?_ | refine l_q rfl rfl (q_move rfl) ?_
  refine l_nil ?_
  refine hK4 _ _ ?_
  refine c_condF rfl rfl ?_
  refine wp_seq_k (fun K6 hK6 => ?_)
  refine wp_region_lit ?_
  refine l_q rfl rfl (q_move rfl) ?_
  refine l_q rfl rfl (q_makeInterface rfl (by kernel_rfl)) ?_
  refine l_e rfl (fun K hK => ?_)
  refine e_call (by kernel_rfl) (As_hit_J _ _ (hS2.new0 (i := 0) rfl hz hl.pos) _ _ (St.begin (Γ := [_]) hS2) (hl.keep hz hS2)) rfl (after_M (Γ1 := [_]) hS2 (fun v7 G7 w7 hv7 hS7 => ?_))
  clear hS2; obtain ⟨rfl, rfl⟩ := hv7; have hS := hS7.perm (List.perm_append_comm (l₁ := [_]) (l₂ := Γ)); clear hS7
  refine hK _ _ ?_; clear hK K
  refine l_nil ?_
  refine hK6 _ _ ?_
  refine c_condT rfl rfl ?_
  refine wp_seq_k (fun K9 hK9 => ?_)
  refine wp_region_lit ?_
  refine l_q rfl rfl (q_load1 rfl (by kernel_rfl) (cell_blk (last_blk hS) rfl)) ?_
  refine l_q rfl rfl (q_nilCheck rfl) ?_
  refine l_q rfl rfl (q_fieldAddr (ft := 29) (o := 0) rfl (by kernel_rfl)) ?_
  refine l_q rfl rfl (q_load1 rfl (by kernel_rfl) (cell_blk ((hr.same hS).trans hb) rfl)) ?_
  refine l_q rfl rfl (q_move rfl) ?_
  refine l_e rfl (fun K hK => ?_)
  refine e_call (by kernel_rfl) (ihx _ xs Γ _ hG (by simp only [Er.list, List.length_append] at hn ⊢; omega) hS.begin (hS.own0 hz hl.pos) (hl.keep hz hS) (hx.next hS)) rfl (after_M hS (fun v10 Γ2 w10 hΓ2 hS10 => ?_))
  clear hS
  refine hK _ _ ?_; clear hK K
  refine l_nil ?_
  refine hK9 _ _ ?_
  refine wp_region_lit ?_
  refine l_q rfl rfl (q_load1 rfl (by kernel_rfl) (cell_blk (last_blk hS10) rfl)) ?_
  refine l_q rfl rfl (q_nilCheck rfl) ?_
  refine l_q rfl rfl (q_fieldAddr (ft := 29) (o := 1) rfl (by kernel_rfl)) ?_
  refine l_q rfl rfl (q_load1 rfl (by kernel_rfl) (cell_blk ((hr.same hS10).trans hb) rfl)) ?_
  refine l_q rfl rfl (q_move rfl) ?_
  refine l_e rfl (fun K hK => ?_)
  refine e_call (by kernel_rfl) (ihy _ (xs ++ x.list) Γ2 _ hΓ2 (by simp only [Er.list, List.length_append] at hn ⊢; omega) hS10.begin (hS10.own0 hz hl.pos) (hl.keep hz hS10) (hy.next hS10)) rfl (after_M hS10 (fun v11 Γ3 w11 hΓ3 hS11 => ?_))
  clear hS10
  refine hK _ _ ?_; clear hK K
  refine l_nil ?_
  refine c_end0 rfl ?_
  exact ⟨_, Γ3, rfl, by simpa [Er.list] using hΓ3, hS11.sub (List.sublist_append_left _ _)⟩

theorem each_ok (fid : Nat) (cap : List Value) (G : List (Int × Int) → List Ch → Prop) (hfid : callB Tryd.prog fid = true) (hV : Vis fid cap G) : ∀ e, EachOk fid cap G e
  | .nil => fun v xs Γ w hG hn hS hz hl h => by
    obtain rfl : v = .nilIface := h
    exact each_nil fid cap G hfid hV xs Γ w hG hS hz hl
  | .flt c a u => fun v xs Γ w hG hn hS hz hl h => by
    obtain ⟨b, uv, rfl, hr, hb, hu⟩ := h
    exact each_flt fid cap G hfid hV xs Γ w hG hS hz hl c a u b uv hn hr hb hu (each_ok fid cap G hfid hV u)
  | .jn x y => fun v xs Γ w hG hn hS hz hl h => by
    obtain ⟨b, xv, yv, rfl, hr, hb, hx, hy⟩ := h
    exact each_jn fid cap G hfid hV xs Γ w hG hS hz hl x y b xv yv hn hr hb hx hy (each_ok fid cap G hfid hV x) (each_ok fid cap G hfid hV y)

def CodesG (cb : Nat) (xs : List (Int × Int)) (Γ : List Ch) : Prop := ∃ sv, Γ = [.sl 23 1 sv xs.length (xs.map fun q => .int .i64 q.1), .blk cb (.cells #[sv] 30)]
set_option maxRecDepth 100000 in
theorem Codes_vis_ (cb eb : Nat) (c a : Int) (uv sv : Value) (m : Nat) (cs : List Value) (w : World) (hm : m ≤ 1000000) (hS : St w (owns [.sl 23 1 sv m cs, .blk cb (.cells #[sv] 30)]) [.sl 23 1 sv m cs, .blk cb (.cells #[sv] 30)] w) (hr : Ro w (owns [.sl 23 1 sv m cs, .blk cb (.cells #[sv] 30)]) eb) (hb : w.heap[eb]? = some (fO c a uv)) : Calls Tryd.prog 42 #[.pointer (some ⟨eb, 0, none⟩), .pointer (some ⟨cb, 0, none⟩)] w (Post w [.sl 23 1 sv m cs, .blk cb (.cells #[sv] 30)] fun _ Γ => ∃ sv', Γ = [.sl 23 1 sv' (m + 1) (cs ++ [.int .i64 c]), .blk cb (.cells #[sv'] 30)]) := by
  have hml : m + 1 ≤ maxLen := by unfold maxLen; omega
  refine c_enter Tryd.func42 rfl rfl rfl ?_
  refine r_any (by kernel_rfl) hS (fun w1 hS1 => ?_)
  clear hS
  refine o_held (i := 0) [6, 7] (fun _ _ => trivial) rfl rfl (by kernel_rfl) (goes0 rfl) QOk.body (q_load1 rfl (by kernel_rfl) (by first | exact hS1.cell (i := 0) rfl rfl | exact hS1.cell (i := 1) rfl rfl | exact hS1.cell (i := 2) rfl rfl | exact hS1.cell (i := 3) rfl rfl | exact hS1.cell (i := 4) rfl rfl | exact hS1.cell (i := 5) rfl rfl | exact hS1.cell (i := 6) rfl rfl | exact hS1.cell (i := 7) rfl rfl | assumption)) ?_
  first | refine o_pure (i := 1) (fun j w => ⟨(fun _ _ => trivial) j w, fun _ h => h⟩) rfl rfl (by kernel_rfl) (goes0 rfl) QOk.body (fun w => q_moveP rfl) ?_ | refine o_pure (i := 1) (fun j w => ⟨(fun _ _ => trivial) j w, fun _ h => h⟩) rfl rfl (by kernel_rfl) (goes0 rfl) QOk.body (fun w => q_move rfl) ?_
  refine o_pure (i := 2) (fun j w => ⟨(fun _ _ => trivial) j w, fun _ h => h⟩) rfl rfl (by kernel_rfl) (goes0 rfl) QOk.body (fun w => q_nilCheck rfl) ?_
  refine o_pure (i := 3) (fun j w => ⟨(fun _ _ => trivial) j w, fun _ h => h⟩) rfl rfl (by kernel_rfl) (goes0 rfl) QOk.body (fun w => q_fieldAddr (ft := 23) (o := 0) rfl (by kernel_rfl)) ?_
  refine o_held (i := 4) [5, 6, 7] (fun j w => ⟨(fun _ _ => trivial) j w, fun _ h => h⟩) rfl rfl (by kernel_rfl) (goes0 rfl) QOk.body (q_load1 rfl (by kernel_rfl) (cell_blk ((hr.same hS1).trans hb) rfl)) ?_
  refine o_eff (i := 5) (by kernel_rfl) rfl (goes0 rfl) (fun K hK => ?_)
  refine e_buildSlice1 (e := 23) (zv := .int .i64 0) (xs := [.tmp 7]) hS1 (by kernel_rfl) (by kernel_rfl) (by kernel_rfl) rfl rfl rfl rfl (ones1 (by first | rfl | assumption)) rfl (fun b2 w2 hS2 => ?_)
  clear hS1
  refine hK _ _ ⟨⟨trivial, fun _ _ => by first | exact q_load1 rfl (by kernel_rfl) (by first | exact hS2.cell (i := 0) rfl rfl | exact hS2.cell (i := 1) rfl rfl | exact hS2.cell (i := 2) rfl rfl | exact hS2.cell (i := 3) rfl rfl | exact hS2.cell (i := 4) rfl rfl | exact hS2.cell (i := 5) rfl rfl | exact hS2.cell (i := 6) rfl rfl | exact hS2.cell (i := 7) rfl rfl | assumption)⟩, fun h => absurd h (by decide)⟩ ?_; clear hK K
  refine o_eff (i := 6) (by kernel_rfl) rfl (goes0 rfl) (fun K hK => ?_)
  first | refine e_append (e := 23) (size := 1) (bytes := 8) (i := 1) (by kernel_rfl) hS2 rfl rfl rfl (reads_blk (hS2.blk (i := 0) rfl)) rfl (by first | exact ones1 rfl | exact ones1 (by assumption)) (by omega) (by omega) (fun h => by cases h) (fun v3 w3 hS3 => ?_)
  clear hS2
  refine hK _ _ ⟨⟨trivial, fun h => absurd h (by decide)⟩, fun h => absurd h (by decide)⟩ ?_; clear hK K
  refine o_eff (i := 7) (by kernel_rfl) rfl (goes0 rfl) (fun K hK => ?_)
  have ho := sl_one (hS3.sl (i := 1) rfl)
  first | refine e_store1 hS3 rfl rfl (by kernel_rfl) (by first | rfl | assumption) (i := 0) rfl rfl (fun w4 hS4 => ?_) | refine e_store1 hS3 rfl rfl (by kernel_rfl) (by first | rfl | assumption) (i := 1) rfl rfl (fun w4 hS4 => ?_) | refine e_store1 hS3 rfl rfl (by kernel_rfl) (by first | rfl | assumption) (i := 2) rfl rfl (fun w4 hS4 => ?_) | refine e_store1 hS3 rfl rfl (by kernel_rfl) (by first | rfl | assumption) (i := 3) rfl rfl (fun w4 hS4 => ?_) | refine e_store1 hS3 rfl rfl (by kernel_rfl) (by first | rfl | assumption) (i := 4) rfl rfl (fun w4 hS4 => ?_) | refine e_store1 hS3 rfl rfl (by kernel_rfl) (by first | rfl | assumption) (i := 5) rfl rfl (fun w4 hS4 => ?_) | refine e_store1 hS3 rfl rfl (by kernel_rfl) (by first | rfl | assumption) (i := 6) rfl rfl (fun w4 hS4 => ?_) | refine e_store1 hS3 rfl rfl (by kernel_rfl) (by first | rfl | assumption) (i := 7) rfl rfl (fun w4 hS4 => ?_)
  clear hS3
  refine hK _ _ ⟨⟨trivial, fun h => absurd h (by decide)⟩, fun h => absurd h (by decide)⟩ ?_; clear hK K
  refine o_done (by kernel_rfl) ?_
  refine c_end0 rfl ?_
  exact ⟨_, _, rfl, ⟨_, rfl⟩, hS4.sub (.cons _ (.refl _))⟩

theorem Codes_vis (cb : Nat) : Vis 42 [.pointer (some ⟨cb, 0, none⟩)] (CodesG cb) := by
  rintro xs Γ c a uv eb w ⟨sv, rfl⟩ hx hS hr hb
  refine (Codes_vis_ cb eb c a uv sv _ _ w hx hS hr hb).mono ?_
  rintro e w' ⟨v, Γ', rfl, ⟨sv', rfl⟩, hS'⟩
  exact ⟨_, _, rfl, ⟨sv', by simp⟩, hS'⟩
set_option maxRecDepth 100000 in
theorem Codes_ok (e : Er) (v : Value) (w : World) (hn : e.list.length ≤ 1000000) (hl : LaidV w) (hE : ErIn (Ro w (fun _ => False)) w e v) : Calls Tryd.prog 15 #[v] w (PostN w fun v G => G = [.sl 23 1 v e.list.length (e.list.map fun q => .int .i64 q.1)]) := by
  have hS := St.start w
  refine c_enter Tryd.func15 rfl rfl rfl ?_
  refine wp_seq_k (fun K1 hK1 => ?_)
  refine wp_region_lit ?_
  first | refine l_q rfl rfl (q_assignS rfl) ?_ | refine l_q rfl rfl (q_assign rfl) ?_
  refine l_nil ?_
  refine hK1 _ _ ?_
  refine wp_seq_k (fun K2 hK2 => ?_)
  refine wp_region_lit ?_
  refine l_e rfl (fun K hK => ?_)
  refine e_alloc (zv := .slice none 0 0) hS (by kernel_rfl) (fun b3 w3 hS3 => ?_)
  clear hS
  refine hK _ _ ?_; clear hK K
  refine l_nil ?_
  refine hK2 _ _ ?_
  refine wp_seq_k (fun K4 hK4 => ?_)
  refine wp_region_lit ?_
  refine l_q rfl rfl (q_move rfl) ?_
  refine l_q rfl rfl (q_makeFunc) ?_
  refine l_e rfl (fun K hK => ?_)
  have hN5 := hS3.sl_nil (e := 23) (size := 1)
  have hG5 : CodesG b3 [] _ := ⟨.slice none 0 0, rfl⟩
  refine e_call (by kernel_rfl) (each_ok _ _ _ (by kernel_rfl) (Codes_vis b3) e _ [] _ _ hG5 (by simpa using hn) (St.begin (F := []) hN5) (St.own0 (F := []) hN5 id hl.pos) (hl.keep id hN5) (hE.next (F := []) hN5)) rfl (after_M (F := []) hN5 (fun v5 G5 w5 hv5 hS5 => ?_))
  clear hS3 hN5 hG5; obtain ⟨sv, rfl⟩ := hv5
  refine hK _ _ ?_; clear hK K
  refine l_nil ?_
  refine hK4 _ _ ?_
  refine wp_seq_k (fun K6 hK6 => ?_)
  refine wp_region_lit ?_
  refine l_q rfl rfl (q_load1 rfl (by kernel_rfl) (by first | exact hS5.cell (i := 0) rfl rfl | exact hS5.cell (i := 1) rfl rfl | exact hS5.cell (i := 2) rfl rfl | exact hS5.cell (i := 3) rfl rfl | exact hS5.cell (i := 4) rfl rfl | exact hS5.cell (i := 5) rfl rfl | exact hS5.cell (i := 6) rfl rfl | exact hS5.cell (i := 7) rfl rfl | assumption)) ?_
  first | refine l_q rfl rfl (q_assignS rfl) ?_ | refine l_q rfl rfl (q_assign rfl) ?_
  refine l_nil ?_
  refine hK6 _ _ ?_
  refine wp_ret ?_
  refine c_ret1 rfl rfl ?_
  exact ⟨_, _, rfl, rfl, hS5.sub (.cons_cons _ (List.nil_sublist _))⟩

def PlacesG (cb : Nat) (xs : List (Int × Int)) (Γ : List Ch) : Prop := ∃ sv, Γ = [.sl 3 1 sv xs.length (xs.map fun q => .int .i64 q.2), .blk cb (.cells #[sv] 37)]
set_option maxRecDepth 100000 in
theorem Places_vis_ (cb eb : Nat) (c a : Int) (uv sv : Value) (m : Nat) (cs : List Value) (w : World) (hm : m ≤ 1000000) (hS : St w (owns [.sl 3 1 sv m cs, .blk cb (.cells #[sv] 37)]) [.sl 3 1 sv m cs, .blk cb (.cells #[sv] 37)] w) (hr : Ro w (owns [.sl 3 1 sv m cs, .blk cb (.cells #[sv] 37)]) eb) (hb : w.heap[eb]? = some (fO c a uv)) : Calls Tryd.prog 44 #[.pointer (some ⟨eb, 0, none⟩), .pointer (some ⟨cb, 0, none⟩)] w (Post w [.sl 3 1 sv m cs, .blk cb (.cells #[sv] 37)] fun _ Γ => ∃ sv', Γ = [.sl 3 1 sv' (m + 1) (cs ++ [.int .i64 a]), .blk cb (.cells #[sv'] 37)]) := by
  have hml : m + 1 ≤ maxLen := by unfold maxLen; omega
  refine c_enter Tryd.func44 rfl rfl rfl ?_
  refine r_any (by kernel_rfl) hS (fun w1 hS1 => ?_)
  clear hS
  refine o_held (i := 0) [6, 7] (fun _ _ => trivial) rfl rfl (by kernel_rfl) (goes0 rfl) QOk.body (q_load1 rfl (by kernel_rfl) (by first | exact hS1.cell (i := 0) rfl rfl | exact hS1.cell (i := 1) rfl rfl | exact hS1.cell (i := 2) rfl rfl | exact hS1.cell (i := 3) rfl rfl | exact hS1.cell (i := 4) rfl rfl | exact hS1.cell (i := 5) rfl rfl | exact hS1.cell (i := 6) rfl rfl | exact hS1.cell (i := 7) rfl rfl | assumption)) ?_
  first | refine o_pure (i := 1) (fun j w => ⟨(fun _ _ => trivial) j w, fun _ h => h⟩) rfl rfl (by kernel_rfl) (goes0 rfl) QOk.body (fun w => q_moveP rfl) ?_ | refine o_pure (i := 1) (fun j w => ⟨(fun _ _ => trivial) j w, fun _ h => h⟩) rfl rfl (by kernel_rfl) (goes0 rfl) QOk.body (fun w => q_move rfl) ?_
  refine o_pure (i := 2) (fun j w => ⟨(fun _ _ => trivial) j w, fun _ h => h⟩) rfl rfl (by kernel_rfl) (goes0 rfl) QOk.body (fun w => q_nilCheck rfl) ?_
  refine o_pure (i := 3) (fun j w => ⟨(fun _ _ => trivial) j w, fun _ h => h⟩) rfl rfl (by kernel_rfl) (goes0 rfl) QOk.body (fun w => q_fieldAddr (ft := 3) (o := 1) rfl (by kernel_rfl)) ?_
  refine o_held (i := 4) [5, 6, 7] (fun j w => ⟨(fun _ _ => trivial) j w, fun _ h => h⟩) rfl rfl (by kernel_rfl) (goes0 rfl) QOk.body (q_load1 rfl (by kernel_rfl) (cell_blk ((hr.same hS1).trans hb) rfl)) ?_
  refine o_eff (i := 5) (by kernel_rfl) rfl (goes0 rfl) (fun K hK => ?_)
  refine e_buildSlice1 (e := 3) (zv := .int .i64 0) (xs := [.tmp 7]) hS1 (by kernel_rfl) (by kernel_rfl) (by kernel_rfl) rfl rfl rfl rfl (ones1 (by first | rfl | assumption)) rfl (fun b2 w2 hS2 => ?_)
  clear hS1
  refine hK _ _ ⟨⟨trivial, fun _ _ => by first | exact q_load1 rfl (by kernel_rfl) (by first | exact hS2.cell (i := 0) rfl rfl | exact hS2.cell (i := 1) rfl rfl | exact hS2.cell (i := 2) rfl rfl | exact hS2.cell (i := 3) rfl rfl | exact hS2.cell (i := 4) rfl rfl | exact hS2.cell (i := 5) rfl rfl | exact hS2.cell (i := 6) rfl rfl | exact hS2.cell (i := 7) rfl rfl | assumption)⟩, fun h => absurd h (by decide)⟩ ?_; clear hK K
  refine o_eff (i := 6) (by kernel_rfl) rfl (goes0 rfl) (fun K hK => ?_)
  first | refine e_append (e := 3) (size := 1) (bytes := 8) (i := 1) (by kernel_rfl) hS2 rfl rfl rfl (reads_blk (hS2.blk (i := 0) rfl)) rfl (by first | exact ones1 rfl | exact ones1 (by assumption)) (by omega) (by omega) (fun h => by cases h) (fun v3 w3 hS3 => ?_)
  clear hS2
  refine hK _ _ ⟨⟨trivial, fun h => absurd h (by decide)⟩, fun h => absurd h (by decide)⟩ ?_; clear hK K
  refine o_eff (i := 7) (by kernel_rfl) rfl (goes0 rfl) (fun K hK => ?_)
  have ho := sl_one (hS3.sl (i := 1) rfl)
  first | refine e_store1 hS3 rfl rfl (by kernel_rfl) (by first | rfl | assumption) (i := 0) rfl rfl (fun w4 hS4 => ?_) | refine e_store1 hS3 rfl rfl (by kernel_rfl) (by first | rfl | assumption) (i := 1) rfl rfl (fun w4 hS4 => ?_) | refine e_store1 hS3 rfl rfl (by kernel_rfl) (by first | rfl | assumption) (i := 2) rfl rfl (fun w4 hS4 => ?_) | refine e_store1 hS3 rfl rfl (by kernel_rfl) (by first | rfl | assumption) (i := 3) rfl rfl (fun w4 hS4 => ?_) | refine e_store1 hS3 rfl rfl (by kernel_rfl) (by first | rfl | assumption) (i := 4) rfl rfl (fun w4 hS4 => ?_) | refine e_store1 hS3 rfl rfl (by kernel_rfl) (by first | rfl | assumption) (i := 5) rfl rfl (fun w4 hS4 => ?_) | refine e_store1 hS3 rfl rfl (by kernel_rfl) (by first | rfl | assumption) (i := 6) rfl rfl (fun w4 hS4 => ?_) | refine e_store1 hS3 rfl rfl (by kernel_rfl) (by first | rfl | assumption) (i := 7) rfl rfl (fun w4 hS4 => ?_)
  clear hS3
  refine hK _ _ ⟨⟨trivial, fun h => absurd h (by decide)⟩, fun h => absurd h (by decide)⟩ ?_; clear hK K
  refine o_done (by kernel_rfl) ?_
  refine c_end0 rfl ?_
  exact ⟨_, _, rfl, ⟨_, rfl⟩, hS4.sub (.cons _ (.refl _))⟩

theorem Places_vis (cb : Nat) : Vis 44 [.pointer (some ⟨cb, 0, none⟩)] (PlacesG cb) := by
  rintro xs Γ c a uv eb w ⟨sv, rfl⟩ hx hS hr hb
  refine (Places_vis_ cb eb c a uv sv _ _ w hx hS hr hb).mono ?_
  rintro e w' ⟨v, Γ', rfl, ⟨sv', rfl⟩, hS'⟩
  exact ⟨_, _, rfl, ⟨sv', by simp⟩, hS'⟩
set_option maxRecDepth 100000 in
theorem Places_ok (e : Er) (v : Value) (w : World) (hn : e.list.length ≤ 1000000) (hl : LaidV w) (hE : ErIn (Ro w (fun _ => False)) w e v) : Calls Tryd.prog 20 #[v] w (PostN w fun v G => G = [.sl 3 1 v e.list.length (e.list.map fun q => .int .i64 q.2)]) := by
  have hS := St.start w
  refine c_enter Tryd.func20 rfl rfl rfl ?_
  refine wp_seq_k (fun K1 hK1 => ?_)
  refine wp_region_lit ?_
  first | refine l_q rfl rfl (q_assignS rfl) ?_ | refine l_q rfl rfl (q_assign rfl) ?_
  refine l_nil ?_
  refine hK1 _ _ ?_
  refine wp_seq_k (fun K2 hK2 => ?_)
  refine wp_region_lit ?_
  refine l_e rfl (fun K hK => ?_)
  refine e_alloc (zv := .slice none 0 0) hS (by kernel_rfl) (fun b3 w3 hS3 => ?_)
  clear hS
  refine hK _ _ ?_; clear hK K
  refine l_nil ?_
  refine hK2 _ _ ?_
  refine wp_seq_k (fun K4 hK4 => ?_)
  refine wp_region_lit ?_
  refine l_q rfl rfl (q_move rfl) ?_
  refine l_q rfl rfl (q_makeFunc) ?_
  refine l_e rfl (fun K hK => ?_)
  have hN5 := hS3.sl_nil (e := 3) (size := 1)
  have hG5 : PlacesG b3 [] _ := ⟨.slice none 0 0, rfl⟩
  refine e_call (by kernel_rfl) (each_ok _ _ _ (by kernel_rfl) (Places_vis b3) e _ [] _ _ hG5 (by simpa using hn) (St.begin (F := []) hN5) (St.own0 (F := []) hN5 id hl.pos) (hl.keep id hN5) (hE.next (F := []) hN5)) rfl (after_M (F := []) hN5 (fun v5 G5 w5 hv5 hS5 => ?_))
  clear hS3 hN5 hG5; obtain ⟨sv, rfl⟩ := hv5
  refine hK _ _ ?_; clear hK K
  refine l_nil ?_
  refine hK4 _ _ ?_
  refine wp_seq_k (fun K6 hK6 => ?_)
  refine wp_region_lit ?_
  refine l_q rfl rfl (q_load1 rfl (by kernel_rfl) (by first | exact hS5.cell (i := 0) rfl rfl | exact hS5.cell (i := 1) rfl rfl | exact hS5.cell (i := 2) rfl rfl | exact hS5.cell (i := 3) rfl rfl | exact hS5.cell (i := 4) rfl rfl | exact hS5.cell (i := 5) rfl rfl | exact hS5.cell (i := 6) rfl rfl | exact hS5.cell (i := 7) rfl rfl | assumption)) ?_
  first | refine l_q rfl rfl (q_assignS rfl) ?_ | refine l_q rfl rfl (q_assign rfl) ?_
  refine l_nil ?_
  refine hK6 _ _ ?_
  refine wp_ret ?_
  refine c_ret1 rfl rfl ?_
  exact ⟨_, _, rfl, rfl, hS5.sub (.cons_cons _ (List.nil_sublist _))⟩

end Go.Proofs.YtdlmcgflgdmjgaaDoor
