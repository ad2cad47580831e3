/- row.Decode. -/
import Derived.Test.YtlplhlncdfhhoaaRe
set_option linter.unusedVariables false
set_option linter.unusedSimpArgs false
namespace Go.Proofs.Ytlplhlncdfhhoaa
open Go.RowKit
theorem longY {b q : List Nat} {z : Int} (hb : Bytes b) (hz1 : -9223372036854775808 ≤ z) (hz2 : z ≤ 9223372036854775807) (e : b = short z ++ q) (n : Nat) (hn : b.length = n) (ab : Option Addr) (cb : Nat) (hcb : n ≤ cb) (hm : n ≤ 2000000) (w : World) (g : Gh) (hg : Gle g (hw w)) (hG : SlG g ab (bv b)) :
    Calls Try.prog 53 #[.slice ab n cb] w (PostR w fun v => v = .tuple #[.int .i64 z, .int .i64 (((short z).length : Nat) : Int), .bool true]) :=
  (long_ok b hb n hn ab cb hcb hm w g hg hG).mono fun _ w' ⟨v, he, hP, hS⟩ => ⟨v, he, by
    obtain ⟨z', k, ok, rfl, hT, hF⟩ := hP
    cases ok with
    | false => exact absurd e ((hF rfl).2.2 z q hz1 hz2)
    | true =>
      obtain ⟨⟨r', e'⟩, hk, _⟩ := hT rfl
      obtain ⟨h1, _⟩ := short_inj (e'.symm.trans e)
      rw [hk, h1], hS⟩
theorem longN {b : List Nat} (hb : Bytes b) (hno : NoShort b) (n : Nat) (hn : b.length = n) (ab : Option Addr) (cb : Nat) (hcb : n ≤ cb) (hm : n ≤ 2000000) (w : World) (g : Gh) (hg : Gle g (hw w)) (hG : SlG g ab (bv b)) :
    Calls Try.prog 53 #[.slice ab n cb] w (PostR w fun v => v = .tuple #[.int .i64 0, .int .i64 0, .bool false]) :=
  (long_ok b hb n hn ab cb hcb hm w g hg hG).mono fun _ w' ⟨v, he, hP, hS⟩ => ⟨v, he, by
    obtain ⟨z', k, ok, rfl, hT, hF⟩ := hP
    cases ok with
    | false => obtain ⟨h1, h2, _⟩ := hF rfl; rw [h1, h2]; rfl
    | true =>
      obtain ⟨⟨r', e'⟩, _, h1, h2⟩ := hT rfl
      exact absurd e' (hno z' r' h1 h2), hS⟩
def RowI (b : List Nat) (l : List Vl) (rest : List Nat) (n : Nat) (ok : Bool) : Prop := (ok = true → ∃ x, x < 256 ∧ b = x :: (rencs l ++ rest) ∧ RrOk l ∧ l.length ≤ 16 ∧ x = l.length + n) ∧ (ok = false → NoRow b)
theorem RowI.start {b : List Nat} {x : Nat} (hx : b[0]? = some x) (hB : x < 256) : RowI b [] (b.drop 1) x true :=
  ⟨fun _ => ⟨x, hB, cons_at hx, RrOk.nil, Nat.zero_le _, (Nat.zero_add x).symm⟩, fun h => by cases h⟩
theorem RowI.none {b rest : List Nat} {n : Nat} (hb : ¬0 < b.length) : RowI b [] rest n false := by
  have : b = [] := List.eq_nil_of_length_eq_zero (by omega)
  subst this
  exact ⟨(fun h => by cases h), fun _ => norow_nil⟩
theorem RowI.next {b rest r : List Nat} {l : List Vl} {n : Nat} {a : Vl} {t ok' : Bool} (h : RowI b l rest n true) (hn : 0 < n) (ha : VOk a) (ht : TkR rest a r t) (hok : ok' = (t && decide ((l.length : Int) < 16))) : RowI b (l ++ [a]) r (n - 1) ok' := by
  obtain ⟨x, hx, he, hR, h16, hl⟩ := h.1 rfl
  subst hok
  cases t with
  | false => exact ⟨(fun h => by cases h), fun _ => row_fail he hR (by omega) hx (.inl (ht.2 rfl))⟩
  | true =>
    obtain ⟨hr, hb⟩ := ht.1 rfl
    refine ⟨fun h => ?_, fun h => row_fail he hR (by omega) hx (.inr ?_)⟩
    · have : (l.length : Int) < 16 := of_decide_eq_true (by simpa using h)
      refine ⟨x, hx, row_next he hb, hR.app (RrOk.one ha hr), ?_, ?_⟩ <;> rw [List.length_append, List.length_singleton] <;> omega
    · have : ¬ (l.length : Int) < 16 := of_decide_eq_false (by simpa using h)
      omega
theorem take1 {l : List Nat} {x : Nat} (h : (l.take 1)[0]? = some x) : l[0]? = some x := by
  cases l with
  | nil => simp at h
  | cons a l => simpa using h
theorem noval_emp {b : List Nat} (h : ¬0 < b.length) : NoVal b := by
  have : b = [] := List.eq_nil_of_length_eq_zero (by omega)
  rw [this]; exact noval_nil
theorem tkr06 {b : List Nat} {x : Nat} (hx : b[0]? = some x) (h : ¬x = 1 ∧ ¬x = 2 ∧ ¬x = 3 ∧ ¬x = 4 ∧ ¬x = 5) : TkR b (((x : Nat) : Int), 0, []) (b.drop 1) (rightB (((x : Nat) : Int), 0, [])) := by
  by_cases h0 : x = 0
  · exact tkr_yes (val_null hx h0) fun h' => by subst h0; simp [rightB] at h'
  · have : rightB (((x : Nat) : Int), 0, []) = false := by
      unfold rightB; simp only
      rw [if_neg (by omega), if_neg (by omega), if_neg (by omega), if_neg (by omega)]
    rw [this]; exact tkr_no (noval_kind hx (by omega))
theorem tkr1 {b : List Nat} {x c : Nat} (hx : b[0]? = some x) (h : x = 1) (hc : (b.drop 1)[0]? = some c) (hB : c < 256) : TkR b (((x : Nat) : Int), ((c : Nat) : Int), []) ((b.drop 1).drop 1) (rightB (((x : Nat) : Int), ((c : Nat) : Int), [])) :=
  tkr_yes (val_bool hx h hc hB) fun h' => noval_bool hx h fun d hd => by
    rw [hc] at hd; injection hd with hd; subst hd; subst h
    constructor <;> (intro e; subst e; simp [rightB] at h')
theorem tkr1n {b r : List Nat} {x : Nat} {a : Vl} (hx : b[0]? = some x) (h : x = 1) (hn : ¬0 < (b.drop 1).length) : TkR b a r false :=
  tkr_no (noval_bool hx h fun c hc => by
    have : b.drop 1 = [] := List.eq_nil_of_length_eq_zero (by omega)
    rw [this] at hc; cases hc)
theorem tkr2 {b r : List Nat} {x : Nat} {n : Int} (hx : b[0]? = some x) (h : x = 2 ∨ x = 3) (h2 : b.drop 1 = short n ++ r) : TkR b (((x : Nat) : Int), n, []) r (rightB (((x : Nat) : Int), n, [])) :=
  tkr_yes (val_num hx h h2) fun h' => by rcases h with rfl | rfl <;> simp [rightB] at h'
theorem tkr4 {b r : List Nat} {x k : Nat} (hx : b[0]? = some x) (h : x = 4 ∨ x = 5) (h2 : b.drop 1 = short ((k : Nat) : Int) ++ r) (hk : k ≤ r.length) : TkR b (((x : Nat) : Int), 0, r.take k) (r.drop k) (rightB (((x : Nat) : Int), 0, r.take k)) := by
  have hl : (r.take k).length = k := by rw [List.length_take]; omega
  have hv := val_text (s := r.take k) hx h h2 (by rw [hl]) ⟨r.drop k, (List.take_append_drop k r).symm⟩
  rw [hl] at hv
  refine tkr_yes hv fun h' => noval_long hx h h2 (.inr (.inr ?_))
  rcases h with rfl | rfl <;> simp [rightB] at h' <;> omega
theorem vok_of {x z : Int} {s : List Nat} (hs : Bytes s) (h1 : -9223372036854775808 ≤ x ∧ x ≤ 9223372036854775807) (h2 : -9223372036854775808 ≤ z ∧ z ≤ 9223372036854775807) : VOk (x, z, s) := ⟨hs, h1, h2⟩
attribute [local irreducible] Oper.wp Sem.run Code.wp wpList wpAnyO callFunc execOp Calls
attribute [local irreducible] toU short rencs renc rowE encRow rightB zig unzig decRw

set_option maxRecDepth 100000 in
theorem number_yes (bo bb bt : Nat) (r : List Nat) (hr : Bytes r) (hm : r.length ≤ 2000000) (z : Int) (q : List Nat) (hz1 : -9223372036854775808 ≤ z) (hz2 : z ≤ 9223372036854775807) (he : r = short z ++ q) (ra : Option Addr) (rc : Nat) (hrc : r.length ≤ rc) (w : World) (g : Gh) (hg : Rog [.blk bo (.cells #[.bool true] 4), .blk bb (.cells #[.slice ra r.length rc] 61), .blk bt (.cells #[.func (.func 51) #[] #[.pointer (some ⟨bo, 0, none⟩), .pointer (some ⟨bb, 0, none⟩)]] 86)] w g) (hG : SlG g ra (bv r)) (hS : St w (owns [.blk bo (.cells #[.bool true] 4), .blk bb (.cells #[.slice ra r.length rc] 61), .blk bt (.cells #[.func (.func 51) #[] #[.pointer (some ⟨bo, 0, none⟩), .pointer (some ⟨bb, 0, none⟩)]] 86)]) [.blk bo (.cells #[.bool true] 4), .blk bb (.cells #[.slice ra r.length rc] 61), .blk bt (.cells #[.func (.func 51) #[] #[.pointer (some ⟨bo, 0, none⟩), .pointer (some ⟨bb, 0, none⟩)]] 86)] w) : Calls Try.prog 52 #[.pointer (some ⟨bb, 0, none⟩), .pointer (some ⟨bo, 0, none⟩), .pointer (some ⟨bt, 0, none⟩)] w (Post w [.blk bo (.cells #[.bool true] 4), .blk bb (.cells #[.slice ra r.length rc] 61), .blk bt (.cells #[.func (.func 51) #[] #[.pointer (some ⟨bo, 0, none⟩), .pointer (some ⟨bb, 0, none⟩)]] 86)] fun v G => ∃ ra' rc', v = .int .i64 z ∧ G = [.blk bo (.cells #[.bool true] 4), .blk bb (.cells #[.slice ra' q.length rc'] 61), .blk bt (.cells #[.func (.func 51) #[] #[.pointer (some ⟨bo, 0, none⟩), .pointer (some ⟨bb, 0, none⟩)]] 86)] ∧ SlG g ra' (bv q) ∧ q.length ≤ rc') := by
  refine c_enter Try.func52 rfl rfl rfl ?_
  refine wp_seq_k (fun K1 hK1 => ?_)
  refine wp_region_lit ?_
  refine l_q rfl rfl (q_assignI rfl) ?_
  refine l_nil ?_
  refine hK1 _ _ ?_
  refine wp_seq_k (fun K2 hK2 => ?_)
  refine wp_region_lit ?_
  refine l_q rfl rfl (q_load1 rfl (by kernel_rfl) (hS.cell (i := 1) rfl rfl)) ?_
  refine l_e rfl (fun K hK => ?_)
  refine e_call (by kernel_rfl) (longY hr hz1 hz2 he r.length (by first | omega | (simp only [List.length_append, List.length_map, List.length_cons, List.length_nil, List.length_take, List.length_drop, List.length_set] <;> omega)) _ _ (by first | omega | (simp only [List.length_append, List.length_map, List.length_cons, List.length_nil, List.length_take, List.length_drop, List.length_set] <;> omega)) (by first | omega | (simp only [List.length_append, List.length_map, List.length_cons, List.length_nil, List.length_take, List.length_drop, List.length_set] <;> omega)) _ _ (Gle.refl _) (hG.mono (hg.le hS))) rfl (after_R hS (fun v3 w3 hv3 hS3 => ?_))
  clear hS
  obtain rfl := hv3
  refine hK _ _ ?_; clear hK K
  refine l_q rfl rfl (q_move rfl) ?_
  refine l_q rfl rfl (q_extract rfl rfl) ?_
  refine l_q rfl rfl (q_extract rfl rfl) ?_
  refine l_q rfl rfl (q_extract rfl rfl) ?_
  refine l_q rfl rfl (q_assignI rfl) ?_
  refine l_q rfl rfl (q_assignI rfl) ?_
  refine l_q rfl rfl (q_assignB rfl) ?_
  refine l_nil ?_
  refine hK2 _ _ ?_
  refine wp_seq_k (fun K4 hK4 => ?_)
  refine wp_region_lit ?_
  refine l_q rfl rfl (q_load1 rfl (by kernel_rfl) (hS3.cell (i := 0) rfl rfl)) ?_
  refine l_q rfl rfl (q_moveB rfl) ?_
  refine l_on rfl rfl rfl ?_
  refine l_q rfl rfl (q_moveB rfl) ?_
  refine l_q rfl rfl (q_pickT rfl rfl rfl) ?_
  refine l_e rfl (fun K hK => ?_)
  refine e_store1 hS3 rfl rfl (by kernel_rfl) (by first | rfl | assumption) (i := 0) rfl rfl (fun w5 (hS5 : St _ _ [.blk bo (.cells #[.bool true] 4), .blk bb (.cells #[.slice ra r.length rc] 61), .blk bt (.cells #[.func (.func 51) #[] #[.pointer (some ⟨bo, 0, none⟩), .pointer (some ⟨bb, 0, none⟩)]] 86)] _) => ?_)
  clear hS3
  refine hK _ _ ?_; clear hK K
  refine l_nil ?_
  refine hK4 _ _ ?_
  refine wp_seq_k (fun K6 hK6 => ?_)
  have hrl := congrArg List.length he
  rw [List.length_append] at hrl
  refine wp_region_lit ?_
  refine l_q rfl rfl (q_load1 rfl (by kernel_rfl) (hS5.cell (i := 2) rfl rfl)) ?_
  refine l_q rfl rfl (q_moveI rfl) ?_
  refine l_e rfl (fun K hK => ?_)
  refine e_callV (by kernel_rfl) rfl (take_yes bo bb r hr (by first | omega | (simp only [List.length_append, List.length_map, List.length_cons, List.length_nil, List.length_take, List.length_drop, List.length_set] <;> omega)) ((short z).length) (by omega) _ _ (by omega) _ _ (St.rogR (Γ1 := [_, _]) hS5 hg) hG (St.begin (Γ := [_, _]) hS5)) rfl (after_M (Γ1 := [_, _]) hS5 (fun v7 G7 w7 hv7 hS7 => ?_))
  clear hS5
  obtain ⟨ra7, rc7, rfl, rfl, hGr7, hrc7⟩ := hv7
  have hS8 : St _ _ [.blk bo (.cells #[.bool true] 4), .blk bb (.cells #[.slice ra7 ((r.drop ((short z).length)).length) rc7] 61), .blk bt (.cells #[.func (.func 51) #[] #[.pointer (some ⟨bo, 0, none⟩), .pointer (some ⟨bb, 0, none⟩)]] 86)] _ := hS7; clear hS7
  have hld7 := List.length_drop (i := (short z).length) (l := r)
  refine hK _ _ ?_; clear hK K
  refine l_nil ?_
  refine hK6 _ _ ?_
  refine wp_seq_k (fun K9 hK9 => ?_)
  refine wp_region_lit ?_
  refine l_q rfl rfl (q_moveI rfl) ?_
  refine l_q rfl rfl (q_assignI rfl) ?_
  refine l_nil ?_
  refine hK9 _ _ ?_
  refine wp_ret ?_
  refine c_ret1 rfl rfl ?_
  have hdq : r.drop (short z).length = q := by rw [he]; exact List.drop_left
  exact ⟨_, _, rfl, ⟨ra7, rc7, rfl, (by rw [← hdq]), hdq ▸ hGr7, (by rw [← hdq]; assumption)⟩, hS8⟩

set_option maxRecDepth 100000 in
theorem number_no (bo bb bt : Nat) (r : List Nat) (hr : Bytes r) (hm : r.length ≤ 2000000) (hno : NoShort r) (ra : Option Addr) (rc : Nat) (hrc : r.length ≤ rc) (w : World) (g : Gh) (hg : Rog [.blk bo (.cells #[.bool true] 4), .blk bb (.cells #[.slice ra r.length rc] 61), .blk bt (.cells #[.func (.func 51) #[] #[.pointer (some ⟨bo, 0, none⟩), .pointer (some ⟨bb, 0, none⟩)]] 86)] w g) (hG : SlG g ra (bv r)) (hS : St w (owns [.blk bo (.cells #[.bool true] 4), .blk bb (.cells #[.slice ra r.length rc] 61), .blk bt (.cells #[.func (.func 51) #[] #[.pointer (some ⟨bo, 0, none⟩), .pointer (some ⟨bb, 0, none⟩)]] 86)]) [.blk bo (.cells #[.bool true] 4), .blk bb (.cells #[.slice ra r.length rc] 61), .blk bt (.cells #[.func (.func 51) #[] #[.pointer (some ⟨bo, 0, none⟩), .pointer (some ⟨bb, 0, none⟩)]] 86)] w) : Calls Try.prog 52 #[.pointer (some ⟨bb, 0, none⟩), .pointer (some ⟨bo, 0, none⟩), .pointer (some ⟨bt, 0, none⟩)] w (Post w [.blk bo (.cells #[.bool true] 4), .blk bb (.cells #[.slice ra r.length rc] 61), .blk bt (.cells #[.func (.func 51) #[] #[.pointer (some ⟨bo, 0, none⟩), .pointer (some ⟨bb, 0, none⟩)]] 86)] fun v G => v = .int .i64 0 ∧ G = [.blk bo (.cells #[.bool false] 4), .blk bb (.cells #[.slice ra r.length rc] 61), .blk bt (.cells #[.func (.func 51) #[] #[.pointer (some ⟨bo, 0, none⟩), .pointer (some ⟨bb, 0, none⟩)]] 86)]) := by
  refine c_enter Try.func52 rfl rfl rfl ?_
  refine wp_seq_k (fun K1 hK1 => ?_)
  refine wp_region_lit ?_
  refine l_q rfl rfl (q_assignI rfl) ?_
  refine l_nil ?_
  refine hK1 _ _ ?_
  refine wp_seq_k (fun K2 hK2 => ?_)
  refine wp_region_lit ?_
  refine l_q rfl rfl (q_load1 rfl (by kernel_rfl) (hS.cell (i := 1) rfl rfl)) ?_
  refine l_e rfl (fun K hK => ?_)
  refine e_call (by kernel_rfl) (longN hr hno r.length (by first | omega | (simp only [List.length_append, List.length_map, List.length_cons, List.length_nil, List.length_take, List.length_drop, List.length_set] <;> omega)) _ _ (by first | omega | (simp only [List.length_append, List.length_map, List.length_cons, List.length_nil, List.length_take, List.length_drop, List.length_set] <;> omega)) (by first | omega | (simp only [List.length_append, List.length_map, List.length_cons, List.length_nil, List.length_take, List.length_drop, List.length_set] <;> omega)) _ _ (Gle.refl _) (hG.mono (hg.le hS))) rfl (after_R hS (fun v3 w3 hv3 hS3 => ?_))
  clear hS
  obtain rfl := hv3
  refine hK _ _ ?_; clear hK K
  refine l_q rfl rfl (q_move rfl) ?_
  refine l_q rfl rfl (q_extract rfl rfl) ?_
  refine l_q rfl rfl (q_extract rfl rfl) ?_
  refine l_q rfl rfl (q_extract rfl rfl) ?_
  refine l_q rfl rfl (q_assignI rfl) ?_
  refine l_q rfl rfl (q_assignI rfl) ?_
  refine l_q rfl rfl (q_assignB rfl) ?_
  refine l_nil ?_
  refine hK2 _ _ ?_
  refine wp_seq_k (fun K4 hK4 => ?_)
  refine wp_region_lit ?_
  refine l_q rfl rfl (q_load1 rfl (by kernel_rfl) (hS3.cell (i := 0) rfl rfl)) ?_
  refine l_q rfl rfl (q_moveB rfl) ?_
  refine l_on rfl rfl rfl ?_
  refine l_q rfl rfl (q_moveB rfl) ?_
  refine l_q rfl rfl (q_pickT rfl rfl rfl) ?_
  refine l_e rfl (fun K hK => ?_)
  refine e_store1 hS3 rfl rfl (by kernel_rfl) (by first | rfl | assumption) (i := 0) rfl rfl (fun w5 (hS5 : St _ _ [.blk bo (.cells #[.bool false] 4), .blk bb (.cells #[.slice ra r.length rc] 61), .blk bt (.cells #[.func (.func 51) #[] #[.pointer (some ⟨bo, 0, none⟩), .pointer (some ⟨bb, 0, none⟩)]] 86)] _) => ?_)
  clear hS3
  refine hK _ _ ?_; clear hK K
  refine l_nil ?_
  refine hK4 _ _ ?_
  refine wp_seq_k (fun K6 hK6 => ?_)
  refine wp_region_lit ?_
  refine l_q rfl rfl (q_load1 rfl (by kernel_rfl) (hS5.cell (i := 2) rfl rfl)) ?_
  refine l_q rfl rfl (q_moveI rfl) ?_
  refine l_e rfl (fun K hK => ?_)
  refine e_callV (by kernel_rfl) rfl (take_no bo bb r hr (by first | omega | (simp only [List.length_append, List.length_map, List.length_cons, List.length_nil, List.length_take, List.length_drop, List.length_set] <;> omega)) false (0 : Int) (by first | exact .inl rfl | exact .inr (by omega)) _ _ (by omega) _ _ (St.rogR (Γ1 := [_, _]) hS5 hg) hG (St.begin (Γ := [_, _]) hS5)) rfl (after_M (Γ1 := [_, _]) hS5 (fun v7 G7 w7 hv7 hS7 => ?_))
  clear hS5
  obtain ⟨nb7, rfl, rfl⟩ := hv7
  have hS8 : St _ _ [.blk bo (.cells #[.bool false] 4), .blk bb (.cells #[.slice ra r.length rc] 61), .ow 5 1 (some ⟨nb7, 0, none⟩) 1 1 (bv [0]), .blk bt (.cells #[.func (.func 51) #[] #[.pointer (some ⟨bo, 0, none⟩), .pointer (some ⟨bb, 0, none⟩)]] 86)] _ := hS7; clear hS7
  refine hK _ _ ?_; clear hK K
  refine l_nil ?_
  refine hK6 _ _ ?_
  refine wp_seq_k (fun K9 hK9 => ?_)
  refine wp_region_lit ?_
  refine l_q rfl rfl (q_moveI rfl) ?_
  refine l_q rfl rfl (q_assignI rfl) ?_
  refine l_nil ?_
  refine hK9 _ _ ?_
  refine wp_ret ?_
  refine c_ret1 rfl rfl ?_
  have hS10 := hS8.fr3; clear hS8
  have hS11 := hS10.fr2; clear hS10
  have hS12 := hS11.fr2; clear hS11
  have hS13 : St _ _ [.blk bo (.cells #[.bool false] 4), .blk bb (.cells #[.slice ra r.length rc] 61), .blk bt (.cells #[.func (.func 51) #[] #[.pointer (some ⟨bo, 0, none⟩), .pointer (some ⟨bb, 0, none⟩)]] 86)] _ := hS12.only 3; clear hS12
  exact ⟨_, _, rfl, ⟨rfl, rfl⟩, hS13⟩

end Go.Proofs.Ytlplhlncdfhhoaa
