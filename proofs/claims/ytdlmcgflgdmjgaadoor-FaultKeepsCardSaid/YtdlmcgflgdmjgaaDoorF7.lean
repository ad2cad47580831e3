/- The errors of a script and the document's, in one piece of memory: each contract with that piece. -/
import Derived.Test.YtdlmcgflgdmjgaaDoorF6
set_option linter.unusedVariables false
set_option linter.unusedSimpArgs false
namespace Go.Proofs.YtdlmcgflgdmjgaaDoor
open Go.RowKit
namespace Er
def codes (e : Er) : List Int := e.list.map (·.1)
def places (e : Er) : List Int := e.list.map (·.2)
theorem len_codes (e : Er) : e.codes.length = e.list.length := by simp [codes]
theorem len_places (e : Er) : e.places.length = e.list.length := by simp [places]
theorem list_join (x y : Er) : (join x y).list = x.list ++ y.list := by
  unfold join
  cases h1 : x.isNil
  · cases h2 : y.isNil
    · simp [list]
    · cases y <;> simp [isNil] at h2; simp [list]
  · cases x <;> simp [isNil] at h1; simp [list]
theorem deep_join (x y : Er) : (join x y).deep = max x.deep y.deep := by
  unfold join
  cases h1 : x.isNil
  · cases h2 : y.isNil
    · simp [deep]
    · cases y <;> simp [isNil] at h2; simp [deep]
  · cases x <;> simp [isNil] at h1; simp [deep]
end Er
abbrev PS (bs : List Nat) (es : List (Value × Er)) (ss : List (Option Addr × List Value)) (w : World) : Prop := (∀ q ∈ es, ErIn (fun k => k ∈ bs) w q.2 q.1) ∧ (∀ q ∈ ss, SlR (fun k => k ∈ bs) w q.1 q.2)
theorem PS.loc {bs bs' : List Nat} {es : List (Value × Er)} {ss : List (Option Addr × List Value)} {w w' : World} (hb : ∀ k ∈ bs, k ∈ bs') (h : ∀ k, k ∈ bs → w'.heap[k]? = w.heap[k]?) (hs : PS bs es ss w) : PS bs' es ss w' :=
  ⟨fun q hq => (hs.1 q hq).mono fun k hk => ⟨hb k hk, h k hk⟩, fun q hq => (hs.2 q hq).mono fun k hk => ⟨hb k hk, h k hk⟩⟩
def Ch.pool (bs : List Nat) (es : List (Value × Er)) (ss : List (Option Addr × List Value)) : Ch := .gen (fun k => k ∈ bs) (PS bs es ss) (fun w w' h hs => hs.loc (fun _ h => h) h)
/-- The piece handed on with more in it. -/
def PP (w : World) (bs : List Nat) (es : List (Value × Er)) (ss : List (Option Addr × List Value)) (ψ : Value → List (Value × Er) → List (Option Addr × List Value) → Prop) : Ending → World → Prop :=
  Post w [.pool bs es ss] fun r G => ∃ bs' es' ss', ψ r es' ss' ∧ G = [.pool bs' es' ss']
section
variable {w0 w : World} {D : Nat → Prop} {F : List Ch} {bs : List Nat} {es : List (Value × Er)} {ss : List (Option Addr × List Value)}
theorem pool_same {es' : List (Value × Er)} {ss' : List (Option Addr × List Value)} (h : St w0 D (.pool bs es ss :: F) w) (hs : PS bs es ss w → PS bs es' ss' w) : St w0 D (.pool bs es' ss' :: F) w :=
  h.recast (i := 0) (c' := .pool bs es' ss') rfl (fun _ hk => hk) hs
theorem pool_blk {b : Nat} {o : Obj} {es' : List (Value × Er)} {ss' : List (Option Addr × List Value)} (h : St w0 D (.blk b o :: .pool bs es ss :: F) w) (hs : w.heap[b]? = some o → PS (b :: bs) es ss w → PS (b :: bs) es' ss' w) : St w0 D (.pool (b :: bs) es' ss' :: F) w :=
  h.join (c' := .pool (b :: bs) es' ss') (fun k hk => (List.mem_cons.1 hk).imp id id) fun h1 h2 => hs h1 (h2.loc (fun k hk => .tail _ hk) fun _ _ => rfl)
theorem pool_sl {e : TypeId} {size m : Nat} {ad : Option Addr} {len cap : Nat} {xs : List Value} (h : St w0 D (.sl e size (.slice ad len cap) m xs :: .pool bs es ss :: F) w) : ∃ bs', St w0 D (.pool bs' es ((ad, xs) :: ss) :: F) w := by
  have ho := h.sl (i := 0) rfl
  refine ⟨(Value.slice ad len cap).ownBlock.toList ++ bs, h.join (c' := .pool _ es ((ad, xs) :: ss)) (fun k hk => ?_) fun h1 h2 => ?_⟩
  · rcases List.mem_append.1 hk with hk | hk
    · left; show (Value.slice ad len cap).ownBlock = some k; simpa using hk
    · exact .inr hk
  · have h3 : PS ((Value.slice ad len cap).ownBlock.toList ++ bs) es ss w := PS.loc (fun k hk => List.mem_append_right _ hk) (fun _ _ => rfl) h2
    refine ⟨h3.1, fun q hq => ?_⟩
    cases hq with
    | tail _ hq => exact h3.2 q hq
    | head =>
      rcases ho.2 with ⟨he, h0⟩ | ⟨gb, cap', cur, he, _, hg, hle, _, hcs, htk⟩
      · have := ho.1; rw [h0] at this; exact .inl (List.eq_nil_of_length_eq_zero (by simpa using this))
      · injection he with he1 he2 he3
        subst he1
        refine .inr ⟨gb, 0, cur, _, _, rfl, by simp [Value.ownBlock], hg, fun j u hu => ?_⟩
        rw [← htk, List.getElem?_take] at hu
        split at hu
        · simpa using hu
        · cases hu
theorem PS.nextR (h : St w0 D (.pool bs es ss :: F) w) : (∀ q ∈ es, ErIn (Ro w fun _ => False) w q.2 q.1) ∧ (∀ q ∈ ss, SlR (Ro w fun _ => False) w q.1 q.2) := by
  have hs : PS bs es ss w := (h.sat.get (i := 0) rfl).1
  have hb : ∀ k, k ∈ bs → Ro w (fun _ => False) k := fun k hk => ⟨((h.sat.get (i := 0) rfl).2 k hk).2, id⟩
  exact ⟨fun q hq => (hs.1 q hq).mono fun k hk => ⟨hb k hk, rfl⟩, fun q hq => (hs.2 q hq).mono fun k hk => ⟨hb k hk, rfl⟩⟩
theorem pool_lift {f : FuncId} {args : Array Value} {φ : Value → List Ch → Prop} {ψ : Value → List (Value × Er) → List (Option Addr × List Value) → Prop} (h : Calls Tryd.prog f args w (PostN w φ)) (hS : St w (owns [.pool bs es ss]) [.pool bs es ss] w)
    (hc : ∀ r G w', φ r G → St w (owns [.pool bs es ss]) (G ++ [.pool bs es ss]) w' → ∃ bs' es' ss', ψ r es' ss' ∧ St w (owns [.pool bs es ss]) [.pool bs' es' ss'] w') : Calls Tryd.prog f args w (PP w bs es ss ψ) := by
  refine h.mono ?_
  rintro e w' ⟨r, G, rfl, hφ, hS'⟩
  obtain ⟨bs', es', ss', h1, h2⟩ := hc r G w' hφ (hS.frameN hS')
  exact ⟨r, _, rfl, ⟨bs', es', ss', h1, rfl⟩, h2⟩
end
section
variable {w : World} {bs : List Nat} {es : List (Value × Er)} {ss : List (Option Addr × List Value)} (hS : St w (owns [.pool bs es ss]) [.pool bs es ss] w)
include hS
theorem New_pool (c a : Int) : Calls Tryd.prog 23 #[.int .i64 c, .int .i64 a] w (PP w bs es ss fun r es' ss' => es' = (r, Er.new c a) :: es ∧ ss' = ss) := by
  by_cases hc : c = 0
  · refine pool_lift (new_nil c a (decide_eq_true hc) w) hS ?_
    rintro r G w' ⟨rfl, rfl⟩ hS'
    exact ⟨bs, _, _, ⟨rfl, rfl⟩, pool_same hS' fun h => ⟨fun q hq => by
      cases hq with
      | head => show ErIn _ _ (Er.new c a) _; rw [Er.new, if_pos hc]; rfl
      | tail _ hq => exact h.1 q hq, h.2⟩⟩
  · refine pool_lift (new_flt c a (decide_eq_false hc) w) hS ?_
    rintro r G w' ⟨b, rfl, rfl⟩ hS'
    exact ⟨b :: bs, _, _, ⟨rfl, rfl⟩, pool_blk hS' fun hb h => ⟨fun q hq => by
      cases hq with
      | head => show ErIn _ _ (Er.new c a) _; rw [Er.new, if_neg hc]; exact ⟨b, _, rfl, .head _, hb, rfl⟩
      | tail _ hq => exact h.1 q hq, h.2⟩⟩
theorem Wrap_pool (v : Value) (e : Er) (hm : (v, e) ∈ es) (c a : Int) : Calls Tryd.prog 16 #[v, .int .i64 c, .int .i64 a] w (PP w bs es ss fun r es' ss' => es' = (r, e.wrap c a) :: es ∧ ss' = ss) := by
  have hE := (PS.nextR (F := []) hS).1 _ hm
  by_cases hw : e.isNil = true ∨ c = 0
  · have key : ∀ w', St w (owns [.pool bs es ss]) ([] ++ [.pool bs es ss]) w' → ∃ bs' es' ss', (es' = (v, e.wrap c a) :: es ∧ ss' = ss) ∧ St w (owns [.pool bs es ss]) [.pool bs' es' ss'] w' := fun w' hS' =>
      ⟨bs, _, _, ⟨rfl, rfl⟩, pool_same hS' fun h => ⟨fun q hq => by
        cases hq with
        | head => show ErIn _ _ (e.wrap c a) _; rw [Er.wrap, if_pos hw]; exact h.1 _ hm
        | tail _ hq => exact h.1 q hq, h.2⟩⟩
    by_cases hn : e.isNil = true
    · refine pool_lift (wrap_nil v c a hE.isIf (hE.isNil.trans hn) w) hS ?_
      rintro r G w' ⟨rfl, rfl⟩ hS'
      exact key w' hS'
    · refine pool_lift (wrap_ok0 v c a hE.isIf (hE.isNil.trans (by simpa using hn)) (decide_eq_true (hw.resolve_left hn)) w) hS ?_
      rintro r G w' ⟨rfl, rfl⟩ hS'
      exact key w' hS'
  · have hn : e.isNil = false := by cases h : e.isNil; rfl; exact absurd (.inl h) hw
    refine pool_lift (wrap_flt v c a hE.isIf (hE.isNil.trans hn) (decide_eq_false fun h => hw (.inr h)) w) hS ?_
    rintro r G w' ⟨b, rfl, rfl⟩ hS'
    exact ⟨b :: bs, _, _, ⟨rfl, rfl⟩, pool_blk hS' fun hb h => ⟨fun q hq => by
      cases hq with
      | head => show ErIn _ _ (e.wrap c a) _; rw [Er.wrap, if_neg hw]; exact ⟨b, _, rfl, .head _, hb, h.1 _ hm⟩
      | tail _ hq => exact h.1 q hq, h.2⟩⟩
theorem Join_pool (v u : Value) (x y : Er) (hx : (v, x) ∈ es) (hy : (u, y) ∈ es) : Calls Tryd.prog 17 #[v, u] w (PP w bs es ss fun r es' ss' => es' = (r, Er.join x y) :: es ∧ ss' = ss) := by
  have hE := (PS.nextR (F := []) hS).1 _ hx
  have hF := (PS.nextR (F := []) hS).1 _ hy
  cases hn : x.isNil with
  | true =>
    refine pool_lift (join_l v u hE.isIf (hE.isNil.trans hn) w) hS ?_
    rintro r G w' ⟨rfl, rfl⟩ hS'
    exact ⟨bs, _, _, ⟨rfl, rfl⟩, pool_same hS' fun h => ⟨fun q hq => by
      cases hq with
      | head => show ErIn _ _ (Er.join x y) _; rw [Er.join, if_pos hn]; exact h.1 _ hy
      | tail _ hq => exact h.1 q hq, h.2⟩⟩
  | false =>
    have hn' : ¬ x.isNil = true := by rw [hn]; simp
    cases hk : y.isNil with
    | true =>
      refine pool_lift (join_r v u hE.isIf hF.isIf (hE.isNil.trans hn) (hF.isNil.trans hk) w) hS ?_
      rintro r G w' ⟨rfl, rfl⟩ hS'
      exact ⟨bs, _, _, ⟨rfl, rfl⟩, pool_same hS' fun h => ⟨fun q hq => by
        cases hq with
        | head => show ErIn _ _ (Er.join x y) _; rw [Er.join, if_neg hn', if_pos hk]; exact h.1 _ hx
        | tail _ hq => exact h.1 q hq, h.2⟩⟩
    | false =>
      have hk' : ¬ y.isNil = true := by rw [hk]; simp
      refine pool_lift (join_jn v u hE.isIf hF.isIf (hE.isNil.trans hn) (hF.isNil.trans hk) w) hS ?_
      rintro r G w' ⟨b, rfl, rfl⟩ hS'
      exact ⟨b :: bs, _, _, ⟨rfl, rfl⟩, pool_blk hS' fun hb h => ⟨fun q hq => by
        cases hq with
        | head => show ErIn _ _ (Er.join x y) _; rw [Er.join, if_neg hn', if_neg hk']; exact ⟨b, _, _, rfl, .head _, hb, h.1 _ hx, h.1 _ hy⟩
        | tail _ hq => exact h.1 q hq, h.2⟩⟩
/-- What a document's error is. -/
def RV (e : Er) (r : Value) (es0 es' : List (Value × Er)) (ss0 ss' : List (Option Addr × List Value)) : Prop := ∃ ca pa cc pc, r = .agg #[.slice ca e.list.length cc, .slice pa e.list.length pc, .int .i64 (e.deep : Int)] ∧ es' = es0 ∧ ss' = (ca, iv e.codes) :: (pa, iv e.places) :: ss0
omit hS in
theorem rv_nil {w0 w' : World} {D : Nat → Prop} {F : List Ch} (h : St w0 D (.pool bs es ss :: F) w') : St w0 D (.pool bs es ((none, []) :: (none, []) :: ss) :: F) w' :=
  pool_same h fun h => ⟨h.1, fun q hq => by
    cases hq with
    | head => exact .inl rfl
    | tail _ hq => cases hq with
      | head => exact .inl rfl
      | tail _ hq => exact h.2 q hq⟩
omit hS in
theorem rv_two {w0 w' : World} {D : Nat → Prop} {F : List Ch} {e1 e2 : TypeId} {m1 m2 l1 l2 c1 c2 : Nat} {a1 a2 : Option Addr} {x1 x2 : List Value} (h : St w0 D (.sl e1 1 (.slice a1 l1 c1) m1 x1 :: .sl e2 1 (.slice a2 l2 c2) m2 x2 :: .pool bs es ss :: F) w') : ∃ bs', St w0 D (.pool bs' es ((a2, x2) :: (a1, x1) :: ss) :: F) w' := by
  obtain ⟨bs1, h1⟩ := pool_sl (h.perm_head.perm (Γ' := .sl e2 1 (.slice a2 l2 c2) m2 x2 :: .sl e1 1 (.slice a1 l1 c1) m1 x1 :: .pool bs es ss :: F) (.refl _) |>.perm (Γ' := .sl e1 1 (.slice a1 l1 c1) m1 x1 :: .pool bs es ss :: .sl e2 1 (.slice a2 l2 c2) m2 x2 :: F) ((List.Perm.swap _ _ _).trans (List.Perm.cons _ (List.Perm.swap _ _ _))))
  exact pool_sl h1.perm_head
theorem rNew_pool (c a : Int) : Calls Tryd.prog 38 #[.int .i64 c, .int .i64 a] w (PP w bs es ss fun r es' ss' => RV (Er.new c a) r es es' ss ss') := by
  by_cases hc : c = 0
  · refine pool_lift (rNew_nil c a (decide_eq_true hc) w) hS ?_
    rintro r G w' ⟨rfl, rfl⟩ hS'
    have he : Er.new c a = .nil := by rw [Er.new, if_pos hc]
    rw [he]
    exact ⟨bs, _, _, ⟨none, none, 0, 0, rfl, rfl, rfl⟩, rv_nil hS'⟩
  · refine pool_lift (rNew_flt c a (decide_eq_false hc) w) hS ?_
    rintro r G w' ⟨ca, cc, pa, pc, rfl, rfl⟩ hS'
    have he : Er.new c a = .flt c a .nil := by rw [Er.new, if_neg hc]
    rw [he]
    obtain ⟨bs', h⟩ := rv_two hS'
    exact ⟨bs', _, _, ⟨ca, pa, cc, pc, rfl, rfl, rfl⟩, h⟩
theorem rWrap_pool (e : Er) (hg : e.Good) (hn : e.list.length ≤ 100000) (hd : e.deep ≤ 100000) (ca pa : Option Addr) (cc pc : Nat) (hc : (ca, iv e.codes) ∈ ss) (hp : (pa, iv e.places) ∈ ss) (c a : Int) : Calls Tryd.prog 39 #[.agg #[.slice ca e.list.length cc, .slice pa e.list.length pc, .int .i64 (e.deep : Int)], .int .i64 c, .int .i64 a] w (PP w bs es ss fun r es' ss' => RV (e.wrap c a) r es es' ss ss') := by
  have hP := (PS.nextR (F := []) hS).2
  by_cases hw : e.isNil = true ∨ c = 0
  · have he : e.wrap c a = e := by rw [Er.wrap, if_pos hw]
    rw [he]
    have key : ∀ w', St w (owns [.pool bs es ss]) ([] ++ [.pool bs es ss]) w' → ∃ bs' es' ss', RV e (.agg #[.slice ca e.list.length cc, .slice pa e.list.length pc, .int .i64 (e.deep : Int)]) es es' ss ss' ∧ St w (owns [.pool bs es ss]) [.pool bs' es' ss'] w' := fun w' hS' =>
      ⟨bs, _, _, ⟨ca, pa, cc, pc, rfl, rfl, rfl⟩, pool_same hS' fun h => ⟨h.1, fun q hq => by
        cases hq with
        | head => exact h.2 _ hc
        | tail _ hq => cases hq with
          | head => exact h.2 _ hp
          | tail _ hq => exact h.2 q hq⟩⟩
    by_cases hk : e.isNil = true
    · have h0 : e.list.length = 0 := by rw [(Er.list_nil hg).2 hk]; rfl
      refine pool_lift (rWrap_nil ca pa _ cc pc _ c a (decide_eq_true (by omega)) w) hS ?_
      rintro r G w' ⟨rfl, rfl⟩ hS'
      exact key w' hS'
    · have h0 : ¬ e.list.length = 0 := fun h => hk ((Er.list_nil hg).1 (List.eq_nil_of_length_eq_zero h))
      refine pool_lift (rWrap_0 ca pa _ cc pc _ c a (decide_eq_false (by omega)) (decide_eq_true (hw.resolve_left hk)) w) hS ?_
      rintro r G w' ⟨rfl, rfl⟩ hS'
      exact key w' hS'
  · have hk : ¬ e.isNil = true := fun h => hw (.inl h)
    have h0 : ¬ e.list.length = 0 := fun h => hk ((Er.list_nil hg).1 (List.eq_nil_of_length_eq_zero h))
    have he : e.wrap c a = .flt c a e := by rw [Er.wrap, if_neg hw]
    rw [he]
    refine pool_lift (rWrap_flt ca pa _ cc pc _ e.codes e.places e.len_codes e.len_places (by omega) c a (decide_eq_false (by omega)) (decide_eq_false fun h => hw (.inr h)) (by omega) (by omega) w (hP _ hc) (hP _ hp)) hS ?_
    rintro r G w' ⟨cv, pv, rfl, rfl⟩ hS'
    obtain ⟨a1, p1, rfl⟩ := own_slice (hS'.sl (i := 0) rfl)
    obtain ⟨a2, p2, rfl⟩ := own_slice (hS'.sl (i := 1) rfl)
    obtain ⟨bs', h⟩ := rv_two hS'
    exact ⟨bs', _, _, ⟨a2, a1, p2, p1, by simp [Er.list, Er.deep, Nat.add_comm, Int.add_comm], rfl, by simp [iv, Er.codes, Er.places, Er.list]⟩, h⟩
theorem rJoin_pool (x y : Er) (hn1 : x.list.length ≤ 100000) (hn2 : y.list.length ≤ 100000) (ca pa : Option Addr) (cc pc : Nat) (hc : (ca, iv x.codes) ∈ ss) (hp : (pa, iv x.places) ∈ ss) (ca2 pa2 : Option Addr) (cc2 pc2 : Nat) (hc2 : (ca2, iv y.codes) ∈ ss) (hp2 : (pa2, iv y.places) ∈ ss) :
    Calls Tryd.prog 40 #[.agg #[.slice ca x.list.length cc, .slice pa x.list.length pc, .int .i64 (x.deep : Int)], .agg #[.slice ca2 y.list.length cc2, .slice pa2 y.list.length pc2, .int .i64 (y.deep : Int)]] w (PP w bs es ss fun r es' ss' => RV (Er.join x y) r es es' ss ss') := by
  have hP := (PS.nextR (F := []) hS).2
  refine pool_lift (rJoin_ok w ca pa _ cc pc _ x.codes x.places x.len_codes x.len_places (by omega) (hP _ hc) (hP _ hp) ca2 pa2 _ cc2 pc2 _ y.codes y.places y.len_codes y.len_places (by omega) (hP _ hc2) (hP _ hp2)) hS ?_
  rintro r G w' ⟨cv, pv, rfl, rfl⟩ hS'
  obtain ⟨a1, p1, rfl⟩ := own_slice (hS'.sl (i := 0) rfl)
  obtain ⟨a2, p2, rfl⟩ := own_slice (hS'.sl (i := 1) rfl)
  obtain ⟨bs', h⟩ := rv_two hS'
  refine ⟨bs', _, _, ⟨a2, a1, p2, p1, ?_, rfl, by simp [iv, Er.codes, Er.places, Er.list_join]⟩, h⟩
  have hd : ((Er.join x y).deep : Int) = max (x.deep : Int) (y.deep : Int) := by rw [Er.deep_join]; omega
  rw [hd, Er.list_join, List.length_append, Nat.zero_add]
end
end Go.Proofs.YtdlmcgflgdmjgaaDoor
