/- Texts that the claim needs, part 6. -/
import Derived.Test.YteojpdijmnpmgaaZDe5
import Derived.Deep.Slices
import Derived.Deep.Fields
import Derived.ChangeSame
import Derived.OpenShut
import Derived.Test.YteojpdijmnpmgaaProg
set_option linter.unusedVariables false
set_option linter.unusedSimpArgs false
namespace Go.Proofs.Yteojpdijmnpmgaa
attribute [local irreducible] crc
theorem tk_pre {l l' : List Nat} {k : Nat} (h : l'.take k = l.take k) : ∀ i, i < k → l'.getD i 0 = l.getD i 0 := fun i hi => by
  rw [List.getD_eq_getElem?_getD, List.getD_eq_getElem?_getD]
  have h1 := congrArg (fun l : List Nat => l[i]?) h
  simp only [List.getElem?_take, if_pos hi] at h1
  rw [h1]
theorem tkN_loc {l l' : List Nat} {n : Nat} (h : tkN l = some n) (he : l'.take (5 + n) = l.take (5 + n)) : tkN l' = some n := by
  have hl := tkN_le h
  have hlen : 5 + n ≤ l'.length := by have := congrArg List.length he; rw [List.length_take, List.length_take] at this; omega
  have hg := tk_pre he
  have hd : (l'.drop 5).take n = (l.drop 5).take n := by
    have := congrArg (List.drop 5) he
    rw [List.drop_take, List.drop_take] at this
    rwa [show 5 + n - 5 = n by omega] at this
  unfold tkN at h ⊢
  rw [hg 0 (by omega), hg 1 (by omega), hg 2 (by omega), hg 3 (by omega), hg 4 (by omega)]
  split at h
  · cases h
  · rename_i h1
    split at h
    · cases h
    · rename_i h2
      split at h
      · rename_i h3
        have hn : l.getD 1 0 * 2 ^ 8 + l.getD 2 0 + 1 = n := by injection h
        rw [hn] at h2 h3 ⊢
        rw [if_neg (fun h => h.elim (fun h => by omega) (fun h => h1 (.inr h))), if_neg (by omega), hd, if_pos h3]
      · cases h
theorem tkN_fr {m : List Nat} (h : waOk m) : tkN (fr m) = some m.length := by
  obtain ⟨h1, h2⟩ := h
  have e : (m.length - 1) / 2 ^ 8 % 256 * 2 ^ 8 + (m.length - 1) % 256 + 1 = m.length := by omega
  have g1 : (fr m).getD 1 0 = (m.length - 1) / 2 ^ 8 % 256 := rfl
  have g2 : (fr m).getD 2 0 = (m.length - 1) % 256 := rfl
  have g3 : (fr m).getD 3 0 = crc 65535 (fb m) / 2 ^ 8 % 256 := rfl
  have g4 : (fr m).getD 4 0 = crc 65535 (fb m) % 256 := rfl
  have g0 : (fr m).getD 0 0 = 76 := rfl
  have gd : (fr m).drop 5 = m := rfl
  unfold tkN
  rw [g0, g1, g2, g3, g4, gd, e, fr_len, if_neg (by omega), if_neg (by omega), List.take_length]
  rw [if_pos ⟨rfl, rfl⟩]
attribute [local irreducible] tkN fr
theorem tkN_nil : tkN [] = none := by
  cases h : tkN [] with
  | none => rfl
  | some n => have := tkN_le h; simp at this
theorem scan_nil (a : Nat) : scan [] a = ([], 0) := scan_none tkN_nil
theorem fr_drop (m : List Nat) : (fr m).drop 5 = m := by unfold fr; rfl
theorem scan_fr {m : List Nat} (h : waOk m) (a : Nat) : scan (fr m) a = ([(a, m)], 5 + m.length) := by
  rw [scan_some (tkN_fr h), fr_drop, List.take_length, List.drop_of_length_le (by rw [fr_len]; omega), scan_nil]
  rfl
theorem scan_app : ∀ (f : Nat) (l m : List Nat) (a : Nat), l.length ≤ f → (scan l a).2 = l.length → scan (l ++ m) a = ((scan l a).1 ++ (scan m (a + l.length)).1, l.length + (scan m (a + l.length)).2)
  | f, l, m, a, hf, hw => by
    cases h : tkN l with
    | none =>
      rw [scan_none h] at hw ⊢
      have hl : l = [] := List.eq_nil_of_length_eq_zero hw.symm
      subst hl
      simp
    | some n =>
      have hle := tkN_le h
      rw [scan_some h] at hw
      cases f with
      | zero => omega
      | succ f =>
        have h2 : tkN (l ++ m) = some n := tkN_loc h (by rw [List.take_append_of_le_length (by omega)])
        have hw' : 5 + n + (scan (l.drop (5 + n)) (a + (5 + n))).2 = l.length := hw
        have ih := scan_app f (l.drop (5 + n)) m (a + (5 + n)) (by rw [List.length_drop]; omega) (by rw [List.length_drop]; omega)
        rw [scan_some h2, scan_some h, List.drop_append_of_le_length (i := 5) (by omega), List.drop_append_of_le_length (i := 5 + n) (by omega), ih, List.take_append_of_le_length (by rw [List.length_drop]; omega)]
        have e : a + (5 + n) + (l.drop (5 + n)).length = a + l.length := by rw [List.length_drop]; omega
        rw [e]
        refine Prod.ext rfl ?_
        show 5 + n + ((l.drop (5 + n)).length + _) = l.length + _
        rw [List.length_drop]; omega
theorem scan_len : ∀ (f : Nat) (l : List Nat) (a : Nat), l.length ≤ f → (scan l a).1.length ≤ (scan l a).2 ∧ ∀ r ∈ (scan l a).1, a ≤ r.1 ∧ r.1 + 5 + r.2.length ≤ a + (scan l a).2
  | f, l, a, hf => by
    cases h : tkN l with
    | none => rw [scan_none h]; exact ⟨Nat.le_refl _, fun r hr => by cases hr⟩
    | some n =>
      have hle := tkN_le h
      rw [scan_some h]
      cases f with
      | zero => omega
      | succ f =>
        obtain ⟨h1, h2⟩ := scan_len f (l.drop (5 + n)) (a + (5 + n)) (by rw [List.length_drop]; omega)
        refine ⟨?_, fun r hr => ?_⟩
        · show _ + 1 ≤ 5 + n + _
          omega
        · show _ ∧ _ ≤ a + (5 + n + _)
          rcases List.mem_cons.1 hr with rfl | hr
          · refine ⟨Nat.le_refl _, ?_⟩
            show a + 5 + ((l.drop 5).take n).length ≤ _
            rw [List.length_take, List.length_drop]; omega
          · have := h2 r hr; omega
/-- Numbers rise. -/
def Inc (R : List (Nat × List Nat)) : Prop := R.Pairwise fun x y => x.1 < y.1
theorem scan_inc : ∀ (f : Nat) (l : List Nat) (a : Nat), l.length ≤ f → Inc (scan l a).1
  | f, l, a, hf => by
    cases h : tkN l with
    | none => rw [scan_none h]; exact .nil
    | some n =>
      have hle := tkN_le h
      rw [scan_some h]
      cases f with
      | zero => omega
      | succ f =>
        refine .cons (fun r hr => ?_) (scan_inc f (l.drop (5 + n)) (a + (5 + n)) (by rw [List.length_drop]; omega))
        have := (scan_len f (l.drop (5 + n)) (a + (5 + n)) (by rw [List.length_drop]; omega)).2 r hr
        show a < r.1
        omega
/-- Bytes that are a log's, whole: these records, and nothing behind. -/
def Whole (l : List Nat) (a : Nat) (R : List (Nat × List Nat)) : Prop := scan l a = (R, l.length)
theorem Whole.len {l : List Nat} {a : Nat} {R : List (Nat × List Nat)} (h : Whole l a R) : R.length ≤ l.length ∧ ∀ r ∈ R, a ≤ r.1 ∧ r.1 + 5 + r.2.length ≤ a + l.length := by
  have := scan_len l.length l a (Nat.le_refl _)
  rwa [show scan l a = (R, l.length) from h] at this
theorem Whole.inc {l : List Nat} {a : Nat} {R : List (Nat × List Nat)} (h : Whole l a R) : Inc R := by
  have := scan_inc l.length l a (Nat.le_refl _)
  rwa [show scan l a = (R, l.length) from h] at this
theorem whole_nil (a : Nat) : Whole [] a [] := scan_nil a
theorem Whole.app {l m : List Nat} {a : Nat} {R : List (Nat × List Nat)} (h : Whole l a R) (hm : waOk m) : Whole (l ++ fr m) a (R ++ [(a + l.length, m)]) := by
  have h2 : (scan l a).2 = l.length := by rw [show scan l a = (R, l.length) from h]
  have h1 := scan_app l.length l (fr m) a (Nat.le_refl _) h2
  rw [show scan l a = (R, l.length) from h, scan_fr hm] at h1
  unfold Whole
  rw [h1, List.length_append, fr_len]
  refine Prod.ext rfl ?_
  show l.length + (5 + m.length) = l.length + (m.length + 5)
  omega
theorem Whole.drop : ∀ (i : Nat) {l : List Nat} {a : Nat} {R : List (Nat × List Nat)} {r : Nat × List Nat}, Whole l a R → R[i]? = some r → Whole (l.drop (r.1 - a)) r.1 (R.drop i)
  | 0, l, a, R, r, h, hr => by
    cases hk : tkN l with
    | none =>
      unfold Whole at h; rw [scan_none hk] at h
      obtain ⟨rfl, -⟩ := Prod.mk.inj h
      simp at hr
    | some n =>
      have h0 := h
      unfold Whole at h; rw [scan_some hk] at h
      obtain ⟨rfl, -⟩ := Prod.mk.inj h
      have hr : ((a, (l.drop 5).take n) : Nat × List Nat) = r := by simpa using hr
      subst hr
      show Whole (l.drop (a - a)) a _
      rw [Nat.sub_self]
      exact h0
  | i + 1, l, a, R, r, h, hr => by
    cases hk : tkN l with
    | none =>
      unfold Whole at h; rw [scan_none hk] at h
      obtain ⟨rfl, -⟩ := Prod.mk.inj h
      simp at hr
    | some n =>
      have hle := tkN_le hk
      unfold Whole at h; rw [scan_some hk] at h
      obtain ⟨rfl, h2⟩ := Prod.mk.inj h
      have hw : Whole (l.drop (5 + n)) (a + (5 + n)) (scan (l.drop (5 + n)) (a + (5 + n))).1 := by
        refine Prod.ext rfl ?_
        rw [List.length_drop]; simp only; omega
      have hr : (scan (l.drop (5 + n)) (a + (5 + n))).1[i]? = some r := by simpa using hr
      have ih := Whole.drop i hw hr
      have hb := (hw.len).2 r (List.mem_of_getElem? hr)
      rw [List.drop_drop] at ih
      rwa [show 5 + n + (r.1 - (a + (5 + n))) = r.1 - a by omega] at ih
/-- In rising numbers each is found where it stands. -/
theorem Inc.find {R : List (Nat × List Nat)} (h : Inc R) {i : Nat} {r : Nat × List Nat} (hr : R[i]? = some r) : rdO R ((r.1 : Nat) : Int) = some r.2 := by
  unfold rdO
  induction h generalizing i with
  | nil => simp at hr
  | @cons x R h1 _ ih =>
    rw [List.find?_cons]
    cases i with
    | zero =>
      have hr : x = r := by simpa using hr
      subst hr
      simp
    | succ i =>
      have hr : R[i]? = some r := by simpa using hr
      have := h1 r (List.mem_of_getElem? hr)
      rw [decide_eq_false (by omega)]
      exact ih hr
end Go.Proofs.Yteojpdijmnpmgaa
namespace Go.Proofs.Yteojpdijmnpmgaa
open Go.RowKit
/-- A record is done again: how often it was opened, the transactions. -/
def replayF (ns : List Int) (st : Nat × List (Int × Tx)) : Nat × List (Int × Tx) :=
  match ns with
  | [a, b] => (if a = 0 then st.1 + 1 else st.1, if a = 2 then delT st.2 b else st.2)
  | [a, b, c] => (st.1, if a = 1 ∧ 0 < c ∧ c < 65536 then setT st.2 b (Tx.mk c.toNat 0 0 false true c.toNat 0) else st.2)
  | _ => st
noncomputable def replayR (R : List (Nat × List Nat)) (st : Nat × List (Int × Tx)) : Nat × List (Int × Tx) := R.foldl (fun st r => replayF (readL r.2) st) st
theorem replayR_nil (st : Nat × List (Int × Tx)) : replayR [] st = st := rfl
theorem replayR_app (R : List (Nat × List Nat)) (r : Nat × List Nat) (st : Nat × List (Int × Tx)) : replayR (R ++ [r]) st = replayF (readL r.2) (replayR R st) := by unfold replayR; rw [List.foldl_append]; rfl
theorem rep_0 {ns : List Int} {st : Nat × List (Int × Tx)} (h : ¬ns.length = 2) (h' : ¬ns.length = 3) : replayF ns st = st := by
  match ns, h, h' with
  | [], _, _ => rfl
  | [_], _, _ => rfl
  | [_, _], h, _ => exact absurd rfl h
  | [_, _, _], _, h => exact absurd rfl h
  | _ :: _ :: _ :: _ :: _, _, _ => rfl
theorem rep_2 {a b : Int} {st : Nat × List (Int × Tx)} : replayF [a, b] st = (if a = 0 then st.1 + 1 else st.1, if a = 2 then delT st.2 b else st.2) := rfl
theorem rep_3 {a b c : Int} {st : Nat × List (Int × Tx)} : replayF [a, b, c] st = (st.1, if a = 1 ∧ 0 < c ∧ c < 65536 then setT st.2 b (Tx.mk c.toNat 0 0 false true c.toNat 0) else st.2) := rfl
theorem rep_inc (ns : List Int) (st : Nat × List (Int × Tx)) : (replayF ns st).1 ≤ st.1 + 1 := by
  match ns with
  | [] => exact Nat.le_succ _
  | [_] => exact Nat.le_succ _
  | [a, b] => show (if a = 0 then st.1 + 1 else st.1) ≤ _; split <;> omega
  | [a, b, c] => exact Nat.le_succ _
  | _ :: _ :: _ :: _ :: _ => exact Nat.le_succ _
theorem two_of {ns : List Int} (h : ns.length = 2) : ∃ a b, ns = [a, b] := by
  match ns, h with
  | [a, b], _ => exact ⟨a, b, rfl⟩
theorem three_of {ns : List Int} (h : ns.length = 3) : ∃ a b c, ns = [a, b, c] := by
  match ns, h with
  | [a, b, c], _ => exact ⟨a, b, c, rfl⟩
theorem readL_in {b : List Nat} {x : Int} (h : x ∈ readL b) : 0 ≤ x ∧ x ≤ 1099511627776 := by
  unfold readL at h
  split at h
  · rename_i hc
    obtain ⟨v, hv, rfl⟩ := List.mem_map.1 h
    have := of_decide_eq_true (List.all_eq_true.1 hc.2.2.2 v hv)
    exact this.2
  · cases h
theorem recs_right (ns : List Int) : ∀ v ∈ ns.map vI, rightB v = true := fun v hv => by
  obtain ⟨x, _, rfl⟩ := List.mem_map.1 hv; exact vI_right x
theorem rowE_is {ns : List Int} (h3 : ns.length ≤ 3) : rowE (ns.map vI) = (encRow (ns.map vI), 0) := rowE_yes (by rw [List.length_map]; omega) (recs_right ns)
theorem readL_row {ns : List Int} (h2 : 2 ≤ ns.length) (h3 : ns.length ≤ 3) (h : ∀ x ∈ ns, 0 ≤ x ∧ x ≤ 1099511627776) : readL (rowE (ns.map vI)).1 = ns := by
  have hR : RrOk (ns.map vI) := ⟨recs_ok (fun x hx => by have := h x hx; omega), recs_right ns⟩
  have hd := decRw_yes hR (by rw [List.length_map]; omega) rfl
  have hl : (ns.map vI).length = ns.length := List.length_map _
  rw [rowE_is h3]
  have hy := readL_yes (b := encRow (ns.map vI)) (by rw [hd]) (by rw [hd]; show 2 ≤ (ns.map vI).length; omega) (by rw [hd]; show (ns.map vI).length ≤ 3; omega) (fun j hj v hv => by
    rw [hd] at hv
    have hv : (ns.map vI)[j]? = some v := hv
    rw [List.getElem?_map] at hv
    cases hn : ns[j]? with
    | none => rw [hn] at hv; cases hv
    | some x =>
      rw [hn] at hv
      have hv : vI x = v := Option.some.inj hv
      subst hv
      have := h x (List.mem_of_getElem? hn)
      exact ⟨rfl, this.1, this.2⟩)
  refine hy.trans ?_
  rw [hd]
  show ((ns.map vI).map (·.2.1)) = ns
  rw [List.map_map]
  exact List.map_id _
theorem row_waOk {ns : List Int} (h3 : ns.length ≤ 3) (h : ∀ x ∈ ns, -9223372036854775808 ≤ x ∧ x ≤ 9223372036854775807) : waOk (rowE (ns.map vI)).1 ∧ (rowE (ns.map vI)).1.length ≤ 3377 := by
  have hl := rowE_len (recs_ok h)
  refine ⟨⟨?_, by omega⟩, hl⟩
  rw [rowE_is h3]
  unfold encRow
  show 1 ≤ (_ :: _ : List Nat).length
  rw [List.length_cons]; omega
theorem rec_fits {l : List Nat} {ns : List Int} (h3 : ns.length ≤ 3) (h : ∀ x ∈ ns, -9223372036854775808 ≤ x ∧ x ≤ 9223372036854775807) (hl : l.length ≤ 1045000) : recE l ns = 0 ∧ recL l ns = l ++ fr (rowE (ns.map vI)).1 ∧ (recL l ns).length ≤ l.length + 3382 := by
  obtain ⟨hw, hr⟩ := row_waOk h3 h
  have hfl := fr_len (rowE (ns.map vI)).1
  have hc : l.length + (fr (rowE (ns.map vI)).1).length ≤ 1048576 := by omega
  have e1 : recE l ns = 0 := by
    show waE l _ = 0
    unfold waE apE
    rw [if_pos hw, if_pos hc]
  have e2 : recL l ns = l ++ fr (rowE (ns.map vI)).1 := by
    show waL l _ = _
    unfold waL apL
    rw [if_pos hw, if_pos hc]
  refine ⟨e1, e2, ?_⟩
  rw [e2, List.length_append]; omega
/-- A disk's bytes are records, and what they come to. -/
def DiskIs (l : List Nat) (st : Nat × List (Int × Tx)) : Prop := Bytes l ∧ ∃ R, Whole l 0 R ∧ replayR R (0, []) = st
theorem DiskIs.nil : DiskIs [] (0, []) := ⟨Bytes.nil, [], whole_nil 0, rfl⟩
theorem DiskIs.rec {l : List Nat} {st : Nat × List (Int × Tx)} (h : DiskIs l st) {ns : List Int} (h2 : 2 ≤ ns.length) (h3 : ns.length ≤ 3) (hn : ∀ x ∈ ns, 0 ≤ x ∧ x ≤ 1099511627776) (hl : l.length ≤ 1045000) : DiskIs (recL l ns) (replayF ns st) := by
  obtain ⟨hb, R, hw, hr⟩ := h
  have hi : ∀ x ∈ ns, -9223372036854775808 ≤ x ∧ x ≤ 9223372036854775807 := fun x hx => by have := hn x hx; omega
  obtain ⟨_, e2, _⟩ := rec_fits h3 hi hl
  refine ⟨waL_bytes hb (rowE_bytes (recs_ok hi)), R ++ [(0 + l.length, (rowE (ns.map vI)).1)], ?_, ?_⟩
  · rw [e2]; exact hw.app (row_waOk h3 hi).1
  · rw [replayR_app, readL_row h2 h3 hn, hr]
theorem DiskIs.scan {l : List Nat} {st : Nat × List (Int × Tx)} (h : DiskIs l st) : (scan l 0).2 = l.length ∧ replayR (scan l 0).1 (0, []) = st := by
  obtain ⟨hb, R, hw, hr⟩ := h
  have hw : Go.Proofs.Yteojpdijmnpmgaa.scan l 0 = (R, l.length) := hw
  rw [hw]; exact ⟨rfl, hr⟩
end Go.Proofs.Yteojpdijmnpmgaa
namespace Go.Proofs.Yteojpdijmnpmgaa
open Go.RowKit
theorem tc_delm {T : List (Int × Nat × Tx)} {n : Int} (h : TOk T) (hn : ∀ q ∈ T, q.1 ≠ n) : MDel (List.map tc T) (.int .i64 n) (List.map tc T) :=
  MDel.of (ok := fun _ => True) h.apart tc_inj (fun _ _ => trivial) trivial (fun _ => rfl) (by
    unfold mdel
    rw [List.filter_eq_self.2 fun q hq => (by have := hn q hq; simpa using this)])
theorem rp_0 {a b : Int} {i : Nat} {T : List (Int × Tx)} (h : a = 0) : replayF [a, b] (i, T) = (i + 1, T) := by rw [rep_2, if_pos h, if_neg (by omega)]
theorem rp_2 {a b : Int} {i : Nat} {T : List (Int × Tx)} (h : a = 2) : replayF [a, b] (i, T) = (i, delT T b) := by rw [rep_2, if_neg (by omega), if_pos h]
theorem rp_x {a b : Int} {i : Nat} {T : List (Int × Tx)} (h : ¬a = 0) (h2 : ¬a = 2) : replayF [a, b] (i, T) = (i, T) := by rw [rep_2, if_neg h, if_neg h2]
theorem rp_1 {a b c : Int} {i : Nat} {T : List (Int × Tx)} (h : a = 1 ∧ 0 < c ∧ c < 65536) : replayF [a, b, c] (i, T) = (i, setT T b (Tx.mk c.toNat 0 0 false true c.toNat 0)) := by rw [rep_3, if_pos h]
theorem rp_3 {a b c : Int} {i : Nat} {T : List (Int × Tx)} (h : ¬(a = 1 ∧ 0 < c ∧ c < 65536)) : replayF [a, b, c] (i, T) = (i, T) := by rw [rep_3, if_neg h]
/-- What is done again leaves. -/
def CoR (k kw : Nat) (nd : Int) (cnt mb : Nat) (oa : Option Addr) (O : List Lo) (oc : Nat) (g : Gh) (r : Nat × List (Int × Tx)) (G : List Ch) : Prop := ∃ inc' T', G = [co k kw nd inc' cnt mb oa O oc T', .fz g] ∧ TOk T' ∧ (inc', absT T') = r
attribute [local irreducible] Oper.wp Sem.run Code.wp wpList wpAnyO callFunc execOp Calls
attribute [local irreducible] toU short rencs renc rowE encRow rightB zig unzig decRw rightL risB lastN bitsOf nodesTo readL recB ofL sends getT delT setT waL waE waN waR apL apE decF vot2 votesF doneF hearF replayF
set_option maxRecDepth 100000 in
theorem replay_0 (k kw : Nat) (nd : Int) (inc cnt mb : Nat) (oa : Option Addr) (O : List Lo) (oc : Nat) (T : List (Int × Nat × Tx)) (hT : TOk T) (g : Gh) (hO : LOk g O) (hol0 : O.length ≤ 100000) (ns : List Int) (h2 : ¬ns.length = 2) (h3 : ¬ns.length = 3) (nl : Nat) (hnl : ns.length = nl) (an : Option Addr) (cn : Nat) (w : World) (g2 : Gh) (hg2 : Rog [co k kw nd inc cnt mb oa O oc T, .fz g] w g2) (hG : SlG g2 an (iv ns)) (hS : St w (owns [co k kw nd inc cnt mb oa O oc T, .fz g]) [co k kw nd inc cnt mb oa O oc T, .fz g] w) : Calls Try.prog 28 #[pV k, .slice an nl cn] w (Post w [co k kw nd inc cnt mb oa O oc T, .fz g] fun v G => CoR k kw nd cnt mb oa O oc g (replayF ns (inc, absT T)) G) := by
 subst hnl
 refine c_enter Try.func28 rfl rfl rfl ?_
 refine wp_seq_k (fun K1 hK1 => ?_)
 refine wp_region_lit ?_
 refine l_q rfl rfl (q_moveS rfl) ?_
 refine l_q rfl rfl (q_lenSl (e := 3) rfl (by kernel_rfl)) ?_
 refine l_nil ?_
 refine hK1 _ _ ?_
 refine wp_block ?_
 refine wp_seq_k (fun K2 hK2 => ?_)
 refine wp_region_lit ?_
 refine l_q rfl rfl (q_eql rfl rfl) ?_
 refine l_q rfl rfl (q_assignB rfl) ?_
 refine l_nil ?_
 refine hK2 _ _ ?_
 refine c_cond rfl (fun hc3 => ?_) (fun hc3 => ?_)
 have hc3b := hc3
 try simp only [zbb] at hc3
 exfalso; omega
 have hc3b := hc3
 try simp only [zbb] at hc3
 refine wp_seq_k (fun K4 hK4 => ?_)
 refine wp_region_lit ?_
 refine l_q rfl rfl (q_eql rfl rfl) ?_
 refine l_q rfl rfl (q_assignB rfl) ?_
 refine l_nil ?_
 refine hK4 _ _ ?_
 refine c_cond rfl (fun hc5 => ?_) (fun hc5 => ?_)
 have hc5b := hc5
 try simp only [zbb] at hc5
 exfalso; omega
 have hc5b := hc5
 try simp only [zbb] at hc5
 refine wp_skip ?_
 refine c_end0 (fn := Try.f28) rfl ?_
 exact ⟨_, _, rfl, ⟨inc, T, rfl, hT, (rep_0 h2 h3).symm⟩, hS⟩
set_option maxHeartbeats 1000000 in
set_option maxRecDepth 100000 in
theorem replay_2h (k kw : Nat) (nd : Int) (inc cnt mb : Nat) (oa : Option Addr) (O : List Lo) (oc : Nat) (a n : Int) (A : List (Int × Nat × Tx)) (b : Nat) (t : Tx) (B : List (Int × Nat × Tx)) (hT : TOk (A ++ (n, b, t) :: B)) (g : Gh) (hO : LOk g O) (hol0 : O.length ≤ 100000) (hinc : inc ≤ 1000000) (hn0 : 0 ≤ n ∧ n ≤ 2199023255552) (an : Option Addr) (cn : Nat) (w : World) (g2 : Gh) (hg2 : Rog [co k kw nd inc cnt mb oa O oc (A ++ (n, b, t) :: B), .fz g] w g2) (hG : SlG g2 an (iv [a, n])) (hS : St w (owns [co k kw nd inc cnt mb oa O oc (A ++ (n, b, t) :: B), .fz g]) [co k kw nd inc cnt mb oa O oc (A ++ (n, b, t) :: B), .fz g] w) : Calls Try.prog 28 #[pV k, .slice an 2 cn] w (Post w [co k kw nd inc cnt mb oa O oc (A ++ (n, b, t) :: B), .fz g] fun v G => CoR k kw nd cnt mb oa O oc g (replayF [a, n] (inc, absT (A ++ (n, b, t) :: B))) G) := by
 have hTn := (hT.2 (n, b, t) (List.mem_append_right _ (.head _))).1
 have ht1 : t.nodes < 65536 := hTn.1
 have ht2 : t.yes < 65536 := hTn.2.1
 have ht3 : t.read < 65536 := hTn.2.2.1
 have ht4 : t.tell < 65536 := hTn.2.2.2.1
 have ht5 : t.ticks < 5 := hTn.2.2.2.2
 refine c_enter Try.func28 rfl rfl rfl ?_
 refine wp_seq_k (fun K1 hK1 => ?_)
 have hS2 := co_open hS; clear hS
 have hS3 := hS2.fr2; clear hS2
 have hS4 : St _ _ [.blk b (.cells #[.int .i64 ((t.nodes : Nat) : Int), .int .i64 ((t.yes : Nat) : Int), .int .i64 ((t.read : Nat) : Int), .bool t.asked, .bool t.com, .int .i64 ((t.tell : Nat) : Int), .int .i64 ((t.ticks : Nat) : Int)] 80), .pk (List.map tb (A ++ B)), .blk k (.cells #[.pointer (some ⟨kw, 0, none⟩), .int .i64 nd, .int .i64 (inc : Int), .int .i64 (cnt : Int), .map (some mb), .slice oa O.length oc] 68), .mp (.int .i64) mb (List.map tc (A ++ (n, b, t) :: B)), .ow 42 5 oa O.length oc (List.flatMap lo O), .fz g] _ := tb_take hS3; clear hS3
 refine wp_region_lit ?_
 refine l_q rfl rfl (q_moveS rfl) ?_
 refine l_q rfl rfl (q_lenSl (e := 3) rfl (by kernel_rfl)) ?_
 refine l_nil ?_
 refine hK1 _ _ ?_
 refine wp_block ?_
 refine wp_seq_k (fun K5 hK5 => ?_)
 refine wp_region_lit ?_
 refine l_q rfl rfl (q_eql rfl rfl) ?_
 refine l_q rfl rfl (q_assignB rfl) ?_
 refine l_nil ?_
 refine hK5 _ _ ?_
 refine c_condT rfl (by decide) ?_
 refine wp_seq_k (fun K7 hK7 => ?_)
 refine wp_seq_k (fun K8 hK8 => ?_)
 refine wp_region_lit ?_
 refine l_q rfl rfl (q_moveS rfl) ?_
 refine l_q rfl rfl (q_ixG (e := 3) (m := 1) (j := 0) rfl rfl (by kernel_rfl) (by kernel_rfl) (by first | rfl | omega) (by omega) hG (by rw [iv_len]; first | omega | (simp only [zll] <;> omega))) ?_
 refine l_q rfl rfl (q_load1 rfl (by kernel_rfl) (SlG.cell (hG.mono (hg2.le hS4)) (Gle.refl _) (at1 (iv_at (rfl : ([a, n])[0]? = some a))))) ?_
 refine l_q rfl rfl (q_eql rfl rfl) ?_
 refine l_nil ?_
 refine hK8 _ _ ?_
 refine c_cond rfl (fun hc9 => ?_) (fun hc9 => ?_)
 have hc9b := hc9
 try simp only [zbb] at hc9
 refine wp_region_lit ?_
 refine l_q rfl rfl (q_moveP rfl) ?_
 refine l_q rfl rfl (q_nilCheck rfl) ?_
 refine l_q rfl rfl (q_fieldAddr (ft := 3) (o := 2) rfl (by kernel_rfl)) ?_
 refine l_q rfl rfl (q_load1 rfl (by kernel_rfl) (hS4.cell (i := 2) rfl rfl)) ?_
 refine l_q rfl rfl (q_addx rfl rfl (by first | decide | omega) (by first | decide | omega)) ?_
 refine l_q rfl rfl (q_nilCheck rfl) ?_
 refine l_q rfl rfl (q_fieldAddr (ft := 3) (o := 2) rfl (by kernel_rfl)) ?_
 refine l_e rfl (fun K hK => ?_)
 refine e_store1 hS4 rfl rfl (by kernel_rfl) (by first | rfl | assumption) (i := 2) rfl rfl (fun w10 (hS10 : St _ _ [_, _, .blk k (.cells #[.pointer (some ⟨kw, 0, none⟩), .int .i64 nd, .int .i64 ((inc : Int) + (1 : Int)), .int .i64 (cnt : Int), .map (some mb), .slice oa O.length oc] 68), _, _, .fz g] _) => ?_)
 clear hS4
 refine hK _ _ ?_; clear hK K
 refine l_nil ?_
 refine hK7 _ _ ?_
 refine wp_seq_k (fun K11 hK11 => ?_)
 refine wp_region_lit ?_
 refine l_q rfl rfl (q_moveS rfl) ?_
 refine l_q rfl rfl (q_ixG (e := 3) (m := 1) (j := 0) rfl rfl (by kernel_rfl) (by kernel_rfl) (by first | rfl | omega) (by omega) hG (by rw [iv_len]; first | omega | (simp only [zll] <;> omega))) ?_
 refine l_q rfl rfl (q_load1 rfl (by kernel_rfl) (SlG.cell (hG.mono (hg2.le hS10)) (Gle.refl _) (at1 (iv_at (rfl : ([a, n])[0]? = some a))))) ?_
 refine l_q rfl rfl (q_eql rfl rfl) ?_
 refine l_nil ?_
 refine hK11 _ _ ?_
 refine c_cond rfl (fun hc12 => ?_) (fun hc12 => ?_)
 have hc12b := hc12
 try simp only [zbb] at hc12
 exfalso; omega
 have hc12b := hc12
 try simp only [zbb] at hc12
 refine wp_skip ?_
 refine c_end0 (fn := Try.f28) rfl ?_
 have hS13 : St _ _ [.pk (List.map tb (A ++ (n, b, t) :: B)), _, _, _, .fz g] _ := tb_put (q := (n, b, t)) hS10; clear hS10
 have hS14 := hS13.fr4; clear hS13
 have hS15 := hS14.fr4; clear hS14
 have hS16 := hS15.fr2; clear hS15
 have hS17 := hS16.fr4; clear hS16
 have hS18 := hS17.fr4; clear hS17
 have hS19 : St _ _ [co k kw nd (inc + 1) cnt mb oa O oc (A ++ (n, b, t) :: B), .fz g] _ := co_close hS18; clear hS18
 exact ⟨_, _, rfl, ⟨_, (A ++ (n, b, t) :: B), rfl, hT, by rw [rp_0 (by omega)]⟩, hS19⟩
 have hc9b := hc9
 try simp only [zbb] at hc9
 refine wp_skip ?_
 refine hK7 _ _ ?_
 refine wp_seq_k (fun K20 hK20 => ?_)
 refine wp_region_lit ?_
 refine l_q rfl rfl (q_moveS rfl) ?_
 refine l_q rfl rfl (q_ixG (e := 3) (m := 1) (j := 0) rfl rfl (by kernel_rfl) (by kernel_rfl) (by first | rfl | omega) (by omega) hG (by rw [iv_len]; first | omega | (simp only [zll] <;> omega))) ?_
 refine l_q rfl rfl (q_load1 rfl (by kernel_rfl) (SlG.cell (hG.mono (hg2.le hS4)) (Gle.refl _) (at1 (iv_at (rfl : ([a, n])[0]? = some a))))) ?_
 refine l_q rfl rfl (q_eql rfl rfl) ?_
 refine l_nil ?_
 refine hK20 _ _ ?_
 refine c_cond rfl (fun hc21 => ?_) (fun hc21 => ?_)
 have hc21b := hc21
 try simp only [zbb] at hc21
 refine r_any (by kernel_rfl) hS4 (fun w22 hS22 => ?_)
 clear hS4
 refine o_pure (i := 0) (fun _ _ => trivial) rfl rfl (by kernel_rfl) (goes0 rfl) (QOk.inBlock QOk.body) (fun w => q_moveP rfl) ?_
 refine o_pure (i := 1) (fun _ _ => trivial) rfl rfl (by kernel_rfl) (goes0 rfl) (QOk.inBlock QOk.body) (fun w => q_nilCheck rfl) ?_
 refine o_pure (i := 2) (fun _ _ => trivial) rfl rfl (by kernel_rfl) (goes0 rfl) (QOk.inBlock QOk.body) (fun w => q_fieldAddr (ft := 66) (o := 4) rfl (by kernel_rfl)) ?_
 refine o_held (i := 3) [7] (fun _ _ => trivial) rfl rfl (by kernel_rfl) (goes0 rfl) (QOk.inBlock QOk.body) (q_load1 rfl (by kernel_rfl) (hS22.cell (i := 2) rfl rfl)) ?_
 refine o_pure (i := 4) (fun j w => ⟨(fun _ _ => trivial) j w, fun _ h => h⟩) rfl rfl (by kernel_rfl) (goes0 rfl) (QOk.inBlock QOk.body) (fun w => q_moveS rfl) ?_
 refine o_pure (i := 5) (fun j w => ⟨(fun _ _ => trivial) j w, fun _ h => h⟩) rfl rfl (by kernel_rfl) (goes0 rfl) (QOk.inBlock QOk.body) (fun w => q_ixG (e := 3) (m := 1) (j := 1) rfl rfl (by kernel_rfl) (by kernel_rfl) (by first | rfl | omega) (by omega) hG (by rw [iv_len]; first | omega | (simp only [zll] <;> omega))) ?_
 refine o_held (i := 6) [7] (fun j w => ⟨(fun _ _ => trivial) j w, fun _ h => h⟩) rfl rfl (by kernel_rfl) (goes0 rfl) (QOk.inBlock QOk.body) (q_load1 rfl (by kernel_rfl) (SlG.cell (hG.mono (hg2.le hS22)) (Gle.refl _) (at1 (iv_at (rfl : ([a, n])[1]? = some n))))) ?_
 refine o_eff (i := 7) (by kernel_rfl) rfl (goes0 rfl) (fun K hK => ?_)
 refine e_mapDel (zv := .pointer none) hS22 rfl rfl (by kernel_rfl) (by first | rfl | trivial) (i := 3) rfl (tc_del hT) (fun w23 (hS23 : St _ _ [_, _, _, .mp (.int .i64) mb (List.map tc (A ++ B)), _, .fz g] _) => ?_)
 clear hS22
 refine hK _ _ ⟨⟨trivial, fun h => absurd h (by decide)⟩, fun h => absurd h (by decide)⟩ ?_; clear hK K
 refine o_done (by kernel_rfl) ?_
 refine c_end0 (fn := Try.f28) rfl ?_
 have hS24 := hS23.fr5; clear hS23
 have hS25 := hS24.fr5; clear hS24
 have hS26 := hS25.fr3; clear hS25
 have hS27 := hS26.fr5; clear hS26
 have hS28 := hS27.fr5; clear hS27
 have hS29 : St _ _ [_, _, _, _, .fz g] _ := hS28.only 5; clear hS28
 have hS30 : St _ _ [co k kw nd inc cnt mb oa O oc (A ++ B), .fz g] _ := co_close hS29; clear hS29
 exact ⟨_, _, rfl, ⟨_, (A ++ B), rfl, hT.del, by rw [rp_2 (by omega), delT_hit hT]⟩, hS30⟩
 have hc21b := hc21
 try simp only [zbb] at hc21
 refine wp_skip ?_
 refine c_end0 (fn := Try.f28) rfl ?_
 have hS31 : St _ _ [_, _, _, _, .fz g] _ := tb_put (q := (n, b, t)) hS4; clear hS4
 have hS32 := hS31.fr4; clear hS31
 have hS33 := hS32.fr4; clear hS32
 have hS34 := hS33.fr2; clear hS33
 have hS35 := hS34.fr4; clear hS34
 have hS36 := hS35.fr4; clear hS35
 have hS37 : St _ _ [co k kw nd inc cnt mb oa O oc (A ++ (n, b, t) :: B), .fz g] _ := co_close hS36; clear hS36
 exact ⟨_, _, rfl, ⟨_, (A ++ (n, b, t) :: B), rfl, hT, by rw [rp_x (by omega) (by omega)]⟩, hS37⟩
set_option maxHeartbeats 1000000 in
set_option maxRecDepth 100000 in
theorem replay_2m (k kw : Nat) (nd : Int) (inc cnt mb : Nat) (oa : Option Addr) (O : List Lo) (oc : Nat) (a n : Int) (A B : List (Int × Nat × Tx)) (hA : ∀ q ∈ A, q.1 < n) (hB : ∀ q ∈ B, n < q.1) (hT : TOk (A ++ B)) (g : Gh) (hO : LOk g O) (hol0 : O.length ≤ 100000) (hinc : inc ≤ 1000000) (hn0 : 0 ≤ n ∧ n ≤ 2199023255552) (an : Option Addr) (cn : Nat) (w : World) (g2 : Gh) (hg2 : Rog [co k kw nd inc cnt mb oa O oc (A ++ B), .fz g] w g2) (hG : SlG g2 an (iv [a, n])) (hS : St w (owns [co k kw nd inc cnt mb oa O oc (A ++ B), .fz g]) [co k kw nd inc cnt mb oa O oc (A ++ B), .fz g] w) : Calls Try.prog 28 #[pV k, .slice an 2 cn] w (Post w [co k kw nd inc cnt mb oa O oc (A ++ B), .fz g] fun v G => CoR k kw nd cnt mb oa O oc g (replayF [a, n] (inc, absT (A ++ B))) G) := by
 refine c_enter Try.func28 rfl rfl rfl ?_
 refine wp_seq_k (fun K1 hK1 => ?_)
 have hS2 := co_open hS; clear hS
 refine wp_region_lit ?_
 refine l_q rfl rfl (q_moveS rfl) ?_
 refine l_q rfl rfl (q_lenSl (e := 3) rfl (by kernel_rfl)) ?_
 refine l_nil ?_
 refine hK1 _ _ ?_
 refine wp_block ?_
 refine wp_seq_k (fun K3 hK3 => ?_)
 refine wp_region_lit ?_
 refine l_q rfl rfl (q_eql rfl rfl) ?_
 refine l_q rfl rfl (q_assignB rfl) ?_
 refine l_nil ?_
 refine hK3 _ _ ?_
 refine c_condT rfl (by decide) ?_
 refine wp_seq_k (fun K5 hK5 => ?_)
 refine wp_seq_k (fun K6 hK6 => ?_)
 refine wp_region_lit ?_
 refine l_q rfl rfl (q_moveS rfl) ?_
 refine l_q rfl rfl (q_ixG (e := 3) (m := 1) (j := 0) rfl rfl (by kernel_rfl) (by kernel_rfl) (by first | rfl | omega) (by omega) hG (by rw [iv_len]; first | omega | (simp only [zll] <;> omega))) ?_
 refine l_q rfl rfl (q_load1 rfl (by kernel_rfl) (SlG.cell (hG.mono (hg2.le hS2)) (Gle.refl _) (at1 (iv_at (rfl : ([a, n])[0]? = some a))))) ?_
 refine l_q rfl rfl (q_eql rfl rfl) ?_
 refine l_nil ?_
 refine hK6 _ _ ?_
 refine c_cond rfl (fun hc7 => ?_) (fun hc7 => ?_)
 have hc7b := hc7
 try simp only [zbb] at hc7
 refine wp_region_lit ?_
 refine l_q rfl rfl (q_moveP rfl) ?_
 refine l_q rfl rfl (q_nilCheck rfl) ?_
 refine l_q rfl rfl (q_fieldAddr (ft := 3) (o := 2) rfl (by kernel_rfl)) ?_
 refine l_q rfl rfl (q_load1 rfl (by kernel_rfl) (hS2.cell (i := 0) rfl rfl)) ?_
 refine l_q rfl rfl (q_addx rfl rfl (by first | decide | omega) (by first | decide | omega)) ?_
 refine l_q rfl rfl (q_nilCheck rfl) ?_
 refine l_q rfl rfl (q_fieldAddr (ft := 3) (o := 2) rfl (by kernel_rfl)) ?_
 refine l_e rfl (fun K hK => ?_)
 refine e_store1 hS2 rfl rfl (by kernel_rfl) (by first | rfl | assumption) (i := 0) rfl rfl (fun w8 (hS8 : St _ _ [.blk k (.cells #[.pointer (some ⟨kw, 0, none⟩), .int .i64 nd, .int .i64 ((inc : Int) + (1 : Int)), .int .i64 (cnt : Int), .map (some mb), .slice oa O.length oc] 68), .mp (.int .i64) mb (List.map tc (A ++ B)), .pk (List.map tb (A ++ B)), .ow 42 5 oa O.length oc (List.flatMap lo O), .fz g] _) => ?_)
 clear hS2
 refine hK _ _ ?_; clear hK K
 refine l_nil ?_
 refine hK5 _ _ ?_
 refine wp_seq_k (fun K9 hK9 => ?_)
 refine wp_region_lit ?_
 refine l_q rfl rfl (q_moveS rfl) ?_
 refine l_q rfl rfl (q_ixG (e := 3) (m := 1) (j := 0) rfl rfl (by kernel_rfl) (by kernel_rfl) (by first | rfl | omega) (by omega) hG (by rw [iv_len]; first | omega | (simp only [zll] <;> omega))) ?_
 refine l_q rfl rfl (q_load1 rfl (by kernel_rfl) (SlG.cell (hG.mono (hg2.le hS8)) (Gle.refl _) (at1 (iv_at (rfl : ([a, n])[0]? = some a))))) ?_
 refine l_q rfl rfl (q_eql rfl rfl) ?_
 refine l_nil ?_
 refine hK9 _ _ ?_
 refine c_cond rfl (fun hc10 => ?_) (fun hc10 => ?_)
 have hc10b := hc10
 try simp only [zbb] at hc10
 exfalso; omega
 have hc10b := hc10
 try simp only [zbb] at hc10
 refine wp_skip ?_
 refine c_end0 (fn := Try.f28) rfl ?_
 have hS11 : St _ _ [co k kw nd (inc + 1) cnt mb oa O oc (A ++ B), .fz g] _ := co_close hS8; clear hS8
 exact ⟨_, _, rfl, ⟨_, (A ++ B), rfl, hT, by rw [rp_0 (by omega)]⟩, hS11⟩
 have hc7b := hc7
 try simp only [zbb] at hc7
 refine wp_skip ?_
 refine hK5 _ _ ?_
 refine wp_seq_k (fun K12 hK12 => ?_)
 refine wp_region_lit ?_
 refine l_q rfl rfl (q_moveS rfl) ?_
 refine l_q rfl rfl (q_ixG (e := 3) (m := 1) (j := 0) rfl rfl (by kernel_rfl) (by kernel_rfl) (by first | rfl | omega) (by omega) hG (by rw [iv_len]; first | omega | (simp only [zll] <;> omega))) ?_
 refine l_q rfl rfl (q_load1 rfl (by kernel_rfl) (SlG.cell (hG.mono (hg2.le hS2)) (Gle.refl _) (at1 (iv_at (rfl : ([a, n])[0]? = some a))))) ?_
 refine l_q rfl rfl (q_eql rfl rfl) ?_
 refine l_nil ?_
 refine hK12 _ _ ?_
 refine c_cond rfl (fun hc13 => ?_) (fun hc13 => ?_)
 have hc13b := hc13
 try simp only [zbb] at hc13
 refine r_any (by kernel_rfl) hS2 (fun w14 hS14 => ?_)
 clear hS2
 refine o_pure (i := 0) (fun _ _ => trivial) rfl rfl (by kernel_rfl) (goes0 rfl) (QOk.inBlock QOk.body) (fun w => q_moveP rfl) ?_
 refine o_pure (i := 1) (fun _ _ => trivial) rfl rfl (by kernel_rfl) (goes0 rfl) (QOk.inBlock QOk.body) (fun w => q_nilCheck rfl) ?_
 refine o_pure (i := 2) (fun _ _ => trivial) rfl rfl (by kernel_rfl) (goes0 rfl) (QOk.inBlock QOk.body) (fun w => q_fieldAddr (ft := 66) (o := 4) rfl (by kernel_rfl)) ?_
 refine o_held (i := 3) [7] (fun _ _ => trivial) rfl rfl (by kernel_rfl) (goes0 rfl) (QOk.inBlock QOk.body) (q_load1 rfl (by kernel_rfl) (hS14.cell (i := 0) rfl rfl)) ?_
 refine o_pure (i := 4) (fun j w => ⟨(fun _ _ => trivial) j w, fun _ h => h⟩) rfl rfl (by kernel_rfl) (goes0 rfl) (QOk.inBlock QOk.body) (fun w => q_moveS rfl) ?_
 refine o_pure (i := 5) (fun j w => ⟨(fun _ _ => trivial) j w, fun _ h => h⟩) rfl rfl (by kernel_rfl) (goes0 rfl) (QOk.inBlock QOk.body) (fun w => q_ixG (e := 3) (m := 1) (j := 1) rfl rfl (by kernel_rfl) (by kernel_rfl) (by first | rfl | omega) (by omega) hG (by rw [iv_len]; first | omega | (simp only [zll] <;> omega))) ?_
 refine o_held (i := 6) [7] (fun j w => ⟨(fun _ _ => trivial) j w, fun _ h => h⟩) rfl rfl (by kernel_rfl) (goes0 rfl) (QOk.inBlock QOk.body) (q_load1 rfl (by kernel_rfl) (SlG.cell (hG.mono (hg2.le hS14)) (Gle.refl _) (at1 (iv_at (rfl : ([a, n])[1]? = some n))))) ?_
 refine o_eff (i := 7) (by kernel_rfl) rfl (goes0 rfl) (fun K hK => ?_)
 refine e_mapDel (zv := .pointer none) hS14 rfl rfl (by kernel_rfl) (by first | rfl | trivial) (i := 1) rfl (tc_delm hT (sides_ne hA hB)) (fun w15 (hS15 : St _ _ [.blk k (.cells #[.pointer (some ⟨kw, 0, none⟩), .int .i64 nd, .int .i64 (inc : Int), .int .i64 (cnt : Int), .map (some mb), .slice oa O.length oc] 68), _, _, _, .fz g] _) => ?_)
 clear hS14
 refine hK _ _ ⟨⟨trivial, fun h => absurd h (by decide)⟩, fun h => absurd h (by decide)⟩ ?_; clear hK K
 refine o_done (by kernel_rfl) ?_
 refine c_end0 (fn := Try.f28) rfl ?_
 have hS16 : St _ _ [co k kw nd inc cnt mb oa O oc (A ++ B), .fz g] _ := co_close hS15; clear hS15
 exact ⟨_, _, rfl, ⟨_, (A ++ B), rfl, hT, by rw [rp_2 (by omega), delT_miss (sides_ne hA hB)]⟩, hS16⟩
 have hc13b := hc13
 try simp only [zbb] at hc13
 refine wp_skip ?_
 refine c_end0 (fn := Try.f28) rfl ?_
 have hS17 : St _ _ [_, .fz g] _ := co_close hS2; clear hS2
 exact ⟨_, _, rfl, ⟨_, (A ++ B), rfl, hT, by rw [rp_x (by omega) (by omega)]⟩, hS17⟩
set_option maxHeartbeats 1000000 in
set_option maxRecDepth 100000 in
theorem replay_3h (k kw : Nat) (nd : Int) (inc cnt mb : Nat) (oa : Option Addr) (O : List Lo) (oc : Nat) (a n c : Int) (A : List (Int × Nat × Tx)) (b : Nat) (t : Tx) (B : List (Int × Nat × Tx)) (hT : TOk (A ++ (n, b, t) :: B)) (g : Gh) (hO : LOk g O) (hol0 : O.length ≤ 100000) (hinc : inc ≤ 1000000) (hn0 : 0 ≤ n ∧ n ≤ 2199023255552) (an : Option Addr) (cn : Nat) (w : World) (g2 : Gh) (hg2 : Rog [co k kw nd inc cnt mb oa O oc (A ++ (n, b, t) :: B), .fz g] w g2) (hG : SlG g2 an (iv [a, n, c])) (hS : St w (owns [co k kw nd inc cnt mb oa O oc (A ++ (n, b, t) :: B), .fz g]) [co k kw nd inc cnt mb oa O oc (A ++ (n, b, t) :: B), .fz g] w) : Calls Try.prog 28 #[pV k, .slice an 3 cn] w (Post w [co k kw nd inc cnt mb oa O oc (A ++ (n, b, t) :: B), .fz g] fun v G => CoR k kw nd cnt mb oa O oc g (replayF [a, n, c] (inc, absT (A ++ (n, b, t) :: B))) G) := by
 have hTn := (hT.2 (n, b, t) (List.mem_append_right _ (.head _))).1
 have ht1 : t.nodes < 65536 := hTn.1
 have ht2 : t.yes < 65536 := hTn.2.1
 have ht3 : t.read < 65536 := hTn.2.2.1
 have ht4 : t.tell < 65536 := hTn.2.2.2.1
 have ht5 : t.ticks < 5 := hTn.2.2.2.2
 refine c_enter Try.func28 rfl rfl rfl ?_
 refine wp_seq_k (fun K1 hK1 => ?_)
 have hS2 := co_open hS; clear hS
 have hS3 := hS2.fr2; clear hS2
 have hS4 : St _ _ [.blk b (.cells #[.int .i64 ((t.nodes : Nat) : Int), .int .i64 ((t.yes : Nat) : Int), .int .i64 ((t.read : Nat) : Int), .bool t.asked, .bool t.com, .int .i64 ((t.tell : Nat) : Int), .int .i64 ((t.ticks : Nat) : Int)] 80), .pk (List.map tb (A ++ B)), .blk k (.cells #[.pointer (some ⟨kw, 0, none⟩), .int .i64 nd, .int .i64 (inc : Int), .int .i64 (cnt : Int), .map (some mb), .slice oa O.length oc] 68), .mp (.int .i64) mb (List.map tc (A ++ (n, b, t) :: B)), .ow 42 5 oa O.length oc (List.flatMap lo O), .fz g] _ := tb_take hS3; clear hS3
 refine wp_region_lit ?_
 refine l_q rfl rfl (q_moveS rfl) ?_
 refine l_q rfl rfl (q_lenSl (e := 3) rfl (by kernel_rfl)) ?_
 refine l_nil ?_
 refine hK1 _ _ ?_
 refine wp_block ?_
 refine wp_seq_k (fun K5 hK5 => ?_)
 refine wp_region_lit ?_
 refine l_q rfl rfl (q_eql rfl rfl) ?_
 refine l_q rfl rfl (q_assignB rfl) ?_
 refine l_nil ?_
 refine hK5 _ _ ?_
 refine c_condF rfl (by decide) ?_
 refine wp_seq_k (fun K7 hK7 => ?_)
 refine wp_region_lit ?_
 refine l_q rfl rfl (q_eql rfl rfl) ?_
 refine l_q rfl rfl (q_assignB rfl) ?_
 refine l_nil ?_
 refine hK7 _ _ ?_
 refine c_condT rfl (by decide) ?_
 refine wp_seq_k (fun K9 hK9 => ?_)
 refine wp_region_lit ?_
 refine l_q rfl rfl (q_moveS rfl) ?_
 refine l_q rfl rfl (q_ixG (e := 3) (m := 1) (j := 2) rfl rfl (by kernel_rfl) (by kernel_rfl) (by first | rfl | omega) (by omega) hG (by rw [iv_len]; first | omega | (simp only [zll] <;> omega))) ?_
 refine l_q rfl rfl (q_load1 rfl (by kernel_rfl) (SlG.cell (hG.mono (hg2.le hS4)) (Gle.refl _) (at1 (iv_at (rfl : ([a, n, c])[2]? = some c))))) ?_
 refine l_q rfl rfl (q_assignI rfl) ?_
 refine l_nil ?_
 refine hK9 _ _ ?_
 refine wp_seq_k (fun K10 hK10 => ?_)
 refine wp_region_lit ?_
 refine l_q rfl rfl (q_moveS rfl) ?_
 refine l_q rfl rfl (q_ixG (e := 3) (m := 1) (j := 0) rfl rfl (by kernel_rfl) (by kernel_rfl) (by first | rfl | omega) (by omega) hG (by rw [iv_len]; first | omega | (simp only [zll] <;> omega))) ?_
 refine l_q rfl rfl (q_load1 rfl (by kernel_rfl) (SlG.cell (hG.mono (hg2.le hS4)) (Gle.refl _) (at1 (iv_at (rfl : ([a, n, c])[0]? = some a))))) ?_
 refine l_q rfl rfl (q_eql rfl rfl) ?_
 refine l_q rfl rfl (q_moveB rfl) ?_
 refine g_splitL (t := 40) rfl (fun hg11 => ?_) (fun hg11 => ?_)
 have hg11b := hg11
 try simp only [zbb] at hg11
 refine l_on rfl rfl hg11b ?_
 refine l_q rfl rfl (q_moveI rfl) ?_
 refine l_on rfl rfl hg11b ?_
 refine l_q rfl rfl (q_gtr rfl rfl) ?_
 refine l_q rfl rfl (q_pickT rfl hg11b rfl) ?_
 refine l_q rfl rfl (q_moveB rfl) ?_
 refine g_splitL (t := 44) rfl (fun hg12 => ?_) (fun hg12 => ?_)
 have hg12b := hg12
 try simp only [zbb] at hg12
 refine l_on rfl rfl hg12b ?_
 refine l_q rfl rfl (q_moveI rfl) ?_
 refine l_on rfl rfl hg12b ?_
 refine l_q rfl rfl (q_lss rfl rfl) ?_
 refine l_q rfl rfl (q_pickT rfl hg12b rfl) ?_
 refine l_nil ?_
 refine hK10 _ _ ?_
 refine c_cond rfl (fun hc13 => ?_) (fun hc13 => ?_)
 have hc13b := hc13
 try simp only [zbb] at hc13
 refine r_any (by kernel_rfl) hS4 (fun w14 hS14 => ?_)
 clear hS4
 refine o_pure (i := 0) (fun _ _ => trivial) rfl rfl (by kernel_rfl) (goes0 rfl) (QOk.inBlock QOk.body) (fun w => q_moveP rfl) ?_
 refine o_pure (i := 1) (fun _ _ => trivial) rfl rfl (by kernel_rfl) (goes0 rfl) (QOk.inBlock QOk.body) (fun w => q_nilCheck rfl) ?_
 refine o_pure (i := 2) (fun _ _ => trivial) rfl rfl (by kernel_rfl) (goes0 rfl) (QOk.inBlock QOk.body) (fun w => q_fieldAddr (ft := 66) (o := 4) rfl (by kernel_rfl)) ?_
 refine o_held (i := 3) [11] (fun _ _ => trivial) rfl rfl (by kernel_rfl) (goes0 rfl) (QOk.inBlock QOk.body) (q_load1 rfl (by kernel_rfl) (hS14.cell (i := 2) rfl rfl)) ?_
 refine o_pure (i := 4) (fun j w => ⟨(fun _ _ => trivial) j w, fun _ h => h⟩) rfl rfl (by kernel_rfl) (goes0 rfl) (QOk.inBlock QOk.body) (fun w => q_moveS rfl) ?_
 refine o_pure (i := 5) (fun j w => ⟨(fun _ _ => trivial) j w, fun _ h => h⟩) rfl rfl (by kernel_rfl) (goes0 rfl) (QOk.inBlock QOk.body) (fun w => q_ixG (e := 3) (m := 1) (j := 1) rfl rfl (by kernel_rfl) (by kernel_rfl) (by first | rfl | omega) (by omega) hG (by rw [iv_len]; first | omega | (simp only [zll] <;> omega))) ?_
 refine o_held (i := 6) [11] (fun j w => ⟨(fun _ _ => trivial) j w, fun _ h => h⟩) rfl rfl (by kernel_rfl) (goes0 rfl) (QOk.inBlock QOk.body) (q_load1 rfl (by kernel_rfl) (SlG.cell (hG.mono (hg2.le hS14)) (Gle.refl _) (at1 (iv_at (rfl : ([a, n, c])[1]? = some n))))) ?_
 refine o_pure (i := 7) (fun j w => ⟨(fun j w => ⟨(fun _ _ => trivial) j w, fun _ h => h⟩) j w, fun _ h => h⟩) rfl rfl (by kernel_rfl) (goes0 rfl) (QOk.inBlock QOk.body) (fun w => q_moveI rfl) ?_
 refine o_pure (i := 8) (fun j w => ⟨(fun j w => ⟨(fun _ _ => trivial) j w, fun _ h => h⟩) j w, fun _ h => h⟩) rfl rfl (by kernel_rfl) (goes0 rfl) (QOk.inBlock QOk.body) (fun w => q_moveI rfl) ?_
 refine o_pure (i := 9) (fun j w => ⟨(fun j w => ⟨(fun _ _ => trivial) j w, fun _ h => h⟩) j w, fun _ h => h⟩) rfl rfl (by kernel_rfl) (goes0 rfl) (QOk.inBlock QOk.body) (fun w => q_build (ps := [(0, 1), (1, 1), (2, 1), (3, 1), (4, 1), (5, 1), (6, 1)]) (zv := .agg #[.int .i64 0, .int .i64 0, .int .i64 0, .bool false, .bool false, .int .i64 0, .int .i64 0]) (by kernel_rfl) (by kernel_rfl) rfl (by repeat' (first | exact trivial | refine ⟨fun _ => by first | rfl | assumption | exact one_if (by assumption), ?_⟩ | refine ⟨fun ⟨_, h⟩ => by simp at h, ?_⟩)) rfl) ?_
 refine o_eff (i := 10) (by kernel_rfl) rfl (goes0 rfl) (fun K hK => ?_)
 refine e_boxA hS14 rfl (fun b15 w15 (hS15 : St _ _ [.blk b15 (.cells #[.int .i64 c, .int .i64 (0 : Int), .int .i64 (0 : Int), .bool false, .bool true, .int .i64 c, .int .i64 (0 : Int)] 80), _, _, _, _, _, .fz g] _) => ?_)
 clear hS14
 refine hK _ _ ⟨⟨trivial, fun _ _ => by first | exact q_load1 rfl (by kernel_rfl) (hS15.cell (i := 3) rfl rfl)⟩, fun _ _ => by first | exact q_load1 rfl (by kernel_rfl) (SlG.cell (hG.mono (hg2.le hS15)) (Gle.refl _) (at1 (iv_at (rfl : ([a, n, c])[1]? = some n))))⟩ ?_; clear hK K
 refine o_eff (i := 11) (by kernel_rfl) rfl (goes0 rfl) (fun K hK => ?_)
 have hS16 : St _ _ [.blk b15 (.cells #[.int .i64 ((c.toNat : Nat) : Int), .int .i64 (0 : Int), .int .i64 (0 : Int), .bool false, .bool true, .int .i64 c, .int .i64 (0 : Int)] 80), _, _, _, _, _, .fz g] _ := hS15.cast (by rw [show ((c.toNat : Nat) : Int) = c from by omega]); clear hS15
 have hS17 : St _ _ [.blk b15 (.cells #[.int .i64 ((c.toNat : Nat) : Int), .int .i64 (0 : Int), .int .i64 (0 : Int), .bool false, .bool true, .int .i64 ((c.toNat : Nat) : Int), .int .i64 (0 : Int)] 80), _, _, _, _, _, .fz g] _ := hS16.cast (by rw [show ((c.toNat : Nat) : Int) = c from by omega]); clear hS16
 refine e_mapUp (zv := .pointer none) hS17 rfl rfl rfl (by kernel_rfl) (by first | rfl | trivial) (i := 4) rfl (tc_set hT b15 (Tx.mk c.toNat 0 0 false true c.toNat 0)) (fun w18 (hS18 : St _ _ [_, _, _, _, .mp (.int .i64) mb (List.map tc (A ++ (n, b15, (Tx.mk c.toNat 0 0 false true c.toNat 0)) :: B)), _, .fz g] _) => ?_)
 clear hS17
 refine hK _ _ ⟨⟨trivial, fun h => absurd h (by decide)⟩, fun h => absurd h (by decide)⟩ ?_; clear hK K
 refine o_done (by kernel_rfl) ?_
 refine c_end0 (fn := Try.f28) rfl ?_
 have hS19 := hS18.fr2; clear hS18
 have hS20 := hS19.fr1; clear hS19
 have hS21 : St _ _ [.pk (List.map tb (A ++ (n, b15, (Tx.mk c.toNat 0 0 false true c.toNat 0)) :: B)), _, _, _, _, .fz g] _ := tb_put (q := (n, b15, (Tx.mk c.toNat 0 0 false true c.toNat 0))) hS20; clear hS20
 have hS22 := hS21.fr5; clear hS21
 have hS23 := hS22.fr5; clear hS22
 have hS24 := hS23.fr2; clear hS23
 have hS25 := hS24.fr5; clear hS24
 have hS26 := hS25.fr5; clear hS25
 have hS27 : St _ _ [_, _, _, _, .fz g] _ := hS26.only 5; clear hS26
 have hS28 : St _ _ [co k kw nd inc cnt mb oa O oc (A ++ (n, b15, (Tx.mk c.toNat 0 0 false true c.toNat 0)) :: B), .fz g] _ := co_close hS27; clear hS27
 exact ⟨_, _, rfl, ⟨_, (A ++ (n, b15, (Tx.mk c.toNat 0 0 false true c.toNat 0)) :: B), rfl, hT.set ⟨by show c.toNat < 65536; omega, by show 0 < 65536; omega, by show 0 < 65536; omega, by show c.toNat < 65536; omega, by show 0 < 5; omega⟩, by rw [rp_1 ⟨by omega, by omega, by omega⟩, setT_hit hT (b' := b15)]⟩, hS28⟩
 have hc13b := hc13
 try simp only [zbb] at hc13
 refine wp_skip ?_
 refine c_end0 (fn := Try.f28) rfl ?_
 have hS29 : St _ _ [.pk (List.map tb (A ++ (n, b, t) :: B)), _, _, _, .fz g] _ := tb_put (q := (n, b, t)) hS4; clear hS4
 have hS30 := hS29.fr4; clear hS29
 have hS31 := hS30.fr4; clear hS30
 have hS32 := hS31.fr2; clear hS31
 have hS33 := hS32.fr4; clear hS32
 have hS34 := hS33.fr4; clear hS33
 have hS35 : St _ _ [co k kw nd inc cnt mb oa O oc (A ++ (n, b, t) :: B), .fz g] _ := co_close hS34; clear hS34
 exact ⟨_, _, rfl, ⟨_, (A ++ (n, b, t) :: B), rfl, hT, by rw [rp_3 (by omega)]⟩, hS35⟩
 have hg12b := hg12
 try simp only [zbb] at hg12
 refine l_off rfl rfl rfl hg12b ?_
 refine l_off rfl rfl rfl hg12b ?_
 refine l_q rfl rfl (q_pickF rfl hg12b rfl) ?_
 refine l_nil ?_
 refine hK10 _ _ ?_
 refine c_condF rfl rfl ?_
 refine wp_skip ?_
 refine c_end0 (fn := Try.f28) rfl ?_
 have hS37 : St _ _ [_, _, _, _, .fz g] _ := tb_put (q := (n, b, t)) hS4; clear hS4
 have hS38 := hS37.fr4; clear hS37
 have hS39 := hS38.fr4; clear hS38
 have hS40 := hS39.fr2; clear hS39
 have hS41 := hS40.fr4; clear hS40
 have hS42 := hS41.fr4; clear hS41
 have hS43 : St _ _ [_, .fz g] _ := co_close hS42; clear hS42
 exact ⟨_, _, rfl, ⟨_, (A ++ (n, b, t) :: B), rfl, hT, by rw [rp_3 (by omega)]⟩, hS43⟩
 have hg11b := hg11
 try simp only [zbb] at hg11
 refine l_off rfl rfl rfl hg11b ?_
 refine l_off rfl rfl rfl hg11b ?_
 refine l_q rfl rfl (q_pickF rfl hg11b rfl) ?_
 refine l_q rfl rfl (q_moveB rfl) ?_
 refine l_off rfl rfl rfl rfl ?_
 refine l_off rfl rfl rfl rfl ?_
 refine l_q rfl rfl (q_pickF rfl rfl rfl) ?_
 refine l_nil ?_
 refine hK10 _ _ ?_
 refine c_condF rfl rfl ?_
 refine wp_skip ?_
 refine c_end0 (fn := Try.f28) rfl ?_
 have hS45 : St _ _ [_, _, _, _, .fz g] _ := tb_put (q := (n, b, t)) hS4; clear hS4
 have hS46 := hS45.fr4; clear hS45
 have hS47 := hS46.fr4; clear hS46
 have hS48 := hS47.fr2; clear hS47
 have hS49 := hS48.fr4; clear hS48
 have hS50 := hS49.fr4; clear hS49
 have hS51 : St _ _ [_, .fz g] _ := co_close hS50; clear hS50
 exact ⟨_, _, rfl, ⟨_, (A ++ (n, b, t) :: B), rfl, hT, by rw [rp_3 (by omega)]⟩, hS51⟩
set_option maxHeartbeats 1000000 in
set_option maxRecDepth 100000 in
theorem replay_3m (k kw : Nat) (nd : Int) (inc cnt mb : Nat) (oa : Option Addr) (O : List Lo) (oc : Nat) (a n c : Int) (A B : List (Int × Nat × Tx)) (hA : ∀ q ∈ A, q.1 < n) (hB : ∀ q ∈ B, n < q.1) (hT : TOk (A ++ B)) (g : Gh) (hO : LOk g O) (hol0 : O.length ≤ 100000) (hinc : inc ≤ 1000000) (hn0 : 0 ≤ n ∧ n ≤ 2199023255552) (an : Option Addr) (cn : Nat) (w : World) (g2 : Gh) (hg2 : Rog [co k kw nd inc cnt mb oa O oc (A ++ B), .fz g] w g2) (hG : SlG g2 an (iv [a, n, c])) (hS : St w (owns [co k kw nd inc cnt mb oa O oc (A ++ B), .fz g]) [co k kw nd inc cnt mb oa O oc (A ++ B), .fz g] w) : Calls Try.prog 28 #[pV k, .slice an 3 cn] w (Post w [co k kw nd inc cnt mb oa O oc (A ++ B), .fz g] fun v G => CoR k kw nd cnt mb oa O oc g (replayF [a, n, c] (inc, absT (A ++ B))) G) := by
 refine c_enter Try.func28 rfl rfl rfl ?_
 refine wp_seq_k (fun K1 hK1 => ?_)
 have hS2 := co_open hS; clear hS
 refine wp_region_lit ?_
 refine l_q rfl rfl (q_moveS rfl) ?_
 refine l_q rfl rfl (q_lenSl (e := 3) rfl (by kernel_rfl)) ?_
 refine l_nil ?_
 refine hK1 _ _ ?_
 refine wp_block ?_
 refine wp_seq_k (fun K3 hK3 => ?_)
 refine wp_region_lit ?_
 refine l_q rfl rfl (q_eql rfl rfl) ?_
 refine l_q rfl rfl (q_assignB rfl) ?_
 refine l_nil ?_
 refine hK3 _ _ ?_
 refine c_condF rfl (by decide) ?_
 refine wp_seq_k (fun K5 hK5 => ?_)
 refine wp_region_lit ?_
 refine l_q rfl rfl (q_eql rfl rfl) ?_
 refine l_q rfl rfl (q_assignB rfl) ?_
 refine l_nil ?_
 refine hK5 _ _ ?_
 refine c_condT rfl (by decide) ?_
 refine wp_seq_k (fun K7 hK7 => ?_)
 refine wp_region_lit ?_
 refine l_q rfl rfl (q_moveS rfl) ?_
 refine l_q rfl rfl (q_ixG (e := 3) (m := 1) (j := 2) rfl rfl (by kernel_rfl) (by kernel_rfl) (by first | rfl | omega) (by omega) hG (by rw [iv_len]; first | omega | (simp only [zll] <;> omega))) ?_
 refine l_q rfl rfl (q_load1 rfl (by kernel_rfl) (SlG.cell (hG.mono (hg2.le hS2)) (Gle.refl _) (at1 (iv_at (rfl : ([a, n, c])[2]? = some c))))) ?_
 refine l_q rfl rfl (q_assignI rfl) ?_
 refine l_nil ?_
 refine hK7 _ _ ?_
 refine wp_seq_k (fun K8 hK8 => ?_)
 refine wp_region_lit ?_
 refine l_q rfl rfl (q_moveS rfl) ?_
 refine l_q rfl rfl (q_ixG (e := 3) (m := 1) (j := 0) rfl rfl (by kernel_rfl) (by kernel_rfl) (by first | rfl | omega) (by omega) hG (by rw [iv_len]; first | omega | (simp only [zll] <;> omega))) ?_
 refine l_q rfl rfl (q_load1 rfl (by kernel_rfl) (SlG.cell (hG.mono (hg2.le hS2)) (Gle.refl _) (at1 (iv_at (rfl : ([a, n, c])[0]? = some a))))) ?_
 refine l_q rfl rfl (q_eql rfl rfl) ?_
 refine l_q rfl rfl (q_moveB rfl) ?_
 refine g_splitL (t := 40) rfl (fun hg9 => ?_) (fun hg9 => ?_)
 have hg9b := hg9
 try simp only [zbb] at hg9
 refine l_on rfl rfl hg9b ?_
 refine l_q rfl rfl (q_moveI rfl) ?_
 refine l_on rfl rfl hg9b ?_
 refine l_q rfl rfl (q_gtr rfl rfl) ?_
 refine l_q rfl rfl (q_pickT rfl hg9b rfl) ?_
 refine l_q rfl rfl (q_moveB rfl) ?_
 refine g_splitL (t := 44) rfl (fun hg10 => ?_) (fun hg10 => ?_)
 have hg10b := hg10
 try simp only [zbb] at hg10
 refine l_on rfl rfl hg10b ?_
 refine l_q rfl rfl (q_moveI rfl) ?_
 refine l_on rfl rfl hg10b ?_
 refine l_q rfl rfl (q_lss rfl rfl) ?_
 refine l_q rfl rfl (q_pickT rfl hg10b rfl) ?_
 refine l_nil ?_
 refine hK8 _ _ ?_
 refine c_cond rfl (fun hc11 => ?_) (fun hc11 => ?_)
 have hc11b := hc11
 try simp only [zbb] at hc11
 refine r_any (by kernel_rfl) hS2 (fun w12 hS12 => ?_)
 clear hS2
 refine o_pure (i := 0) (fun _ _ => trivial) rfl rfl (by kernel_rfl) (goes0 rfl) (QOk.inBlock QOk.body) (fun w => q_moveP rfl) ?_
 refine o_pure (i := 1) (fun _ _ => trivial) rfl rfl (by kernel_rfl) (goes0 rfl) (QOk.inBlock QOk.body) (fun w => q_nilCheck rfl) ?_
 refine o_pure (i := 2) (fun _ _ => trivial) rfl rfl (by kernel_rfl) (goes0 rfl) (QOk.inBlock QOk.body) (fun w => q_fieldAddr (ft := 66) (o := 4) rfl (by kernel_rfl)) ?_
 refine o_held (i := 3) [11] (fun _ _ => trivial) rfl rfl (by kernel_rfl) (goes0 rfl) (QOk.inBlock QOk.body) (q_load1 rfl (by kernel_rfl) (hS12.cell (i := 0) rfl rfl)) ?_
 refine o_pure (i := 4) (fun j w => ⟨(fun _ _ => trivial) j w, fun _ h => h⟩) rfl rfl (by kernel_rfl) (goes0 rfl) (QOk.inBlock QOk.body) (fun w => q_moveS rfl) ?_
 refine o_pure (i := 5) (fun j w => ⟨(fun _ _ => trivial) j w, fun _ h => h⟩) rfl rfl (by kernel_rfl) (goes0 rfl) (QOk.inBlock QOk.body) (fun w => q_ixG (e := 3) (m := 1) (j := 1) rfl rfl (by kernel_rfl) (by kernel_rfl) (by first | rfl | omega) (by omega) hG (by rw [iv_len]; first | omega | (simp only [zll] <;> omega))) ?_
 refine o_held (i := 6) [11] (fun j w => ⟨(fun _ _ => trivial) j w, fun _ h => h⟩) rfl rfl (by kernel_rfl) (goes0 rfl) (QOk.inBlock QOk.body) (q_load1 rfl (by kernel_rfl) (SlG.cell (hG.mono (hg2.le hS12)) (Gle.refl _) (at1 (iv_at (rfl : ([a, n, c])[1]? = some n))))) ?_
 refine o_pure (i := 7) (fun j w => ⟨(fun j w => ⟨(fun _ _ => trivial) j w, fun _ h => h⟩) j w, fun _ h => h⟩) rfl rfl (by kernel_rfl) (goes0 rfl) (QOk.inBlock QOk.body) (fun w => q_moveI rfl) ?_
 refine o_pure (i := 8) (fun j w => ⟨(fun j w => ⟨(fun _ _ => trivial) j w, fun _ h => h⟩) j w, fun _ h => h⟩) rfl rfl (by kernel_rfl) (goes0 rfl) (QOk.inBlock QOk.body) (fun w => q_moveI rfl) ?_
 refine o_pure (i := 9) (fun j w => ⟨(fun j w => ⟨(fun _ _ => trivial) j w, fun _ h => h⟩) j w, fun _ h => h⟩) rfl rfl (by kernel_rfl) (goes0 rfl) (QOk.inBlock QOk.body) (fun w => q_build (ps := [(0, 1), (1, 1), (2, 1), (3, 1), (4, 1), (5, 1), (6, 1)]) (zv := .agg #[.int .i64 0, .int .i64 0, .int .i64 0, .bool false, .bool false, .int .i64 0, .int .i64 0]) (by kernel_rfl) (by kernel_rfl) rfl (by repeat' (first | exact trivial | refine ⟨fun _ => by first | rfl | assumption | exact one_if (by assumption), ?_⟩ | refine ⟨fun ⟨_, h⟩ => by simp at h, ?_⟩)) rfl) ?_
 refine o_eff (i := 10) (by kernel_rfl) rfl (goes0 rfl) (fun K hK => ?_)
 refine e_boxA hS12 rfl (fun b13 w13 (hS13 : St _ _ [.blk b13 (.cells #[.int .i64 c, .int .i64 (0 : Int), .int .i64 (0 : Int), .bool false, .bool true, .int .i64 c, .int .i64 (0 : Int)] 80), .blk k (.cells #[.pointer (some ⟨kw, 0, none⟩), .int .i64 nd, .int .i64 (inc : Int), .int .i64 (cnt : Int), .map (some mb), .slice oa O.length oc] 68), .mp (.int .i64) mb (List.map tc (A ++ B)), .pk (List.map tb (A ++ B)), .ow 42 5 oa O.length oc (List.flatMap lo O), .fz g] _) => ?_)
 clear hS12
 refine hK _ _ ⟨⟨trivial, fun _ _ => by first | exact q_load1 rfl (by kernel_rfl) (hS13.cell (i := 1) rfl rfl)⟩, fun _ _ => by first | exact q_load1 rfl (by kernel_rfl) (SlG.cell (hG.mono (hg2.le hS13)) (Gle.refl _) (at1 (iv_at (rfl : ([a, n, c])[1]? = some n))))⟩ ?_; clear hK K
 refine o_eff (i := 11) (by kernel_rfl) rfl (goes0 rfl) (fun K hK => ?_)
 have hS14 : St _ _ [.blk b13 (.cells #[.int .i64 ((c.toNat : Nat) : Int), .int .i64 (0 : Int), .int .i64 (0 : Int), .bool false, .bool true, .int .i64 c, .int .i64 (0 : Int)] 80), _, _, _, _, .fz g] _ := hS13.cast (by rw [show ((c.toNat : Nat) : Int) = c from by omega]); clear hS13
 have hS15 : St _ _ [.blk b13 (.cells #[.int .i64 ((c.toNat : Nat) : Int), .int .i64 (0 : Int), .int .i64 (0 : Int), .bool false, .bool true, .int .i64 ((c.toNat : Nat) : Int), .int .i64 (0 : Int)] 80), _, _, _, _, .fz g] _ := hS14.cast (by rw [show ((c.toNat : Nat) : Int) = c from by omega]); clear hS14
 refine e_mapUp (zv := .pointer none) hS15 rfl rfl rfl (by kernel_rfl) (by first | rfl | trivial) (i := 2) rfl (tc_ins hT hA hB b13 (Tx.mk c.toNat 0 0 false true c.toNat 0)) (fun w16 (hS16 : St _ _ [_, _, .mp (.int .i64) mb (List.map tc (A ++ (n, b13, (Tx.mk c.toNat 0 0 false true c.toNat 0)) :: B)), _, _, .fz g] _) => ?_)
 clear hS15
 refine hK _ _ ⟨⟨trivial, fun h => absurd h (by decide)⟩, fun h => absurd h (by decide)⟩ ?_; clear hK K
 refine o_done (by kernel_rfl) ?_
 refine c_end0 (fn := Try.f28) rfl ?_
 have hS17 := hS16.fr3; clear hS16
 have hS18 := hS17.fr1; clear hS17
 have hS19 : St _ _ [.pk (List.map tb (A ++ (n, b13, (Tx.mk c.toNat 0 0 false true c.toNat 0)) :: B)), _, _, _, .fz g] _ := tb_put (q := (n, b13, (Tx.mk c.toNat 0 0 false true c.toNat 0))) hS18; clear hS18
 have hS20 := hS19.fr4; clear hS19
 have hS21 := hS20.fr4; clear hS20
 have hS22 := hS21.fr2; clear hS21
 have hS23 := hS22.fr4; clear hS22
 have hS24 := hS23.fr4; clear hS23
 have hS25 : St _ _ [co k kw nd inc cnt mb oa O oc (A ++ (n, b13, (Tx.mk c.toNat 0 0 false true c.toNat 0)) :: B), .fz g] _ := co_close hS24; clear hS24
 exact ⟨_, _, rfl, ⟨_, (A ++ (n, b13, (Tx.mk c.toNat 0 0 false true c.toNat 0)) :: B), rfl, hT.ins hA hB ⟨⟨by show c.toNat < 65536; omega, by show 0 < 65536; omega, by show 0 < 65536; omega, by show c.toNat < 65536; omega, by show 0 < 5; omega⟩, hn0⟩, by rw [rp_1 ⟨by omega, by omega, by omega⟩, setT_miss hA hB (b := b13)]⟩, hS25⟩
 have hc11b := hc11
 try simp only [zbb] at hc11
 refine wp_skip ?_
 refine c_end0 (fn := Try.f28) rfl ?_
 have hS26 : St _ _ [co k kw nd inc cnt mb oa O oc (A ++ B), .fz g] _ := co_close hS2; clear hS2
 exact ⟨_, _, rfl, ⟨_, (A ++ B), rfl, hT, by rw [rp_3 (by omega)]⟩, hS26⟩
 have hg10b := hg10
 try simp only [zbb] at hg10
 refine l_off rfl rfl rfl hg10b ?_
 refine l_off rfl rfl rfl hg10b ?_
 refine l_q rfl rfl (q_pickF rfl hg10b rfl) ?_
 refine l_nil ?_
 refine hK8 _ _ ?_
 refine c_condF rfl rfl ?_
 refine wp_skip ?_
 refine c_end0 (fn := Try.f28) rfl ?_
 have hS28 : St _ _ [_, .fz g] _ := co_close hS2; clear hS2
 exact ⟨_, _, rfl, ⟨_, (A ++ B), rfl, hT, by rw [rp_3 (by omega)]⟩, hS28⟩
 have hg9b := hg9
 try simp only [zbb] at hg9
 refine l_off rfl rfl rfl hg9b ?_
 refine l_off rfl rfl rfl hg9b ?_
 refine l_q rfl rfl (q_pickF rfl hg9b rfl) ?_
 refine l_q rfl rfl (q_moveB rfl) ?_
 refine l_off rfl rfl rfl rfl ?_
 refine l_off rfl rfl rfl rfl ?_
 refine l_q rfl rfl (q_pickF rfl rfl rfl) ?_
 refine l_nil ?_
 refine hK8 _ _ ?_
 refine c_condF rfl rfl ?_
 refine wp_skip ?_
 refine c_end0 (fn := Try.f28) rfl ?_
 have hS30 : St _ _ [_, .fz g] _ := co_close hS2; clear hS2
 exact ⟨_, _, rfl, ⟨_, (A ++ B), rfl, hT, by rw [rp_3 (by omega)]⟩, hS30⟩
theorem replay_ok (k kw : Nat) (nd : Int) (inc cnt mb : Nat) (oa : Option Addr) (O : List Lo) (oc : Nat) (T : List (Int × Nat × Tx)) (hT : TOk T) (g : Gh) (hO : LOk g O) (hol0 : O.length ≤ 100000) (hinc : inc ≤ 1000000) (ns : List Int) (hns : ∀ x ∈ ns, 0 ≤ x ∧ x ≤ 1099511627776) (nl : Nat) (hnl : ns.length = nl) (an : Option Addr) (cn : Nat) (w : World) (g2 : Gh) (hg2 : Rog [co k kw nd inc cnt mb oa O oc T, .fz g] w g2) (hG : SlG g2 an (iv ns)) (hS : St w (owns [co k kw nd inc cnt mb oa O oc T, .fz g]) [co k kw nd inc cnt mb oa O oc T, .fz g] w) :
    Calls Try.prog 28 #[pV k, .slice an nl cn] w (Post w [co k kw nd inc cnt mb oa O oc T, .fz g] fun v G => CoR k kw nd cnt mb oa O oc g (replayF ns (inc, absT T)) G) := by
  subst hnl
  by_cases h2 : ns.length = 2
  · obtain ⟨a, n, rfl⟩ := two_of h2
    have hn := hns n (by simp)
    rcases hT.split n with ⟨A, b, t, B, rfl⟩ | ⟨A, B, rfl, hA, hB⟩
    · exact replay_2h k kw nd inc cnt mb oa O oc a n A b t B hT g hO hol0 hinc (by omega) an cn w g2 hg2 hG hS
    · exact replay_2m k kw nd inc cnt mb oa O oc a n A B hA hB hT g hO hol0 hinc (by omega) an cn w g2 hg2 hG hS
  · by_cases h3 : ns.length = 3
    · obtain ⟨a, n, c, rfl⟩ := three_of h3
      have hn := hns n (by simp)
      rcases hT.split n with ⟨A, b, t, B, rfl⟩ | ⟨A, B, rfl, hA, hB⟩
      · exact replay_3h k kw nd inc cnt mb oa O oc a n c A b t B hT g hO hol0 hinc (by omega) an cn w g2 hg2 hG hS
      · exact replay_3m k kw nd inc cnt mb oa O oc a n c A B hA hB hT g hO hol0 hinc (by omega) an cn w g2 hg2 hG hS
    · exact replay_0 k kw nd inc cnt mb oa O oc T hT g hO hol0 ns h2 h3 ns.length rfl an cn w g2 hg2 hG hS

end Go.Proofs.Yteojpdijmnpmgaa
namespace Go.Proofs.Yteojpdijmnpmgaa
open Go.RowKit
theorem rdB_at {R : List (Nat × List Nat)} (h : Inc R) {i : Nat} {r : Nat × List Nat} (hr : R[i]? = some r) : rdB R ((r.1 : Nat) : Int) = r.2 := by
  unfold rdB; rw [h.find hr]; rfl
theorem replayR_step {R : List (Nat × List Nat)} {i : Nat} {r : Nat × List Nat} (hr : R[i]? = some r) (st : Nat × List (Int × Tx)) : replayR (R.take (i + 1)) st = replayF (readL r.2) (replayR (R.take i) st) := by
  rw [List.take_add_one, hr]; exact replayR_app _ _ _
theorem nums_at' {rs : List Rc} {i : Nat} {x : Int} (h : (nums rs)[i]? = some x) : ∃ r, rs[i]? = some r ∧ ((r.n : Nat) : Int) = x := by
  unfold nums at h
  rw [List.getElem?_map] at h
  cases hr : rs[i]? with
  | none => rw [hr] at h; cases h
  | some r => rw [hr] at h; exact ⟨r, rfl, by simpa using h⟩
attribute [local irreducible] Oper.wp Sem.run Code.wp wpList wpAnyO callFunc execOp Calls
attribute [local irreducible] toU short rencs renc rowE encRow rightB zig unzig decRw rightL risB lastN bitsOf nodesTo readL recB ofL sends getT delT setT waL waE waN waR apL apE decF vot2 votesF doneF hearF replayF replayR rdB rdE scan nums
set_option maxHeartbeats 2000000 in
set_option maxRecDepth 100000 in
theorem open_ok (nd : Int) (hnd : 0 ≤ nd ∧ nd < 16) (kd : Nat) (da : Option Addr) (dc : Nat) (l : List Nat) (bb s : Nat) (hl : Bytes l) (hbb : bb + l.length ≤ 500000000) (hs : s ≤ l.length) (g : Gh) (hll : l.length ≤ 1040000) (hRn : (scan l bb).1.length ≤ 450000) (hinc : (replayR (scan l bb).1 (0, [])).1 ≤ 65536)  (w : World) (hS : St w (owns [dk kd da dc l bb s, .fz g]) [dk kd da dc l bb s, .fz g] w) : Calls Try.prog 9 #[pV kd, .int .i64 nd] w (Post w [dk kd da dc l bb s, .fz g] fun v G => ∃ k kw mb wa' wc' inc T rs' da' dc' g', v = .tuple #[pV k, .int .i64 0] ∧ G = [co k kw nd inc 0 mb none [] 0 T, wk kw kd wa' wc' rs', dk kd da' dc' (recL (l.take (scan l bb).2) [0, (inc : Int)]) bb (recL (l.take (scan l bb).2) [0, (inc : Int)]).length, .fz g'] ∧ Gle g g' ∧ TOk T ∧ (inc, absT T) = replayR (scan l bb).1 (0, []) ∧ RsOk g' rs' ∧ rs'.length ≤ (scan l bb).1.length + 1) := by
 refine c_enter Try.func9 rfl rfl rfl ?_
 refine wp_seq_k (fun K1 hK1 => ?_)
 refine wp_region_lit ?_
 refine l_q rfl rfl (q_assignP rfl) ?_
 refine l_q rfl rfl (q_assignI rfl) ?_
 refine l_nil ?_
 refine hK1 _ _ ?_
 refine wp_seq_k (fun K2 hK2 => ?_)
 refine wp_seq_k (fun K3 hK3 => ?_)
 refine wp_region_lit ?_
 refine l_q rfl rfl (q_moveI rfl) ?_
 refine l_q rfl rfl (q_lss rfl rfl) ?_
 refine l_q rfl rfl (q_moveB rfl) ?_
 refine l_on rfl rfl (decide_eq_false (by omega)) ?_
 refine l_q rfl rfl (q_moveI rfl) ?_
 refine l_on rfl rfl (decide_eq_false (by omega)) ?_
 refine l_q rfl rfl (q_geq rfl rfl) ?_
 refine l_q rfl rfl (q_pickF rfl (decide_eq_false (by omega)) rfl) ?_
 refine l_nil ?_
 refine hK3 _ _ ?_
 refine c_condF rfl (decide_eq_false (by omega)) ?_
 refine wp_skip ?_
 refine hK2 _ _ ?_
 refine wp_seq_k (fun K6 hK6 => ?_)
 refine wp_region_lit ?_
 refine l_q rfl rfl (q_moveP rfl) ?_
 refine l_e rfl (fun K hK => ?_)
 have hsl7 := scan_le l.length l bb (Nat.le_refl _)
 refine e_call (by kernel_rfl) (wOpen_ok _ _ _ _ _ _ _ hl (by first | omega | (simp only [zll] <;> omega)) (by first | omega | (simp only [zll] <;> omega)) (by first | omega | (simp only [zll] <;> omega)) _ (St.begin (Γ := [_, _]) hS)) rfl (after_M (Γ1 := [_, _]) hS (fun v7 G7 w7 hv7 hS7 => ?_))
 clear hS
 obtain ⟨k7, ad7, cp7, rs7, da7, dc7, g7, rfl, rfl, hle7, hrs7, hab7⟩ := hv7
 have hS8 : St _ _ [wk k7 kd ad7 cp7 rs7, dk kd da7 dc7 (l.take (scan l bb).2) bb ((scan l bb).2), .fz g7] _ := hS7; clear hS7
 refine hK _ _ ?_; clear hK K
 refine l_q rfl rfl (q_move rfl) ?_
 refine l_q rfl rfl (q_extract rfl rfl) ?_
 refine l_q rfl rfl (q_extract rfl rfl) ?_
 refine l_q rfl rfl (q_assignP rfl) ?_
 refine l_q rfl rfl (q_assignI rfl) ?_
 refine l_nil ?_
 refine hK6 _ _ ?_
 refine wp_seq_k (fun K9 hK9 => ?_)
 refine wp_seq_k (fun K10 hK10 => ?_)
 refine wp_region_lit ?_
 refine l_q rfl rfl (q_moveI rfl) ?_
 refine l_q rfl rfl (q_neq rfl rfl) ?_
 refine l_nil ?_
 refine hK10 _ _ ?_
 refine c_condF rfl (by decide) ?_
 refine wp_skip ?_
 refine hK9 _ _ ?_
 refine wp_seq_k (fun K12 hK12 => ?_)
 have hwl : (l.take (scan l bb).2).length = (scan l bb).2 := by rw [List.length_take]; have := scan_le l.length l bb (Nat.le_refl _); omega
 have hrl : rs7.length = (scan l bb).1.length := by rw [← hab7, List.length_map]
 have hRl := (scan_len l.length l bb (Nat.le_refl _)).1
 have hInc := scan_inc l.length l bb (Nat.le_refl _)
 refine wp_region_lit ?_
 refine l_q rfl rfl (q_moveP rfl) ?_
 refine l_q rfl rfl (q_moveI rfl) ?_
 refine l_e rfl (fun K hK => ?_)
 refine e_makeMap hS8 (.int .i64) (fun m13 w13 (hS13 : St _ _ [.mp (.int .i64) m13 [], _, _, .fz g7] _) => ?_)
 clear hS8
 refine hK _ _ ?_; clear hK K
 refine l_q rfl rfl (q_build (ps := [(0, 1), (1, 1), (2, 1), (3, 1), (4, 1), (5, 1)]) (zv := .agg #[.pointer none, .int .i64 0, .int .i64 0, .int .i64 0, .map none, .slice none 0 0]) (by kernel_rfl) (by kernel_rfl) rfl (by repeat' (first | exact trivial | refine ⟨fun _ => by first | rfl | assumption | exact one_if (by assumption), ?_⟩ | refine ⟨fun ⟨_, h⟩ => by simp at h, ?_⟩)) rfl) ?_
 refine l_e rfl (fun K hK => ?_)
 refine e_boxA hS13 rfl (fun b14 w14 (hS14 : St _ _ [.blk b14 (.cells #[.pointer (some ⟨k7, 0, none⟩), .int .i64 nd, .int .i64 (0 : Int), .int .i64 (0 : Int), .map (some m13), .slice none 0 0] 68), _, _, _, .fz g7] _) => ?_)
 clear hS13
 refine hK _ _ ?_; clear hK K
 refine l_q rfl rfl (q_assignP rfl) ?_
 refine l_nil ?_
 refine hK12 _ _ ?_
 refine wp_seq_k (fun K15 hK15 => ?_)
 refine wp_seq_k (fun K16 hK16 => ?_)
 refine wp_region_lit ?_
 refine l_q rfl rfl (q_moveP rfl) ?_
 refine l_e rfl (fun K hK => ?_)
 have hS18 := hS14.fr2; clear hS14
 refine e_call (by kernel_rfl) (wNumbers_ok _ _ _ _ _ (by first | omega | (simp only [zll] <;> omega)) _ (St.begin (Γ := [_]) hS18)) rfl (after_M (Γ1 := [_]) hS18 (fun v17 G17 w17 hv17 hS17 => ?_))
 clear hS18
 obtain ⟨ad17, cp17, rfl, rfl⟩ := hv17
 have hS19 : St _ _ [.ow 3 1 ad17 rs7.length cp17 (iv (nums rs7)), _, _, _, _, .fz g7] _ := hS17; clear hS17
 refine hK _ _ ?_; clear hK K
 refine l_q rfl rfl (q_lenSl (e := 3) rfl (by kernel_rfl)) ?_
 refine l_q rfl rfl (q_moveI rfl) ?_
 refine l_nil ?_
 refine hK16 _ _ ?_
 refine wp_block ?_
 have hS20 := hS19.ow_nil 42 5; clear hS19
 have hS21 : St _ _ [.pk (List.map tb []), .ow 42 5 none 0 0 (List.flatMap lo []), _, _, _, _, _, .fz g7] _ := St.pk (Γ1 := []) hS20; clear hS20
 have hS22 := hS21.fr1; clear hS21
 have hS23 := hS22.fr1; clear hS22
 have hS24 := hS23.fr5; clear hS23
 have hS25 := hS24.fr5; clear hS24
 have hS26 : St _ _ [co b14 k7 nd 0 0 m13 none [] 0 [], _, _, _, .fz g7] _ := co_close (k := b14) (kw := k7) (nd := nd) (inc := 0) (cnt := 0) (mb := m13) (oa := none) (O := []) (oc := 0) (T := []) hS25; clear hS25
 have hS27 := hS26.fr1; clear hS26
 have hS28 := hS27.fr4; clear hS27
 have hS29 := hS28.fr4; clear hS28
 have hS30 := hS29.fr4; clear hS29
 have hS31 := hS30.fr4; clear hS30
 refine c_loop (τ := Nat × Nat × (List (Int × Nat × Tx))) [(10, 12), (37, 51)] (fun x => (fun (i : Nat) (inc : Nat) (T : List (Int × Nat × Tx)) => [(37, .int .i64 (i : Int))]) x.1 x.2.1 x.2.2) (fun x w' => (fun (i : Nat) (inc : Nat) (T : List (Int × Nat × Tx)) => St w (owns [dk kd da dc l bb s, .fz g]) [co b14 k7 nd inc 0 m13 none [] 0 T, wk k7 kd ad7 cp7 rs7, dk kd da7 dc7 (l.take (scan l bb).2) bb ((scan l bb).2), .fz g7, .ow 3 1 ad17 rs7.length cp17 (iv (nums rs7))] w' ∧ i ≤ rs7.length ∧ TOk T ∧ (inc, absT T) = replayR ((scan l bb).1.take i) (0, []) ∧ inc ≤ i) x.1 x.2.1 x.2.2) (fun x => (fun (i : Nat) (inc : Nat) (T : List (Int × Nat × Tx)) => rs7.length - i) x.1 x.2.1 x.2.2) (⟨0, 0, []⟩) ?_ (by repeat' (first | exact trivial | refine ⟨by first | rfl | exact int_succ _ | assumption, ?_⟩)) (fun x32 j32 w32 hJ32 K32 hK32 => ?_)
 exact ⟨hS31, Nat.zero_le _, TOk.nil, (by show ((0 : Nat), ([] : List (Int × Tx))) = replayR [] (0, []); rw [replayR_nil]), Nat.le_refl _⟩
 obtain ⟨i, inc, T⟩ := x32
 obtain ⟨hS32, hi, hT, hst, hin⟩ := hJ32
 try dsimp only at hS32 hi hT hst hin ⊢
 refine wp_seq_k (fun K33 hK33 => ?_)
 refine wp_region_lit ?_
 refine l_q rfl rfl (q_lss rfl rfl) ?_
 refine l_nil ?_
 refine hK33 _ _ ?_
 refine wp_seq_k (fun K34 hK34 => ?_)
 refine c_cond rfl (fun hc35 => ?_) (fun hc35 => ?_)
 have hc35b := hc35
 try simp only [zbb] at hc35
 refine wp_skip ?_
 refine hK34 _ _ ?_
 refine wp_seq_k (fun K36 hK36 => ?_)
 refine wp_block ?_
 refine wp_seq_k (fun K37 hK37 => ?_)
 refine wp_region_lit ?_
 refine l_q rfl rfl (q_ixG (e := 3) (m := 1) (j := i) rfl rfl (by kernel_rfl) (by kernel_rfl) (by first | rfl | omega) (by omega) (hS32.owG (i := 4) rfl) (by first | (rw [iv_len, nums_len]; omega) | omega)) ?_
 obtain ⟨x38, hx38⟩ : ∃ x, ((nums rs7))[i]? = some x := ⟨_, List.getElem?_eq_getElem (by first | omega | (rw [nums_len]; omega) | (simp <;> omega))⟩
 refine l_q rfl rfl (q_load1 rfl (by kernel_rfl) (SlG.cell (hS32.owG (i := 4) rfl) (Gle.refl _) (at1 (iv_at hx38)))) ?_
 refine l_q rfl rfl (q_assignI rfl) ?_
 refine l_nil ?_
 refine hK37 _ _ ?_
 refine wp_seq_k (fun K39 hK39 => ?_)
 obtain ⟨r, hr, hrn⟩ := nums_at' hx38
 have hrR : (scan l bb).1[i]? = some r.abs := by rw [← hab7, List.getElem?_map, hr]; rfl
 have hrd : rdB (List.map Rc.abs rs7) x38 = r.b := by rw [hab7, ← hrn]; exact rdB_at hInc hrR
 have hrok := hrs7 r (List.mem_of_getElem? hr)
 have hrdl : (rdB (List.map Rc.abs rs7) x38).length ≤ 4096 := by rw [hrd]; exact hrok.2.2.1
 refine wp_region_lit ?_
 refine l_q rfl rfl (q_moveP rfl) ?_
 refine l_q rfl rfl (q_moveI rfl) ?_
 refine l_e rfl (fun K hK => ?_)
 have hS41 := hS32.fr3; clear hS32
 have hS42 := hS41.fr2; clear hS41
 refine e_call (by kernel_rfl) (wRead_ok _ _ _ _ _ _ (by first | omega | (simp only [zll] <;> omega)) hrs7 _ _ (St.begin (Γ := [_, _]) hS42)) rfl (after_M (Γ1 := [_, _]) hS42 (fun v40 G40 w40 hv40 hS40 => ?_))
 clear hS42
 obtain ⟨ad40, cp40, rfl, rfl⟩ := hv40
 have hS43 : St _ _ [.ow 5 1 ad40 ((rdB (List.map Rc.abs rs7) x38).length) cp40 (bv (rdB (List.map Rc.abs rs7) x38)), _, .fz g7, co b14 k7 nd inc 0 m13 none [] 0 T, _, _] _ := hS40; clear hS40
 refine hK _ _ ?_; clear hK K
 refine l_q rfl rfl (q_move rfl) ?_
 refine l_q rfl rfl (q_extract rfl rfl) ?_
 refine l_q rfl rfl (q_extract rfl rfl) ?_
 refine l_q rfl rfl (q_assignS rfl) ?_
 refine l_q rfl rfl (q_assignI rfl) ?_
 refine l_nil ?_
 refine hK39 _ _ ?_
 refine wp_region_lit ?_
 refine l_q rfl rfl (q_moveP rfl) ?_
 refine l_q rfl rfl (q_moveS rfl) ?_
 refine l_e rfl (fun K hK => ?_)
 have hrd44 := readL_len (rdB (List.map Rc.abs rs7) x38)
 have hcp44 := (hS43.owLen (i := 0) rfl).2.1
 refine e_call (by kernel_rfl) (read_ok (rdB (List.map Rc.abs rs7) x38) (rdB_bytes hrs7 _) ((rdB (List.map Rc.abs rs7) x38).length) (by first | omega | (simp only [zll] <;> omega)) (by first | omega | (simp only [zll] <;> omega)) _ _ (by first | omega | (simp only [zll] <;> omega)) _ (hS43.owG (i := 0) rfl)) rfl (after_N hS43 (fun v44 G44 w44 hv44 hS44 => ?_))
 clear hS43
 obtain ⟨oa44, oc44, rfl, rfl⟩ := hv44
 have hS45 : St _ _ [.ow 3 1 oa44 ((readL (rdB (List.map Rc.abs rs7) x38)).length) oc44 (iv (readL (rdB (List.map Rc.abs rs7) x38))), _, _, .fz g7, _, _, _] _ := hS44; clear hS44
 refine hK _ _ ?_; clear hK K
 refine l_e rfl (fun K hK => ?_)
 have hS47 := hS45.fr3; clear hS45
 have hS48 := hS47.fr4; clear hS47
 obtain ⟨g49, hg49, hG49⟩ := St.rogO (Γ1 := [_, _]) (i := 0) hS48 rfl
 refine e_call (by kernel_rfl) (replay_ok b14 k7 nd inc 0 m13 none [] 0 T hT g7 LOk.nil (by decide) (by omega) (readL (rdB (List.map Rc.abs rs7) x38)) (fun x hx => readL_in hx) _ rfl _ _ _ _ hg49 hG49 (St.begin (Γ := [_, _]) hS48)) rfl (after_M (Γ1 := [_, _]) hS48 (fun v46 G46 w46 hv46 hS46 => ?_))
 clear hS48
 obtain ⟨inc46, T46, rfl, hT46, hst46⟩ := hv46
 have hS50 : St _ _ [co b14 k7 nd inc46 0 m13 none [] 0 T46, .fz g7, _, _, _, _, _] _ := hS46; clear hS46
 refine hK _ _ ?_; clear hK K
 refine l_nil ?_
 refine hK36 _ _ ?_
 refine wp_region_lit ?_
 refine l_q rfl rfl (q_addx rfl rfl (by first | decide | omega) (by first | decide | omega)) ?_
 refine l_q rfl rfl (q_moveI rfl) ?_
 refine l_nil ?_
 have hS51 := hS50.fr6; clear hS50
 have hS52 := hS51.fr2; clear hS51
 have hS53 := hS52.fr6; clear hS52
 have hS54 := hS53.fr6; clear hS53
 have hS55 := hS54.fr4; clear hS54
 have hS56 : St _ _ [_, _, _, .fz g7, _] _ := hS55.only 5; clear hS55
 refine hK32 _ _ (came (⟨(i + 1), inc46, T46⟩) (by repeat' (first | exact Agree.refl _ _ | refine Agree.up ?_ rfl | refine Agree.hav2 ?_ rfl | refine Agree.ups2 ?_ rfl)) (by repeat' (first | exact trivial | refine ⟨by first | rfl | exact int_succ _ | assumption, ?_⟩)) ?_)
 have hst' : (inc46, absT T46) = replayR ((scan l bb).1.take (i + 1)) (0, []) := by rw [hst46, hst, replayR_step hrR, show r.abs.2 = r.b from rfl, ← hrd]
 have hin : inc46 ≤ i + 1 := by have := rep_inc (readL (rdB (List.map Rc.abs rs7) x38)) (inc, absT T); rw [← hst46] at this; dsimp only at this; omega
 exact ⟨⟨hS56, (by show i + 1 ≤ rs7.length; omega), hT46, hst', hin⟩, by (show rs7.length - (i + 1) < rs7.length - i); omega⟩
 have hc35b := hc35
 try simp only [zbb] at hc35
 refine wp_exit ?_
 refine hK15 _ _ ?_
 refine wp_seq_k (fun K57 hK57 => ?_)
 refine wp_seq_k (fun K58 hK58 => ?_)
 have hiN : i = (scan l bb).1.length := by omega
 rw [hiN, List.take_length] at hst
 rw [← hst] at hinc
 dsimp only at hinc
 have hS59 := co_open hS32; clear hS32
 have hfit := (rec_fits (l := l.take (scan l bb).2) (ns := [(0 : Int), (inc : Int)]) (Nat.le_of_ble_eq_true rfl) (by intro x hx; simp only [List.mem_cons, List.not_mem_nil, or_false] at hx; rcases hx with rfl | rfl <;> omega) (by omega))
 refine wp_region_lit ?_
 refine l_q rfl rfl (q_moveP rfl) ?_
 refine l_q rfl rfl (q_nilCheck rfl) ?_
 refine l_q rfl rfl (q_fieldAddr (ft := 3) (o := 2) rfl (by kernel_rfl)) ?_
 refine l_q rfl rfl (q_load1 rfl (by kernel_rfl) (hS59.cell (i := 0) rfl rfl)) ?_
 refine l_q rfl rfl (q_gtr rfl rfl) ?_
 refine l_nil ?_
 refine hK58 _ _ ?_
 refine c_cond rfl (fun hc60 => ?_) (fun hc60 => ?_)
 have hc60b := hc60
 try simp only [zbb] at hc60
 exfalso; omega
 have hc60b := hc60
 try simp only [zbb] at hc60
 refine wp_skip ?_
 refine hK57 _ _ ?_
 refine wp_seq_k (fun K61 hK61 => ?_)
 refine wp_seq_k (fun K62 hK62 => ?_)
 refine wp_region_lit ?_
 refine l_q rfl rfl (q_moveP rfl) ?_
 refine l_q rfl rfl (q_moveP rfl) ?_
 refine l_q rfl rfl (q_nilCheck rfl) ?_
 refine l_q rfl rfl (q_fieldAddr (ft := 3) (o := 2) rfl (by kernel_rfl)) ?_
 refine l_q rfl rfl (q_load1 rfl (by kernel_rfl) (hS59.cell (i := 0) rfl rfl)) ?_
 refine l_e rfl (fun K hK => ?_)
 refine e_buildSlice1 (e := 3) (zv := .int .i64 0) (xs := [_, .tmp 62]) hS59 (by kernel_rfl) (by kernel_rfl) (by kernel_rfl) rfl rfl rfl rfl (allone (by repeat' (first | exact trivial | refine ⟨by first | rfl | assumption, ?_⟩))) rfl (fun b63 w63 (hS63 : St _ _ [.blk b63 (.cells #[.int .i64 (0 : Int), .int .i64 (inc : Int)] 3), .blk b14 (.cells #[.pointer (some ⟨k7, 0, none⟩), .int .i64 nd, .int .i64 (inc : Int), .int .i64 ((0 : Nat) : Int), .map (some m13), .slice none ([].length) 0] 68), .mp (.int .i64) m13 (List.map tc T), .pk (List.map tb T), .ow 42 5 none ([].length) 0 (List.flatMap lo []), _, _, .fz g7, _] _) => ?_)
 clear hS59
 have hS63o : St _ _ [.ow 3 1 (some ⟨b63, 0, none⟩) 2 2 (iv [(0 : Int), (inc : Int)]), _, _, _, _, _, _, .fz g7, _] _ := hS63.blkOw' (i := 0) (m := 2) (size := 1) (xs := iv [(0 : Int), (inc : Int)]) rfl rfl rfl (by decide); clear hS63
 refine hK _ _ ?_; clear hK K
 refine l_e rfl (fun K hK => ?_)
 have hns64 : ∀ x ∈ [(0 : Int), (inc : Int)], -9223372036854775808 ≤ x ∧ x ≤ 9223372036854775807 := by intro x hx; simp only [List.mem_cons, List.not_mem_nil, or_false] at hx; rcases hx with rfl | rfl <;> omega
 have hrl64 := rowE_len (recs_ok hns64)
 refine e_call (by kernel_rfl) (record_ok [(0 : Int), (inc : Int)] hns64 2 (by first | omega | (simp only [zll] <;> omega)) (by first | omega | (simp only [zll] <;> omega)) _ _ _ (hS63o.owG (i := 0) rfl)) rfl (after_N hS63o (fun v64 G64 w64 hv64 hS64 => ?_))
 clear hS63o
 obtain ⟨oa64, oc64, rfl, rfl⟩ := hv64
 have hS65 : St _ _ [.ow 5 1 oa64 (((rowE ([(0 : Int), (inc : Int)].map vI)).1).length) oc64 (bv ((rowE ([(0 : Int), (inc : Int)].map vI)).1)), _, _, _, _, _, _, _, .fz g7, _] _ := hS64; clear hS64
 refine hK _ _ ?_; clear hK K
 refine l_e rfl (fun K hK => ?_)
 have hS67 := hS65.fr8; clear hS65
 have hS68 := hS67.fr8; clear hS67
 have hS69 := hS68.fr8; clear hS68
 obtain ⟨g70, hg70, hG70⟩ := St.rogO (Γ1 := [_, _, _]) (i := 0) hS69 rfl
 refine e_call (by kernel_rfl) (wAppend_ok _ _ _ _ _ _ _ _ _ _ _ (by first | omega | (simp only [zll] <;> omega)) (Bytes.take hl) (by first | omega | (simp only [zll] <;> omega)) (by first | omega | (simp only [zll] <;> omega)) hrs7 _ ((rowE ([(0 : Int), (inc : Int)].map vI)).1) (rowE_bytes (recs_ok hns64)) _ _ (by first | omega | (simp only [zll] <;> omega)) hG70 _ hg70 (St.begin (Γ := [_, _, _]) hS69)) rfl (after_M (Γ1 := [_, _, _]) hS69 (fun v66 G66 w66 hv66 hS66 => ?_))
 clear hS69
 obtain ⟨ad66, cp66, rs66, da66, dc66, g66, rfl, rfl, hle66, hrs66, hab66⟩ := hv66
 have hS71 : St _ _ [wk k7 kd ad66 cp66 rs66, dk kd da66 dc66 (waL (l.take (scan l bb).2) ((rowE ([(0 : Int), (inc : Int)].map vI)).1)) bb ((scan l bb).2), .fz g66, _, _, _, _, _, _, _] _ := hS66; clear hS66
 have hL66 := waL_len (l.take (scan l bb).2) ((rowE ([(0 : Int), (inc : Int)].map vI)).1)
 refine hK _ _ ?_; clear hK K
 refine l_q rfl rfl (q_move rfl) ?_
 refine l_q rfl rfl (q_extract rfl rfl) ?_
 refine l_q rfl rfl (q_extract rfl rfl) ?_
 refine l_q rfl rfl (q_assignI rfl) ?_
 refine l_q rfl rfl (q_assignI rfl) ?_
 refine l_nil ?_
 refine hK62 _ _ ?_
 refine wp_seq_k (fun K72 hK72 => ?_)
 refine wp_region_lit ?_
 refine l_q rfl rfl (q_moveI rfl) ?_
 refine l_q rfl rfl (q_neq rfl rfl) ?_
 refine l_nil ?_
 refine hK72 _ _ ?_
 refine c_cond rfl (fun hc73 => ?_) (fun hc73 => ?_)
 have hc73b := hc73
 try simp only [zbb] at hc73
 exfalso; have hfw : waE (l.take (scan l bb).2) (rowE ([(0 : Int), (inc : Int)].map vI)).1 = 0 := hfit.1; omega
 have hc73b := hc73
 try simp only [zbb] at hc73
 refine wp_skip ?_
 refine hK61 _ _ ?_
 refine wp_seq_k (fun K74 hK74 => ?_)
 refine wp_region_lit ?_
 refine l_q rfl rfl (q_moveP rfl) ?_
 refine l_q rfl rfl (q_moveP rfl) ?_
 refine l_e rfl (fun K hK => ?_)
 refine e_call (by kernel_rfl) (wSync_ok _ _ _ _ _ _ _ _ _ _ _ (St.begin (Γ := [_, _]) hS71)) rfl (after_M (Γ1 := [_, _]) hS71 (fun v75 G75 w75 hv75 hS75 => ?_))
 clear hS71
 obtain ⟨rfl, rfl⟩ := hv75
 have hS76 : St _ _ [_, dk kd da66 dc66 (waL (l.take (scan l bb).2) ((rowE ([(0 : Int), (inc : Int)].map vI)).1)) bb ((waL (l.take (scan l bb).2) ((rowE ([(0 : Int), (inc : Int)].map vI)).1)).length), .fz g66, _, _, _, _, _, _, _] _ := hS75; clear hS75
 refine hK _ _ ?_; clear hK K
 refine l_q rfl rfl (q_assignP rfl) ?_
 refine l_q rfl rfl (q_assignI rfl) ?_
 refine l_nil ?_
 refine hK74 _ _ ?_
 refine wp_ret ?_
 refine c_ret2 rfl rfl rfl ?_
 have hfit1 := hfit.1
 have hS77 := hS76.fr2; clear hS76
 have hS78 := hS77.fr2; clear hS77
 have hS79 := hS78.fr2; clear hS78
 have hS80 := hS79.fr8; clear hS79
 have hS81 := hS80.fr8; clear hS80
 have hS82 := hS81.fr8; clear hS81
 have hS83 := hS82.fr8; clear hS82
 have hS84 : St _ _ [_, _, _, _, _, _, .fz g66] _ := hS83.only 7; clear hS83
 have hS85 : St _ _ [_, _, _, .fz g66] _ := co_close (k := b14) (kw := k7) (nd := nd) (inc := inc) (cnt := 0) (mb := m13) (oa := none) (O := []) (oc := 0) (T := T) hS84; clear hS84
 exact ⟨_, _, rfl, ⟨_, _, _, _, _, inc, T, _, _, _, _, rfl, rfl, hle7.trans hle66, hT, hst, hrs66, by have := rs_len hab66; omega⟩, hS85⟩
set_option maxRecDepth 100000 in
theorem open_arg (nd : Int) (hnd : ¬(0 ≤ nd ∧ nd < 16)) (p : Value) (w : World) : Calls Try.prog 9 #[p, .int .i64 nd] w (PostR w fun v => v = .tuple #[.pointer none, .int .i64 1]) := by
 have hS := St.start w
 refine c_enter Try.func9 rfl rfl rfl ?_
 refine wp_seq_k (fun K1 hK1 => ?_)
 refine wp_region_lit ?_
 refine l_q rfl rfl (q_assignP rfl) ?_
 refine l_q rfl rfl (q_assignI rfl) ?_
 refine l_nil ?_
 refine hK1 _ _ ?_
 refine wp_seq_k (fun K2 hK2 => ?_)
 refine wp_seq_k (fun K3 hK3 => ?_)
 refine wp_region_lit ?_
 refine l_q rfl rfl (q_moveI rfl) ?_
 refine l_q rfl rfl (q_lss rfl rfl) ?_
 refine l_q rfl rfl (q_moveB rfl) ?_
 refine g_splitL (t := 17) rfl (fun hg4 => ?_) (fun hg4 => ?_)
 have hg4b := hg4
 try simp only [zbb] at hg4
 refine l_off rfl rfl rfl hg4b ?_
 refine l_off rfl rfl rfl hg4b ?_
 refine l_q rfl rfl (q_pickT rfl hg4b rfl) ?_
 refine l_nil ?_
 refine hK3 _ _ ?_
 refine c_condT rfl rfl ?_
 refine wp_seq_k (fun K6 hK6 => ?_)
 refine wp_region_lit ?_
 refine l_q rfl rfl (q_assignP rfl) ?_
 refine l_q rfl rfl (q_assignI rfl) ?_
 refine l_nil ?_
 refine hK6 _ _ ?_
 refine wp_ret ?_
 refine c_ret2 rfl rfl rfl ?_
 exact ⟨_, rfl, rfl, hS.drop⟩
 have hg4b := hg4
 try simp only [zbb] at hg4
 refine l_on rfl rfl hg4b ?_
 refine l_q rfl rfl (q_moveI rfl) ?_
 refine l_on rfl rfl hg4b ?_
 refine l_q rfl rfl (q_geq rfl rfl) ?_
 refine l_q rfl rfl (q_pickF rfl hg4b rfl) ?_
 refine l_nil ?_
 refine hK3 _ _ ?_
 refine c_cond rfl (fun hc7 => ?_) (fun hc7 => ?_)
 have hc7b := hc7
 try simp only [zbb] at hc7
 refine wp_seq_k (fun K8 hK8 => ?_)
 refine wp_region_lit ?_
 refine l_q rfl rfl (q_assignP rfl) ?_
 refine l_q rfl rfl (q_assignI rfl) ?_
 refine l_nil ?_
 refine hK8 _ _ ?_
 refine wp_ret ?_
 refine c_ret2 rfl rfl rfl ?_
 exact ⟨_, rfl, rfl, hS.drop⟩
 have hc7b := hc7
 try simp only [zbb] at hc7
 exfalso; omega
end Go.Proofs.Yteojpdijmnpmgaa
namespace Go.Proofs.Yteojpdijmnpmgaa
open Go.RowKit
theorem abs_nil {T : List (Int × Nat × Tx)} (h : absT T = []) : T = [] := List.map_eq_nil_iff.1 h
theorem abs_one {T : List (Int × Nat × Tx)} {n : Int} {t : Tx} (h : absT T = [(n, t)]) : ∃ b, T = [(n, b, t)] := by
  obtain ⟨⟨a, b, c⟩, hq, he⟩ := List.map_eq_singleton_iff.1 h
  injection he with h1 h2
  dsimp only at h1 h2
  subst h1 h2
  exact ⟨b, hq⟩
theorem val3 {α β γ : Type} {x : α × β × γ} {a a' : α} {b b' : β} {c c' : γ} (h : x = (a, b, c)) (e : x = (a', b', c')) : a = a' ∧ b = b' ∧ c = c' := by
  rw [h] at e; injection e with h1 h2; injection h2 with h2 h3; exact ⟨h1, h2, h3⟩
theorem val5 {α β γ δ ε : Type} {x : α × β × γ × δ × ε} {a a' : α} {b b' : β} {c c' : γ} {d d' : δ} {f f' : ε} (h : x = (a, b, c, d, f)) (e : x = (a', b', c', d', f')) : a = a' ∧ b = b' ∧ c = c' ∧ d = d' ∧ f = f' := by
  rw [h] at e; injection e with h1 h2; injection h2 with h2 h3; injection h3 with h3 h4; injection h4 with h4 h5; exact ⟨h1, h2, h3, h4, h5⟩
theorem los_nil {O : List Lo} (h : O.map Lo.l = []) : O = [] := List.map_eq_nil_iff.1 h
theorem los_len {O : List Lo} {L : List Lr} (h : O.map Lo.l = L) : O.length = L.length := by rw [← h, List.length_map]
theorem los_at {O : List Lo} {L : List Lr} (h : O.map Lo.l = L) {i : Nat} {x : Lo} (hx : O[i]? = some x) : L[i]? = some x.l := by rw [← h, List.getElem?_map, hx]; rfl
theorem get_nil (n : Int) : getT [] n = none := rfl
theorem get_one (n : Int) (t : Tx) : getT [(n, t)] n = some t := by unfold getT; rw [List.find?_cons_of_pos (by simp)]; rfl
theorem del_one (n : Int) (t : Tx) : delT [(n, t)] n = [] := by unfold delT; rw [List.filter_cons_of_neg (by simp)]; rfl
theorem set_nil (n : Int) (t : Tx) : setT [] n t = [(n, t)] := rfl
theorem set_one (n : Int) (t t' : Tx) : setT [(n, t)] n t' = [(n, t')] := by
  unfold setT
  rw [List.filter_cons_of_neg (by simp), List.filter_cons_of_neg (by simp)]; rfl
theorem ask_one {nd n : Int} {L : List Int} {O : List Lr} {t : Tx} {u : Nat} (h : t.asked = false) (h2 : t.com = false) (hL : ofL L = (u, true)) : askF nd n L [(n, t)] O = (0, [(n, ⟨u, t.yes, t.read, true, t.com, t.tell, t.ticks⟩)], O ++ sends 1 nd n (nodesTo u 16) u) := by
  rw [ask_do (get_one n t) h h2 (by rw [hL]), set_one, hL]
theorem ask_not {nd n : Int} {L : List Int} {O : List Lr} {t : Tx} (h : t.asked = false) (h2 : t.com = false) (hL : (ofL L).2 = false) : askF nd n L [(n, t)] O = (1, [(n, t)], O) := ask_bad (get_one n t) h h2 hL
theorem of01 : ofL [(0 : Int), (1 : Int)] = (3, true) := by decide
theorem nodes3 : nodesTo 3 16 = [0, 1] := by decide
theorem sta_one {n : Int} {t : Tx} (h : t.com = false) : staT (getT [(n, t)] n) = 1 := by rw [get_one, staT_no h]
theorem sta_com {n : Int} {t : Tx} (h : t.com = true) : staT (getT [(n, t)] n) = 2 := by rw [get_one, staT_yes h]
theorem numB0 (nd : Int) : numB nd 0 0 = nd := by unfold numB; omega
theorem pw_all (l : List Nat) (c : Int) : pwN l l.length c = l.length ∧ l.take (pwN l l.length c) = l := by
  have h : pwN l l.length c = l.length := by have := pwN_le (l := l) (s := l.length) c (Nat.le_refl _); omega
  exact ⟨h, by rw [h, List.take_length]⟩
theorem tmod_nd {nd : Int} (h : 0 ≤ nd ∧ nd < 16) : Int.tmod nd 16 = nd := Int.tmod_eq_of_lt h.1 h.2
theorem nodes_one : ∀ m : Nat, m < 16 → nodesTo (1 * 2 ^ m) 16 = [((m : Nat) : Int)] := by decide
theorem right_let {k f nd x : Int} (hk : 2 ≤ k ∧ k ≤ 8) (hf : 0 ≤ f ∧ f < 16) (hn : 0 ≤ nd ∧ nd < 16) (hx : 0 ≤ x ∧ x ≤ 1099511627776) : rightL ⟨k, f, nd, x, []⟩ = true :=
  rightL_iff.2 ⟨⟨by dsimp only; omega, by dsimp only; omega, hf.1, hf.2, hn.1, hn.2, hx.1, hx.2⟩, fun h => (by dsimp only at h; omega), fun _ => rfl⟩
theorem hearG_one {nd k : Int} {m : Nat} (hk : 2 ≤ k ∧ k ≤ 8) (hm : m < 16) (hn : 0 ≤ nd ∧ nd < 16) (T : List (Int × Tx)) (O : List Lr) (l : List Nat) (s : Nat) : hearG nd ⟨k, ((m : Nat) : Int), nd, nd, []⟩ T O l s = hearF nd nd k (1 * 2 ^ m) T O l s := by
  rw [hg_yes ⟨right_let hk ⟨by omega, by omega⟩ hn ⟨hn.1, by omega⟩, rfl, tmod_nd hn⟩]
  show hearF nd nd k (1 * 2 ^ ((m : Nat) : Int).toNat) T O l s = _
  rw [Int.toNat_natCast]
theorem sends_single (k nd n x : Int) (al : Nat) (hk : ¬k = 1) : sends k nd n [x] al = [⟨k, nd, x, n, []⟩] := by unfold sends; rw [List.map_cons, if_neg hk]; rfl
theorem sends_map (k nd n : Int) (N : List Int) (al : Nat) (hk : ¬k = 1) : sends k nd n N al = N.map fun x => ⟨k, nd, x, n, []⟩ := by unfold sends; rw [if_neg hk]
theorem sends_length (k nd n : Int) (N : List Int) (al : Nat) : (sends k nd n N al).length = N.length := by unfold sends; rw [List.length_map]
/-- No such transaction: who says Yes, or asks, is told Abort. -/
theorem hear_none1 {nd k : Int} {m : Nat} (hk : k = 2 ∨ k = 8) (hm : m < 16) (hn : 0 ≤ nd ∧ nd < 16) (O : List Lr) (l : List Nat) (s : Nat) : hearG nd ⟨k, ((m : Nat) : Int), nd, nd, []⟩ [] O l s = (0, [], O ++ [⟨6, nd, ((m : Nat) : Int), nd, []⟩], l, s) := by
  rw [hearG_one (by omega) hm hn, he_n1 (get_nil nd) hk, nodes_one m hm, sends_single _ _ _ _ _ (by decide)]
theorem hear_none0 {nd k : Int} {m : Nat} (hk : 2 ≤ k ∧ k ≤ 8) (hk2 : ¬(k = 2 ∨ k = 8)) (hm : m < 16) (hn : 0 ≤ nd ∧ nd < 16) (O : List Lr) (l : List Nat) (s : Nat) : hearG nd ⟨k, ((m : Nat) : Int), nd, nd, []⟩ [] O l s = (0, [], O, l, s) := by
  rw [hearG_one hk hm hn, he_n0 (get_nil nd) hk2]
theorem ofL_facts {L : List Int} {u : Nat} (h : ofL L = (u, true)) : nodesTo u 16 = L ∧ 0 < u ∧ u < 65536 ∧ L.Nodup ∧ L.length ≤ 16 ∧ 0 < L.length ∧ ∀ x ∈ L, 0 ≤ x ∧ x < 16 := by
  have hr : risB (-1) L = true := by
    cases hr : risB (-1) L with
    | true => rfl
    | false => rw [ofL_no hr] at h; exact Bool.noConfusion (congrArg Prod.snd h)
  rw [ofL_yes hr] at h
  injection h with h1 h2
  have h3 := nodes_16 hr
  rw [h1] at h2 h3
  have h4 := of_decide_eq_true h2
  have h5 := bits_16 hr
  rw [h1] at h5
  have h6 := nodes_nodup u 16
  have h7 := nodesTo_len u 16
  rw [h3] at h6 h7
  refine ⟨h3, h4, h5, h6, h7, ?_, fun x hx => ?_⟩
  · rcases Nat.eq_zero_or_pos L.length with h0 | h0
    · have hn := (nodes_nil h5).1 (by rw [h3]; exact List.eq_nil_of_length_eq_zero h0)
      omega
    · exact h0
  · rw [← h3] at hx
    obtain ⟨m, hm, rfl, _⟩ := nodes_mem.1 hx
    omega
theorem hnl0 {u : Nat} {L : List Int} (h : nodesTo u 16 = L) (hl : L.length ≤ 16) : (List.map Lo.l []).length + (nodesTo u 16).length ≤ 16 := by rw [h]; show 0 + L.length ≤ 16; omega
/-- A node that says No: all others are told Abort. -/
theorem vote_no {nd : Int} {m : Nat} {t : Tx} (hc : t.com = false) (hm : m < 16) (hn : 0 ≤ nd ∧ nd < 16) (hb : bt t.nodes m) (hb2 : ¬bt (t.yes ||| t.read) m) (O : List Lr) (l : List Nat) (s : Nat) : hearG nd ⟨3, ((m : Nat) : Int), nd, nd, []⟩ [(nd, t)] O l s = (0, [], O ++ sends 6 nd nd (nodesTo (t.nodes ^^^ (t.nodes &&& (1 * 2 ^ m))) 16) 0, l, s) := by
  rw [hearG_one (by omega) hm hn, he_v1 (get_one nd t) hc (by omega), vo_2 (fun h => ?_) rfl, del_one]
  rcases h with h | h
  · exact and_one.1 h hb
  · exact h (and_one.2 hb2)
/-- How a disk grows. -/
def Grew (l : List Nat) (s : Nat) (l' : List Nat) (s' : Nat) : Prop := Bytes l' ∧ s' ≤ l'.length ∧ l'.length ≤ l.length + 3382 ∧ l.length ≤ l'.length
theorem Grew.refl {l : List Nat} {s : Nat} (h : Bytes l) (hs : s ≤ l.length) : Grew l s l s := ⟨h, hs, by omega, Nat.le_refl _⟩
theorem rec_grew {l : List Nat} {ns : List Int} (h : Bytes l) (hn : ∀ x ∈ ns, -9223372036854775808 ≤ x ∧ x ≤ 9223372036854775807) : Bytes (recL l ns) ∧ (recL l ns).length ≤ l.length + 3382 ∧ l.length ≤ (recL l ns).length := by
  have h1 := waL_len l (rowE (ns.map vI)).1
  have h2 := rowE_len (recs_ok hn)
  have h3 : recL l ns = waL l (rowE (ns.map vI)).1 := rfl
  rw [h3]
  exact ⟨waL_bytes h (rowE_bytes (recs_ok hn)), by omega, h1.1⟩
theorem getT_mem {T : List (Int × Tx)} {n : Int} {t : Tx} (h : getT T n = some t) : (n, t) ∈ T := by
  unfold getT at h
  cases hf : T.find? (fun q => decide (q.1 = n)) with
  | none => rw [hf] at h; cases h
  | some q =>
    rw [hf] at h
    have hq : q.2 = t := Option.some.inj h
    have h0 := List.find?_some hf
    have h1 : q.1 = n := of_decide_eq_true h0
    have h2 := List.mem_of_find?_eq_some hf
    rw [← h1, ← hq]; exact h2
theorem grew_rec {l : List Nat} {s : Nat} {ns : List Int} (h : Bytes l) (hs : s ≤ l.length) (hn : ∀ x ∈ ns, -9223372036854775808 ≤ x ∧ x ≤ 9223372036854775807) : Grew l s (recL l ns) s ∧ Grew l s (recL l ns) (recL l ns).length := by
  obtain ⟨h1, h2, h3⟩ := rec_grew h hn
  exact ⟨⟨h1, by omega, h2, h3⟩, ⟨h1, Nat.le_refl _, h2, h3⟩⟩
theorem vot2_grew {nd n : Int} {t : Tx} {T : List (Int × Tx)} {O : List Lr} {l : List Nat} {s : Nat} (h : Bytes l) (hs : s ≤ l.length) (hn : 0 ≤ n ∧ n ≤ 1099511627776) (hy : t.yes < 65536) : Grew l s (vot2 nd n t T O l s).2.2.2.1 (vot2 nd n t T O l s).2.2.2.2 := by
  have hg := grew_rec (ns := [1, n, ((t.yes : Nat) : Int)]) h hs (by intro x hx; simp only [List.mem_cons, List.not_mem_nil, or_false] at hx; rcases hx with rfl | rfl | rfl <;> omega)
  unfold vot2
  split
  · exact hg.1
  · unfold decF
    split
    · split
      · exact Grew.refl h hs
      · exact hg.2
    · exact Grew.refl h hs
theorem hearF_grew {nd n lk : Int} {one : Nat} {T : List (Int × Tx)} {O : List Lr} {l : List Nat} {s : Nat} (h : Bytes l) (hs : s ≤ l.length) (hn : 0 ≤ n ∧ n ≤ 1099511627776) (hT : ∀ q ∈ T, TxOk q.2) (h1 : one < 65536) : Grew l s (hearF nd n lk one T O l s).2.2.2.1 (hearF nd n lk one T O l s).2.2.2.2 := by
  unfold hearF
  split
  · split <;> exact Grew.refl h hs
  · rename_i t ht
    have htk := hT _ (getT_mem ht)
    dsimp only at htk
    split
    · split
      · exact Grew.refl h hs
      · split
        · show Grew l s (doneF n t one T l).2.2 s
          have hg := (grew_rec (ns := [2, n]) h hs (by intro x hx; simp only [List.mem_cons, List.not_mem_nil, or_false] at hx; rcases hx with rfl | rfl <;> omega)).1
          unfold doneF
          split
          · exact Grew.refl h hs
          · split
            · split <;> exact hg
            · exact Grew.refl h hs
        · exact Grew.refl h hs
    · split
      · unfold votesF
        split
        · exact Grew.refl h hs
        · split
          · exact Grew.refl h hs
          · split
            · exact vot2_grew h hs hn (or_lt htk.2.1 h1)
            · exact vot2_grew h hs hn htk.2.1
      · exact Grew.refl h hs
theorem hearG_grew {nd : Int} {lr : Lr} {T : List (Int × Tx)} {O : List Lr} {l : List Nat} {s : Nat} (h : Bytes l) (hs : s ≤ l.length) (hT : ∀ q ∈ T, TxOk q.2) : Grew l s (hearG nd lr T O l s).2.2.2.1 (hearG nd lr T O l s).2.2.2.2 := by
  unfold hearG
  split
  · rename_i hc
    obtain ⟨⟨_, _, hf0, hf16, _, _, hx⟩, _⟩ := rightL_iff.1 hc.1
    exact hearF_grew h hs hx hT (by have := pow_le16 (m := lr.f.toNat) (by omega); omega)
  · exact Grew.refl h hs
theorem absT_ok {T : List (Int × Nat × Tx)} (h : TOk T) : ∀ q ∈ absT T, TxOk q.2 := fun q hq => by
  obtain ⟨x, hx, rfl⟩ := List.mem_map.1 hq
  exact (h.2 x hx).1
end Go.Proofs.Yteojpdijmnpmgaa
namespace Go.Proofs.Yteojpdijmnpmgaa
open Go.RowKit
theorem disk0 {l0 : List Nat} (h : l0 = recL [] [0, 0]) : Bytes l0 ∧ DiskIs l0 (1, []) ∧ l0.length ≤ 3382 := by
  have hd : DiskIs (recL [] [0, 0]) (replayF [0, 0] (0, [])) := DiskIs.nil.rec (by decide) (by decide) (by intro x hx; simp only [List.mem_cons, List.not_mem_nil, or_false] at hx; rcases hx with rfl | rfl <;> decide) (by decide)
  have hr := (rec_fits (l := []) (ns := [0, 0]) (by decide) (by intro x hx; simp only [List.mem_cons, List.not_mem_nil, or_false] at hx; rcases hx with rfl | rfl <;> decide) (by decide)).2.2
  rw [← h] at hd hr
  exact ⟨hd.1, hd, by have : ([] : List Nat).length = 0 := rfl; omega⟩
attribute [local irreducible] Oper.wp Sem.run Code.wp wpList wpAnyO callFunc execOp Calls
attribute [local irreducible] toU short rencs renc rowE encRow rightB zig unzig decRw rightL risB lastN bitsOf nodesTo readL recB ofL sends getT delT setT waL waE waN waR apL apE decF vot2 votesF doneF hearF replayF replayR rdB rdE scan nums hearG askF numB
theorem hear_any (k kw : Nat) (nd : Int) (inc cnt mb : Nat) (oa : Option Addr) (O : List Lo) (oc : Nat) (T : List (Int × Nat × Tx)) (hT : TOk T) (g : Gh) (hO : LOk g O) (hol0 : O.length ≤ 100000) (kd : Nat) (wa : Option Addr) (wc : Nat) (rs : List Rc) (da : Option Addr) (dc : Nat) (l : List Nat) (bb s : Nat) (hrl : rs.length ≤ 500000) (hl : Bytes l) (hbb : bb + l.length ≤ 500000000) (hs : s ≤ l.length) (hR : RsOk g rs) (lr : Lr) (an : Option Addr) (nl cn : Nat) (hnl : lr.nd.length = nl) (hnm : nl ≤ 2000000) (w : World) (g2 : Gh) (hg2 : Rog [co k kw nd inc cnt mb oa O oc T, wk kw kd wa wc rs, dk kd da dc l bb s, .fz g] w g2) (hG : SlG g2 an (iv lr.nd)) (hS : St w (owns [co k kw nd inc cnt mb oa O oc T, wk kw kd wa wc rs, dk kd da dc l bb s, .fz g]) [co k kw nd inc cnt mb oa O oc T, wk kw kd wa wc rs, dk kd da dc l bb s, .fz g] w) :
    Calls Try.prog 16 #[pV k, .agg #[.int .i64 lr.k, .int .i64 lr.f, .int .i64 lr.t, .int .i64 lr.x, .slice an nl cn]] w (Post w [co k kw nd inc cnt mb oa O oc T, wk kw kd wa wc rs, dk kd da dc l bb s, .fz g] fun v G => ∃ a oa' oc' O' T' wa' wc' rs' da' dc' l' s' g', v = .int .i64 a ∧ G = [co k kw nd inc cnt mb oa' O' oc' T', wk kw kd wa' wc' rs', dk kd da' dc' l' bb s', .fz g'] ∧ Gle g g' ∧ LOk g' O' ∧ TOk T' ∧ hearG nd lr (absT T) (O.map Lo.l) l s = (a, absT T', O'.map Lo.l, l', s') ∧ RsOk g' rs' ∧ rs'.length ≤ rs.length + 1 ∧ Grew l s l' s') := by
  refine (hear_ok k kw nd inc cnt mb oa O oc T hT g hO hol0 kd wa wc rs da dc l bb s hrl hl hbb hs hR lr an nl cn hnl hnm w g2 hg2 hG hS).mono ?_
  rintro _ w' ⟨v, G, he, ⟨oa', oc', O', T', wa', wc', rs', da', dc', g', h1, h2, h3, h4, h5, h6, h7, h8, h9⟩, hS'⟩
  exact ⟨v, G, he, ⟨_, oa', oc', O', T', wa', wc', rs', da', dc', _, _, g', h1, h2, h3, h4, h5, by rw [h6, h7], h8, h9, hearG_grew hl hs (absT_ok hT)⟩, hS'⟩

theorem ask_any (k kw : Nat) (nd : Int) (inc cnt mb : Nat) (oa : Option Addr) (O : List Lo) (oc : Nat) (T : List (Int × Nat × Tx)) (hT : TOk T) (g : Gh) (hO : LOk g O) (hol0 : O.length ≤ 100000) (n : Int) (L : List Int) (m : Nat) (hm : L.length = m) (hml : m ≤ 2000000) (an : Option Addr) (cn : Nat) (w : World) (g2 : Gh) (hg2 : Rog [co k kw nd inc cnt mb oa O oc T, .fz g] w g2) (hG : SlG g2 an (iv L)) (hS : St w (owns [co k kw nd inc cnt mb oa O oc T, .fz g]) [co k kw nd inc cnt mb oa O oc T, .fz g] w) :
    Calls Try.prog 13 #[pV k, .int .i64 n, .slice an m cn] w (Post w [co k kw nd inc cnt mb oa O oc T, .fz g] fun v G => ∃ a oa' oc' O' T' g', v = .int .i64 a ∧ G = [co k kw nd inc cnt mb oa' O' oc' T', .fz g'] ∧ Gle g g' ∧ LOk g' O' ∧ TOk T' ∧ askF nd n L (absT T) (O.map Lo.l) = (a, absT T', O'.map Lo.l)) := by
  refine (ask_ok k kw nd inc cnt mb oa O oc T hT g hO hol0 n L m hm hml an cn w g2 hg2 hG hS).mono ?_
  rintro _ w' ⟨v, G, he, ⟨oa', oc', O', T', g', h1, h2, h3, h4, h5, h6, h7⟩, hS'⟩
  exact ⟨v, G, he, ⟨_, oa', oc', O', T', g', h1, h2, h3, h4, h5, by rw [h6, h7]⟩, hS'⟩

theorem state_any (k kw : Nat) (nd : Int) (inc cnt mb : Nat) (oa : Option Addr) (O : List Lo) (oc : Nat) (T : List (Int × Nat × Tx)) (hT : TOk T) (g : Gh) (hO : LOk g O) (hol0 : O.length ≤ 100000) (n : Int) (w : World) (hS : St w (owns [co k kw nd inc cnt mb oa O oc T, .fz g]) [co k kw nd inc cnt mb oa O oc T, .fz g] w) :
    Calls Try.prog 17 #[pV k, .int .i64 n] w (Post w [co k kw nd inc cnt mb oa O oc T, .fz g] fun v G => ∃ a, v = .int .i64 a ∧ G = [co k kw nd inc cnt mb oa O oc T, .fz g] ∧ staT (getT (absT T) n) = a) := by
  refine (state_ok k kw nd inc cnt mb oa O oc T hT g hO hol0 n w hS).mono ?_
  rintro _ w' ⟨v, G, he, ⟨h1, h2⟩, hS'⟩
  exact ⟨v, G, he, ⟨_, h1, h2, rfl⟩, hS'⟩

end Go.Proofs.Yteojpdijmnpmgaa
namespace Go.Proofs.Yteojpdijmnpmgaa
open Go.RowKit
/-- A vote of law13's cases. -/
structure Vo where
  nd : Int
  k : Int
  p : Bool
def vo (v : Vo) : List Value := [.int .i64 v.nd, .int .i64 v.k, .bool v.p]
def kindV (z : Int) : Int := ([(2 : Int), (4 : Int), (3 : Int)] : List Int).getD (pickN z 3) 0
theorem kindV_in (z : Int) : kindV z = 2 ∨ kindV z = 4 ∨ kindV z = 3 := by
  have h := pickN_lt z (n := 3) (by decide)
  unfold kindV
  generalize pickN z 3 = i at h
  match i, h with
  | 0, _ => exact .inl rfl
  | 1, _ => exact .inr (.inl rfl)
  | 2, _ => exact .inr (.inr rfl)
theorem kindV_at {z x : Int} (h : ([(2 : Int), (4 : Int), (3 : Int)] : List Int)[pickN z 3]? = some x) : kindV z = x := by unfold kindV; rw [List.getD_eq_getElem?_getD, h]; rfl
/-- Whom the letters of a kind go to. -/
def toL (O : List Lo) (k : Int) : List Int := (O.filter fun x => decide (x.l.k = k)).map fun x => x.l.t
theorem toL_step {O : List Lo} {k : Int} {i : Nat} {x : Lo} (h : O[i]? = some x) : toL (O.take (i + 1)) k = toL (O.take i) k ++ (if x.l.k = k then [x.l.t] else []) := by
  unfold toL
  rw [List.take_add_one, h, List.filter_append, List.map_append]
  congr 1
  show List.map _ (List.filter _ [x]) = _
  by_cases hk : x.l.k = k
  · rw [List.filter_cons_of_pos (by simpa using hk), if_pos hk]; rfl
  · rw [List.filter_cons_of_neg (by simpa using hk), if_neg hk]; rfl
theorem toL_len (O : List Lo) (k : Int) : (toL O k).length ≤ O.length := by unfold toL; rw [List.length_map]; exact List.length_filter_le _ _
theorem q_bc {P : Program} {n : Nat} {f : Nat → Value} {o : Oper} {w : World} {a b : Bool} (h : a = b) (hr : Run P n f o w (.bool a)) : Run P n f o w (.bool b) := by rw [← h]; exact hr
theorem mem_take_succ {L : List Int} {i : Nat} {x y : Int} (h : L[i]? = some y) : x ∈ L.take (i + 1) ↔ x ∈ L.take i ∨ x = y := by
  rw [List.take_add_one, h]; simp
attribute [local irreducible] Oper.wp Sem.run Code.wp wpList wpAnyO callFunc execOp Calls
attribute [local irreducible] pickN
set_option maxRecDepth 100000 in
theorem pick13_ok (z : Int) (n : Nat) (hn : 1 ≤ n ∧ n ≤ 1000000000) (hz : -9223372036854775808 ≤ z)  (w : World) : Calls Try.prog 18 #[.int .i64 z, .int .i64 (n : Int)] w (PostR w fun v => v = .int .i64 ((pickN z n : Nat) : Int)) := by
 have hS := St.start w
 refine c_enter Try.func18 rfl rfl rfl ?_
 refine wp_seq_k (fun K1 hK1 => ?_)
 refine wp_region_lit ?_
 refine l_q rfl rfl (q_assignI rfl) ?_
 refine l_nil ?_
 refine hK1 _ _ ?_
 refine wp_seq_k (fun K2 hK2 => ?_)
 refine wp_region_lit ?_
 refine l_q rfl rfl (q_moveI rfl) ?_
 refine l_q rfl rfl (q_moveI rfl) ?_
 refine l_q rfl rfl (q_izc (b := (n : Int)) (by omega) (q_max rfl rfl)) ?_
 refine l_e rfl (fun K hK => ?_)
 refine e_call (by kernel_rfl) (pickR_ok z n (by omega) (by omega) _) rfl (after_R hS (fun v3 w3 hv3 hS3 => ?_))
 clear hS
 obtain rfl := hv3
 refine hK _ _ ?_; clear hK K
 refine l_q rfl rfl (q_assignI rfl) ?_
 refine l_nil ?_
 refine hK2 _ _ ?_
 refine wp_ret ?_
 refine c_ret1 rfl rfl ?_
 exact ⟨_, rfl, rfl, hS3.drop⟩
set_option maxRecDepth 100000 in
theorem kind_ok (z : Int) (hz : -9223372036854775808 ≤ z)  (w : World) : Calls Try.prog 19 #[.int .i64 z] w (PostR w fun v => v = .int .i64 (kindV z)) := by
 have hS := St.start w
 refine c_enter Try.func19 rfl rfl rfl ?_
 refine wp_seq_k (fun K1 hK1 => ?_)
 refine wp_region_lit ?_
 refine l_q rfl rfl (q_assignI rfl) ?_
 refine l_nil ?_
 refine hK1 _ _ ?_
 refine wp_seq_k (fun K2 hK2 => ?_)
 refine wp_region_lit ?_
 refine l_e rfl (fun K hK => ?_)
 refine e_buildSlice1 (e := 40) (zv := .int .i64 0) (xs := [_, _, _]) hS (by kernel_rfl) (by kernel_rfl) (by kernel_rfl) rfl rfl rfl rfl (allone (by repeat' (first | exact trivial | refine ⟨by first | rfl | assumption, ?_⟩))) rfl (fun b3 w3 (hS3 : St _ _ [.blk b3 (.cells #[.int .i64 (2 : Int), .int .i64 (4 : Int), .int .i64 (3 : Int)] 40)] _) => ?_)
 clear hS
 have hS3o : St _ _ [.ow 40 1 (some ⟨b3, 0, none⟩) 3 3 (iv [(2 : Int), (4 : Int), (3 : Int)])] _ := hS3.blkOw' (i := 0) (m := 3) (size := 1) (xs := iv [(2 : Int), (4 : Int), (3 : Int)]) rfl rfl rfl (by decide); clear hS3
 refine hK _ _ ?_; clear hK K
 refine l_q rfl rfl (q_moveI rfl) ?_
 refine l_e rfl (fun K hK => ?_)
 refine e_call (by kernel_rfl) (pick13_ok z 3 (by decide) (by omega) _) rfl (after_R hS3o (fun v4 w4 hv4 hS4 => ?_))
 clear hS3o
 obtain rfl := hv4
 refine hK _ _ ?_; clear hK K
 have hpk := pickN_lt z (n := 3) (by decide)
 refine l_q rfl rfl (q_ixG (e := 40) (m := 1) (j := (pickN z 3)) rfl rfl (by kernel_rfl) (by kernel_rfl) (by first | rfl | omega) (by omega) (hS4.owG (i := 0) rfl) (by rw [iv_len]; first | omega | (simp only [zll] <;> omega))) ?_
 obtain ⟨x5, hx5⟩ : ∃ x, ([(2 : Int), (4 : Int), (3 : Int)])[(pickN z 3)]? = some x := ⟨_, List.getElem?_eq_getElem (by first | omega | (simp only [zll] <;> omega) | (simp <;> omega))⟩
 refine l_q rfl rfl (q_load1 rfl (by kernel_rfl) (SlG.cell (hS4.owG (i := 0) rfl) (Gle.refl _) (at1 (iv_at hx5)))) ?_
 refine l_q rfl rfl (q_assignI rfl) ?_
 refine l_nil ?_
 refine hK2 _ _ ?_
 refine wp_ret ?_
 refine c_ret1 rfl rfl ?_
 exact ⟨_, rfl, congrArg (Value.int .i64) (kindV_at hx5).symm, hS4.drop⟩
set_option maxRecDepth 100000 in
theorem has13_ok (L : List Int) (y : Int) (n : Nat) (hn : L.length = n) (hm : n ≤ 2000000) (an : Option Addr) (cn : Nat) (w : World) (hG : SlG (hw w) an (iv L)) : Calls Try.prog 20 #[.slice an n cn, .int .i64 y] w (PostR w fun v => v = .bool (decide (y ∈ L))) := by
 have hS := St.start w
 subst hn
 refine c_enter Try.func20 rfl rfl rfl ?_
 refine wp_seq_k (fun K1 hK1 => ?_)
 refine wp_region_lit ?_
 refine l_q rfl rfl (q_assignB rfl) ?_
 refine l_nil ?_
 refine hK1 _ _ ?_
 refine wp_seq_k (fun K2 hK2 => ?_)
 refine wp_seq_k (fun K3 hK3 => ?_)
 refine wp_region_lit ?_
 refine l_q rfl rfl (q_assignI rfl) ?_
 refine l_nil ?_
 refine hK3 _ _ ?_
 refine wp_block ?_
 refine c_loop (τ := Nat) [(4, 17)] (fun x => (fun (i : Nat) => [(5, .int .i64 (i : Int))]) x) (fun x w' => (fun (i : Nat) => St w (fun _ => False) [] w' ∧ i ≤ L.length ∧ ¬(y ∈ L.take i)) x) (fun x => (fun (i : Nat) => L.length - i) x) (0) ?_ (by repeat' (first | exact trivial | refine ⟨by first | rfl | exact int_succ _ | assumption, ?_⟩)) (fun i j4 w4 hJ4 K4 hK4 => ?_)
 exact ⟨hS, Nat.zero_le _, by simp⟩
 obtain ⟨hS4, hi, hno⟩ := hJ4
 try dsimp only at hS4 hi hno ⊢
 refine wp_seq_k (fun K5 hK5 => ?_)
 refine wp_seq_k (fun K6 hK6 => ?_)
 refine wp_region_lit ?_
 refine l_q rfl rfl (q_moveI rfl) ?_
 refine l_q rfl rfl (q_moveS rfl) ?_
 refine l_q rfl rfl (q_lenSl (e := 3) rfl (by kernel_rfl)) ?_
 refine l_q rfl rfl (q_lss rfl rfl) ?_
 refine l_nil ?_
 refine hK6 _ _ ?_
 refine c_cond rfl (fun hc7 => ?_) (fun hc7 => ?_)
 have hc7b := hc7
 try simp only [zbb] at hc7
 refine wp_skip ?_
 refine hK5 _ _ ?_
 refine wp_seq_k (fun K8 hK8 => ?_)
 refine wp_block ?_
 refine wp_seq_k (fun K9 hK9 => ?_)
 refine wp_region_lit ?_
 refine l_q rfl rfl (q_moveS rfl) ?_
 refine l_q rfl rfl (q_moveI rfl) ?_
 refine l_q rfl rfl (q_ixG (e := 3) (m := 1) (j := i) rfl rfl (by kernel_rfl) (by kernel_rfl) (by first | rfl | omega) (by omega) hG (by rw [iv_len]; first | omega | (simp only [zll] <;> omega))) ?_
 obtain ⟨x10, hx10⟩ : ∃ x, (L)[i]? = some x := ⟨_, List.getElem?_eq_getElem (by first | omega | (simp only [zll] <;> omega) | (simp <;> omega))⟩
 refine l_q rfl rfl (q_load1 rfl (by kernel_rfl) (SlG.cell (hG.mono hS4.base) (Gle.refl _) (at1 (iv_at hx10)))) ?_
 refine l_q rfl rfl (q_moveI rfl) ?_
 refine l_q rfl rfl (q_eql rfl rfl) ?_
 refine l_nil ?_
 refine hK9 _ _ ?_
 refine c_cond rfl (fun hc11 => ?_) (fun hc11 => ?_)
 have hc11b := hc11
 try simp only [zbb] at hc11
 refine wp_seq_k (fun K12 hK12 => ?_)
 refine wp_region_lit ?_
 refine l_q rfl rfl (q_assignB rfl) ?_
 refine l_nil ?_
 refine hK12 _ _ ?_
 refine wp_ret ?_
 refine c_ret1 rfl rfl ?_
 have hx : y ∈ L := by have := List.mem_of_getElem? hx10; rwa [show x10 = y by omega] at this
 exact ⟨_, rfl, congrArg Value.bool (decide_eq_true hx).symm, hS4.drop⟩
 have hc11b := hc11
 try simp only [zbb] at hc11
 refine wp_skip ?_
 refine hK8 _ _ ?_
 refine wp_region_lit ?_
 refine l_q rfl rfl (q_moveI rfl) ?_
 refine l_q rfl rfl (q_addx rfl rfl (by first | decide | omega) (by first | decide | omega)) ?_
 refine l_q rfl rfl (q_assignI rfl) ?_
 refine l_nil ?_
 refine hK4 _ _ (came ((i + 1)) (by repeat' (first | exact Agree.refl _ _ | refine Agree.up ?_ rfl | refine Agree.hav2 ?_ rfl | refine Agree.ups2 ?_ rfl)) (by repeat' (first | exact trivial | refine ⟨by first | rfl | exact int_succ _ | assumption, ?_⟩)) ?_)
 exact ⟨⟨hS4, (by show i + 1 ≤ L.length; omega), fun h => (by rcases (mem_take_succ hx10).1 h with h | h; exact hno h; omega)⟩, by (show L.length - (i + 1) < L.length - i); omega⟩
 have hc7b := hc7
 try simp only [zbb] at hc7
 refine wp_exit ?_
 refine hK2 _ _ ?_
 refine wp_seq_k (fun K13 hK13 => ?_)
 refine wp_region_lit ?_
 refine l_q rfl rfl (q_assignB rfl) ?_
 refine l_nil ?_
 refine hK13 _ _ ?_
 refine wp_ret ?_
 refine c_ret1 rfl rfl ?_
 have hx : ¬y ∈ L := by rw [List.take_of_length_le (by omega)] at hno; exact hno
 exact ⟨_, rfl, congrArg Value.bool (decide_eq_false hx).symm, hS4.drop⟩
set_option maxRecDepth 100000 in
theorem to_ok (O : List Lo) (k : Int) (n : Nat) (hn : O.length = n) (hm : n ≤ 1000000) (an : Option Addr) (cn : Nat) (w : World) (hG : SlG (hw w) an (List.flatMap lo O)) : Calls Try.prog 21 #[.slice an n cn, .int .i64 k] w (PostN w fun v G => ∃ ad cap, v = .slice ad (toL O k).length cap ∧ G = [.ow 3 1 ad (toL O k).length cap (iv (toL O k))]) := by
 have hS := St.start w
 subst hn
 refine c_enter Try.func21 rfl rfl rfl ?_
 refine wp_seq_k (fun K1 hK1 => ?_)
 refine wp_region_lit ?_
 refine l_q rfl rfl (q_assignS rfl) ?_
 refine l_nil ?_
 refine hK1 _ _ ?_
 refine wp_seq_k (fun K2 hK2 => ?_)
 refine wp_region_lit ?_
 refine l_q rfl rfl (q_assignS rfl) ?_
 refine l_nil ?_
 refine hK2 _ _ ?_
 refine wp_seq_k (fun K3 hK3 => ?_)
 refine wp_seq_k (fun K4 hK4 => ?_)
 refine wp_region_lit ?_
 refine l_q rfl rfl (q_assignI rfl) ?_
 refine l_nil ?_
 refine hK4 _ _ ?_
 refine wp_block ?_
 have hS5 := hS.ow_nil 3 1; clear hS
 refine c_loop (τ := Nat × (List Int) × (Option Addr) × Nat) [(5, 27)] (fun x => (fun (i : Nat) (Q : List Int) (ad : Option Addr) (cap : Nat) => [(6, .int .i64 (i : Int)), (5, .slice ad Q.length cap)]) x.1 x.2.1 x.2.2.1 x.2.2.2) (fun x w' => (fun (i : Nat) (Q : List Int) (ad : Option Addr) (cap : Nat) => St w (fun _ => False) [.ow 3 1 ad Q.length cap (iv Q)] w' ∧ i ≤ O.length ∧ Q = (toL (O.take i) k) ∧ Q.length ≤ i) x.1 x.2.1 x.2.2.1 x.2.2.2) (fun x => (fun (i : Nat) (Q : List Int) (ad : Option Addr) (cap : Nat) => O.length - i) x.1 x.2.1 x.2.2.1 x.2.2.2) (⟨0, [], none, 0⟩) ?_ (by repeat' (first | exact trivial | refine ⟨by first | rfl | exact int_succ _ | assumption, ?_⟩)) (fun x6 j6 w6 hJ6 K6 hK6 => ?_)
 exact ⟨hS5, Nat.zero_le _, rfl, Nat.le_refl _⟩
 obtain ⟨i, Q, ad, cap⟩ := x6
 obtain ⟨hS6, hi, hQ, hQl⟩ := hJ6
 try dsimp only at hS6 hi hQ hQl ⊢
 refine wp_seq_k (fun K7 hK7 => ?_)
 refine wp_seq_k (fun K8 hK8 => ?_)
 refine wp_region_lit ?_
 refine l_q rfl rfl (q_moveI rfl) ?_
 refine l_q rfl rfl (q_moveS rfl) ?_
 refine l_q rfl rfl (q_lenSl (e := 42) rfl (by kernel_rfl)) ?_
 refine l_q rfl rfl (q_lss rfl rfl) ?_
 refine l_nil ?_
 refine hK8 _ _ ?_
 refine c_cond rfl (fun hc9 => ?_) (fun hc9 => ?_)
 have hc9b := hc9
 try simp only [zbb] at hc9
 refine wp_skip ?_
 refine hK7 _ _ ?_
 refine wp_seq_k (fun K10 hK10 => ?_)
 refine wp_block ?_
 refine wp_seq_k (fun K11 hK11 => ?_)
 refine wp_region_lit ?_
 refine l_q rfl rfl (q_moveS rfl) ?_
 refine l_q rfl rfl (q_moveI rfl) ?_
 refine l_q rfl rfl (q_ixG (e := 42) (m := 5) (j := i) rfl rfl (by kernel_rfl) (by kernel_rfl) (by first | rfl | omega) (by omega) hG (by rw [rows_len (c := lo) (m := 5) (fun _ => rfl)]; first | omega | (simp only [zll] <;> omega))) ?_
 refine l_q rfl rfl (q_fieldG (ft := 40) (o := 0) rfl (by kernel_rfl)) ?_
 obtain ⟨x12, hx12⟩ : ∃ x, (O)[i]? = some x := ⟨_, List.getElem?_eq_getElem (by first | omega | (simp only [zll] <;> omega) | (simp <;> omega))⟩
 refine l_q rfl rfl (q_load1 rfl (by kernel_rfl) (SlG.cell (hG.mono hS6.base) (Gle.refl _) (row_at hx12 (c := lo) (m := 5) (fun _ => rfl) (j := 0) rfl))) ?_
 refine l_q rfl rfl (q_moveI rfl) ?_
 refine l_q rfl rfl (q_eql rfl rfl) ?_
 refine l_nil ?_
 refine hK11 _ _ ?_
 refine c_cond rfl (fun hc13 => ?_) (fun hc13 => ?_)
 have hc13b := hc13
 try simp only [zbb] at hc13
 refine wp_region_lit ?_
 refine l_q rfl rfl (q_moveS rfl) ?_
 refine l_q rfl rfl (q_moveS rfl) ?_
 refine l_q rfl rfl (q_moveI rfl) ?_
 refine l_q rfl rfl (q_ixG (e := 42) (m := 5) (j := i) rfl rfl (by kernel_rfl) (by kernel_rfl) (by first | rfl | omega) (by omega) hG (by rw [rows_len (c := lo) (m := 5) (fun _ => rfl)]; first | omega | (simp only [zll] <;> omega))) ?_
 refine l_q rfl rfl (q_fieldG (ft := 3) (o := 2) rfl (by kernel_rfl)) ?_
 refine l_q rfl rfl (q_load1 rfl (by kernel_rfl) (SlG.cell (hG.mono hS6.base) (Gle.refl _) (row_at hx12 (c := lo) (m := 5) (fun _ => rfl) (j := 2) rfl))) ?_
 refine l_e rfl (fun K hK => ?_)
 refine e_buildSlice1 (e := 3) (zv := .int .i64 0) (xs := [.tmp 25]) hS6 (by kernel_rfl) (by kernel_rfl) (by kernel_rfl) rfl rfl rfl rfl (allone (by repeat' (first | exact trivial | refine ⟨by first | rfl | assumption, ?_⟩))) rfl (fun b14 w14 (hS14 : St _ _ [.blk b14 (.cells #[.int .i64 x12.l.t] 3), .ow 3 1 ad Q.length cap (iv Q)] _) => ?_)
 clear hS6
 have hS14o : St _ _ [.ow 3 1 (some ⟨b14, 0, none⟩) 1 1 (iv [x12.l.t]), _] _ := hS14.blkOw' (i := 0) (m := 1) (size := 1) (xs := iv [x12.l.t]) rfl rfl rfl (by decide); clear hS14
 refine hK _ _ ?_; clear hK K
 refine l_e rfl (fun K hK => ?_)
 refine e_app (e := 3) (size := 1) (bytes := 8) (i := 1) (m' := (Q ++ [x12.l.t]).length) (by kernel_rfl) hS14o rfl rfl rfl (SlG.src (e := 3) (by kernel_rfl) (hS14o.owG (i := 0) rfl) (by first | (simp only [zll, Nat.mul_one]; done) | (simp only [zll]; omega) | rfl | (simp; done)) (by decide) (iv_one _)) (by first | omega | (simp only [zll] <;> omega) | (simp; done)) iv_app (by first | omega | (simp only [maxLen, zll] <;> omega) | (simp only [maxLen]; omega)) (by first | omega | (simp only [zll] <;> omega)) (fun ad15 cp15 w15 (hS15 : St _ _ [_, .ow 3 1 ad15 ((Q ++ [x12.l.t]).length) cp15 (iv (Q ++ [x12.l.t]))] _) => ?_)
 clear hS14o
 refine hK _ _ ?_; clear hK K
 refine l_q rfl rfl (q_assignS rfl) ?_
 refine l_nil ?_
 refine hK10 _ _ ?_
 refine wp_region_lit ?_
 refine l_q rfl rfl (q_moveI rfl) ?_
 refine l_q rfl rfl (q_addx rfl rfl (by first | decide | omega) (by first | decide | omega)) ?_
 refine l_q rfl rfl (q_assignI rfl) ?_
 refine l_nil ?_
 have hS16 := hS15.fr1; clear hS15
 have hS17 : St _ _ [_] _ := hS16.only 1; clear hS16
 refine hK6 _ _ (came (⟨(i + 1), (Q ++ [x12.l.t]), ad15, cp15⟩) (by repeat' (first | exact Agree.refl _ _ | refine Agree.up ?_ rfl | refine Agree.hav2 ?_ rfl | refine Agree.ups2 ?_ rfl)) (by repeat' (first | exact trivial | refine ⟨by first | rfl | exact int_succ _ | assumption, ?_⟩)) ?_)
 exact ⟨⟨hS17, (by show i + 1 ≤ O.length; omega), (by rw [toL_step hx12, ← hQ, if_pos (by omega)]), (by first | (show Q.length ≤ i + 1; omega) | (show (Q ++ [_]).length ≤ i + 1; rw [List.length_append]; simp only [List.length_cons, List.length_nil]; omega))⟩, by (show O.length - (i + 1) < O.length - i); omega⟩
 have hc13b := hc13
 try simp only [zbb] at hc13
 refine wp_skip ?_
 refine hK10 _ _ ?_
 refine wp_region_lit ?_
 refine l_q rfl rfl (q_moveI rfl) ?_
 refine l_q rfl rfl (q_addx rfl rfl (by first | decide | omega) (by first | decide | omega)) ?_
 refine l_q rfl rfl (q_assignI rfl) ?_
 refine l_nil ?_
 refine hK6 _ _ (came (⟨(i + 1), Q, ad, cap⟩) (by repeat' (first | exact Agree.refl _ _ | refine Agree.up ?_ rfl | refine Agree.hav2 ?_ rfl | refine Agree.ups2 ?_ rfl)) (by repeat' (first | exact trivial | refine ⟨by first | rfl | exact int_succ _ | assumption, ?_⟩)) ?_)
 exact ⟨⟨hS6, (by show i + 1 ≤ O.length; omega), (by rw [toL_step hx12, ← hQ, if_neg (by omega), List.append_nil]), (by first | (show Q.length ≤ i + 1; omega) | (show (Q ++ [_]).length ≤ i + 1; rw [List.length_append]; simp only [List.length_cons, List.length_nil]; omega))⟩, by (show O.length - (i + 1) < O.length - i); omega⟩
 have hc9b := hc9
 try simp only [zbb] at hc9
 refine wp_exit ?_
 refine hK3 _ _ ?_
 refine wp_seq_k (fun K18 hK18 => ?_)
 refine wp_region_lit ?_
 refine l_q rfl rfl (q_moveS rfl) ?_
 refine l_q rfl rfl (q_assignS rfl) ?_
 refine l_nil ?_
 refine hK18 _ _ ?_
 refine wp_ret ?_
 refine c_ret1 rfl rfl ?_
 have hqq : Q = toL O k := by rw [hQ, List.take_of_length_le (by omega)]
 subst hqq
 exact ⟨_, _, rfl, ⟨_, _, rfl, rfl⟩, hS6⟩
end Go.Proofs.Yteojpdijmnpmgaa
namespace Go.Proofs.Yteojpdijmnpmgaa
open Go.RowKit
attribute [local irreducible] Oper.wp Sem.run Code.wp wpList wpAnyO callFunc execOp Calls
attribute [local irreducible] toU short rencs renc rowE encRow rightB zig unzig decRw rightL risB lastN bitsOf nodesTo readL recB ofL sends getT delT setT waL waE waN waR apL apE decF vot2 votesF doneF hearF replayF replayR rdB rdE scan nums hearG askF numB staT toL kindV pickN
set_option maxHeartbeats 1000000 in
set_option maxRecDepth 100000 in
theorem alive13_ok (w : World) : Calls Try.prog 11 #[] w (PostR w fun v => v = .bool true) := by
 have hS := St.start w
 refine c_enter Try.func11 rfl rfl rfl ?_
 refine wp_seq_k (fun K1 hK1 => ?_)
 refine wp_region_lit ?_
 refine l_q rfl rfl (q_assignB rfl) ?_
 refine l_nil ?_
 refine hK1 _ _ ?_
 refine wp_seq_k (fun K2 hK2 => ?_)
 refine wp_region_lit ?_
 refine l_e rfl (fun K hK => ?_)
 refine e_call (by kernel_rfl) (dNew_ok _) rfl (after_N hS (fun v3 G3 w3 hv3 hS3 => ?_))
 clear hS
 obtain ⟨k3, rfl, rfl⟩ := hv3
 have hS4 : St _ _ [dk k3 none 0 [] 0 0] _ := hS3; clear hS3
 refine hK _ _ ?_; clear hK K
 have hS5 := hS4.fz0; clear hS4
 refine l_e rfl (fun K hK => ?_)
 have hS7 := hS5.fr1; clear hS5
 refine e_call (by kernel_rfl) (open_ok (2 : Int) (by decide) _ _ _ [] 0 0 Bytes.nil (by first | omega | (simp only [zll] <;> omega)) (by first | omega | (simp only [zll] <;> omega)) _ (by first | omega | (simp only [zll] <;> omega)) (by rw [scan_nil]; exact Nat.zero_le _) (by rw [scan_nil]; show (replayR [] (0, [])).1 ≤ 65536; rw [replayR_nil]; exact Nat.zero_le _) _ (St.begin (Γ := [_, _]) hS7)) rfl (after_M (Γ1 := [_, _]) hS7 (fun v6 G6 w6 hv6 hS6 => ?_))
 clear hS7
 obtain ⟨k6, kw6, mb6, wa6, wc6, inc6, T6, rs6, da6, dc6, g6, rfl, rfl, hle6, hT6, hst6, hrs6, hrl6⟩ := hv6
 have hS8 : St _ _ [co k6 kw6 (2 : Int) inc6 0 mb6 none [] 0 T6, wk kw6 k3 wa6 wc6 rs6, dk k3 da6 dc6 (recL ([].take (scan [] 0).2) [0, (inc6 : Int)]) 0 ((recL ([].take (scan [] 0).2) [0, (inc6 : Int)]).length), .fz g6] _ := hS6; clear hS6
 refine hK _ _ ?_; clear hK K
 have hsn0 : scan [] 0 = ([], 0) := scan_nil 0
 rw [hsn0, replayR_nil] at hst6
 have hi0 : inc6 = 0 := congrArg Prod.fst hst6
 have hT0 : T6 = [] := abs_nil (congrArg Prod.snd hst6)
 rw [hsn0] at hrl6
 subst hi0 hT0
 obtain ⟨l0, hl0e⟩ : ∃ l0, l0 = recL [] [0, 0] := ⟨_, rfl⟩
 have hS9 : St _ _ [co k6 kw6 (2 : Int) 0 0 mb6 none [] 0 [], _, dk k3 da6 dc6 l0 0 l0.length, .fz g6] _ := hS8.cast (by rw [hl0e, hsn0]; rfl); clear hS8
 obtain ⟨hl0, hd0, hlen0⟩ := disk0 hl0e
 have hrl6' : rs6.length ≤ 1 := hrl6
 refine l_q rfl rfl (q_move rfl) ?_
 refine l_q rfl rfl (q_extract rfl rfl) ?_
 refine l_q rfl rfl (q_extract rfl rfl) ?_
 refine l_q rfl rfl (q_assignP rfl) ?_
 refine l_q rfl rfl (q_assignI rfl) ?_
 refine l_nil ?_
 refine hK2 _ _ ?_
 refine wp_seq_k (fun K10 hK10 => ?_)
 refine wp_seq_k (fun K11 hK11 => ?_)
 refine wp_region_lit ?_
 refine l_q rfl rfl (q_moveI rfl) ?_
 refine l_q rfl rfl (q_neq rfl rfl) ?_
 refine l_q rfl rfl (q_moveB rfl) ?_
 refine l_on rfl rfl (by decide) ?_
 refine l_q rfl rfl (q_moveP rfl) ?_
 refine l_on rfl rfl (by decide) ?_
 refine l_q rfl rfl (q_peq rfl (by kernel_rfl)) ?_
 refine l_q rfl rfl (q_pickF rfl (by decide) rfl) ?_
 refine l_nil ?_
 refine hK11 _ _ ?_
 refine c_condF rfl rfl ?_
 refine wp_skip ?_
 refine hK10 _ _ ?_
 refine wp_seq_k (fun K13 hK13 => ?_)
 refine wp_region_lit ?_
 refine l_q rfl rfl (q_moveP rfl) ?_
 refine l_e rfl (fun K hK => ?_)
 have hS15 := hS9.fr3; clear hS9
 have hS16 := hS15.fr1; clear hS15
 refine e_call (by kernel_rfl) (begin_ok k6 kw6 (2 : Int) 0 0 mb6 none [] 0 [] TOk.nil g6 LOk.nil (by first | omega | (simp only [zll] <;> omega)) (2 : Int) (by first | omega | (simp only [zll] <;> omega)) (by first | omega | (simp only [zll] <;> omega)) (by decide) (numB0 _).symm _ (St.begin (Γ := [_, _]) hS16)) rfl (after_M (Γ1 := [_, _]) hS16 (fun v14 G14 w14 hv14 hS14 => ?_))
 clear hS16
 obtain ⟨oa14, oc14, O14, T14, g14, rfl, rfl, hle14, hO14, hT14, hab14, hOe14⟩ := hv14
 have hS17 : St _ _ [co k6 kw6 (2 : Int) 0 (0 + 1) mb6 oa14 O14 oc14 T14, .fz g14, _, _] _ := hS14; clear hS14
 have hR14_2 := RsOk.mono hrs6 hle14
 refine hK _ _ ?_; clear hK K
 obtain ⟨b14, eN14⟩ := abs_one (hab14.trans (set_nil _ _))
 subst eN14
 have eM14 := los_nil hOe14
 subst eM14
 refine l_q rfl rfl (q_move rfl) ?_
 refine l_q rfl rfl (q_extract rfl rfl) ?_
 refine l_q rfl rfl (q_extract rfl rfl) ?_
 refine l_q rfl rfl (q_assignI rfl) ?_
 refine l_q rfl rfl (q_assignI rfl) ?_
 refine l_nil ?_
 refine hK13 _ _ ?_
 refine wp_seq_k (fun K18 hK18 => ?_)
 refine wp_region_lit ?_
 refine l_q rfl rfl (q_moveP rfl) ?_
 refine l_q rfl rfl (q_moveI rfl) ?_
 refine l_e rfl (fun K hK => ?_)
 refine e_buildSlice1 (e := 3) (zv := .int .i64 0) (xs := [_, _]) hS17 (by kernel_rfl) (by kernel_rfl) (by kernel_rfl) rfl rfl rfl rfl (allone (by repeat' (first | exact trivial | refine ⟨by first | rfl | assumption, ?_⟩))) rfl (fun b19 w19 (hS19 : St _ _ [.blk b19 (.cells #[.int .i64 (0 : Int), .int .i64 (1 : Int)] 3), co k6 kw6 (2 : Int) 0 (0 + 1) mb6 oa14 [] oc14 [((2 : Int), b14, zeroTx)], .fz g14, _, _] _) => ?_)
 clear hS17
 have hS19o : St _ _ [.ow 3 1 (some ⟨b19, 0, none⟩) 2 2 (iv [(0 : Int), (1 : Int)]), _, .fz g14, _, _] _ := hS19.blkOw' (i := 0) (m := 2) (size := 1) (xs := iv [(0 : Int), (1 : Int)]) rfl rfl rfl (by decide); clear hS19
 refine hK _ _ ?_; clear hK K
 refine l_e rfl (fun K hK => ?_)
 have hS21 := hS19o.fr2; clear hS19o
 have hS22 := hS21.fr2; clear hS21
 obtain ⟨g23, hg23, hG23⟩ := St.rogO (Γ1 := [_, _]) (i := 0) hS22 rfl
 refine e_call (by kernel_rfl) (ask_any k6 kw6 (2 : Int) 0 (0 + 1) mb6 oa14 [] oc14 [((2 : Int), b14, zeroTx)] hT14 g14 hO14 (by first | omega | (simp only [zll] <;> omega)) (2 : Int) [(0 : Int), (1 : Int)] 2 (by first | omega | (simp only [zll] <;> omega)) (by first | omega | (simp only [zll] <;> omega)) (some ⟨b19, 0, none⟩) 2 _ _ hg23 hG23 (St.begin (Γ := [_, _]) hS22)) rfl (after_M (Γ1 := [_, _]) hS22 (fun v20 G20 w20 hv20 hS20 => ?_))
 clear hS22
 obtain ⟨a20, oa20, oc20, O20, T20, g20, rfl, rfl, hle20, hO20, hT20, hE20⟩ := hv20
 have hS24 : St _ _ [co k6 kw6 (2 : Int) 0 (0 + 1) mb6 oa20 O20 oc20 T20, .fz g20, _, _, _] _ := hS20; clear hS20
 have hR20_3 := RsOk.mono hR14_2 hle20
 refine hK _ _ ?_; clear hK K
 obtain ⟨ea20, eT20, eO20⟩ := val3 hE20 (ask_one (u := 3) rfl rfl of01)
 subst ea20
 obtain ⟨b20, eN20⟩ := abs_one eT20
 subst eN20
 rw [nodes3] at eO20
 have eO20 : O20.map Lo.l = [Lr.mk 1 2 0 2 (nodesTo 3 16), Lr.mk 1 2 1 2 (nodesTo 3 16)] := eO20.trans (by unfold sends; rfl)
 have hol20 := los_len eO20
 have hol20 : O20.length = 2 := hol20
 refine l_q rfl rfl (q_assignI rfl) ?_
 refine l_nil ?_
 refine hK18 _ _ ?_
 refine wp_seq_k (fun K25 hK25 => ?_)
 refine wp_region_lit ?_
 refine l_q rfl rfl (q_moveP rfl) ?_
 refine l_e rfl (fun K hK => ?_)
 refine e_call (by kernel_rfl) (out_ok k6 kw6 (2 : Int) 0 (0 + 1) mb6 oa20 O20 oc20 [((2 : Int), b20, (Tx.mk 3 zeroTx.yes zeroTx.read true zeroTx.com zeroTx.tell zeroTx.ticks))] hT20 g20 hO20 (by first | omega | (simp only [zll] <;> omega)) _ (St.begin (Γ := [_, _]) hS24)) rfl (after_M (Γ1 := [_, _]) hS24 (fun v26 G26 w26 hv26 hS26 => ?_))
 clear hS24
 obtain ⟨rfl, rfl⟩ := hv26
 have hS27 : St _ _ [.ow 42 5 oa20 O20.length oc20 (List.flatMap lo O20), co k6 kw6 (2 : Int) 0 (0 + 1) mb6 none [] 0 [((2 : Int), b20, (Tx.mk 3 zeroTx.yes zeroTx.read true zeroTx.com zeroTx.tell zeroTx.ticks))], .fz g20, _, _, _] _ := hS26; clear hS26
 refine hK _ _ ?_; clear hK K
 refine l_q rfl rfl (q_assignS rfl) ?_
 refine l_nil ?_
 refine hK25 _ _ ?_
 refine wp_seq_k (fun K28 hK28 => ?_)
 refine wp_region_lit ?_
 refine l_q rfl rfl (q_moveI rfl) ?_
 refine l_q rfl rfl (q_eql rfl rfl) ?_
 refine l_q rfl rfl (q_moveB rfl) ?_
 refine l_on rfl rfl (by decide) ?_
 refine l_q rfl rfl (q_moveI rfl) ?_
 refine l_on rfl rfl (by decide) ?_
 refine l_q rfl rfl (q_eql rfl rfl) ?_
 refine l_q rfl rfl (q_pickT rfl (by decide) rfl) ?_
 refine l_q rfl rfl (q_moveB rfl) ?_
 refine l_on rfl rfl (by decide) ?_
 refine l_q rfl rfl (q_moveI rfl) ?_
 refine l_on rfl rfl (by decide) ?_
 refine l_q rfl rfl (q_eql rfl rfl) ?_
 refine l_q rfl rfl (q_pickT rfl (by decide) rfl) ?_
 refine l_q rfl rfl (q_moveB rfl) ?_
 refine g_splitL (t := 39) rfl (fun hg29 => ?_) (fun hg29 => ?_)
 have hg29b := hg29
 try simp only [zbb] at hg29
 refine l_on rfl rfl hg29b ?_
 refine l_q rfl rfl (q_moveS rfl) ?_
 refine l_on rfl rfl hg29b ?_
 refine l_q rfl rfl (q_lenSl (e := 42) rfl (by kernel_rfl)) ?_
 refine l_on rfl rfl hg29b ?_
 refine l_q rfl rfl (q_eql rfl rfl) ?_
 refine l_q rfl rfl (q_pickT rfl hg29b rfl) ?_
 refine l_q rfl rfl (q_moveB rfl) ?_
 refine g_splitL (t := 44) rfl (fun hg30 => ?_) (fun hg30 => ?_)
 have hg30b := hg30
 try simp only [zbb] at hg30
 refine l_on rfl rfl hg30b ?_
 refine l_q rfl rfl (q_moveS rfl) ?_
 refine l_on rfl rfl hg30b ?_
 refine l_q rfl rfl (q_ixG (e := 42) (m := 5) (j := 1) rfl rfl (by kernel_rfl) (by kernel_rfl) (by first | rfl | omega) (by omega) (hS27.owG (i := 0) rfl) (by rw [rows_len (c := lo) (m := 5) (fun _ => rfl)]; first | omega | (simp only [zll] <;> omega))) ?_
 refine l_on rfl rfl hg30b ?_
 refine l_q rfl rfl (q_fieldG (ft := 3) (o := 2) rfl (by kernel_rfl)) ?_
 refine l_on rfl rfl hg30b ?_
 obtain ⟨x31, hx31⟩ : ∃ x, (O20)[1]? = some x := ⟨_, List.getElem?_eq_getElem (by first | omega | (simp only [zll] <;> omega) | (simp <;> omega))⟩
 have hlx_x31 := (hO20 x31 (List.mem_of_getElem? hx31)).2
 refine l_q rfl rfl (q_load1 rfl (by kernel_rfl) (SlG.cell (hS27.owG (i := 0) rfl) (Gle.refl _) (row_at hx31 (c := lo) (m := 5) (fun _ => rfl) (j := 2) rfl))) ?_
 have hl1 := los_at eO20 hx31
 have hl1 : Lr.mk 1 2 1 2 (nodesTo 3 16) = x31.l := Option.some.inj hl1
 have hlt : x31.l.t = 1 := by rw [← hl1]
 have hlk : x31.l.k = 1 := by rw [← hl1]
 refine l_on rfl rfl hg30b ?_
 refine l_q rfl rfl (q_eql rfl rfl) ?_
 refine l_q rfl rfl (q_pickT rfl hg30b rfl) ?_
 refine l_q rfl rfl (q_moveB rfl) ?_
 refine g_splitL (t := 51) rfl (fun hg32 => ?_) (fun hg32 => ?_)
 have hg32b := hg32
 try simp only [zbb] at hg32
 refine l_on rfl rfl hg32b ?_
 refine l_q rfl rfl (q_moveS rfl) ?_
 refine l_on rfl rfl hg32b ?_
 refine l_q rfl rfl (q_ixG (e := 42) (m := 5) (j := 1) rfl rfl (by kernel_rfl) (by kernel_rfl) (by first | rfl | omega) (by omega) (hS27.owG (i := 0) rfl) (by rw [rows_len (c := lo) (m := 5) (fun _ => rfl)]; first | omega | (simp only [zll] <;> omega))) ?_
 refine l_on rfl rfl hg32b ?_
 refine l_q rfl rfl (q_fieldG (ft := 40) (o := 0) rfl (by kernel_rfl)) ?_
 refine l_on rfl rfl hg32b ?_
 refine l_q rfl rfl (q_load1 rfl (by kernel_rfl) (SlG.cell (hS27.owG (i := 0) rfl) (Gle.refl _) (row_at hx31 (c := lo) (m := 5) (fun _ => rfl) (j := 0) rfl))) ?_
 refine l_on rfl rfl hg32b ?_
 refine l_q rfl rfl (q_eql rfl rfl) ?_
 refine l_q rfl rfl (q_pickT rfl hg32b rfl) ?_
 refine l_q rfl rfl (q_moveB rfl) ?_
 refine g_splitL (t := 58) rfl (fun hg33 => ?_) (fun hg33 => ?_)
 have hg33b := hg33
 try simp only [zbb] at hg33
 refine l_on rfl rfl hg33b ?_
 refine l_q rfl rfl (q_moveP rfl) ?_
 refine l_on rfl rfl hg33b ?_
 refine l_q rfl rfl (q_moveI rfl) ?_
 refine l_on rfl rfl hg33b ?_
 refine l_e rfl (fun K hK => ?_)
 have hS35 := hS27.fr2; clear hS27
 have hS36 := hS35.fr2; clear hS35
 refine e_call (by kernel_rfl) (state_any k6 kw6 (2 : Int) 0 (0 + 1) mb6 none [] 0 [((2 : Int), b20, (Tx.mk 3 zeroTx.yes zeroTx.read true zeroTx.com zeroTx.tell zeroTx.ticks))] hT20 g20 LOk.nil (by first | omega | (simp only [zll] <;> omega)) (2 : Int) _ (St.begin (Γ := [_, _]) hS36)) rfl (after_M (Γ1 := [_, _]) hS36 (fun v34 G34 w34 hv34 hS34 => ?_))
 clear hS36
 obtain ⟨a34, rfl, rfl, hE34⟩ := hv34
 have hS37 : St _ _ [_, .fz g20, _, _, _, _] _ := hS34; clear hS34
 refine hK _ _ ?_; clear hK K
 have hst34 := hE34.symm.trans (sta_one rfl)
 refine l_on rfl rfl hg33b ?_
 refine l_q rfl rfl (q_eql rfl rfl) ?_
 refine l_q rfl rfl (q_pickT rfl hg33b rfl) ?_
 refine l_q rfl rfl (q_assignB rfl) ?_
 refine l_nil ?_
 refine hK28 _ _ ?_
 refine wp_ret ?_
 refine c_ret1 rfl rfl ?_
 first | exact ⟨_, rfl, rfl, hS37.drop⟩ | exact ⟨_, rfl, congrArg Value.bool (decide_eq_true (by omega)), hS37.drop⟩
 have hg33b := hg33
 try simp only [zbb] at hg33
 exfalso; first | omega | exact hg33 trivial | exact absurd hg33 (by decide)
 have hg32b := hg32
 try simp only [zbb] at hg32
 exfalso; first | omega | exact hg32 trivial | exact absurd hg32 (by decide)
 have hg30b := hg30
 try simp only [zbb] at hg30
 exfalso; first | omega | exact hg30 trivial | exact absurd hg30 (by decide)
 have hg29b := hg29
 try simp only [zbb] at hg29
 exfalso; first | omega | exact hg29 trivial | exact absurd hg29 (by decide)
end Go.Proofs.Yteojpdijmnpmgaa
namespace Go.Proofs.Yteojpdijmnpmgaa
open Go.RowKit
theorem ofL_pair {L : List Int} {u : Nat} (h : ofL L = (u, true)) : L.Pairwise (· < ·) ∧ risB (-1) L = true ∧ bitsOf L = u := by
  have h3 := (ofL_facts h).1
  have hr : risB (-1) L = true := by
    cases hr : risB (-1) L with
    | true => rfl
    | false => rw [ofL_no hr] at h; exact Bool.noConfusion (congrArg Prod.snd h)
  rw [ofL_yes hr] at h
  injection h with h1 h2
  refine ⟨?_, hr, h1⟩
  rw [← h3]; exact nodes_rise u 16
theorem bt_bits {L : List Int} (hb : ∀ x ∈ L, 0 ≤ x ∧ x < 16) (hp : L.Pairwise (· < ·)) (m : Nat) : bt (bitsOf L) m ↔ ((m : Nat) : Int) ∈ L := by
  obtain ⟨h1, h2⟩ := nodes_bits 16 L (fun x hx => hb x hx) hp
  constructor
  · intro h
    rw [← h1]
    exact nodes_mem.2 ⟨m, bt_lt h2 h, rfl, h⟩
  · intro h
    rw [← h1] at h
    obtain ⟨k, _, hk, hbk⟩ := nodes_mem.1 h
    have : m = k := by omega
    rw [this]; exact hbk
theorem bits_lt16 {L : List Int} (hb : ∀ x ∈ L, 0 ≤ x ∧ x < 16) (hp : L.Pairwise (· < ·)) : bitsOf L < 65536 := (nodes_bits 16 L (fun x hx => hb x hx) hp).2
end Go.Proofs.Yteojpdijmnpmgaa
namespace Go.Proofs.Yteojpdijmnpmgaa
open Go.RowKit
theorem vote_some {nd : Int} {m : Nat} {t : Tx} (hc : t.com = false) (hm : m < 16) (hn : 0 ≤ nd ∧ nd < 16) (hb : bt t.nodes m) (hb2 : ¬bt (t.yes ||| t.read) m) (he : ¬(t.yes ||| (1 * 2 ^ m)) ||| t.read = t.nodes) (O : List Lr) (l : List Nat) (s : Nat) : hearG nd ⟨2, ((m : Nat) : Int), nd, nd, []⟩ [(nd, t)] O l s = (0, [(nd, ⟨t.nodes, t.yes ||| (1 * 2 ^ m), t.read, t.asked, t.com, t.tell, t.ticks⟩)], O, l, s) := by
  rw [hearG_one (by omega) hm hn, he_v1 (get_one nd t) hc (by omega), vo_3 (fun h => ?_) rfl, v2_ok (t := ⟨t.nodes, t.yes ||| (1 * 2 ^ m), t.read, t.asked, t.com, t.tell, t.ticks⟩) (fun h => he h.1), set_one, dec_1 (t := ⟨t.nodes, t.yes ||| (1 * 2 ^ m), t.read, t.asked, t.com, t.tell, t.ticks⟩) he]
  rcases h with h | h
  · exact and_one.1 h hb
  · exact h (and_one.2 hb2)
theorem or_pos {a m : Nat} : ¬a ||| (1 * 2 ^ m) = 0 := fun h => by
  have h1 : bt (a ||| (1 * 2 ^ m)) m := bt_or.2 (.inr (bt_one.2 rfl))
  rw [h] at h1; exact bt_zero _ h1
theorem vote_all {nd : Int} {m : Nat} {t : Tx} (hc : t.com = false) (hm : m < 16) (hn : 0 ≤ nd ∧ nd < 16) (hb : bt t.nodes m) (hb2 : ¬bt (t.yes ||| t.read) m) (he : (t.yes ||| (1 * 2 ^ m)) ||| t.read = t.nodes) (hy : t.yes < 65536) (O : List Lr) {l : List Nat} (hl : l.length ≤ 1045000) (s : Nat) : hearG nd ⟨2, ((m : Nat) : Int), nd, nd, []⟩ [(nd, t)] O l s = (0, [(nd, ⟨t.yes ||| (1 * 2 ^ m), 0, 0, false, true, t.yes ||| (1 * 2 ^ m), 0⟩)], O ++ sends 5 nd nd (nodesTo (t.yes ||| (1 * 2 ^ m)) 16) 0, recL l [1, nd, ((t.yes ||| (1 * 2 ^ m) : Nat) : Int)], (recL l [1, nd, ((t.yes ||| (1 * 2 ^ m) : Nat) : Int)]).length) := by
  have hy' := or_lt hy (show 1 * 2 ^ m < 65536 by have := pow_le16 hm; omega)
  have hf := (rec_fits (l := l) (ns := [1, nd, ((t.yes ||| (1 * 2 ^ m) : Nat) : Int)]) (Nat.le_of_ble_eq_true rfl) (by intro x hx; simp only [List.mem_cons, List.not_mem_nil, or_false] at hx; rcases hx with rfl | rfl | rfl <;> omega) hl).1
  rw [hearG_one (by omega) hm hn, he_v1 (get_one nd t) hc (by omega), vo_3 (fun h => ?_) rfl, v2_ok (t := ⟨t.nodes, t.yes ||| (1 * 2 ^ m), t.read, t.asked, t.com, t.tell, t.ticks⟩) (fun h => h.2.2 hf), set_one, dec_3 (t := ⟨t.nodes, t.yes ||| (1 * 2 ^ m), t.read, t.asked, t.com, t.tell, t.ticks⟩) he or_pos, set_one]
  rcases h with h | h
  · exact and_one.1 h hb
  · exact h (and_one.2 hb2)
/-- All but one have read: the last one's vote. -/
theorem vote_rlast {nd : Int} {m : Nat} {t : Tx} (hc : t.com = false) (hm : m < 16) (hn : 0 ≤ nd ∧ nd < 16) (hb : bt t.nodes m) (hb2 : ¬bt (t.yes ||| t.read) m) (he : t.yes ||| (t.read ||| (1 * 2 ^ m)) = t.nodes) (hy : t.yes < 65536) (hy0 : ¬t.yes = 0) (O : List Lr) {l : List Nat} (hl : l.length ≤ 1045000) (s : Nat) : hearG nd ⟨4, ((m : Nat) : Int), nd, nd, []⟩ [(nd, t)] O l s = (0, [(nd, ⟨t.yes, 0, 0, false, true, t.yes, 0⟩)], O ++ sends 5 nd nd (nodesTo t.yes 16) 0, recL l [1, nd, ((t.yes : Nat) : Int)], (recL l [1, nd, ((t.yes : Nat) : Int)]).length) := by
  have hf := (rec_fits (l := l) (ns := [1, nd, ((t.yes : Nat) : Int)]) (Nat.le_of_ble_eq_true rfl) (by intro x hx; simp only [List.mem_cons, List.not_mem_nil, or_false] at hx; rcases hx with rfl | rfl | rfl <;> omega) hl).1
  rw [hearG_one (by omega) hm hn, he_v1 (get_one nd t) hc (by omega), vo_4 (fun h => ?_) (by omega) (by omega), v2_ok (t := ⟨t.nodes, t.yes, t.read ||| (1 * 2 ^ m), t.asked, t.com, t.tell, t.ticks⟩) (fun h => h.2.2 hf), set_one, dec_3 (t := ⟨t.nodes, t.yes, t.read ||| (1 * 2 ^ m), t.asked, t.com, t.tell, t.ticks⟩) he hy0, set_one]
  rcases h with h | h
  · exact and_one.1 h hb
  · exact h (and_one.2 hb2)
theorem vote_rall {nd : Int} {m : Nat} {t : Tx} (hc : t.com = false) (hm : m < 16) (hn : 0 ≤ nd ∧ nd < 16) (hb : bt t.nodes m) (hb2 : ¬bt (t.yes ||| t.read) m) (he : t.yes ||| (t.read ||| (1 * 2 ^ m)) = t.nodes) (hy0 : t.yes = 0) (O : List Lr) (l : List Nat) (s : Nat) : hearG nd ⟨4, ((m : Nat) : Int), nd, nd, []⟩ [(nd, t)] O l s = (0, [], O, l, s) := by
  rw [hearG_one (by omega) hm hn, he_v1 (get_one nd t) hc (by omega), vo_4 (fun h => ?_) (by omega) (by omega), v2_ok (t := ⟨t.nodes, t.yes, t.read ||| (1 * 2 ^ m), t.asked, t.com, t.tell, t.ticks⟩) (fun h => h.2.1 hy0), set_one, dec_2 (t := ⟨t.nodes, t.yes, t.read ||| (1 * 2 ^ m), t.asked, t.com, t.tell, t.ticks⟩) he hy0, del_one]
  rcases h with h | h
  · exact and_one.1 h hb
  · exact h (and_one.2 hb2)
theorem vote_rsome {nd : Int} {m : Nat} {t : Tx} (hc : t.com = false) (hm : m < 16) (hn : 0 ≤ nd ∧ nd < 16) (hb : bt t.nodes m) (hb2 : ¬bt (t.yes ||| t.read) m) (he : ¬t.yes ||| (t.read ||| (1 * 2 ^ m)) = t.nodes) (O : List Lr) (l : List Nat) (s : Nat) : hearG nd ⟨4, ((m : Nat) : Int), nd, nd, []⟩ [(nd, t)] O l s = (0, [(nd, ⟨t.nodes, t.yes, t.read ||| (1 * 2 ^ m), t.asked, t.com, t.tell, t.ticks⟩)], O, l, s) := by
  rw [hearG_one (by omega) hm hn, he_v1 (get_one nd t) hc (by omega), vo_4 (fun h => ?_) (by omega) (by omega), v2_ok (t := ⟨t.nodes, t.yes, t.read ||| (1 * 2 ^ m), t.asked, t.com, t.tell, t.ticks⟩) (fun h => he h.1), set_one, dec_1 (t := ⟨t.nodes, t.yes, t.read ||| (1 * 2 ^ m), t.asked, t.com, t.tell, t.ticks⟩) he]
  rcases h with h | h
  · exact and_one.1 h hb
  · exact h (and_one.2 hb2)
/-- A vote that does not count. -/
theorem vote_not {nd k : Int} {m : Nat} {t : Tx} (hk : k = 2 ∨ k = 3 ∨ k = 4) (hc : t.com = false) (hm : m < 16) (hn : 0 ≤ nd ∧ nd < 16) (hb : ¬bt t.nodes m ∨ bt (t.yes ||| t.read) m) (O : List Lr) (l : List Nat) (s : Nat) : hearG nd ⟨k, ((m : Nat) : Int), nd, nd, []⟩ [(nd, t)] O l s = (0, [(nd, t)], O, l, s) := by
  rw [hearG_one (by omega) hm hn, he_v1 (get_one nd t) hc hk, vo_1 ?_]
  rcases hb with h | h
  · exact .inl (and_one.2 h)
  · exact .inr fun h' => and_one.1 h' h
/-- What is committed: who says Yes is told so again. -/
theorem com_yes {nd : Int} {m : Nat} {t : Tx} (hc : t.com = true) (hm : m < 16) (hn : 0 ≤ nd ∧ nd < 16) (O : List Lr) (l : List Nat) (s : Nat) : hearG nd ⟨2, ((m : Nat) : Int), nd, nd, []⟩ [(nd, t)] O l s = (0, [(nd, t)], O ++ [⟨5, nd, ((m : Nat) : Int), nd, []⟩], l, s) := by
  rw [hearG_one (by omega) hm hn, he_c1 (get_one nd t) hc (.inl rfl), nodes_one m hm, sends_single _ _ _ _ _ (by decide)]
theorem com_not {nd k : Int} {m : Nat} {t : Tx} (hk : k = 3 ∨ k = 4) (hc : t.com = true) (hm : m < 16) (hn : 0 ≤ nd ∧ nd < 16) (O : List Lr) (l : List Nat) (s : Nat) : hearG nd ⟨k, ((m : Nat) : Int), nd, nd, []⟩ [(nd, t)] O l s = (0, [(nd, t)], O, l, s) := by
  rw [hearG_one (by omega) hm hn, he_c0 (get_one nd t) hc (by omega) (by omega)]
/-- Such as may be left. -/
def LeftOk (L : List Int) : Prop := (∀ x ∈ L, 0 ≤ x ∧ x < 16) ∧ L.Pairwise (· < ·)
theorem LeftOk.nodes {L : List Int} (h : LeftOk L) : nodesTo (bitsOf L) 16 = L := (nodes_bits 16 L (fun x hx => h.1 x hx) h.2).1
theorem LeftOk.lt {L : List Int} (h : LeftOk L) : bitsOf L < 65536 := bits_lt16 h.1 h.2
theorem LeftOk.cut {L : List Int} (h : LeftOk L) (k : Nat) : LeftOk (L.take k ++ L.drop (k + 1)) := by
  rw [← List.eraseIdx_eq_take_drop_succ]
  exact ⟨fun x hx => h.1 x (List.mem_of_mem_eraseIdx hx), h.2.sublist (List.eraseIdx_sublist _ _)⟩
theorem LeftOk.sub {L : List Int} (h : LeftOk L) {k m : Nat} (hx : L[k]? = some ((m : Nat) : Int)) : bitsOf L ^^^ (bitsOf L &&& (1 * 2 ^ m)) = bitsOf (L.take k ++ L.drop (k + 1)) ∧ bt (bitsOf L) m := by
  have hc := h.cut k
  obtain ⟨hk, he⟩ := List.getElem?_eq_some_iff.1 hx
  have hb : bt (bitsOf L) m := (bt_bits h.1 h.2 m).2 (List.mem_of_getElem? hx)
  refine ⟨bt_ext fun i => ?_, hb⟩
  rw [bt_sub, bt_one, bt_bits h.1 h.2, bt_bits hc.1 hc.2, List.mem_append]
  have hp := List.pairwise_iff_getElem.1 h.2
  constructor
  · rintro ⟨h1, h2⟩
    obtain ⟨j, hj, e⟩ := List.getElem_of_mem h1
    rcases Nat.lt_trichotomy j k with hl | hl | hl
    · exact .inl (List.mem_take_iff_getElem.2 ⟨j, by omega, e⟩)
    · subst hl; exfalso; omega
    · exact .inr (List.mem_drop_iff_getElem.2 ⟨j - (k + 1), by omega, by rw [← e]; congr 1; omega⟩)
  · rintro (h1 | h1)
    · obtain ⟨j, hj, e⟩ := List.mem_take_iff_getElem.1 h1
      have := hp j k (by omega) hk (by omega)
      exact ⟨List.mem_of_mem_take h1, fun hi => by subst hi; omega⟩
    · obtain ⟨j, hj, e⟩ := List.mem_drop_iff_getElem.1 h1
      have := hp k (k + 1 + j) hk (by omega) (by omega)
      have e : L[k + 1 + j]'(by omega) = ((i : Nat) : Int) := e
      exact ⟨List.mem_of_mem_drop h1, fun hi => by subst hi; omega⟩
theorem LeftOk.zero {L : List Int} (h : LeftOk L) : bitsOf L = 0 ↔ L = [] := by
  rw [← nodes_nil h.lt, h.nodes]
end Go.Proofs.Yteojpdijmnpmgaa
namespace Go.Proofs.Yteojpdijmnpmgaa
open Go.RowKit
/-- Whom letters of a kind go to. -/
def toR (L : List Lr) (k : Int) : List Int := (L.filter fun x => decide (x.k = k)).map fun x => x.t
theorem toL_abs (O : List Lo) (k : Int) : toL O k = toR (O.map Lo.l) k := by
  unfold toL toR
  rw [List.filter_map, List.map_map]; rfl
theorem toR_sends (k nd n : Int) (N : List Int) (hk : ¬k = 1) : toR (sends k nd n N 0) k = N ∧ ∀ j, j ≠ k → toR (sends k nd n N 0) j = [] := by
  rw [sends_map _ _ _ _ _ hk]
  constructor
  · unfold toR
    rw [List.filter_eq_self.2 (fun x hx => by obtain ⟨y, _, rfl⟩ := List.mem_map.1 hx; exact decide_eq_true rfl), List.map_map]
    exact List.map_id _
  · intro j hj
    unfold toR
    rw [List.filter_eq_nil_iff.2 (fun x hx => by obtain ⟨y, _, rfl⟩ := List.mem_map.1 hx; simp only [decide_eq_true_eq]; exact fun h => hj h.symm)]; rfl
/-- The votes that count. -/
def upd (k : Int) (m : Nat) (was : Int) (ns Y R : List Int) (N : Bool) : List Int × List Int × Bool :=
  if was = 1 ∧ ((m : Nat) : Int) ∈ ns ∧ ¬((m : Nat) : Int) ∈ Y ∧ ¬((m : Nat) : Int) ∈ R then (if k = 2 then (Y ++ [((m : Nat) : Int)], R, N) else if k = 4 then (Y, R ++ [((m : Nat) : Int)], N) else (Y, R, true)) else (Y, R, N)
theorem up_2 {m : Nat} {was : Int} {ns Y R : List Int} {N : Bool} (h : was = 1 ∧ ((m : Nat) : Int) ∈ ns ∧ ¬((m : Nat) : Int) ∈ Y ∧ ¬((m : Nat) : Int) ∈ R) : upd 2 m was ns Y R N = (Y ++ [((m : Nat) : Int)], R, N) := (if_pos h).trans (if_pos rfl)
theorem up_4 {m : Nat} {was : Int} {ns Y R : List Int} {N : Bool} (h : was = 1 ∧ ((m : Nat) : Int) ∈ ns ∧ ¬((m : Nat) : Int) ∈ Y ∧ ¬((m : Nat) : Int) ∈ R) : upd 4 m was ns Y R N = (Y, R ++ [((m : Nat) : Int)], N) := (if_pos h).trans ((if_neg (by decide)).trans (if_pos rfl))
theorem up_3 {m : Nat} {was : Int} {ns Y R : List Int} {N : Bool} (h : was = 1 ∧ ((m : Nat) : Int) ∈ ns ∧ ¬((m : Nat) : Int) ∈ Y ∧ ¬((m : Nat) : Int) ∈ R) : upd 3 m was ns Y R N = (Y, R, true) := (if_pos h).trans ((if_neg (by decide)).trans (if_neg (by decide)))
theorem up_no {k : Int} {m : Nat} {was : Int} {ns Y R : List Int} {N : Bool} (h : ¬(was = 1 ∧ ((m : Nat) : Int) ∈ ns ∧ ¬((m : Nat) : Int) ∈ Y ∧ ¬((m : Nat) : Int) ∈ R)) : upd k m was ns Y R N = (Y, R, N) := if_neg h
theorem upd_len {k : Int} {m : Nat} {was : Int} {ns Y R Y2 R2 : List Int} {N N2 : Bool} (h : upd k m was ns Y R N = (Y2, R2, N2)) : Y2.length + R2.length ≤ Y.length + R.length + 1 := by
  unfold upd at h
  split at h
  · split at h
    · injection h with h1 h2; injection h2 with h2 h3; subst h1 h2; rw [List.length_append]; show Y.length + 1 + R.length ≤ _; omega
    · split at h
      · injection h with h1 h2; injection h2 with h2 h3; subst h1 h2; rw [List.length_append]; show Y.length + (R.length + 1) ≤ _; omega
      · injection h with h1 h2; injection h2 with h2 h3; subst h1 h2; omega
  · injection h with h1 h2; injection h2 with h2 h3; subst h1 h2; omega
theorem toNat_iff (N : Bool) : N = false ↔ N.toNat = 0 := by cases N <;> decide
theorem neq_tt {p : Prop} [Decidable p] (h : p) : (!(decide p == true)) = false := by rw [decide_eq_true h]; rfl
theorem neq_ff {p : Prop} [Decidable p] (h : ¬p) : (!(decide p == false)) = false := by rw [decide_eq_false h]; rfl
theorem neq_dd {p q : Prop} [Decidable p] [Decidable q] (h : p ↔ q) : (!(decide p == decide q)) = false := by have e : decide p = decide q := decide_eq_decide.2 h; rw [e]; cases decide q <;> rfl
/-- What is left of the transactions behind power. -/
def dT (nd : Int) (A : List (Int × Tx)) : List (Int × Tx) := if staT (getT A nd) = 2 then A else []
theorem dT_one {nd : Int} {t : Tx} (h : t.com = false) : dT nd [(nd, t)] = [] := by unfold dT; rw [sta_one h]; rfl
def V1 (nd : Int) (ns : List Int) (u : Nat) (t : Tx) (Y R : List Int) : Prop :=
  t.nodes = u ∧ t.com = false ∧ t.yes < 65536 ∧ (∀ m, bt t.yes m ↔ ((m : Nat) : Int) ∈ Y) ∧ (∀ m, bt t.read m ↔ ((m : Nat) : Int) ∈ R) ∧ (Y ++ R).Nodup ∧ (∀ x ∈ Y ++ R, x ∈ ns)
def DInv (nd : Int) (ns : List Int) (u : Nat) (A : List (Int × Tx)) (Y R CM AB : List Int) (N : Bool) : Prop :=
  (∃ t, A = [(nd, t)] ∧ V1 nd ns u t Y R ∧ Y.length + R.length < ns.length ∧ N = false ∧ CM = [] ∧ AB = [])
  ∨ (∃ y : Nat, A = [(nd, ⟨y, 0, 0, false, true, y, 0⟩)] ∧ N = false ∧ AB = [] ∧ (∀ x ∈ Y, x ∈ CM) ∧ 0 < Y.length ∧ Y.length + R.length = ns.length)
  ∨ (A = [] ∧ CM = [])
theorem sta_p1 {nd : Int} {t : Tx} (h : t.com = false) : staT (getT [(nd, t)] nd) = 1 := sta_one h
theorem sta_p2 {nd : Int} {y : Nat} : staT (getT [(nd, (⟨y, 0, 0, false, true, y, 0⟩ : Tx))] nd) = 2 := sta_com rfl
theorem sta_p3 {nd : Int} : staT (getT [] nd) = 0 := rfl
theorem DInv.zero {nd : Int} {ns : List Int} {u : Nat} {t : Tx} (h1 : t.nodes = u) (h2 : t.com = false) (h3 : t.yes = 0) (h4 : t.read = 0) (hp : 0 < ns.length) : DInv nd ns u [(nd, t)] [] [] [] [] false :=
  .inl ⟨t, rfl, ⟨h1, h2, by rw [h3]; decide, fun m => by rw [h3]; exact ⟨fun h => absurd h (bt_zero m), fun h => (by cases h)⟩, fun m => by rw [h4]; exact ⟨fun h => absurd h (bt_zero m), fun h => (by cases h)⟩, List.nodup_nil, fun x h => (by cases h)⟩, hp, rfl, rfl, rfl⟩
theorem DInv.checks {nd : Int} {ns : List Int} {u : Nat} {A : List (Int × Tx)} {Y R CM AB : List Int} {N : Bool} (h : DInv nd ns u A Y R CM AB N) :
    (0 < CM.length → Y.length + R.length = ns.length ∧ N = false ∧ 0 < Y.length ∧ AB.length = 0) ∧ (staT (getT A nd) = 2 → ∀ y ∈ Y, y ∈ CM) ∧ (staT (getT A nd) = 0 ∨ staT (getT A nd) = 1 ∨ staT (getT A nd) = 2) := by
  rcases h with ⟨t, rfl, hV, _, _, rfl, rfl⟩ | ⟨y, rfl, rfl, rfl, h1, h2, h3⟩ | ⟨rfl, rfl⟩
  · rw [sta_p1 hV.2.1]
    exact ⟨fun h => absurd h (by decide), fun h => absurd h (by decide), .inr (.inl rfl)⟩
  · rw [sta_p2]; exact ⟨fun _ => ⟨h3, rfl, h2, rfl⟩, fun _ => h1, .inr (.inr rfl)⟩
  · rw [sta_p3]; exact ⟨fun h => absurd h (by decide), fun h => absurd h (by decide), .inl rfl⟩
theorem DInv.power {nd : Int} {ns : List Int} {u : Nat} {A : List (Int × Tx)} {Y R CM AB : List Int} {N : Bool} (h : DInv nd ns u A Y R CM AB N) :
    DInv nd ns u (dT nd A) Y R CM AB N ∧ (staT (getT A nd) = 2 → staT (getT (dT nd A) nd) = 2) ∧ (staT (getT A nd) ≠ 2 → staT (getT (dT nd A) nd) = 0) ∧ dT nd (dT nd A) = dT nd A := by
  rcases h with ⟨t, rfl, hV, h1, h2, h3, h4⟩ | ⟨y, rfl, h⟩ | ⟨rfl, h⟩
  · have hd : dT nd [(nd, t)] = [] := by unfold dT; rw [sta_p1 hV.2.1]; rfl
    rw [hd, sta_p1 hV.2.1]
    exact ⟨.inr (.inr ⟨rfl, h3⟩), fun h => absurd h (by decide), fun _ => rfl, by unfold dT; rw [sta_p3]; rfl⟩
  · have hd : dT nd [(nd, (⟨y, 0, 0, false, true, y, 0⟩ : Tx))] = [(nd, ⟨y, 0, 0, false, true, y, 0⟩)] := by unfold dT; rw [sta_p2]; rfl
    rw [hd, sta_p2]
    exact ⟨.inr (.inl ⟨y, rfl, h⟩), fun _ => rfl, fun h => absurd rfl h, hd⟩
  · have hd : dT nd [] = [] := by unfold dT; rw [sta_p3]; rfl
    rw [hd, sta_p3]
    exact ⟨.inr (.inr ⟨rfl, h⟩), fun h => absurd h (by decide), fun _ => rfl, hd⟩
theorem nd_sub : ∀ {L M : List Int}, L.Nodup → (∀ x ∈ L, x ∈ M) → L.length ≤ M.length ∧ (L.length = M.length → L.Perm M)
  | [], M, _, _ => ⟨Nat.zero_le _, fun h => by rw [List.eq_nil_of_length_eq_zero h.symm]⟩
  | x :: L, M, hn, hs => by
    obtain ⟨h1, h2⟩ := List.nodup_cons.1 hn
    have hx := hs x (.head _)
    have hle := List.length_erase_of_mem hx
    have hpos : 0 < M.length := List.length_pos_of_mem hx
    obtain ⟨i1, i2⟩ := nd_sub (L := L) (M := M.erase x) h2 fun y hy => (List.mem_erase_of_ne (fun e => h1 (by rw [← e]; exact hy))).2 (hs y (.tail _ hy))
    refine ⟨by rw [List.length_cons]; omega, fun h => ?_⟩
    rw [List.length_cons] at h
    exact (List.Perm.cons x (i2 (by omega))).trans (List.perm_cons_erase hx).symm
/-- All have voted just if the bits say so. -/
theorem all_bits {ns Y R : List Int} {u a b : Nat} (hu : ofL ns = (u, true)) (ha : ∀ m, bt a m ↔ ((m : Nat) : Int) ∈ Y) (hb : ∀ m, bt b m ↔ ((m : Nat) : Int) ∈ R) (hn : (Y ++ R).Nodup) (hs : ∀ x ∈ Y ++ R, x ∈ ns) : a ||| b = u ↔ Y.length + R.length = ns.length := by
  obtain ⟨hp, hr, hbu⟩ := ofL_pair hu
  obtain ⟨hun, _, _, hnn, _, _, hx⟩ := ofL_facts hu
  have hlen : (Y ++ R).length = Y.length + R.length := List.length_append
  have hor : ∀ m, bt (a ||| b) m ↔ ((m : Nat) : Int) ∈ Y ++ R := fun m => by rw [bt_or, ha, hb, List.mem_append]
  have hum : ∀ m, bt u m ↔ ((m : Nat) : Int) ∈ ns := fun m => by rw [← hbu]; exact bt_bits hx hp m
  rw [← hlen]
  constructor
  · intro h
    refine ((List.perm_ext_iff_of_nodup hn hnn).2 fun x => ⟨hs x, fun hm => ?_⟩).length_eq
    have h16 := hx x hm
    have e : x = ((x.toNat : Nat) : Int) := by omega
    rw [e] at hm ⊢
    rw [← hor, h, hum]; exact hm
  · intro h
    have hperm : (Y ++ R).Perm ns := (nd_sub hn hs).2 (by omega)
    exact bt_ext fun m => by rw [hor, hum]; exact hperm.mem_iff
theorem one_more {ns Y : List Int} {a m : Nat} (ha : ∀ i, bt a i ↔ ((i : Nat) : Int) ∈ Y) : ∀ i, bt (a ||| (1 * 2 ^ m)) i ↔ ((i : Nat) : Int) ∈ Y ++ [((m : Nat) : Int)] := fun i => by
  rw [bt_or, ha, bt_one, List.mem_append, List.mem_singleton]
  constructor
  · rintro (h | h)
    · exact .inl h
    · exact .inr (by rw [h])
  · rintro (h | h)
    · exact .inl h
    · exact .inr (by omega)
theorem DiskIs.same {l : List Nat} {i : Nat} {T T' : List (Int × Tx)} (h : DiskIs l (i, T)) (e : T = T') : DiskIs l (i, T') := by rw [← e]; exact h
theorem DiskIs.com {l : List Nat} {i : Nat} (h : DiskIs l (i, [])) {nd : Int} (hn : 0 ≤ nd ∧ nd < 16) {y : Nat} (hy : 0 < y ∧ y < 65536) (hl : l.length ≤ 1045000) : DiskIs (recL l [1, nd, ((y : Nat) : Int)]) (i, [(nd, ⟨y, 0, 0, false, true, y, 0⟩)]) ∧ (recL l [1, nd, ((y : Nat) : Int)]).length ≤ l.length + 3382 := by
  have hb : ∀ x ∈ [1, nd, ((y : Nat) : Int)], 0 ≤ x ∧ x ≤ 1099511627776 := by intro x hx; simp only [List.mem_cons, List.not_mem_nil, or_false] at hx; rcases hx with rfl | rfl | rfl <;> omega
  have h1 := h.rec (ns := [1, nd, ((y : Nat) : Int)]) (by simp) (by simp) hb hl
  refine ⟨?_, (rec_grew h.1 (fun x hx => by have := hb x hx; omega)).2.1⟩
  rw [rp_1 (by omega), Int.toNat_natCast] at h1
  exact h1
theorem nodup_add {Y R : List Int} {x : Int} (h : (Y ++ R).Nodup) (h1 : ¬x ∈ Y) (h2 : ¬x ∈ R) : (Y ++ [x] ++ R).Nodup ∧ (Y ++ (R ++ [x])).Nodup := by
  have hp1 : (Y ++ [x] ++ R).Perm (x :: (Y ++ R)) := by rw [List.append_assoc]; exact List.perm_middle
  have hp2 : (Y ++ (R ++ [x])).Perm (x :: (Y ++ R)) := by rw [← List.append_assoc]; exact List.perm_append_singleton _ _
  have hc : (x :: (Y ++ R)).Nodup := List.nodup_cons.2 ⟨fun hm => (List.mem_append.1 hm).elim h1 h2, h⟩
  exact ⟨hp1.nodup_iff.2 hc, hp2.nodup_iff.2 hc⟩
/-- One vote more. -/
theorem dstep {nd : Int} {ns : List Int} {u : Nat} {A : List (Int × Tx)} {Y R CM AB : List Int} {N : Bool} {k : Int} {m i : Nat} {l : List Nat} {Y' R' : List Int} {N' : Bool} (hI : DInv nd ns u A Y R CM AB N) (hu : ofL ns = (u, true)) (hn : 0 ≤ nd ∧ nd < 16) (hm : m < 16) (hk : k = 2 ∨ k = 4 ∨ k = 3)
    (hup : upd k m (staT (getT A nd)) ns Y R N = (Y', R', N')) (hl : l.length ≤ 1045000) (hd : DiskIs l (i, dT nd A)) :
    ∃ A' Ls l', hearG nd ⟨k, ((m : Nat) : Int), nd, nd, []⟩ A [] l l.length = (0, A', Ls, l', l'.length) ∧ DInv nd ns u A' Y' R' (CM ++ toR Ls 5) (AB ++ toR Ls 6) N' ∧ DiskIs l' (i, dT nd A') ∧ l'.length ≤ l.length + 3382 ∧ Ls.length ≤ 16 ∧
      (staT (getT A' nd) = 2 ↔ (staT (getT A nd) = 2 ∨ (staT (getT A nd) = 1 ∧ Y'.length + R'.length = ns.length ∧ N' = false ∧ 0 < Y'.length))) := by
  have h16 : ∀ v, (nodesTo v 16).length ≤ 16 := fun v => nodesTo_len v 16
  rcases hI with ⟨t, rfl, ⟨v1, v2, v3, v4, v5, v6, v7⟩, hlt, rfl, rfl, rfl⟩ | ⟨y, rfl, rfl, rfl, hc, hp, hall⟩ | ⟨rfl, rfl⟩
  · -- all have not voted yet
    have hs1 : staT (getT [(nd, t)] nd) = 1 := sta_p1 v2
    have hd0 : dT nd [(nd, t)] = [] := by unfold dT; rw [hs1]; rfl
    have hum : bt t.nodes m ↔ ((m : Nat) : Int) ∈ ns := by
      obtain ⟨hp, hr, hbu⟩ := ofL_pair hu
      rw [v1, ← hbu]; exact bt_bits (ofL_facts hu).2.2.2.2.2.2 hp m
    rw [hs1] at hup ⊢
    by_cases hc : ((m : Nat) : Int) ∈ ns ∧ ¬((m : Nat) : Int) ∈ Y ∧ ¬((m : Nat) : Int) ∈ R
    · obtain ⟨c1, c2, c3⟩ := hc
      have hcc : (1 : Int) = 1 ∧ ((m : Nat) : Int) ∈ ns ∧ ¬((m : Nat) : Int) ∈ Y ∧ ¬((m : Nat) : Int) ∈ R := ⟨rfl, c1, c2, c3⟩
      have hb : bt t.nodes m := hum.2 c1
      have hb2 : ¬bt (t.yes ||| t.read) m := by rw [bt_or, v4, v5]; exact fun h => h.elim c2 c3
      obtain ⟨n1, n2⟩ := nodup_add v6 c2 c3
      have hss : ∀ x, x ∈ Y ∨ x = ((m : Nat) : Int) ∨ x ∈ R → x ∈ ns := fun x hx => by
        rcases hx with h | h | h
        · exact v7 x (List.mem_append_left _ h)
        · rw [h]; exact c1
        · exact v7 x (List.mem_append_right _ h)
      rcases hk with rfl | rfl | rfl
      · -- yes
        rw [up_2 hcc] at hup
        injection hup with hY hR; injection hR with hR hN; subst hY hR hN
        have hy' := one_more (ns := ns) (m := m) v4
        have hsub : ∀ x ∈ Y ++ [((m : Nat) : Int)] ++ R, x ∈ ns := fun x hx => hss x (by simp only [List.mem_append, List.mem_singleton] at hx; rcases hx with (h | h) | h <;> simp [h])
        have hall := all_bits hu hy' v5 n1 hsub
        by_cases he : (t.yes ||| (1 * 2 ^ m)) ||| t.read = t.nodes
        · have hlen := hall.1 (by rw [he, v1])
          have hyl := or_lt v3 (show 1 * 2 ^ m < 65536 by have := pow_le16 hm; omega)
          have hy0 : 0 < t.yes ||| (1 * 2 ^ m) := Nat.pos_of_ne_zero or_pos
          obtain ⟨hd1, hd2⟩ := DiskIs.com (hd.same hd0) hn ⟨hy0, hyl⟩ hl
          obtain ⟨ht5, ht6⟩ := toR_sends 5 nd nd (nodesTo (t.yes ||| (1 * 2 ^ m)) 16) (by decide)
          refine ⟨_, _, _, vote_all v2 hm hn hb hb2 he v3 [] hl _, .inr (.inl ⟨_, rfl, rfl, ?_, ?_, ?_, hlen⟩), hd1.same ?_, hd2, ?_, ?_⟩
          · rw [List.nil_append, List.nil_append, ht6 6 (by decide)]
          · intro x hx
            rw [List.nil_append, List.nil_append, ht5]
            have hx16 := (ofL_facts hu).2.2.2.2.2.2 x (hsub x (List.mem_append_left _ hx))
            have e : x = ((x.toNat : Nat) : Int) := by omega
            rw [e] at hx ⊢
            exact nodes_mem.2 ⟨_, by omega, rfl, (hy' _).2 hx⟩
          · rw [List.length_append]; simp
          · unfold dT; rw [sta_p2]; rfl
          · rw [List.nil_append, sends_length]; exact h16 _
          · rw [sta_p2]; exact ⟨fun _ => .inr ⟨rfl, hlen, rfl, by rw [List.length_append]; simp⟩, fun _ => rfl⟩
        · have hlen : ¬(Y ++ [((m : Nat) : Int)]).length + R.length = ns.length := fun h => he (by rw [v1]; exact hall.2 h)
          have hle : (Y ++ [((m : Nat) : Int)]).length + R.length ≤ ns.length := by
            have := (nd_sub n1 hsub).1
            rw [List.length_append] at this; exact this
          have hs2 : staT (getT [(nd, (⟨t.nodes, t.yes ||| (1 * 2 ^ m), t.read, t.asked, t.com, t.tell, t.ticks⟩ : Tx))] nd) = 1 := sta_p1 v2
          refine ⟨_, _, l, vote_some v2 hm hn hb hb2 he [] l l.length, .inl ⟨_, rfl, ⟨v1, v2, or_lt v3 (by have := pow_le16 hm; omega), hy', v5, n1, hsub⟩, by omega, rfl, rfl, rfl⟩, hd.same ?_, by omega, by decide, ?_⟩
          · rw [hd0]; unfold dT; rw [hs2]; rfl
          · rw [hs2]; exact ⟨fun h => absurd h (by decide), fun h => by rcases h with h | ⟨_, h, _⟩; exact absurd h (by decide); exact absurd h hlen⟩
      · -- read only
        rw [up_4 hcc] at hup
        injection hup with hY hR; injection hR with hR hN; subst hY hR hN
        have hy' := one_more (ns := ns) (m := m) v5
        have hsub : ∀ x ∈ Y ++ (R ++ [((m : Nat) : Int)]), x ∈ ns := fun x hx => hss x (by simp only [List.mem_append, List.mem_singleton] at hx; rcases hx with h | h | h <;> simp [h])
        have hall := all_bits hu v4 hy' n2 hsub
        by_cases he : t.yes ||| (t.read ||| (1 * 2 ^ m)) = t.nodes
        · have hlen := hall.1 (by rw [he, v1])
          by_cases hy0 : t.yes = 0
          · have hY0 : Y = [] := by
              rcases Y with _ | ⟨x, Y⟩
              · rfl
              · have hx16 := (ofL_facts hu).2.2.2.2.2.2 x (hsub x (List.mem_append_left _ (.head _)))
                have e : x = ((x.toNat : Nat) : Int) := by omega
                have hb := (v4 x.toNat).2 (by rw [← e]; exact .head _)
                rw [hy0] at hb; exact absurd hb (bt_zero _)
            refine ⟨_, _, l, vote_rall v2 hm hn hb hb2 he hy0 [] l l.length, .inr (.inr ⟨rfl, rfl⟩), hd.same ?_, by omega, by decide, ?_⟩
            · rw [hd0]; unfold dT; rw [sta_p3]; rfl
            · rw [sta_p3, hY0]; exact ⟨fun h => absurd h (by decide), fun h => by rcases h with h | ⟨_, _, _, h⟩; exact absurd h (by decide); exact absurd h (by decide)⟩
          · obtain ⟨hd1, hd2⟩ := DiskIs.com (hd.same hd0) hn ⟨Nat.pos_of_ne_zero hy0, v3⟩ hl
            obtain ⟨ht5, ht6⟩ := toR_sends 5 nd nd (nodesTo t.yes 16) (by decide)
            have hYp : 0 < Y.length := by
              rcases Nat.eq_zero_or_pos Y.length with h0 | h0
              · exfalso
                have hY0 := List.eq_nil_of_length_eq_zero h0
                refine hy0 (bt_ext fun i => ?_)
                rw [v4, hY0]; exact ⟨fun h => (by cases h), fun h => absurd h (bt_zero i)⟩
              · exact h0
            refine ⟨_, _, _, vote_rlast v2 hm hn hb hb2 he v3 hy0 [] hl _, .inr (.inl ⟨_, rfl, rfl, ?_, ?_, hYp, hlen⟩), hd1.same ?_, hd2, ?_, ?_⟩
            · rw [List.nil_append, List.nil_append, ht6 6 (by decide)]
            · intro x hx
              rw [List.nil_append, List.nil_append, ht5]
              have hx16 := (ofL_facts hu).2.2.2.2.2.2 x (hsub x (List.mem_append_left _ hx))
              have e : x = ((x.toNat : Nat) : Int) := by omega
              rw [e] at hx ⊢
              exact nodes_mem.2 ⟨_, by omega, rfl, (v4 _).2 hx⟩
            · unfold dT; rw [sta_p2]; rfl
            · rw [List.nil_append, sends_length]; exact h16 _
            · rw [sta_p2]; exact ⟨fun _ => .inr ⟨rfl, hlen, rfl, hYp⟩, fun _ => rfl⟩
        · have hlen : ¬Y.length + (R ++ [((m : Nat) : Int)]).length = ns.length := fun h => he (by rw [v1]; exact hall.2 h)
          have hle : Y.length + (R ++ [((m : Nat) : Int)]).length ≤ ns.length := by
            have := (nd_sub n2 hsub).1
            rw [List.length_append] at this; exact this
          have hs2 : staT (getT [(nd, (⟨t.nodes, t.yes, t.read ||| (1 * 2 ^ m), t.asked, t.com, t.tell, t.ticks⟩ : Tx))] nd) = 1 := sta_p1 v2
          refine ⟨_, _, l, vote_rsome v2 hm hn hb hb2 he [] l l.length, .inl ⟨_, rfl, ⟨v1, v2, v3, v4, hy', n2, hsub⟩, by omega, rfl, rfl, rfl⟩, hd.same ?_, by omega, by decide, ?_⟩
          · rw [hd0]; unfold dT; rw [hs2]; rfl
          · rw [hs2]; exact ⟨fun h => absurd h (by decide), fun h => by rcases h with h | ⟨_, h, _⟩; exact absurd h (by decide); exact absurd h hlen⟩
      · -- no
        rw [up_3 hcc] at hup
        injection hup with hY hR; injection hR with hR hN; subst hY hR hN
        obtain ⟨ht5, ht6⟩ := toR_sends 6 nd nd (nodesTo (t.nodes ^^^ (t.nodes &&& (1 * 2 ^ m))) 16) (by decide)
        refine ⟨_, _, l, vote_no v2 hm hn hb hb2 [] l l.length, .inr (.inr ⟨rfl, ?_⟩), hd.same ?_, by omega, ?_, ?_⟩
        · rw [List.nil_append, List.nil_append, ht6 5 (by decide)]
        · rw [hd0]; unfold dT; rw [sta_p3]; rfl
        · rw [List.nil_append, sends_length]; exact h16 _
        · rw [sta_p3]; exact ⟨fun h => absurd h (by decide), fun h => by rcases h with h | ⟨_, _, h, _⟩; exact absurd h (by decide); cases h⟩
    · rw [up_no (fun h => hc h.2)] at hup
      injection hup with hY hR; injection hR with hR hN; subst hY hR hN
      have hb : ¬bt t.nodes m ∨ bt (t.yes ||| t.read) m := by
        rw [hum, bt_or, v4, v5]
        by_cases h1 : ((m : Nat) : Int) ∈ ns
        · right
          by_cases h2 : ((m : Nat) : Int) ∈ Y
          · exact .inl h2
          · by_cases h3 : ((m : Nat) : Int) ∈ R
            · exact .inr h3
            · exact absurd ⟨h1, h2, h3⟩ hc
        · exact .inl h1
      refine ⟨_, _, l, vote_not (by omega) v2 hm hn hb [] l l.length, .inl ⟨t, rfl, ⟨v1, v2, v3, v4, v5, v6, v7⟩, hlt, rfl, rfl, rfl⟩, hd, by omega, by decide, ?_⟩
      rw [hs1]; exact ⟨fun h => absurd h (by decide), fun h => by rcases h with h | ⟨_, h, _⟩; exact absurd h (by decide); omega⟩
  · -- committed
    rw [sta_p2] at hup ⊢
    rw [up_no (fun h => absurd h.1 (by decide))] at hup
    injection hup with hY hR; injection hR with hR hN; subst hY hR hN
    rcases hk with rfl | hk
    · refine ⟨_, _, l, com_yes rfl hm hn [] l l.length, .inr (.inl ⟨y, rfl, rfl, rfl, ?_, hp, hall⟩), hd, by omega, Nat.le_of_ble_eq_true rfl, ?_⟩
      · exact fun x hx => List.mem_append_left _ (hc x hx)
      · rw [sta_p2]; exact ⟨fun _ => .inl rfl, fun _ => rfl⟩
    · refine ⟨_, _, l, com_not (by omega) rfl hm hn [] l l.length, .inr (.inl ⟨y, rfl, rfl, rfl, ?_, hp, hall⟩), hd, by omega, Nat.le_of_ble_eq_true rfl, ?_⟩
      · exact fun x hx => List.mem_append_left _ (hc x hx)
      · rw [sta_p2]; exact ⟨fun _ => .inl rfl, fun _ => rfl⟩
  · -- over
    rw [sta_p3] at hup ⊢
    rw [up_no (fun h => absurd h.1 (by decide))] at hup
    injection hup with hY hR; injection hR with hR hN; subst hY hR hN
    rcases hk with rfl | hk
    · refine ⟨_, _, l, hear_none1 (.inl rfl) hm hn [] l l.length, .inr (.inr ⟨rfl, rfl⟩), hd, by omega, Nat.le_of_ble_eq_true rfl, ?_⟩
      rw [sta_p3]; exact ⟨fun h => absurd h (by decide), fun h => by rcases h with h | ⟨h, _⟩ <;> exact absurd h (by decide)⟩
    · refine ⟨_, _, l, hear_none0 (by omega) (by omega) hm hn [] l l.length, .inr (.inr ⟨rfl, rfl⟩), hd, by omega, by decide, ?_⟩
      rw [sta_p3]; exact ⟨fun h => absurd h (by decide), fun h => by rcases h with h | ⟨h, _⟩ <;> exact absurd h (by decide)⟩
end Go.Proofs.Yteojpdijmnpmgaa
namespace Go.Proofs.Yteojpdijmnpmgaa
open Go.RowKit
theorem DiskIs.again {l : List Nat} {i : Nat} {T : List (Int × Tx)} (h : DiskIs l (i, T)) (hl : l.length ≤ 1045000) (hi : i ≤ 1000000) : DiskIs (recL l [0, ((i : Nat) : Int)]) (i + 1, T) :=
  h.rec (ns := [0, ((i : Nat) : Int)]) (Nat.le_of_ble_eq_true rfl) (Nat.le_of_ble_eq_true rfl) (by intro x hx; simp only [List.mem_cons, List.not_mem_nil, or_false] at hx; rcases hx with rfl | rfl <;> omega) hl
theorem again_len {l : List Nat} {i : Nat} {T : List (Int × Tx)} (h : DiskIs l (i, T)) (hi : i ≤ 1000000) (z : Nat) : (recL l [0, ((i : Nat) : Int)]).length ≤ l.length + 3382 := (rec_grew h.1 (by intro x hx; simp only [List.mem_cons, List.not_mem_nil, or_false] at hx; rcases hx with rfl | rfl <;> omega)).2.1
attribute [local irreducible] Oper.wp Sem.run Code.wp wpList wpAnyO callFunc execOp Calls
attribute [local irreducible] toU short rencs renc rowE encRow rightB zig unzig decRw rightL risB lastN bitsOf nodesTo readL recB ofL sends getT delT setT waL waE waN waR apL apE decF vot2 votesF doneF hearF replayF replayR rdB rdE scan nums hearG askF numB staT toL kindV pickN
end Go.Proofs.Yteojpdijmnpmgaa
namespace Go.Proofs.Yteojpdijmnpmgaa
open Go.RowKit Go.ChangeShapes Go.WideShapes Go.Deep
theorem slG_of {W : World} {a : Addr} : ∀ {xs : List Value}, (∀ j u, xs[j]? = some u → W.cell? (a.add j) = some u) → SlG (hw W) (some a) xs
  | [], _ => .inl rfl
  | v :: xs, h => by
    have h0 := h 0 v rfl
    obtain ⟨b, off, sp⟩ := a
    have hsp : sp = none := by
      cases sp with
      | none => rfl
      | some q => simp [World.cell?, Addr.add] at h0; split at h0 <;> simp at h0
    subst hsp
    rw [addr_add] at h0
    unfold World.cell? at h0
    split at h0
    · rename_i arr T fz hb
      refine .inr ⟨b, off, arr, T, fz, rfl, hb, fun j u hu => ?_⟩
      have h1 := h j u hu
      rw [addr_add] at h1
      simpa [World.cell?, hb] using h1
    · cases h0
theorem all_of {α : Type} {Q : Nat → α → Prop} : ∀ (n : Nat), (∀ i, i < n → ∃ x, Q i x) → ∃ l : List α, l.length = n ∧ ∀ i x, l[i]? = some x → Q i x
  | 0, _ => ⟨[], rfl, fun i x h => by simp at h⟩
  | n + 1, h => by
    obtain ⟨l, hl, hq⟩ := all_of n fun i hi => h i (by omega)
    obtain ⟨x, hx⟩ := h n (by omega)
    refine ⟨l ++ [x], by rw [List.length_append, hl]; rfl, fun i y hy => ?_⟩
    by_cases hi : i < n
    · rw [List.getElem?_append_left (by omega)] at hy; exact hq i y hy
    · have hin : i = n := by
        have := (List.getElem?_eq_some_iff.1 hy).1
        rw [List.length_append, hl] at this
        simp at this; omega
      subst hin
      rw [List.getElem?_append_right (by omega), hl, Nat.sub_self] at hy
      simp at hy; subst hy; exact hx
section
variable {H : Type} {enc : TypeId × Value → H} {P : Program} {W : World} {base : Nat} {spare : Nat → Bool} {held : Bool}
/-- A slice whose elements are known by their cells. -/
theorem opn_rows {α : Type} {f : α → List Value} {Q : α → Prop} {t e : TypeId} {C : Nat} (ht : P.underlying t = some (.slice e)) (hC : P.cellsOf e = C) (hp : 0 < C) (hf : ∀ x, (f x).length = C)
    (helem : ∀ n c y, DataW.trod enc P W base spare held n e c = some y → ∃ x, c = f x ∧ Q x) {fuel : Nat} {ad : Option Addr} {len cap : Nat} {x : DataW H × List MemPlace} (h : DataW.trod enc P W base spare held fuel t [.slice ad len cap] = some x) :
    ∃ l : List α, l.length = len ∧ SlG (hw W) ad (List.flatMap f l) ∧ (∀ x ∈ l, Q x) ∧ len ≤ cap ∧ cap ≤ maxLen := by
  rcases open_slice ht h with ⟨h0, _⟩ | ⟨a, len', cap', m, n, D, Pl, hcs, hb, hl, hm, hmm, hx, hi⟩
  · injection h0 with h0 _; injection h0 with h1 h2 h3; subst h1 h2 h3
    refine ⟨[], rfl, .inl rfl, ?_, Nat.le_refl _, Nat.zero_le _⟩
    intro x hx; cases hx
  · injection hcs with hcs _; injection hcs with h1 h2 h3; subst h1 h2 h3
    have hlm : len ≤ m := by rw [hmm]; split <;> omega
    obtain ⟨l, hll, hq⟩ := all_of (Q := fun i x => (∀ j u, (f x)[j]? = some u → W.cell? (a.add (i * C + j)) = some u) ∧ Q x) len fun i hi' => by
      obtain ⟨cs', hc, ht'⟩ := hi i (by omega)
      rw [hC] at hc
      obtain ⟨_, hcl, hat⟩ := World.cells?_some hc
      obtain ⟨x, rfl, hqx⟩ := helem _ _ _ ht'
      refine ⟨x, fun j u hu => ?_, hqx⟩
      have hj : j < C := by rw [← hf x]; exact (List.getElem?_eq_some_iff.1 hu).1
      rw [← Go.Deep.add_add, hat j hj, hu]
    refine ⟨l, hll, slG_of fun j u hu => ?_, fun x hx => ?_, hl, hm⟩
    · have hjl : j < (List.flatMap f l).length := (List.getElem?_eq_some_iff.1 hu).1
      rw [rows_len hf, hll] at hjl
      have hdiv : j / C < len := Nat.div_lt_of_lt_mul (by rw [Nat.mul_comm]; exact hjl)
      obtain ⟨x, hx⟩ : ∃ x, l[j / C]? = some x := ⟨_, List.getElem?_eq_getElem (by omega)⟩
      have hmod : j % C < (f x).length := by rw [hf]; exact Nat.mod_lt _ hp
      have h1 := row_at hx hf (j := j % C) (List.getElem?_eq_getElem hmod)
      rw [Nat.mul_comm, Nat.div_add_mod] at h1
      rw [hu] at h1
      have h2 := (hq _ _ hx).1 (j % C) u (by rw [List.getElem?_eq_getElem hmod, ← h1])
      rw [Nat.mul_comm, Nat.div_add_mod] at h2
      exact h2
    · obtain ⟨i, hi', rfl⟩ := List.getElem_of_mem hx
      exact (hq i _ (List.getElem?_eq_getElem hi')).2
theorem iv_rows (l : List Int) : List.flatMap (fun x : Int => [Value.int .i64 x]) l = iv l := by
  induction l with
  | nil => rfl
  | cons a l ih => rw [List.flatMap_cons, ih]; rfl
/-- A struct's fields, one cell each. -/
theorem opn_fields {e : TypeId} {fs : Array Field} {n : Nat} {c : List Value} {y : DataW H × List MemPlace} (he : P.underlying e = some (.struct fs)) (hone : oneCellFields P fs = true) (hC : P.cellsOf e = fs.size) (h : DataW.trod enc P W base spare held n e c = some y) :
    c.length = fs.size ∧ ∃ n', ∀ (j : Nat) (f : Field) (v : Value), fs[j]? = some f → c[j]? = some v → ∃ z, DataW.trod enc P W base spare held n' f.type [v] = some z := by
  obtain ⟨xs, n', _, _, hl, hxl, hf⟩ := DataW.trod_struct he h
  rw [hC] at hl
  refine ⟨hl, n', fun j f v hj hv => ?_⟩
  obtain ⟨ho, hk⟩ := hone_of hone j f hj
  have h1 := hf j f hj
  have hjl : j < fs.size := (Array.getElem?_eq_some_iff.1 hj).1
  rw [ho, hk, List.drop_eq_getElem_cons (by omega)] at h1
  have hv' : c[j]'(by omega) = v := (List.getElem?_eq_some_iff.1 hv).2
  rw [hv'] at h1
  exact ⟨_, h1.trans (List.getElem?_eq_getElem (by omega))⟩
theorem bnd_i64 {k : Int} (h : (Lit.int .i64 k).wf = true) : -9223372036854775808 ≤ k ∧ k ≤ 9223372036854775807 := by
  simp [Lit.wf, IntKind.min, IntKind.max, IntKind.bits, IntKind.signed] at h
  omega
end
end Go.Proofs.Yteojpdijmnpmgaa
namespace Go.Proofs.Yteojpdijmnpmgaa
open Go.RowKit Go.ChangeShapes Go.WideShapes
theorem own7 : ownKnob Try.prog.godebug = none := by kernel_rfl
theorem laidOut7 : laidOutB Try.prog = true := by kernel_rfl
section
variable {H : Type} {enc : TypeId × Value → H} {W : World} {base : Nat} {spare : Nat → Bool} {held : Bool}
theorem opn_ints {fuel : Nat} {ad : Option Addr} {len cap : Nat} {x : DataW H × List MemPlace} (h : DataW.trod enc Try.prog W base spare held fuel 22 [.slice ad len cap] = some x) : ∃ l : List Int, l.length = len ∧ SlG (hw W) ad (iv l) ∧ (∀ x ∈ l, -9223372036854775808 ≤ x ∧ x ≤ 9223372036854775807) ∧ len ≤ cap := by
  obtain ⟨l, h1, h2, h3, h4, h5⟩ := opn_rows (α := Int) (f := fun x => [Value.int .i64 x]) (Q := fun x => -9223372036854775808 ≤ x ∧ x ≤ 9223372036854775807) Try.underlying22 (by kernel_rfl) (by decide) (fun _ => rfl) (fun n c y hy => by
    obtain ⟨k, rfl, _, hw⟩ := DataW.trod_int Try.underlying3 hy
    exact ⟨k, rfl, bnd_i64 hw⟩) h
  rw [iv_rows] at h2
  exact ⟨l, h1, h2, h3, h4⟩
theorem sl_of {n : Nat} {v : Value} {e : TypeId} {t : TypeId} {y : DataW H × List MemPlace} (ht : Try.prog.underlying t = some (.slice e)) (h : DataW.trod enc Try.prog W base spare held n t [v] = some y) : ∃ ad len cap, v = .slice ad len cap := by
  rcases Go.Deep.open_slice ht h with ⟨h0, _⟩ | ⟨a, len, cap, _, _, _, _, h0, _⟩
  · injection h0 with h0 _; exact ⟨_, _, _, h0⟩
  · injection h0 with h0 _; exact ⟨_, _, _, h0⟩
def VoB (v : Vo) : Prop := -9223372036854775808 ≤ v.nd ∧ -9223372036854775808 ≤ v.k
theorem opn_vote {n : Nat} {c : List Value} {y : DataW H × List MemPlace} (h : DataW.trod enc Try.prog W base spare held n 45 c = some y) : ∃ v, c = vo v ∧ VoB v := by
  obtain ⟨hl, n', hf⟩ := opn_fields (fs := _) Try.underlying45 (by kernel_rfl) (by kernel_rfl) h
  match c, hl with
  | [v0, v1, v2], _ =>
    obtain ⟨z0, t0⟩ := hf 0 _ _ rfl rfl
    obtain ⟨z1, t1⟩ := hf 1 _ _ rfl rfl
    obtain ⟨z2, t2⟩ := hf 2 _ _ rfl rfl
    obtain ⟨k0, e0, _, w0⟩ := DataW.trod_int Try.underlying3 t0
    obtain ⟨k1, e1, _, w1⟩ := DataW.trod_int Try.underlying3 t1
    obtain ⟨b, e2, _⟩ := DataW.trod_bool Try.underlying4 t2
    injection e0 with e0 _; injection e1 with e1 _; injection e2 with e2 _
    subst e0 e1 e2
    exact ⟨⟨k0, k1, b⟩, rfl, (bnd_i64 w0).1, (bnd_i64 w1).1⟩
theorem opn_votes {fuel : Nat} {ad : Option Addr} {len cap : Nat} {x : DataW H × List MemPlace} (h : DataW.trod enc Try.prog W base spare held fuel 23 [.slice ad len cap] = some x) : ∃ l : List Vo, l.length = len ∧ SlG (hw W) ad (List.flatMap vo l) ∧ (∀ a ∈ l, VoB a) ∧ len ≤ cap := by
  obtain ⟨l, h1, h2, h3, h4, _⟩ := opn_rows (C := 3) (f := vo) (Q := VoB) Try.underlying23 (by kernel_rfl) (by decide) (fun _ => rfl) (fun n c y hy => opn_vote hy) h
  exact ⟨l, h1, h2, h3, h4⟩
theorem opn_case0 {n : Nat} {c : List Value} {y : DataW H × List MemPlace} (h : DataW.trod enc Try.prog W base spare held n 25 c = some y) : ∃ ns na nc vs va vc keep, c = [.slice na (List.length ns) nc, .slice va (List.length vs) vc, .int .i64 keep] ∧ SlG (hw W) na (iv ns) ∧ SlG (hw W) va (List.flatMap vo vs) ∧ (∀ v ∈ vs, VoB v) ∧ -9223372036854775808 ≤ keep := by
  obtain ⟨hl, n', hf⟩ := opn_fields (fs := _) Try.underlying25 (by kernel_rfl) (by kernel_rfl) h
  match c, hl with
  | [v0, v1, v2], _ =>
    obtain ⟨z0, t0⟩ := hf 0 _ _ rfl rfl
    obtain ⟨z1, t1⟩ := hf 1 _ _ rfl rfl
    obtain ⟨z2, t2⟩ := hf 2 _ _ rfl rfl
    obtain ⟨na, nl, nc, rfl⟩ := sl_of Try.underlying22 t0
    obtain ⟨va, vl, vc, rfl⟩ := sl_of Try.underlying23 t1
    obtain ⟨ns, rfl, hN, _, _⟩ := opn_ints t0
    obtain ⟨vs, rfl, hV, hvs, _⟩ := opn_votes t1
    obtain ⟨k2, e2, _, w2⟩ := DataW.trod_int Try.underlying3 t2
    injection e2 with e2 _
    subst e2
    exact ⟨ns, na, nc, vs, va, vc, k2, rfl, hN, hV, hvs, (bnd_i64 w2).1⟩
set_option maxRecDepth 100000 in
theorem case_agg {r : Reach} {b0 : Nat} {v : Value} (hv : Value.okWide Try.prog W r b0 25 v) : ∃ cs : Array Value, v = .agg cs := by
  obtain ⟨cs, h, _⟩ := okWide_struct (fs := _) Try.underlying25 hv
  exact ⟨cs, h⟩
set_option maxRecDepth 100000 in
/-- A case by value. -/
theorem opn_case {r : Reach} {b0 : Nat} {v : Value} {d : DataW H} {p : List MemPlace} (hv : Value.okWide Try.prog W r b0 25 v) (h : DataW.Trod enc Try.prog W base spare held 25 v d p) : ∃ ns na nc vs va vc keep, v = .agg #[.slice na (List.length ns) nc, .slice va (List.length vs) vc, .int .i64 keep] ∧ SlG (hw W) na (iv ns) ∧ SlG (hw W) va (List.flatMap vo vs) ∧ (∀ v ∈ vs, VoB v) ∧ -9223372036854775808 ≤ keep := by
  obtain ⟨cs, rfl⟩ := case_agg hv
  obtain ⟨fu, h⟩ := h
  obtain ⟨ns, na, nc, vs, va, vc, keep, ha, hok⟩ := opn_case0 h
  refine ⟨ns, na, nc, vs, va, vc, keep, ?_, hok⟩
  rw [← ha]; rfl
end
end Go.Proofs.Yteojpdijmnpmgaa
