/- law07: what both logs keep in step. -/
import Derived.Test.YtmbbkliekgiolaaVc
import Derived.Test.YtmbbkliekgiolaaH
import Derived.Test.YtmbbkliekgiolaaVs
import Derived.Test.YtmbbkliekgiolaaSp
set_option linter.unusedVariables false
set_option linter.unusedSimpArgs false
namespace Go.Proofs.Ytmbbkliekgiolaa
open Go.RowKit
theorem fIdx_abs {rs rs2 : List Rc} (h : rs2.map Rc.abs = rs.map Rc.abs) (z : Int) : fIdx rs2 z = fIdx rs z := by
  have key : ∀ rs : List Rc, rs.findIdx? (fun r => decide (((r.n : Nat) : Int) = z)) = (rs.map Rc.abs).findIdx? (fun r => decide (((r.1 : Nat) : Int) = z)) := fun rs => by
    rw [List.findIdx?_map]; rfl
  unfold fIdx
  rw [key rs2, key rs, h]
theorem abs_len {rs rs2 : List Rc} (h : rs2.map Rc.abs = rs.map Rc.abs) : rs2.length = rs.length := by have := congrArg List.length h; simpa using this
theorem triR_tri {rs rs2 : List Rc} (h : rs2.map Rc.abs = rs.map Rc.abs) {e : Nat} (hlt : ∀ r ∈ rs, r.n < e) (z : Int) : triR rs2 e z = tri rs e z := by
  unfold triR tri
  rw [fIdx_abs h, abs_len h]
  by_cases hz : z = (e : Int)
  · have : fIdx rs z = -1 := fIdx_no fun j hj q hq => by
      have := hlt q (List.mem_of_getElem? hq); omega
    rw [if_pos hz, if_pos ⟨by omega, hz⟩]
  · rw [if_neg hz, if_neg (fun h => hz h.2)]
theorem vTrimF (k kd : Nat) (ad : Option Addr) (cap : Nat) (rs2 : List Rc) (rs : List Rc) (da : Option Addr) (dc : Nat) (p l q : List Nat) (s : Nat) (hn : rs2.length ≤ 1000000) (hA : Bytes (p ++ l ++ q)) (hb : (p ++ l ++ q).length ≤ 900000000) (hs : s ≤ l.length) {g : Gh} (hR : RsOk g rs2) (hab : rs2.map Rc.abs = rs.map Rc.abs) (hlt : ∀ r ∈ rs, r.n < p.length + l.length)
    (z : Int) (hz0 : -9223372036854775808 ≤ z) (hz1 : z ≤ 9223372036854775807) (w : World) (hS : St w (owns [vk k kd ad cap rs2, rdk kd da dc p l q s]) [vk k kd ad cap rs2, rdk kd da dc p l q s] w) :
    Calls Try.prog 51 #[pV k, .int .i64 z] w (Post w [vk k kd ad cap rs2, rdk kd da dc p l q s] fun v G => ∃ ad' cap' rs' p', v = .int .i64 ((trE rs l p.length s z : Nat) : Int) ∧ G = [vk k kd ad' cap' rs', rdk kd da dc p' (trL rs l p.length s z) q (trS rs l p.length s z)] ∧ p'.length = trB rs l p.length s z ∧ rs'.map Rc.abs = (trR rs l p.length s z).map Rc.abs ∧ Bytes (p' ++ trL rs l p.length s z ++ q) ∧ (p' ++ trL rs l p.length s z ++ q).length ≤ (p ++ l ++ q).length ∧ RsOk g rs') :=
  (vTrim_ok k kd ad cap rs2 da dc p l q s hn hA hb hs z hz0 hz1 w hS).mono fun e w' ⟨v, G, he, ⟨ad', cap', rs', p', l', s', hv, hG, hB, hQ⟩, hS'⟩ => ⟨v, G, he, by
    rw [triR_tri hab hlt] at hv
    unfold trE trL trB trS trR
    by_cases hx : tri rs (p.length + l.length) z < 0
    · rw [if_pos hx] at hv
      obtain ⟨rfl, rfl, rfl, rfl, rfl⟩ := hv
      rw [if_pos hx, if_pos hx, if_pos hx, if_pos hx, if_pos (.inl hx)]
      exact ⟨_, _, _, _, rfl, hG, rfl, hab, hB, hQ, hR⟩
    · rw [if_neg hx] at hv
      obtain ⟨hp, rfl, rfl, rfl, rfl⟩ := hv
      rw [if_neg hx, if_neg hx, if_neg hx, if_neg hx]
      refine ⟨_, _, _, _, rfl, hG, hp, ?_, hB, hQ, ?_⟩
      · by_cases hd : drE p.length s z = 0
        · rw [if_pos hd, if_neg (fun h => h.elim hx (fun h => h hd)), List.map_drop, List.map_drop, hab]
        · rw [if_neg hd, if_pos (.inr hd), hab]
      · split
        · exact hR.drop
        · exact hR, hS'⟩
/-- What holds of both logs and disks between two acts. -/
def PInv (g : Gh) (rs rs2 : List Rc) (p l q : List Nat) (s N : Nat) : Prop := RsOk g rs ∧ RsOk g rs2 ∧ rs2.map Rc.abs = rs.map Rc.abs ∧ Bytes (p ++ l ++ q) ∧ s ≤ l.length ∧ (p ++ l ++ q).length ≤ N ∧ Whole l p.length (rs.map Rc.abs)
theorem PInv.more {g : Gh} {rs rs2 : List Rc} {p l q : List Nat} {s N M : Nat} (h : PInv g rs rs2 p l q s N) (hM : N ≤ M) : PInv g rs rs2 p l q s M := ⟨h.1, h.2.1, h.2.2.1, h.2.2.2.1, h.2.2.2.2.1, Nat.le_trans h.2.2.2.2.2.1 hM, h.2.2.2.2.2.2⟩
theorem abs_mem {rs : List Rc} {r : Rc} (h : r ∈ rs) {R : List (Nat × List Nat)} (hR : rs.map Rc.abs = R) : (r.n, r.b) ∈ R := hR ▸ List.mem_map_of_mem h
theorem whole_len {rs : List Rc} {l : List Nat} {a : Nat} (h : Whole l a (rs.map Rc.abs)) : rs.length ≤ a + l.length := by have := h.len.1; rw [List.length_map] at this; omega
theorem whole_lt {rs : List Rc} {l : List Nat} {a : Nat} (h : Whole l a (rs.map Rc.abs)) : ∀ r ∈ rs, r.n < a + l.length := fun r hr => by
  have := (h.len.2 _ (abs_mem hr rfl)).2; simp only at this; omega
theorem PInv.lt {g : Gh} {rs rs2 : List Rc} {p l q : List Nat} {s N : Nat} (h : PInv g rs rs2 p l q s N) : ∀ r ∈ rs, r.n < p.length + l.length := whole_lt h.2.2.2.2.2.2
theorem PInv.opened {g : Gh} {rs rs2 : List Rc} {p L q : List Nat} {N : Nat} (h1 : RsOk g rs) (h2 : RsOk g rs2) (ha : rs.map Rc.abs = (scan L p.length).1) (hb : rs2.map Rc.abs = (scan L p.length).1) (hB : Bytes (p ++ L.take (scan L p.length).2 ++ q)) (hN : (p ++ L.take (scan L p.length).2 ++ q).length ≤ N) :
    PInv g rs rs2 p (L.take (scan L p.length).2) q (scan L p.length).2 N := by
  have hle := scan_le L.length L p.length (Nat.le_refl _)
  have hl : (L.take (scan L p.length).2).length = (scan L p.length).2 := by rw [List.length_take]; omega
  exact ⟨h1, h2, hb.trans ha.symm, hB, by omega, hN, by rw [ha]; exact whole_scan _ _ _ (Nat.le_refl _)⟩
theorem PInv.synced {g : Gh} {rs rs2 : List Rc} {p l q : List Nat} {s N : Nat} (h : PInv g rs rs2 p l q s N) : PInv g rs rs2 p l q l.length N := ⟨h.1, h.2.1, h.2.2.1, h.2.2.2.1, Nat.le_refl _, h.2.2.2.2.2⟩
theorem whole_wa {l m : List Nat} {b : Nat} {R : List (Nat × List Nat)} (h : Whole l b R) : Whole (waL l m) b (waR R l m b) := by
  unfold waR
  split
  · rename_i hc
    have hap : apL l (fr m) = l ++ fr m := by
      have := hc.2; unfold apE at this; unfold apL
      split at this
      · rename_i hh; exact if_pos hh
      · cases this
    rw [waL, if_pos hc.1, hap]
    exact h.app hc.1
  · rename_i hc
    unfold waL
    split
    · rename_i hm
      have : apL l (fr m) = l := by
        unfold apL
        split
        · rename_i hh; exact absurd ⟨hm, by unfold apE; exact if_pos hh⟩ hc
        · rfl
      rw [this]; exact h
    · exact h
theorem PInv.appended {g g' : Gh} {rs rs2 rs' rs2' : List Rc} {p l q q' m : List Nat} {s N M : Nat} (h : PInv g rs rs2 p l q s N) (h1 : RsOk g' rs') (h2 : RsOk g' rs2') (ha : rs'.map Rc.abs = waR (rs.map Rc.abs) l m p.length) (hb : rs2'.map Rc.abs = waR (rs2.map Rc.abs) l m p.length) (hB : Bytes (p ++ waL l m ++ q')) (hQ : (p ++ waL l m ++ q').length ≤ (p ++ l ++ q).length + m.length + 5) (hM : N + m.length + 5 ≤ M) :
    PInv g' rs' rs2' p (waL l m) q' s M := by
  obtain ⟨_, _, k3, k4, k5, k6, k7⟩ := h
  have hL := waL_len l m
  exact ⟨h1, h2, by rw [ha, hb, k3], hB, by omega, by omega, by rw [ha]; exact whole_wa k7⟩
theorem whole_tr {rs : List Rc} {l : List Nat} {b s : Nat} {z : Int} (h : Whole l b (rs.map Rc.abs)) : Whole (trL rs l b s z) (trB rs l b s z) ((trR rs l b s z).map Rc.abs) := by
  unfold trL trB trR
  by_cases hx : tri rs (b + l.length) z < 0
  · rw [if_pos hx, if_pos hx, if_pos (.inl hx)]; exact h
  · rw [if_neg hx, if_neg hx]
    by_cases hd : drOk b s z
    · have he : drE b s z = 0 := if_pos hd
      rw [drL, drB, if_pos hd, if_pos hd, if_neg (fun h => h.elim hx (fun h => h he)), List.map_drop]
      obtain ⟨i, hi⟩ : ∃ i : Nat, tri rs (b + l.length) z = (i : Int) := ⟨(tri rs (b + l.length) z).toNat, by omega⟩
      rw [hi, Int.toNat_natCast]
      unfold tri at hi
      split at hi
      · rename_i hz
        have hi : rs.length = i := by omega
        subst hi hz
        rw [Int.toNat_natCast, show b + l.length - b = l.length by omega]
        have := h.dropAll
        rwa [List.length_map] at this
      · have hlt := fIdx_lt (rs := rs) (z := z)
        have hil : i < rs.length := by omega
        have hr := List.getElem?_eq_getElem hil
        have hz := (fIdx_rd hi hr).1
        have hm : (rs.map Rc.abs)[i]? = some (rs[i].n, rs[i].b) := by rw [List.getElem?_map, hr]; rfl
        have := h.drop i hm
        rw [← hz, Int.toNat_natCast]
        exact this
    · have he : drE b s z ≠ 0 := by rw [drE, if_neg hd]; decide
      rw [drL, drB, if_neg hd, if_neg hd, if_pos (.inr he)]; exact h
theorem PInv.trimmed {g : Gh} {rs rs2 rs2' : List Rc} {p p' l q : List Nat} {s N : Nat} {z : Int} (h : PInv g rs rs2 p l q s N) (h2 : RsOk g rs2') (hb : rs2'.map Rc.abs = (trR rs l p.length s z).map Rc.abs) (hp : p'.length = trB rs l p.length s z) (hB : Bytes (p' ++ trL rs l p.length s z ++ q)) (hQ : (p' ++ trL rs l p.length s z ++ q).length ≤ (p ++ l ++ q).length) :
    PInv g (trR rs l p.length s z) rs2' p' (trL rs l p.length s z) q (trS rs l p.length s z) N := by
  obtain ⟨k1, _, _, k4, k5, k6, k7⟩ := h
  have hf := tr_fit rs l p.length s z k5
  exact ⟨trR_ok k1 _ _ _ _, h2, hb, hB, by omega, by omega, by rw [hp]; exact whole_tr k7⟩
theorem numN_bd {g : Gh} {rs : List Rc} (h : RsOk g rs) {e : Nat} (he : e ≤ 2000000000) (z : Int) : 0 ≤ numN (nums rs) ((e : Nat) : Int) z ∧ numN (nums rs) ((e : Nat) : Int) z ≤ 2000000000 := by
  unfold numN
  rw [List.getD_eq_getElem?_getD]
  cases hx : (nums rs)[pickN z ((nums rs).length + 1)]? with
  | none => simp only [Option.getD_none]; omega
  | some x =>
    obtain ⟨r, hr, rfl⟩ := nums_at hx
    have := (h r (List.mem_of_getElem? hr)).2.2.2.1
    simp only [Option.getD_some]; omega
theorem sameB_abs {rs rs2 : List Rc} (h : rs2.map Rc.abs = rs.map Rc.abs) : sameB rs rs2 = true := decide_eq_true (by
  have : ∀ rs : List Rc, rs.map (·.n) = (rs.map Rc.abs).map (·.1) := fun rs => by rw [List.map_map]; rfl
  rw [this rs, this rs2, h])
theorem cnt_abs {rs rs2 : List Rc} (h : rs2.map Rc.abs = rs.map Rc.abs) (lim : Nat) : cnt lim rs2 = cnt lim rs := by
  have : ∀ rs : List Rc, cnt lim rs = (rs.map Rc.abs).countP (fun r => decide (r.1 + 5 + r.2.length ≤ lim)) := fun rs => by rw [List.countP_map]; rfl
  rw [this rs, this rs2, h]
/-- A record that stands in the log is read. (Numbers may not stand twice for this.) -/
theorem rd_iff {rs : List Rc} {z : Int} : rdE (rs.map Rc.abs) z = 0 ↔ 0 ≤ fIdx rs z := by
  have hlt := fIdx_lt (rs := rs) (z := z)
  unfold rdE
  by_cases h : fIdx rs z < 0
  · rw [fIdx_no_rd h]
    simp; omega
  · obtain ⟨i, hi⟩ : ∃ i : Nat, fIdx rs z = (i : Int) := ⟨(fIdx rs z).toNat, by omega⟩
    have hil : i < rs.length := by omega
    rw [(fIdx_rd hi (List.getElem?_eq_getElem hil)).2]
    simp; omega

end Go.Proofs.Ytmbbkliekgiolaa
