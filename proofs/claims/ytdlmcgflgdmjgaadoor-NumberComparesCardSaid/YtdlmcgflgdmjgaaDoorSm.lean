/- Strings: bytes seen as strings, comparisons. Over any program. -/
import Derived.Test.YtdlmcgflgdmjgaaDoorSk
import Derived.Laws.BytesArg
import Derived.Laws.Strings
import Derived.Laws.IdiomStrings
set_option linter.unusedVariables false
set_option linter.unusedSimpArgs false
namespace Go.Proofs.YtdlmcgflgdmjgaaDoor
open Go.RowKit
/-- Bytes as a string. -/
def bs (l : List Nat) : ByteArray := ⟨(l.map UInt8.ofNat).toArray⟩
theorem bs_size (l : List Nat) : (bs l).size = l.length := by simp [bs, ByteArray.size]
theorem bs_data (l : List Nat) : (bs l).data.toList = l.map UInt8.ofNat := rfl
theorem bs_nums (l : List Nat) : strOfNums (l.map fun (x : Nat) => ((x : Nat) : Int)) = bs l := by
  unfold strOfNums bs
  rw [List.map_map]
  congr 2
theorem u8_inj {a b : Nat} (ha : a < 256) (hb : b < 256) (h : UInt8.ofNat a = UInt8.ofNat b) : a = b := by
  have := congrArg UInt8.toNat h
  simp only [UInt8.toNat_ofNat'] at this
  omega
theorem bs_inj : ∀ {l m : List Nat}, Bytes l → Bytes m → bs l = bs m → l = m := by
  intro l m hl hm h
  have h2 : l.map UInt8.ofNat = m.map UInt8.ofNat := congrArg (fun z : ByteArray => z.data.toList) h
  induction l generalizing m with
  | nil => cases m with
    | nil => rfl
    | cons b m => cases h2
  | cons a l ih => cases m with
    | nil => cases h2
    | cons b m =>
      simp only [List.map_cons, List.cons.injEq] at h2
      rw [u8_inj (hl a (.head _)) (hm b (.head _)) h2.1, ih (fun x hx => hl x (.tail _ hx)) (fun x hx => hm x (.tail _ hx)) (by unfold bs; rw [h2.2]) h2.2]
/-- The order of bytes. -/
def bl : List Nat → List Nat → Bool
  | _, [] => false
  | [], _ :: _ => true
  | a :: x, b :: y => decide (a < b) || (decide (a = b) && bl x y)
theorem bl_less : ∀ {l m : List Nat}, Bytes l → Bytes m → Op.bytesLess (l.map UInt8.ofNat) (m.map UInt8.ofNat) = bl l m
  | [], [], _, _ => rfl
  | a :: l, [], _, _ => rfl
  | [], b :: m, _, _ => rfl
  | a :: l, b :: m, hl, hm => by
    have ha := hl a (.head _); have hb := hm b (.head _)
    simp only [List.map_cons, Op.bytesLess, bl]
    rw [bl_less (fun x hx => hl x (.tail _ hx)) (fun x hx => hm x (.tail _ hx))]
    congr 1
    · apply decide_eq_decide.2
      rw [UInt8.lt_iff_toNat_lt]; simp only [UInt8.toNat_ofNat']
      omega
    · congr 1
      rw [Bool.eq_iff_iff]
      simp only [beq_iff_eq, decide_eq_true_eq]
      exact ⟨u8_inj ha hb, fun h => by rw [h]⟩
section
variable {P : Program} {ops : Array Oper} {Q : Exit → Act → World → Prop} {n : Nat} {f : Nat → Value} {w w0 : World} {D : Nat → Prop} {Γ : List Ch} {K : Act → World → Prop}
variable {d : Option Tmp} {dd : Nat} {x y : Operand} {ty T T' Tx : TypeId} {pos : String} {aft : Array Edge} {g : Option (Nat × Bool)}
def u8B (P : Program) (t : TypeId) : Bool := match P.underlying t with
  | some (.slice e) => match P.underlying e with | some (.int .u8) => true | _ => false
  | _ => false
def stB (P : Program) (t : TypeId) : Bool := match P.underlying t with | some .string => true | _ => false
theorem u8B_und {t : TypeId} (h : u8B P t = true) : ∃ e, P.underlying t = some (.slice e) ∧ P.underlying e = some (.int .u8) := by
  unfold u8B at h
  cases hu : P.underlying t with
  | none => simp [hu] at h
  | some d =>
    cases d <;> simp [hu] at h
    rename_i e
    cases he : P.underlying e with
    | none => simp [he] at h
    | some d2 =>
      cases d2 <;> simp [he] at h
      rename_i k
      cases k <;> simp at h
      exact ⟨e, rfl, he⟩
theorem stB_und {t : TypeId} (h : stB P t = true) : P.underlying t = some .string := by
  unfold stB at h
  cases hu : P.underlying t with
  | none => simp [hu] at h
  | some d => cases d <;> simp [hu] at h; rfl
theorem q_convBS {ad : Option Addr} {len cap : Nat} {l : List Nat} (hx : ev n f x = .slice ad len cap) (hG : SlG (hw w) ad (bv l)) (hl : l.length = len) (h1 : u8B P T = true) (h2 : stB P T' = true) : Run P n f ⟨d, .convert T T' x, ty, pos, aft, g⟩ w (.string (bs l)) := by
  obtain ⟨e, hu, he⟩ := u8B_und h1
  have hd := stB_und h2
  have key : (convert T T' (.slice ad len cap)).run P w = .ok (.string (bs l)) w := by
    rcases hG with h0 | ⟨b, off, arr, T2, fz, rfl, hb, hxx⟩
    · have hl0 : l = [] := by cases l with | nil => rfl | cons a l => cases h0
      subst hl0; subst hl
      cases ad with
      | none => exact run_convert_bytes_nil w T e hu he _ cap T' hd
      | some a0 =>
        rw [run_convert_bytes_string w T T' e _ _ cap hu he hd, run_bytesToString w a0 _ cap [] rfl]
        rfl
    · have := run_convert_bytes_arg w T e hu he b off len cap (l.map fun (x : Nat) => ((x : Nat) : Int)) (by rw [List.length_map]; exact hl) (fun i hi => by
        have hil : i < l.length := by omega
        rw [cell_blk hb (hxx i _ (bv_at (List.getElem?_eq_getElem hil)))]
        simp [List.getD, List.getElem?_eq_getElem hil]) T' hd
      rw [bs_nums] at this; exact this
  simp [Run, execOp, hx, key, Sem.run]
theorem stringEq {l m : List Nat} (hl : Bytes l) (hm : Bytes m) : ((bs l).toList == (bs m).toList) = decide (l = m) := by
  rw [ByteArray.toList_eq, ByteArray.toList_eq, bs_data, bs_data, Bool.eq_iff_iff]
  simp only [beq_iff_eq, decide_eq_true_eq]
  exact ⟨fun h => bs_inj hl hm (by unfold bs; rw [h]), fun h => by rw [h]⟩
theorem stringLt {l m : List Nat} (hl : Bytes l) (hm : Bytes m) : Op.bytesLess (bs l).toList (bs m).toList = bl l m := by
  rw [ByteArray.toList_eq, ByteArray.toList_eq, bs_data, bs_data, bl_less hl hm]
section
variable {l m : List Nat}
theorem q_str_eql (hx : ev n f x = .string (bs l)) (hy : ev n f y = .string (bs m)) (hl : Bytes l) (hm : Bytes m) : Run P n f ⟨d, .binOp .eql T x y T', ty, pos, aft, g⟩ w (.bool (decide (l = m))) := by
  simp [Run, execOp, hx, hy, eqGuard, binOp, Op.stringOp, Sem.run, stringEq hl hm]
theorem q_str_neq (hx : ev n f x = .string (bs l)) (hy : ev n f y = .string (bs m)) (hl : Bytes l) (hm : Bytes m) : Run P n f ⟨d, .binOp .neq T x y T', ty, pos, aft, g⟩ w (.bool (!decide (l = m))) := by
  simp [Run, execOp, hx, hy, eqGuard, binOp, Op.stringOp, Sem.run, stringEq hl hm]
theorem q_str_lss (hx : ev n f x = .string (bs l)) (hy : ev n f y = .string (bs m)) (hl : Bytes l) (hm : Bytes m) : Run P n f ⟨d, .binOp .lss T x y T', ty, pos, aft, g⟩ w (.bool (bl l m)) := by
  simp [Run, execOp, hx, hy, eqGuard, binOp, Op.stringOp, Sem.run, stringLt hl hm]
theorem q_str_geq (hx : ev n f x = .string (bs l)) (hy : ev n f y = .string (bs m)) (hl : Bytes l) (hm : Bytes m) : Run P n f ⟨d, .binOp .geq T x y T', ty, pos, aft, g⟩ w (.bool (!bl l m)) := by
  simp [Run, execOp, hx, hy, eqGuard, binOp, Op.stringOp, Sem.run, stringLt hl hm]
theorem q_str_leq (hx : ev n f x = .string (bs l)) (hy : ev n f y = .string (bs m)) (hl : Bytes l) (hm : Bytes m) : Run P n f ⟨d, .binOp .leq T x y T', ty, pos, aft, g⟩ w (.bool (bl l m || decide (l = m))) := by
  simp [Run, execOp, hx, hy, eqGuard, binOp, Op.stringOp, Sem.run, stringLt hl hm, stringEq hl hm]
theorem q_str_gtr (hx : ev n f x = .string (bs l)) (hy : ev n f y = .string (bs m)) (hl : Bytes l) (hm : Bytes m) : Run P n f ⟨d, .binOp .gtr T x y T', ty, pos, aft, g⟩ w (.bool (!(bl l m || decide (l = m)))) := by
  simp [Run, execOp, hx, hy, eqGuard, binOp, Op.stringOp, Sem.run, stringLt hl hm, stringEq hl hm]
theorem q_lenStrB {rest : List TypeId} (hx : ev n f x = .string (bs l)) (h : stB P T = true) : Run P n f ⟨d, .call ⟨.builtin .len, List.toArray [x], List.toArray (T :: rest)⟩, ty, pos, aft, g⟩ w (.int .i64 ((l.length : Nat) : Int)) := by
  have hu := stB_und h
  simp [Run, execOp, resolve, invoke, builtin, Builtin.len_, hx, run_und hu, goInt, Sem.run, bs_size]
theorem ex_conv {vx v : Value} {w' : World} (hx : ev n f x = vx) (hr : (convert T T' vx).run P w = .ok v w') : (execOp (ev n f) ⟨some dd, .convert T T' x, ty, pos, aft, g⟩).run P w = .ok (.value v) w' := by
  simp only [execOp, hx, Sem.run_bind, hr, Result.andThen_ok]; rfl
/-- []byte("..") of a literal: the row is marked, and read alone from then on. -/
theorem e_convSS {i m cap : Nat} {ad : Option Addr} {xs : List Value} {e : TypeId} (hS : St w0 D Γ w) (hx : ev n f x = .slice ad m cap) (hi : Γ[i]? = some (.ow e 1 ad m cap xs)) (h1 : u8B P T = true) (hn : 0 < m)
    (h : ∀ g w', SlG g ad xs → St w0 D (Γ.set i (.fz g)) w' → K (E n (up f dd (.slice ad m cap))) w') :
    Oper.wp P ⟨some dd, .convert T T x, ty, pos, aft, g⟩ (E n f) w K Q := by
  obtain ⟨e', hu, he'⟩ := u8B_und h1
  obtain ⟨k1, k2, k3, k4⟩ := (hS.sat.get hi).1
  rcases k4 with ⟨rfl, hc⟩ | ⟨gb, off, cur, rfl, hg, hle, hxx⟩
  · omega
  · have hsh : w.shape? gb = some (e, cur.size) := by simp [World.shape?, hg]
    have hfr : ((w.freeze ⟨gb, cur.size, none⟩ 1).heap[gb]? : Option Obj) = some (.cells cur e (cur.size, cur.size + 1)) := by
      unfold World.freeze
      rw [if_neg (by decide)]
      simp [Array.getElem?_modify, hg]
    have hr : (convert T T (.slice (some ⟨gb, off, none⟩) m cap)).run P w = .ok (.slice (some ⟨gb, off, none⟩) m cap) (w.freeze ⟨gb, cur.size, none⟩ 1) := by
      simp only [convert, Sem.run_bind, run_und hu, Result.andThen_ok]
      simp [run_und he', markStringish, shape, freeze, Sem.run, hsh]
    refine wp_known rfl (ex_conv hx hr) (h (fun k => if k = gb then some (.cells cur e (cur.size, cur.size + 1)) else none) _ (.inr ⟨gb, off, cur, e, _, rfl, if_pos rfl, fun j u hu => ?_⟩) ?_)
    · rw [← hxx, List.getElem?_take] at hu
      split at hu
      · rw [List.getElem?_drop] at hu
        simpa using hu
      · cases hu
    · refine hS.putAt (gb := gb) hi ⟨_, rfl, rfl⟩ (fun k hk => ?_) (by simp [World.freeze]) (by simp [World.freeze]) (by simp [World.freeze]) (by simp [World.freeze]) (fun k hk => by simp [World.freeze, Array.getElem?_modify, Ne.symm hk]) ?_
      · obtain ⟨o, hk⟩ := hk
        by_cases hkk : k = gb
        · exact hkk
        · simp [hkk] at hk
      · intro k o hk
        by_cases hkk : k = gb
        · subst hkk; simp at hk; subst hk; exact hfr
        · simp [hkk] at hk
/-- []byte(s): a new row, that is read alone. -/
theorem e_convSB {e : TypeId} (hS : St w0 D Γ w) (hx : ev n f x = .string (bs l)) (h1 : stB P T = true) (h2 : slB P T' = some e) (he : u8B P T' = true) (hl : Bytes l) (hlm : l.length ≤ maxLen)
    (h : ∀ ad cap g w', SlG g ad (bv l) → l.length ≤ cap → St w0 D (.fz g :: Γ) w' → K (E n (up f dd (.slice ad l.length cap))) w') :
    Oper.wp P ⟨some dd, .convert T T' x, ty, pos, aft, g⟩ (E n f) w K Q := by
  have hd := stB_und h1
  obtain ⟨e', hu, he'⟩ := u8B_und he
  have hue := und_sl h2
  rw [hu] at hue
  injection hue with hue; injection hue with hue; subst hue
  have hr := run_bytes_of_string (P := P) w T T' e' (bs l) hd hu he'
  have hc1 := grownCap_ge w (bs l).size 0 e'
  rw [bs_size] at hc1
  rw [bs_size] at hr
  refine wp_known rfl (ex_conv hx hr) ?_
  generalize hC : bytesRow (bs l) (grownCap w l.length 0 e') = C at *
  have hcell : ∀ j u, (bv l)[j]? = some u → C[j]? = some u := fun j u hj => by
    rw [← hC]
    unfold bytesRow
    have hjl : j < l.length := by have := (List.getElem?_eq_some_iff.1 hj).1; simpa using this
    rw [Array.getElem?_append_left (by simp [bs]; exact hjl), Array.getElem?_map]
    rw [List.getElem?_map, List.getElem?_eq_getElem hjl] at hj
    have hd2 : (bs l).data[j]? = some (UInt8.ofNat l[j]) := by simp [bs, List.getElem?_eq_getElem hjl]
    rw [hd2]
    simp only [Option.map_some, Option.some.injEq] at hj ⊢
    rw [← hj]
    have := hl l[j] (List.getElem_mem hjl)
    simp only [UInt8.toNat_ofNat']
    congr 1
    omega
  refine h (some ⟨w.heap.size, 0, none⟩) _ (fun k => if k = w.heap.size then some (.cells C e' (C.size, C.size + 1)) else none) _ (.inr ⟨_, 0, C, e', _, rfl, if_pos rfl, fun j u hj => by rw [Nat.zero_add]; exact hcell j u hj⟩) hc1 ?_
  have hg1 : St w0 D (.blk w.heap.size (.cells C e' (C.size, C.size + 1)) :: Γ) (w.drew.alloc (.cells C e' (C.size, C.size + 1))) := hS.alloc _ |>.of_heap rfl rfl rfl rfl
  refine hg1.recast (i := 0) (c' := .fz _) rfl (fun k hk => ?_) fun hsat k o hk => ?_
  · obtain ⟨o, hk⟩ := hk
    by_cases hkk : k = w.heap.size
    · exact hkk
    · simp [hkk] at hk
  · by_cases hkk : k = w.heap.size
    · subst hkk; simp at hk; subst hk; exact hsat
    · simp [hkk] at hk
end
end
end Go.Proofs.YtdlmcgflgdmjgaaDoor
