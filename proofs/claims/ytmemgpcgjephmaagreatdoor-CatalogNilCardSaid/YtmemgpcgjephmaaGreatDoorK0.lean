/- Bytes: Clone, IndexByte, Count. -/
import Derived.Test.YtmemgpcgjephmaaGreatDoorSw
import Derived.Test.YtmemgpcgjephmaaGreatDoorSb
import Derived.Test.YtmemgpcgjephmaaGreatDoorProg
import Derived.Lib.Bytealg
import GoSem.Extern.BytealgIndexByte
import GoSem.Extern.BytealgCount
set_option linter.unusedVariables false
set_option linter.unusedSimpArgs false
namespace Go.Proofs.YtmemgpcgjephmaaGreatDoor
open Go Go.RowKit
abbrev pV (k : Nat) : Value := .pointer (some ⟨k, 0, none⟩)
/-- Lengths, in one. -/
theorem lls : (∀ {α : Type} (a b : List α), (a ++ b).length = a.length + b.length) ∧ (∀ {α β : Type} (f : α → β) (l : List α), (l.map f).length = l.length) ∧ (∀ {α : Type} (a : α) (l : List α), (a :: l).length = l.length + 1) ∧ (∀ {α : Type}, ([] : List α).length = 0) ∧ (∀ {α : Type} (i : Nat) (l : List α), (l.take i).length = min i l.length) ∧ (∀ {α : Type} (i : Nat) (l : List α), (l.drop i).length = l.length - i) ∧ (∀ {α : Type} (l : List α) (i : Nat) (a : α), (l.set i a).length = l.length) :=
  ⟨fun _ _ => List.length_append, fun _ _ => List.length_map _, fun _ _ => List.length_cons, List.length_nil, fun _ _ => List.length_take, fun _ _ => List.length_drop, fun _ _ _ => List.length_set⟩
/-- The first place of a byte; -1: there is none. -/
def idxB (l : List Nat) (c : Nat) : Int := match l.findIdx? (fun x => decide (x = c)) with | some i => (i : Int) | none => -1
theorem idxB_bd (l : List Nat) (c : Nat) : -1 ≤ idxB l c ∧ idxB l c < l.length := by
  unfold idxB
  split
  · rename_i i h
    have := (List.findIdx?_eq_some_iff_getElem.1 h).1
    omega
  · omega
theorem idxB_no {l : List Nat} {c : Nat} (h : idxB l c < 0) : ∀ x ∈ l, x ≠ c := by
  unfold idxB at h
  split at h
  · omega
  · rename_i h2
    intro x hx
    have := List.findIdx?_eq_none_iff.1 h2 x hx
    simpa using this
theorem idxB_at {l : List Nat} {c : Nat} (h : 0 ≤ idxB l c) : ∃ i A B, idxB l c = ((i : Nat) : Int) ∧ l = A ++ c :: B ∧ A.length = i ∧ ∀ x ∈ A, x ≠ c := by
  unfold idxB at h ⊢
  split at h
  · rename_i i h2
    obtain ⟨hi, h3, h4⟩ := List.findIdx?_eq_some_iff_getElem.1 h2
    refine ⟨i, l.take i, l.drop (i + 1), rfl, ?_, by rw [List.length_take]; omega, fun x hx => ?_⟩
    · have : l[i] = c := of_decide_eq_true h3
      rw [← this, ← List.drop_eq_getElem_cons hi, List.take_append_drop]
    · obtain ⟨j, hj, rfl⟩ := List.getElem_of_mem hx
      rw [List.length_take] at hj
      rw [List.getElem_take]
      simpa using h4 j (by omega)
  · omega
theorem idx_rec : ∀ (l : List Nat) (c : Nat), Bytes l → c < 256 → ((List.range l.length).find? fun i => UInt8.ofNat (l.getD i 0) == UInt8.ofNat c) = l.findIdx? (fun x => decide (x = c))
  | [], c, _, _ => rfl
  | a :: l, c, hl, hc => by
    have ha : a < 256 := hl a (.head _)
    rw [List.length_cons, List.range_succ_eq_map, List.find?_cons, List.findIdx?_cons]
    by_cases hac : a = c
    · subst hac; simp
    · have h1 : (UInt8.ofNat ((a :: l).getD 0 0) == UInt8.ofNat c) = false := by
        simp only [List.getD_cons_zero, beq_eq_false_iff_ne, ne_eq]
        exact fun h => hac (u8_inj ha hc h)
      rw [h1]
      simp only [hac, decide_false, Bool.false_eq_true, if_false]
      rw [List.find?_map, ← idx_rec l c (fun x hx => hl x (.tail _ hx)) hc]
      rfl
theorem run_asByte {P : Program} {w : World} {c : Nat} (hc : c < 256) : (Extern.Bytes.asByte (.int .u8 ((c : Nat) : Int))).run P w = .ok (UInt8.ofNat c) w := by
  unfold Extern.Bytes.asByte
  simp [Sem.run]
theorem run_idx {P : Program} {w : World} {l : List Nat} {c : Nat} {ad : Option Addr} {len cap : Nat} (hG : SlG (hw w) ad (bv l)) (hl : l.length = len) (hB : Bytes l) (hc : c < 256) :
    (Extern.BytealgIndexByte.indexByte #[.slice ad len cap, .int .u8 ((c : Nat) : Int)]).run P w = .ok (.int .i64 (idxB l c)) w := by
  show (do
    let b ← Extern.Bytes.bytesOf (.slice ad len cap)
    let c' ← Extern.Bytes.asByte (.int .u8 ((c : Nat) : Int))
    match (List.range b.size).find? fun i => b[i]! == c' with
    | some i => pure (goInt i)
    | none => pure (goInt (-1)) : Sem Value).run P w = _
  simp only [Sem.run_bind, run_bytesOf hG hl, run_asByte hc, Result.andThen_ok, bs_size]
  have h : ((List.range l.length).find? fun i => (bs l)[i]! == UInt8.ofNat c) = l.findIdx? (fun x => decide (x = c)) := by
    rw [← idx_rec l c hB hc]; congr 1; funext i; rw [bs_at]
  rw [h]
  unfold idxB
  cases l.findIdx? (fun x => decide (x = c)) <;> rfl
theorem cnt_rec (c : Nat) (hc : c < 256) : ∀ (l : List Nat) (k : Int), Bytes l → (l.map UInt8.ofNat).foldl (fun n x => if x == UInt8.ofNat c then n + 1 else n) k = k + ((l.count c : Nat) : Int)
  | [], k, _ => by simp
  | a :: l, k, hl => by
    have ha : a < 256 := hl a (.head _)
    rw [List.map_cons, List.foldl_cons, cnt_rec c hc l _ (fun x hx => hl x (.tail _ hx)), List.count_cons]
    by_cases hac : a = c
    · subst hac; simp; omega
    · have h1 : (UInt8.ofNat a == UInt8.ofNat c) = false := by
        simp only [beq_eq_false_iff_ne, ne_eq]; exact fun h => hac (u8_inj ha hc h)
      rw [h1]; simp [hac]
theorem bs_foldl {α : Type} (f : α → UInt8 → α) (k : α) (l : List Nat) : (bs l).foldl f k = (l.map UInt8.ofNat).foldl f k := by
  rw [Lib.foldl_data, bs_data]
theorem run_cnt {P : Program} {w : World} {l : List Nat} {c : Nat} {ad : Option Addr} {len cap : Nat} (hG : SlG (hw w) ad (bv l)) (hl : l.length = len) (hB : Bytes l) (hc : c < 256) :
    (Extern.BytealgCount.count #[.slice ad len cap, .int .u8 ((c : Nat) : Int)]).run P w = .ok (.int .i64 ((l.count c : Nat) : Int)) w := by
  show (do
    let b ← Extern.Bytes.bytesOf (.slice ad len cap)
    let c' ← Extern.Bytes.asByte (.int .u8 ((c : Nat) : Int))
    pure (goInt (b.foldl (fun n x => if x == c' then n + 1 else n) (0 : Nat))) : Sem Value).run P w = _
  simp only [Sem.run_bind, run_bytesOf hG hl, run_asByte hc, Result.andThen_ok, bs_foldl, cnt_rec c hc l _ hB]
  show Result.ok (Value.int .i64 (((0 : Nat) : Int) + _)) w = _
  rw [Int.natCast_zero, Int.zero_add]
attribute [local irreducible] Oper.wp Sem.run Code.wp wpList wpAnyO callFunc execOp Calls

theorem x_idx (args : Array Value) (w : World) : (callFunc 105 args).run Tryz.prog w = ((Extern.BytealgIndexByte.indexByte args).run Tryz.prog w).andThen fun v w' => .ok (.value v) w' := run_callFunc_extern (e := Extern.BytealgIndexByte.indexByte) Tryz.func105 (by kernel_rfl) (by kernel_rfl) (by kernel_rfl) (by kernel_rfl) args w
theorem x_cnt (args : Array Value) (w : World) : (callFunc 96 args).run Tryz.prog w = ((Extern.BytealgCount.count args).run Tryz.prog w).andThen fun v w' => .ok (.value v) w' := run_callFunc_extern (e := Extern.BytealgCount.count) Tryz.func96 (by kernel_rfl) (by kernel_rfl) (by kernel_rfl) (by kernel_rfl) args w
set_option maxRecDepth 100000 in
theorem idx_ok (l : List Nat) (hl : Bytes l) (c : Nat) (hc : c < 256) (n : Nat) (hn : l.length = n) (ad : Option Addr) (cap : Nat) (w : World) (hG : SlG (hw w) ad (bv l)) : Calls Tryz.prog 97 #[.slice ad n cap, .int .u8 ((c : Nat) : Int)] w (PostR w fun v => v = .int .i64 (idxB l c)) := by
  have hS := St.start w
  subst hn
  refine c_enter Tryz.func97 rfl rfl rfl ?_
  refine wp_seq_k (fun K1 hK1 => ?_)
  refine wp_region_lit ?_
  refine l_q rfl rfl (q_assignI rfl) ?_
  refine l_nil ?_
  refine hK1 _ _ ?_
  refine wp_seq_k (fun K2 hK2 => ?_)
  refine wp_region_lit ?_
  refine l_q rfl rfl (q_moveS rfl) ?_
  refine l_q rfl rfl (q_moveI rfl) ?_
  refine l_q rfl rfl (q_ext (vs := [.slice ad l.length cap, .int .u8 ((c : Nat) : Int)]) rfl (by rw [x_idx, run_idx (hG.mono hS.base) rfl hl hc]; rfl)) ?_
  refine l_q rfl rfl (q_assignI rfl) ?_
  refine l_nil ?_
  refine hK2 _ _ ?_
  refine wp_ret ?_
  refine c_ret1 rfl rfl ?_
  exact ⟨_, rfl, rfl, hS.drop⟩

end Go.Proofs.YtmemgpcgjephmaaGreatDoor
