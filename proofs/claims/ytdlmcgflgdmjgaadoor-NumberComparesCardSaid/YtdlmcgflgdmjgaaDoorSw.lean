/- bytealg.Compare: the order of bytes. Over any program. -/
import Derived.Test.YtdlmcgflgdmjgaaDoorSp
import Derived.Lib.BytesEntry
import GoSem.Extern.BytealgCompare
set_option linter.unusedVariables false
set_option linter.unusedSimpArgs false
namespace Go.Proofs.YtdlmcgflgdmjgaaDoor
open Go Go.RowKit
/-- The order of bytes: less, one, more. -/
def cmpL (l m : List Nat) : Int := if bl l m then -1 else if l = m then 0 else 1
theorem bs_at (l : List Nat) (i : Nat) : (bs l)[i]! = UInt8.ofNat (l.getD i 0) := by
  by_cases hi : i < l.length
  · have hs : i < (bs l).size := by rw [bs_size]; exact hi
    rw [getElem!_pos (bs l) i hs]
    show (bs l).data[i]'_ = _
    simp [bs, List.getD_eq_getElem?_getD, List.getElem?_eq_getElem hi]
  · have hs : ¬ i < (bs l).size := by rw [bs_size]; exact hi
    rw [getElem!_neg (bs l) i hs, List.getD_eq_getElem?_getD, List.getElem?_eq_none (by omega)]
    rfl
theorem cmp_rec : ∀ {l m : List Nat}, Bytes l → Bytes m → (match (List.range (min l.length m.length)).find? (fun i => UInt8.ofNat (l.getD i 0) != UInt8.ofNat (m.getD i 0)) with
    | some i => if UInt8.ofNat (l.getD i 0) < UInt8.ofNat (m.getD i 0) then (-1 : Int) else 1
    | none => if l.length < m.length then -1 else if l.length > m.length then 1 else 0) = cmpL l m
  | [], [], _, _ => rfl
  | [], b :: y, _, _ => by simp [cmpL, bl]
  | a :: x, [], _, _ => by simp [cmpL, bl]
  | a :: x, b :: y, hl, hm => by
    have ha : a < 256 := hl a (.head _)
    have hb : b < 256 := hm b (.head _)
    have ih := cmp_rec (l := x) (m := y) (fun z hz => hl z (.tail _ hz)) (fun z hz => hm z (.tail _ hz))
    have hlen : min (a :: x).length (b :: y).length = min x.length y.length + 1 := by simp only [List.length_cons]; omega
    rw [hlen, List.range_succ_eq_map, List.find?_cons]
    by_cases hab : a = b
    · subst hab
      have h0 : (UInt8.ofNat ((a :: x).getD 0 0) != UInt8.ofNat ((a :: y).getD 0 0)) = false := by simp
      rw [h0]
      simp only
      rw [List.find?_map]
      have hf : ((fun i => UInt8.ofNat ((a :: x).getD i 0) != UInt8.ofNat ((a :: y).getD i 0)) ∘ Nat.succ) = fun i => UInt8.ofNat (x.getD i 0) != UInt8.ofNat (y.getD i 0) := by
        funext i; simp
      rw [hf]
      have e : cmpL (a :: x) (a :: y) = cmpL x y := by simp [cmpL, bl]
      rw [e, ← ih]
      cases (List.range (min x.length y.length)).find? (fun i => UInt8.ofNat (x.getD i 0) != UInt8.ofNat (y.getD i 0)) with
      | none => simp
      | some i => simp
    · have hne : UInt8.ofNat a ≠ UInt8.ofNat b := fun h => hab (u8_inj ha hb h)
      have h0 : (UInt8.ofNat ((a :: x).getD 0 0) != UInt8.ofNat ((b :: y).getD 0 0)) = true := by simpa using hne
      rw [h0]
      have hlt : UInt8.ofNat a < UInt8.ofNat b ↔ a < b := by
        rw [UInt8.lt_iff_toNat_lt, UInt8.toNat_ofNat', UInt8.toNat_ofNat', Nat.mod_eq_of_lt ha, Nat.mod_eq_of_lt hb]
      simp [cmpL, bl, hab, hlt]
theorem cmp_bs {l m : List Nat} (hl : Bytes l) (hm : Bytes m) : Extern.BytealgCompare.cmp (bs l) (bs m) = cmpL l m := by
  rw [← cmp_rec hl hm]
  unfold Extern.BytealgCompare.cmp
  simp only [bs_at, bs_size]
  rfl
theorem run_bytesOf {P : Program} {w : World} {l : List Nat} {ad : Option Addr} {len cap : Nat} (hG : SlG (hw w) ad (bv l)) (hl : l.length = len) : (Extern.Bytes.bytesOf (.slice ad len cap)).run P w = .ok (bs l) w := by
  subst hl
  rcases hG with h0 | ⟨b, off, arr, T2, fz, rfl, hb, hxx⟩
  · have hl0 : l = [] := by cases l with | nil => rfl | cons a l => cases h0
    subst hl0
    cases ad with
    | none => rfl
    | some a0 => rfl
  · have := Lib.run_loadBytesX (P := P) w (l.map fun (x : Nat) => ((x : Nat) : Int)) ⟨b, off, none⟩ .empty (fun j x hx => by
      rw [List.getElem?_map] at hx
      cases hq : l[j]? with
      | none => rw [hq] at hx; cases hx
      | some q =>
        rw [hq] at hx; injection hx with hx; subst hx
        have ha : (Addr.add ⟨b, off, none⟩ j) = ⟨b, off + j, none⟩ := by unfold Addr.add; by_cases h : j = 0 <;> simp [h]
        rw [ha]
        exact cell_blk hb (hxx j _ (bv_at hq)))
    rw [List.length_map] at this
    show (Extern.Bytes.loadBytes _ _ _).run P w = _
    rw [this]
    congr 1
    unfold bs Lib.bytesOf
    rw [List.map_map]
    simp [Function.comp_def, ByteArray.empty, ByteArray.emptyWithCapacity]
    rfl
/-- What stands in for bytealg.Compare. -/
theorem run_cmp {P : Program} {w : World} {l m : List Nat} {ad ad2 : Option Addr} {len len2 cap cap2 : Nat} (hG : SlG (hw w) ad (bv l)) (hG2 : SlG (hw w) ad2 (bv m)) (hl : l.length = len) (hm : m.length = len2) (hB : Bytes l) (hB2 : Bytes m) :
    (Extern.BytealgCompare.compare #[.slice ad len cap, .slice ad2 len2 cap2]).run P w = .ok (.int .i64 (cmpL l m)) w := by
  show (do pure (goInt (Extern.BytealgCompare.cmp (← Extern.Bytes.bytesOf (.slice ad len cap)) (← Extern.Bytes.bytesOf (.slice ad2 len2 cap2)))) : Sem Value).run P w = _
  simp only [Sem.run_bind, run_bytesOf hG hl, run_bytesOf hG2 hm, Result.andThen, cmp_bs hB hB2]
  rfl
end Go.Proofs.YtdlmcgflgdmjgaaDoor
