/- Frames: how they are made, how they are taken. -/
import Derived.Test.YtmbbkliekgiolaaV1
set_option linter.unusedVariables false
set_option linter.unusedSimpArgs false
namespace Go.Proofs.Ytmbbkliekgiolaa
open Go.RowKit
theorem chk_ok (l : List Nat) (hl : Bytes l) (m : Nat) (hm : l.length = m) (hn : m ≤ 1000000000) (ad : Option Addr) (cap : Nat) (w : World) (hG : SlG (hw w) ad (bv l)) : Calls Try.prog 26 #[.slice ad m cap] w (PostR w fun v => v = .int .u16 ((crc 65535 l : Nat) : Int)) := by
  subst hm; exact wCheck_ok l hl hn ad cap w hG.slr
theorem rchk_ok (l : List Nat) (hl : Bytes l) (m : Nat) (hm : l.length = m) (hn : m ≤ 1000000000) (ad : Option Addr) (cap : Nat) (w : World) (hG : SlG (hw w) ad (bv l)) : Calls Try.prog 27 #[.slice ad m cap] w (PostR w fun v => v = .int .u16 ((crc 65535 l : Nat) : Int)) := by
  subst hm; exact rCheck_ok l hl hn ad cap w hG.slr
theorem ins_bv {l m : List Nat} {i : Nat} : (bv l).take (i * 1) ++ bv m ++ (bv l).drop (i * 1) = bv (l.take i ++ m ++ l.drop i) := by
  rw [Nat.mul_one]; unfold bv; rw [List.map_append, List.map_append, List.map_take, List.map_drop]
/-- A record's frame (W1). -/
def fb (l : List Nat) : List Nat := (l.length - 1) / 2 ^ 8 % 256 :: (l.length - 1) % 256 :: l
def fr (l : List Nat) : List Nat := 76 :: (l.length - 1) / 2 ^ 8 % 256 :: (l.length - 1) % 256 :: crc 65535 (fb l) / 2 ^ 8 % 256 :: crc 65535 (fb l) % 256 :: l
theorem fr_len (l : List Nat) : (fr l).length = l.length + 5 := rfl
theorem fb_bytes {l : List Nat} (h : Bytes l) : Bytes (fb l) := .cons (Nat.mod_lt _ (by decide)) (.cons (Nat.mod_lt _ (by decide)) h)
theorem fr_bytes {l : List Nat} (h : Bytes l) : Bytes (fr l) := .cons (by decide) (.cons (Nat.mod_lt _ (by decide)) (.cons (Nat.mod_lt _ (by decide)) (.cons (Nat.mod_lt _ (by decide)) (.cons (Nat.mod_lt _ (by decide)) h))))
/-- The record that bytes begin with: how many bytes it has. -/
def tkN (l : List Nat) : Option Nat :=
  if l.length ≤ 5 ∨ l.getD 0 0 ≠ 76 then none
  else if 4096 < l.getD 1 0 * 2 ^ 8 + l.getD 2 0 + 1 ∨ l.length < 5 + (l.getD 1 0 * 2 ^ 8 + l.getD 2 0 + 1) then none
  else if crc 65535 (l.getD 1 0 :: l.getD 2 0 :: (l.drop 5).take (l.getD 1 0 * 2 ^ 8 + l.getD 2 0 + 1)) / 2 ^ 8 % 256 = l.getD 3 0 ∧ crc 65535 (l.getD 1 0 :: l.getD 2 0 :: (l.drop 5).take (l.getD 1 0 * 2 ^ 8 + l.getD 2 0 + 1)) % 256 = l.getD 4 0 then some (l.getD 1 0 * 2 ^ 8 + l.getD 2 0 + 1)
  else none
def tkA (ad : Option Addr) (cap : Nat) (l : List Nat) : Option Addr := if (tkN l).isSome then subS ad 5 1 cap else none
def tkM (l : List Nat) : Nat := (tkN l).getD 0
def tkC (cap : Nat) (l : List Nat) : Nat := if (tkN l).isSome then cap - 5 else 0
theorem tk_none {ad : Option Addr} {cap : Nat} {l : List Nat} (h : tkN l = none) : Value.slice none 0 0 = .slice (tkA ad cap l) (tkM l) (tkC cap l) := by simp [tkA, tkM, tkC, h]
theorem tk_some {ad : Option Addr} {cap n : Nat} {l : List Nat} (h : tkN l = some n) : Value.slice (subS ad 5 1 cap) (5 + n - 5) (cap - 5) = .slice (tkA ad cap l) (tkM l) (tkC cap l) := by simp [tkA, tkM, tkC, h]
theorem getD_of {l : List Nat} {i x : Nat} (h : l[i]? = some x) : l.getD i 0 = x := by rw [List.getD_eq_getElem?_getD, h]; rfl
attribute [local irreducible] crc
attribute [local irreducible] Oper.wp Sem.run Code.wp wpList wpAnyO callFunc execOp Calls

set_option maxRecDepth 100000 in
theorem frame_ok (l : List Nat) (hl : Bytes l) (m : Nat) (hm : l.length = m) (h1 : 1 ≤ m) (hn : m ≤ 65536) (ad : Option Addr) (cap : Nat) (w : World) (hG : SlG (hw w) ad (bv l)) : Calls Try.prog 73 #[.slice ad m cap] w (PostN w fun v G => ∃ ad' cap', v = .slice ad' (fr l).length cap' ∧ G = [.ow 5 1 ad' (fr l).length cap' (bv (fr l))]) := by
  have hS := St.start w
  refine c_enter Try.func73 rfl rfl rfl ?_
  refine wp_seq_k (fun K1 hK1 => ?_)
  refine wp_region_lit ?_
  refine l_q rfl rfl (q_assignS rfl) ?_
  refine l_nil ?_
  refine hK1 _ _ ?_
  refine wp_seq_k (fun K2 hK2 => ?_)
  refine wp_region_lit ?_
  refine l_q rfl rfl (q_moveS rfl) ?_
  refine l_q rfl rfl (q_lenSl (e := 5) rfl (by kernel_rfl)) ?_
  refine l_q rfl rfl (q_subx rfl rfl (by first | decide | omega) (by first | decide | omega)) ?_
  refine l_q rfl rfl (q_assignI rfl) ?_
  refine l_nil ?_
  refine hK2 _ _ ?_
  refine wp_seq_k (fun K3 hK3 => ?_)
  refine wp_region_lit ?_
  refine l_q rfl rfl (q_moveI rfl) ?_
  refine l_q rfl rfl (q_shrN (k := .i64) (a := (l.length - 1)) (b := 8) (int_nat (by omega) rfl) rfl (by decide)) ?_
  refine l_q rfl rfl (u_conv (a := ((l.length - 1) / 2 ^ 8)) (k' := .u8) (M := 256) rfl (by kernel_rfl) (by kernel_rfl) rfl (by decide)) ?_
  refine l_q rfl rfl (q_moveI rfl) ?_
  refine l_q rfl rfl (u_conv (a := (l.length - 1)) (k' := .u8) (M := 256) (int_nat (by omega) rfl) (by kernel_rfl) (by kernel_rfl) rfl (by decide)) ?_
  refine l_e rfl (fun K hK => ?_)
  refine e_buildSlice1 (e := 5) (zv := .int .u8 0) (xs := [.tmp 11, .tmp 13]) hS (by kernel_rfl) (by kernel_rfl) (by kernel_rfl) rfl rfl rfl rfl (allone (by repeat' (first | exact trivial | refine ⟨by first | rfl | assumption, ?_⟩))) rfl (fun b4 w4 (hS4 : St _ _ [.blk b4 (.cells #[.int .u8 (((((l.length - 1) / 2 ^ 8) % 256) : Nat) : Int), .int .u8 ((((l.length - 1) % 256) : Nat) : Int)] 5)] _) => ?_)
  clear hS
  have hB4 : Bytes [(((l.length - 1) / 2 ^ 8) % 256), ((l.length - 1) % 256)] := by intro q hq; simp only [List.mem_cons, List.not_mem_nil, or_false] at hq; omega
  have hS4o : St _ _ [.ow 5 1 (some ⟨b4, 0, none⟩) 2 2 (bv [(((l.length - 1) / 2 ^ 8) % 256), ((l.length - 1) % 256)])] _ := hS4.blkOw' (i := 0) (m := 2) (size := 1) (xs := bv [(((l.length - 1) / 2 ^ 8) % 256), ((l.length - 1) % 256)]) rfl rfl rfl (by decide); clear hS4
  refine hK _ _ ?_; clear hK K
  refine l_q rfl rfl (q_moveS rfl) ?_
  refine l_e rfl (fun K hK => ?_)
  have hB5 : Bytes ([(((l.length - 1) / 2 ^ 8) % 256), ((l.length - 1) % 256)] ++ l) := Bytes.app hB4 hl
  refine e_app (e := 5) (size := 1) (bytes := 1) (i := 0) (m' := (2 + m)) (by kernel_rfl) hS4o rfl rfl rfl (SlG.src (e := 5) (by kernel_rfl) (hG.mono hS4o.base) (by first | (simp only [List.length_append, List.length_map, List.length_cons, List.length_nil, List.length_take, List.length_drop, List.length_set, Nat.mul_one]; done) | (simp only [List.length_append, List.length_map, List.length_cons, List.length_nil, List.length_take, List.length_drop, List.length_set]; omega) | rfl | (simp; done)) (by decide) (bv_one _)) (by first | omega | (simp only [List.length_append, List.length_map, List.length_cons, List.length_nil, List.length_take, List.length_drop, List.length_set]; omega) | (simp; done)) bv_app (by first | omega | (simp only [maxLen, List.length_append, List.length_map, List.length_cons, List.length_nil, List.length_take, List.length_drop, List.length_set] <;> omega) | (simp only [maxLen]; omega)) (by first | omega | (simp only [List.length_append, List.length_map, List.length_cons, List.length_nil, List.length_take, List.length_drop, List.length_set] <;> omega)) (fun ad5 cp5 w5 (hS5 : St _ _ [.ow 5 1 ad5 (2 + m) cp5 (bv ([(((l.length - 1) / 2 ^ 8) % 256), ((l.length - 1) % 256)] ++ l))] _) => ?_)
  clear hS4o
  refine hK _ _ ?_; clear hK K
  refine l_q rfl rfl (q_assignS rfl) ?_
  refine l_nil ?_
  refine hK3 _ _ ?_
  refine wp_seq_k (fun K6 hK6 => ?_)
  refine wp_region_lit ?_
  refine l_q rfl rfl (q_moveS rfl) ?_
  refine l_e rfl (fun K hK => ?_)
  refine e_call (by kernel_rfl) (chk_ok ([(((l.length - 1) / 2 ^ 8) % 256), ((l.length - 1) % 256)] ++ l) hB5 (2 + m) (by first | omega | (simp only [List.length_append, List.length_map, List.length_cons, List.length_nil, List.length_take, List.length_drop, List.length_set] <;> omega)) (by first | omega | (simp only [List.length_append, List.length_map, List.length_cons, List.length_nil, List.length_take, List.length_drop, List.length_set] <;> omega)) _ _ _ (hS5.owG (i := 0) rfl)) rfl (after_R hS5 (fun v7 w7 hv7 hS7 => ?_))
  clear hS5
  obtain rfl := hv7
  refine hK _ _ ?_; clear hK K
  refine l_q rfl rfl (q_assignI rfl) ?_
  refine l_nil ?_
  refine hK6 _ _ ?_
  refine wp_seq_k (fun K8 hK8 => ?_)
  refine wp_region_lit ?_
  refine l_q rfl rfl (q_moveS rfl) ?_
  refine l_q rfl rfl (q_moveI rfl) ?_
  refine l_q rfl rfl (q_shrN (k := .u16) (a := (crc 65535 ([(((l.length - 1) / 2 ^ 8) % 256), ((l.length - 1) % 256)] ++ l))) (b := 8) rfl rfl (by decide)) ?_
  refine l_q rfl rfl (u_conv (a := ((crc 65535 ([(((l.length - 1) / 2 ^ 8) % 256), ((l.length - 1) % 256)] ++ l)) / 2 ^ 8)) (k' := .u8) (M := 256) rfl (by kernel_rfl) (by kernel_rfl) rfl (by decide)) ?_
  refine l_q rfl rfl (q_moveI rfl) ?_
  refine l_q rfl rfl (u_conv (a := (crc 65535 ([(((l.length - 1) / 2 ^ 8) % 256), ((l.length - 1) % 256)] ++ l))) (k' := .u8) (M := 256) rfl (by kernel_rfl) (by kernel_rfl) rfl (by decide)) ?_
  refine l_e rfl (fun K hK => ?_)
  refine e_buildSlice1 (e := 5) (zv := .int .u8 0) (xs := [.tmp 22, .tmp 24]) hS7 (by kernel_rfl) (by kernel_rfl) (by kernel_rfl) rfl rfl rfl rfl (allone (by repeat' (first | exact trivial | refine ⟨by first | rfl | assumption, ?_⟩))) rfl (fun b9 w9 (hS9 : St _ _ [.blk b9 (.cells #[.int .u8 (((((crc 65535 ([(((l.length - 1) / 2 ^ 8) % 256), ((l.length - 1) % 256)] ++ l)) / 2 ^ 8) % 256) : Nat) : Int), .int .u8 ((((crc 65535 ([(((l.length - 1) / 2 ^ 8) % 256), ((l.length - 1) % 256)] ++ l)) % 256) : Nat) : Int)] 5), .ow 5 1 ad5 (2 + m) cp5 (bv ([(((l.length - 1) / 2 ^ 8) % 256), ((l.length - 1) % 256)] ++ l))] _) => ?_)
  clear hS7
  have hB9 : Bytes [(((crc 65535 ([(((l.length - 1) / 2 ^ 8) % 256), ((l.length - 1) % 256)] ++ l)) / 2 ^ 8) % 256), ((crc 65535 ([(((l.length - 1) / 2 ^ 8) % 256), ((l.length - 1) % 256)] ++ l)) % 256)] := by intro q hq; simp only [List.mem_cons, List.not_mem_nil, or_false] at hq; omega
  have hS9o : St _ _ [.ow 5 1 (some ⟨b9, 0, none⟩) 2 2 (bv [(((crc 65535 ([(((l.length - 1) / 2 ^ 8) % 256), ((l.length - 1) % 256)] ++ l)) / 2 ^ 8) % 256), ((crc 65535 ([(((l.length - 1) / 2 ^ 8) % 256), ((l.length - 1) % 256)] ++ l)) % 256)]), .ow 5 1 ad5 (2 + m) cp5 (bv ([(((l.length - 1) / 2 ^ 8) % 256), ((l.length - 1) % 256)] ++ l))] _ := hS9.blkOw' (i := 0) (m := 2) (size := 1) (xs := bv [(((crc 65535 ([(((l.length - 1) / 2 ^ 8) % 256), ((l.length - 1) % 256)] ++ l)) / 2 ^ 8) % 256), ((crc 65535 ([(((l.length - 1) / 2 ^ 8) % 256), ((l.length - 1) % 256)] ++ l)) % 256)]) rfl rfl rfl (by decide); clear hS9
  refine hK _ _ ?_; clear hK K
  refine l_e rfl (fun K hK => ?_)
  have hS11 := hS9o.fr1; clear hS9o
  obtain ⟨g10, hg10, hZ10⟩ := St.rogP (Γ1 := [_]) (i := 0) hS11 rfl
  have hB10 : Bytes (([(((l.length - 1) / 2 ^ 8) % 256), ((l.length - 1) % 256)] ++ l).take 2 ++ [(((crc 65535 ([(((l.length - 1) / 2 ^ 8) % 256), ((l.length - 1) % 256)] ++ l)) / 2 ^ 8) % 256), ((crc 65535 ([(((l.length - 1) / 2 ^ 8) % 256), ((l.length - 1) % 256)] ++ l)) % 256)] ++ ([(((l.length - 1) / 2 ^ 8) % 256), ((l.length - 1) % 256)] ++ l).drop 2) := ((Bytes.take hB5).app hB9).app (Bytes.drop hB5)
  refine e_call (by kernel_rfl) (insB (2 + m) 2 2 cp5 _ _ _ _ _ (bv_one _) (bv_one _) (by first | omega | (simp only [List.length_append, List.length_map, List.length_cons, List.length_nil, List.length_take, List.length_drop, List.length_set] <;> omega)) (by first | (simp only [List.length_append, List.length_map, List.length_cons, List.length_nil, List.length_take, List.length_drop, List.length_set, Nat.mul_one]; done) | (simp only [List.length_append, List.length_map, List.length_cons, List.length_nil, List.length_take, List.length_drop, List.length_set]; omega) | rfl | (simp; done)) (by first | omega | (simp only [List.length_append, List.length_map, List.length_cons, List.length_nil, List.length_take, List.length_drop, List.length_set] <;> omega)) g10 hZ10 _ hg10 (St.begin (Γ := [_]) hS11)) rfl (after_M (Γ1 := [_]) hS11 (fun v10 G10 w10 hv10 hS10 => ?_))
  clear hS11
  obtain ⟨ad10, cp10, rfl, rfl⟩ := hv10
  have hS12 : St _ _ [.ow 5 1 ad10 ((2 + m) + 2) cp10 ((bv ([(((l.length - 1) / 2 ^ 8) % 256), ((l.length - 1) % 256)] ++ l)).take (2 * 1) ++ (bv [(((crc 65535 ([(((l.length - 1) / 2 ^ 8) % 256), ((l.length - 1) % 256)] ++ l)) / 2 ^ 8) % 256), ((crc 65535 ([(((l.length - 1) / 2 ^ 8) % 256), ((l.length - 1) % 256)] ++ l)) % 256)]) ++ (bv ([(((l.length - 1) / 2 ^ 8) % 256), ((l.length - 1) % 256)] ++ l)).drop (2 * 1)), .ow 5 1 (some ⟨b9, 0, none⟩) 2 2 (bv [(((crc 65535 ([(((l.length - 1) / 2 ^ 8) % 256), ((l.length - 1) % 256)] ++ l)) / 2 ^ 8) % 256), ((crc 65535 ([(((l.length - 1) / 2 ^ 8) % 256), ((l.length - 1) % 256)] ++ l)) % 256)])] _ := hS10; clear hS10
  have hS13 : St _ _ [.ow 5 1 ad10 ((2 + m) + 2) cp10 (bv (([(((l.length - 1) / 2 ^ 8) % 256), ((l.length - 1) % 256)] ++ l).take 2 ++ [(((crc 65535 ([(((l.length - 1) / 2 ^ 8) % 256), ((l.length - 1) % 256)] ++ l)) / 2 ^ 8) % 256), ((crc 65535 ([(((l.length - 1) / 2 ^ 8) % 256), ((l.length - 1) % 256)] ++ l)) % 256)] ++ ([(((l.length - 1) / 2 ^ 8) % 256), ((l.length - 1) % 256)] ++ l).drop 2)), .ow 5 1 (some ⟨b9, 0, none⟩) 2 2 (bv [(((crc 65535 ([(((l.length - 1) / 2 ^ 8) % 256), ((l.length - 1) % 256)] ++ l)) / 2 ^ 8) % 256), ((crc 65535 ([(((l.length - 1) / 2 ^ 8) % 256), ((l.length - 1) % 256)] ++ l)) % 256)])] _ := hS12.cast (by rw [ins_bv]); clear hS12
  refine hK _ _ ?_; clear hK K
  refine l_e rfl (fun K hK => ?_)
  refine e_buildSlice1 (e := 5) (zv := .int .u8 0) (xs := [_]) hS13 (by kernel_rfl) (by kernel_rfl) (by kernel_rfl) rfl rfl rfl rfl (allone (by repeat' (first | exact trivial | refine ⟨by first | rfl | assumption, ?_⟩))) rfl (fun b14 w14 (hS14 : St _ _ [.blk b14 (.cells #[.int .u8 (76 : Int)] 5), .ow 5 1 ad10 ((2 + m) + 2) cp10 (bv (([(((l.length - 1) / 2 ^ 8) % 256), ((l.length - 1) % 256)] ++ l).take 2 ++ [(((crc 65535 ([(((l.length - 1) / 2 ^ 8) % 256), ((l.length - 1) % 256)] ++ l)) / 2 ^ 8) % 256), ((crc 65535 ([(((l.length - 1) / 2 ^ 8) % 256), ((l.length - 1) % 256)] ++ l)) % 256)] ++ ([(((l.length - 1) / 2 ^ 8) % 256), ((l.length - 1) % 256)] ++ l).drop 2)), .ow 5 1 (some ⟨b9, 0, none⟩) 2 2 (bv [(((crc 65535 ([(((l.length - 1) / 2 ^ 8) % 256), ((l.length - 1) % 256)] ++ l)) / 2 ^ 8) % 256), ((crc 65535 ([(((l.length - 1) / 2 ^ 8) % 256), ((l.length - 1) % 256)] ++ l)) % 256)])] _) => ?_)
  clear hS13
  have hB14 : Bytes [76] := by intro q hq; simp only [List.mem_cons, List.not_mem_nil, or_false] at hq; omega
  have hS14o : St _ _ [.ow 5 1 (some ⟨b14, 0, none⟩) 1 1 (bv [76]), .ow 5 1 ad10 ((2 + m) + 2) cp10 (bv (([(((l.length - 1) / 2 ^ 8) % 256), ((l.length - 1) % 256)] ++ l).take 2 ++ [(((crc 65535 ([(((l.length - 1) / 2 ^ 8) % 256), ((l.length - 1) % 256)] ++ l)) / 2 ^ 8) % 256), ((crc 65535 ([(((l.length - 1) / 2 ^ 8) % 256), ((l.length - 1) % 256)] ++ l)) % 256)] ++ ([(((l.length - 1) / 2 ^ 8) % 256), ((l.length - 1) % 256)] ++ l).drop 2)), .ow 5 1 (some ⟨b9, 0, none⟩) 2 2 (bv [(((crc 65535 ([(((l.length - 1) / 2 ^ 8) % 256), ((l.length - 1) % 256)] ++ l)) / 2 ^ 8) % 256), ((crc 65535 ([(((l.length - 1) / 2 ^ 8) % 256), ((l.length - 1) % 256)] ++ l)) % 256)])] _ := hS14.blkOw' (i := 0) (m := 1) (size := 1) (xs := bv [76]) rfl rfl rfl (by decide); clear hS14
  refine hK _ _ ?_; clear hK K
  refine l_e rfl (fun K hK => ?_)
  have hS16 := hS14o.fr1; clear hS14o
  obtain ⟨g15, hg15, hZ15⟩ := St.rogP (Γ1 := [_]) (i := 0) hS16 rfl
  have hB15 : Bytes ((([(((l.length - 1) / 2 ^ 8) % 256), ((l.length - 1) % 256)] ++ l).take 2 ++ [(((crc 65535 ([(((l.length - 1) / 2 ^ 8) % 256), ((l.length - 1) % 256)] ++ l)) / 2 ^ 8) % 256), ((crc 65535 ([(((l.length - 1) / 2 ^ 8) % 256), ((l.length - 1) % 256)] ++ l)) % 256)] ++ ([(((l.length - 1) / 2 ^ 8) % 256), ((l.length - 1) % 256)] ++ l).drop 2).take 0 ++ [76] ++ (([(((l.length - 1) / 2 ^ 8) % 256), ((l.length - 1) % 256)] ++ l).take 2 ++ [(((crc 65535 ([(((l.length - 1) / 2 ^ 8) % 256), ((l.length - 1) % 256)] ++ l)) / 2 ^ 8) % 256), ((crc 65535 ([(((l.length - 1) / 2 ^ 8) % 256), ((l.length - 1) % 256)] ++ l)) % 256)] ++ ([(((l.length - 1) / 2 ^ 8) % 256), ((l.length - 1) % 256)] ++ l).drop 2).drop 0) := ((Bytes.take hB10).app hB14).app (Bytes.drop hB10)
  refine e_call (by kernel_rfl) (insB ((2 + m) + 2) 0 1 cp10 _ _ _ _ _ (bv_one _) (bv_one _) (by first | omega | (simp only [List.length_append, List.length_map, List.length_cons, List.length_nil, List.length_take, List.length_drop, List.length_set] <;> omega)) (by first | (simp only [List.length_append, List.length_map, List.length_cons, List.length_nil, List.length_take, List.length_drop, List.length_set, Nat.mul_one]; done) | (simp only [List.length_append, List.length_map, List.length_cons, List.length_nil, List.length_take, List.length_drop, List.length_set]; omega) | rfl | (simp; done)) (by first | omega | (simp only [List.length_append, List.length_map, List.length_cons, List.length_nil, List.length_take, List.length_drop, List.length_set] <;> omega)) g15 hZ15 _ hg15 (St.begin (Γ := [_]) hS16)) rfl (after_M (Γ1 := [_]) hS16 (fun v15 G15 w15 hv15 hS15 => ?_))
  clear hS16
  obtain ⟨ad15, cp15, rfl, rfl⟩ := hv15
  have hS17 : St _ _ [.ow 5 1 ad15 (((2 + m) + 2) + 1) cp15 ((bv (([(((l.length - 1) / 2 ^ 8) % 256), ((l.length - 1) % 256)] ++ l).take 2 ++ [(((crc 65535 ([(((l.length - 1) / 2 ^ 8) % 256), ((l.length - 1) % 256)] ++ l)) / 2 ^ 8) % 256), ((crc 65535 ([(((l.length - 1) / 2 ^ 8) % 256), ((l.length - 1) % 256)] ++ l)) % 256)] ++ ([(((l.length - 1) / 2 ^ 8) % 256), ((l.length - 1) % 256)] ++ l).drop 2)).take (0 * 1) ++ (bv [76]) ++ (bv (([(((l.length - 1) / 2 ^ 8) % 256), ((l.length - 1) % 256)] ++ l).take 2 ++ [(((crc 65535 ([(((l.length - 1) / 2 ^ 8) % 256), ((l.length - 1) % 256)] ++ l)) / 2 ^ 8) % 256), ((crc 65535 ([(((l.length - 1) / 2 ^ 8) % 256), ((l.length - 1) % 256)] ++ l)) % 256)] ++ ([(((l.length - 1) / 2 ^ 8) % 256), ((l.length - 1) % 256)] ++ l).drop 2)).drop (0 * 1)), .ow 5 1 (some ⟨b14, 0, none⟩) 1 1 (bv [76]), .ow 5 1 (some ⟨b9, 0, none⟩) 2 2 (bv [(((crc 65535 ([(((l.length - 1) / 2 ^ 8) % 256), ((l.length - 1) % 256)] ++ l)) / 2 ^ 8) % 256), ((crc 65535 ([(((l.length - 1) / 2 ^ 8) % 256), ((l.length - 1) % 256)] ++ l)) % 256)])] _ := hS15; clear hS15
  have hS18 : St _ _ [.ow 5 1 ad15 (((2 + m) + 2) + 1) cp15 (bv ((([(((l.length - 1) / 2 ^ 8) % 256), ((l.length - 1) % 256)] ++ l).take 2 ++ [(((crc 65535 ([(((l.length - 1) / 2 ^ 8) % 256), ((l.length - 1) % 256)] ++ l)) / 2 ^ 8) % 256), ((crc 65535 ([(((l.length - 1) / 2 ^ 8) % 256), ((l.length - 1) % 256)] ++ l)) % 256)] ++ ([(((l.length - 1) / 2 ^ 8) % 256), ((l.length - 1) % 256)] ++ l).drop 2).take 0 ++ [76] ++ (([(((l.length - 1) / 2 ^ 8) % 256), ((l.length - 1) % 256)] ++ l).take 2 ++ [(((crc 65535 ([(((l.length - 1) / 2 ^ 8) % 256), ((l.length - 1) % 256)] ++ l)) / 2 ^ 8) % 256), ((crc 65535 ([(((l.length - 1) / 2 ^ 8) % 256), ((l.length - 1) % 256)] ++ l)) % 256)] ++ ([(((l.length - 1) / 2 ^ 8) % 256), ((l.length - 1) % 256)] ++ l).drop 2).drop 0)), .ow 5 1 (some ⟨b14, 0, none⟩) 1 1 (bv [76]), .ow 5 1 (some ⟨b9, 0, none⟩) 2 2 (bv [(((crc 65535 ([(((l.length - 1) / 2 ^ 8) % 256), ((l.length - 1) % 256)] ++ l)) / 2 ^ 8) % 256), ((crc 65535 ([(((l.length - 1) / 2 ^ 8) % 256), ((l.length - 1) % 256)] ++ l)) % 256)])] _ := hS17.cast (by rw [ins_bv]); clear hS17
  refine hK _ _ ?_; clear hK K
  refine l_q rfl rfl (q_assignS rfl) ?_
  refine l_nil ?_
  refine hK8 _ _ ?_
  refine wp_ret ?_
  refine c_ret1 rfl rfl ?_
  have hS19 : St _ _ [.ow 5 1 ad15 (((2 + m) + 2) + 1) cp15 (bv ((([(((l.length - 1) / 2 ^ 8) % 256), ((l.length - 1) % 256)] ++ l).take 2 ++ [(((crc 65535 ([(((l.length - 1) / 2 ^ 8) % 256), ((l.length - 1) % 256)] ++ l)) / 2 ^ 8) % 256), ((crc 65535 ([(((l.length - 1) / 2 ^ 8) % 256), ((l.length - 1) % 256)] ++ l)) % 256)] ++ ([(((l.length - 1) / 2 ^ 8) % 256), ((l.length - 1) % 256)] ++ l).drop 2).take 0 ++ [76] ++ (([(((l.length - 1) / 2 ^ 8) % 256), ((l.length - 1) % 256)] ++ l).take 2 ++ [(((crc 65535 ([(((l.length - 1) / 2 ^ 8) % 256), ((l.length - 1) % 256)] ++ l)) / 2 ^ 8) % 256), ((crc 65535 ([(((l.length - 1) / 2 ^ 8) % 256), ((l.length - 1) % 256)] ++ l)) % 256)] ++ ([(((l.length - 1) / 2 ^ 8) % 256), ((l.length - 1) % 256)] ++ l).drop 2).drop 0))] _ := hS18.only 1; clear hS18
  have e1 : ((([(((l.length - 1) / 2 ^ 8) % 256), ((l.length - 1) % 256)] ++ l).take 2 ++ [(((crc 65535 ([(((l.length - 1) / 2 ^ 8) % 256), ((l.length - 1) % 256)] ++ l)) / 2 ^ 8) % 256), ((crc 65535 ([(((l.length - 1) / 2 ^ 8) % 256), ((l.length - 1) % 256)] ++ l)) % 256)] ++ ([(((l.length - 1) / 2 ^ 8) % 256), ((l.length - 1) % 256)] ++ l).drop 2).take 0 ++ [76] ++ (([(((l.length - 1) / 2 ^ 8) % 256), ((l.length - 1) % 256)] ++ l).take 2 ++ [(((crc 65535 ([(((l.length - 1) / 2 ^ 8) % 256), ((l.length - 1) % 256)] ++ l)) / 2 ^ 8) % 256), ((crc 65535 ([(((l.length - 1) / 2 ^ 8) % 256), ((l.length - 1) % 256)] ++ l)) % 256)] ++ ([(((l.length - 1) / 2 ^ 8) % 256), ((l.length - 1) % 256)] ++ l).drop 2).drop 0) = fr l := by simp only [List.take_zero, List.nil_append, List.drop_zero]; rfl
  have e2 : (((2 + m) + 2) + 1) = (fr l).length := by rw [fr_len]; omega
  exact ⟨_, _, rfl, ⟨_, _, congrArg (fun z => Value.slice _ z _) e2, by rw [e1, e2]⟩, hS19⟩

set_option maxRecDepth 100000 in
theorem taken_ok (l : List Nat) (hl : Bytes l) (m : Nat) (hm : l.length = m) (hn : m ≤ 2000000) (ad : Option Addr) (cap : Nat) (hcap : m ≤ cap) (w : World) (hG : SlG (hw w) ad (bv l)) : Calls Try.prog 70 #[.slice ad m cap] w (PostR w fun v => v = .slice (tkA ad cap l) (tkM l) (tkC cap l)) := by
  have hS := St.start w
  subst hm
  refine c_enter Try.func70 rfl rfl rfl ?_
  refine wp_seq_k (fun K1 hK1 => ?_)
  refine wp_region_lit ?_
  refine l_q rfl rfl (q_assignS rfl) ?_
  refine l_nil ?_
  refine hK1 _ _ ?_
  refine wp_seq_k (fun K2 hK2 => ?_)
  refine wp_seq_k (fun K3 hK3 => ?_)
  refine wp_region_lit ?_
  refine l_q rfl rfl (q_moveS rfl) ?_
  refine l_q rfl rfl (q_lenSl (e := 5) rfl (by kernel_rfl)) ?_
  refine l_q rfl rfl (q_leq rfl rfl) ?_
  refine l_q rfl rfl (q_moveB rfl) ?_
  refine g_splitL (t := 9) rfl (fun hg4 => ?_) (fun hg4 => ?_)
  ·
    have hg4b := hg4
    try simp only [decide_eq_true_eq, decide_eq_false_iff_not, Bool.not_eq_true', Bool.not_eq_false', Bool.and_eq_true, Bool.or_eq_true, Int.not_lt, Int.not_le, ne_eq, Decidable.not_not] at hg4
    have htk : tkN l = none := by unfold tkN; exact if_pos (.inl (by omega))
    refine l_off rfl rfl rfl hg4b ?_
    refine l_off rfl rfl rfl hg4b ?_
    refine l_off rfl rfl rfl hg4b ?_
    refine l_off rfl rfl rfl hg4b ?_
    refine l_q rfl rfl (q_pickT rfl hg4b rfl) ?_
    refine l_nil ?_
    refine hK3 _ _ ?_
    refine c_condT rfl rfl ?_
    refine wp_seq_k (fun K6 hK6 => ?_)
    refine wp_region_lit ?_
    refine l_q rfl rfl (q_assignS rfl) ?_
    refine l_nil ?_
    refine hK6 _ _ ?_
    refine wp_ret ?_
    refine c_ret1 rfl rfl ?_
    exact ⟨_, rfl, tk_none htk, hS.drop⟩
  ·
    have hg4b := hg4
    try simp only [decide_eq_true_eq, decide_eq_false_iff_not, Bool.not_eq_true', Bool.not_eq_false', Bool.and_eq_true, Bool.or_eq_true, Int.not_lt, Int.not_le, ne_eq, Decidable.not_not] at hg4
    refine l_on rfl rfl hg4b ?_
    refine l_q rfl rfl (q_moveS rfl) ?_
    refine l_on rfl rfl hg4b ?_
    refine l_q rfl rfl (q_ixG (e := 5) (m := 1) (j := 0) rfl rfl (by kernel_rfl) (by kernel_rfl) (by first | rfl | omega) (by omega) hG (by first | (simp only [List.length_map]; omega) | (simp; omega) | omega)) ?_
    refine l_on rfl rfl hg4b ?_
    obtain ⟨x0, hx0⟩ : ∃ x, (l)[0]? = some x := ⟨_, List.getElem?_eq_getElem (by first | omega | (simp; omega))⟩
    have hb0 : x0 < 256 := hl x0 (List.mem_of_getElem? hx0)
    refine l_q rfl rfl (q_load1 rfl (by kernel_rfl) (SlG.cell (hG.mono hS.base) (Gle.refl _) (at1 (bv_at hx0)))) ?_
    refine l_on rfl rfl hg4b ?_
    refine l_q rfl rfl (q_neq rfl rfl) ?_
    refine l_q rfl rfl (q_pickF rfl hg4b rfl) ?_
    refine l_nil ?_
    refine hK3 _ _ ?_
    refine c_cond rfl (fun hc8 => ?_) (fun hc8 => ?_)
    ·
      have hc8b := hc8
      try simp only [decide_eq_true_eq, decide_eq_false_iff_not, Bool.not_eq_true', Bool.not_eq_false', Bool.and_eq_true, Bool.or_eq_true, Int.not_lt, Int.not_le, ne_eq, Decidable.not_not] at hc8
      have htk : tkN l = none := by unfold tkN; exact if_pos (.inr (by rw [getD_of hx0]; omega))
      refine wp_seq_k (fun K9 hK9 => ?_)
      refine wp_region_lit ?_
      refine l_q rfl rfl (q_assignS rfl) ?_
      refine l_nil ?_
      refine hK9 _ _ ?_
      refine wp_ret ?_
      refine c_ret1 rfl rfl ?_
      exact ⟨_, rfl, tk_none htk, hS.drop⟩
    ·
      have hc8b := hc8
      try simp only [decide_eq_true_eq, decide_eq_false_iff_not, Bool.not_eq_true', Bool.not_eq_false', Bool.and_eq_true, Bool.or_eq_true, Int.not_lt, Int.not_le, ne_eq, Decidable.not_not] at hc8
      have hk0 : ¬ (l.length ≤ 5 ∨ l.getD 0 0 ≠ 76) := by rw [getD_of hx0]; omega
      refine wp_skip ?_
      refine hK2 _ _ ?_
      refine wp_seq_k (fun K10 hK10 => ?_)
      refine r_any (by kernel_rfl) hS (fun w11 hS11 => ?_)
      clear hS
      refine o_pure (i := 0) (fun _ _ => trivial) rfl rfl (by kernel_rfl) (goes0 rfl) (QOk.then QOk.body) (fun w => q_moveS rfl) ?_
      refine o_pure (i := 1) (fun _ _ => trivial) rfl rfl (by kernel_rfl) (goes0 rfl) (QOk.then QOk.body) (fun w => q_ixG (e := 5) (m := 1) (j := 1) rfl rfl (by kernel_rfl) (by kernel_rfl) (by first | rfl | omega) (by omega) hG (by first | (simp only [List.length_map]; omega) | (simp; omega) | omega)) ?_
      obtain ⟨x1, hx1⟩ : ∃ x, (l)[1]? = some x := ⟨_, List.getElem?_eq_getElem (by first | omega | (simp; omega))⟩
      have hb1 : x1 < 256 := hl x1 (List.mem_of_getElem? hx1)
      refine o_held (i := 2) [3, 4, 9, 10, 11] (fun _ _ => trivial) rfl rfl (by kernel_rfl) (goes0 rfl) (QOk.then QOk.body) (q_load1 rfl (by kernel_rfl) (SlG.cell (hG.mono hS11.base) (Gle.refl _) (at1 (bv_at hx1)))) ?_
      refine o_pure (i := 3) (fun j w => ⟨(fun _ _ => trivial) j w, fun _ h => h⟩) rfl rfl (by kernel_rfl) (goes0 rfl) (QOk.then QOk.body) (fun w => q_convN (a := x1) rfl (by kernel_rfl) (by kernel_rfl) (wrap_fit_i64 (by omega))) ?_
      refine o_pure (i := 4) (fun j w => ⟨(fun _ _ => trivial) j w, fun _ h => h⟩) rfl rfl (by kernel_rfl) (goes0 rfl) (QOk.then QOk.body) (fun w => q_shlN (k := .i64) (a := x1) (b := 8) rfl rfl (by decide) (wrap_fit_i64 (by omega))) ?_
      refine o_pure (i := 5) (fun j w => ⟨(fun _ _ => trivial) j w, fun _ h => h⟩) rfl rfl (by kernel_rfl) (goes0 rfl) (QOk.then QOk.body) (fun w => q_moveS rfl) ?_
      refine o_pure (i := 6) (fun j w => ⟨(fun _ _ => trivial) j w, fun _ h => h⟩) rfl rfl (by kernel_rfl) (goes0 rfl) (QOk.then QOk.body) (fun w => q_ixG (e := 5) (m := 1) (j := 2) rfl rfl (by kernel_rfl) (by kernel_rfl) (by first | rfl | omega) (by omega) hG (by first | (simp only [List.length_map]; omega) | (simp; omega) | omega)) ?_
      obtain ⟨x2, hx2⟩ : ∃ x, (l)[2]? = some x := ⟨_, List.getElem?_eq_getElem (by first | omega | (simp; omega))⟩
      have hb2 : x2 < 256 := hl x2 (List.mem_of_getElem? hx2)
      refine o_held (i := 7) [8, 9, 10, 11] (fun j w => ⟨(fun _ _ => trivial) j w, fun _ h => h⟩) rfl rfl (by kernel_rfl) (goes0 rfl) (QOk.then QOk.body) (q_load1 rfl (by kernel_rfl) (SlG.cell (hG.mono hS11.base) (Gle.refl _) (at1 (bv_at hx2)))) ?_
      refine o_pure (i := 8) (fun j w => ⟨(fun j w => ⟨(fun _ _ => trivial) j w, fun _ h => h⟩) j w, fun _ h => h⟩) rfl rfl (by kernel_rfl) (goes0 rfl) (QOk.then QOk.body) (fun w => q_convN (a := x2) rfl (by kernel_rfl) (by kernel_rfl) (wrap_fit_i64 (by omega))) ?_
      refine o_pure (i := 9) (fun j w => ⟨(fun j w => ⟨(fun _ _ => trivial) j w, fun _ h => h⟩) j w, fun _ h => h⟩) rfl rfl (by kernel_rfl) (goes0 rfl) (QOk.then QOk.body) (fun w => q_addx rfl rfl (by first | decide | omega) (by first | decide | omega)) ?_
      refine o_pure (i := 10) (fun j w => ⟨(fun j w => ⟨(fun _ _ => trivial) j w, fun _ h => h⟩) j w, fun _ h => h⟩) rfl rfl (by kernel_rfl) (goes0 rfl) (QOk.then QOk.body) (fun w => q_addx rfl rfl (by first | decide | omega) (by first | decide | omega)) ?_
      have hn1 : l.getD 1 0 * 2 ^ 8 + l.getD 2 0 + 1 = x1 * 2 ^ 8 + x2 + 1 := by rw [getD_of hx1, getD_of hx2]
      refine o_pure (i := 11) (fun j w => ⟨(fun j w => ⟨(fun _ _ => trivial) j w, fun _ h => h⟩) j w, fun _ h => h⟩) rfl rfl (by kernel_rfl) (goes0 rfl) (QOk.then QOk.body) (fun w => q_assignI rfl) ?_
      refine o_done (by kernel_rfl) ?_
      refine hK10 _ _ ?_
      refine wp_seq_k (fun K14 hK14 => ?_)
      refine wp_seq_k (fun K15 hK15 => ?_)
      refine wp_region_lit ?_
      refine l_q rfl rfl (q_moveI rfl) ?_
      refine l_q rfl rfl (q_gtr rfl rfl) ?_
      refine l_q rfl rfl (q_moveB rfl) ?_
      refine g_splitL (t := 28) rfl (fun hg16 => ?_) (fun hg16 => ?_)
      ·
        have hg16b := hg16
        try simp only [decide_eq_true_eq, decide_eq_false_iff_not, Bool.not_eq_true', Bool.not_eq_false', Bool.and_eq_true, Bool.or_eq_true, Int.not_lt, Int.not_le, ne_eq, Decidable.not_not] at hg16
        have htk : tkN l = none := by unfold tkN; rw [if_neg hk0, hn1]; exact if_pos (.inl (by omega))
        refine l_off rfl rfl rfl hg16b ?_
        refine l_off rfl rfl rfl hg16b ?_
        refine l_off rfl rfl rfl hg16b ?_
        refine l_off rfl rfl rfl hg16b ?_
        refine l_off rfl rfl rfl hg16b ?_
        refine l_q rfl rfl (q_pickT rfl hg16b rfl) ?_
        refine l_nil ?_
        refine hK15 _ _ ?_
        refine c_condT rfl rfl ?_
        refine wp_seq_k (fun K18 hK18 => ?_)
        refine wp_region_lit ?_
        refine l_q rfl rfl (q_assignS rfl) ?_
        refine l_nil ?_
        refine hK18 _ _ ?_
        refine wp_ret ?_
        refine c_ret1 rfl rfl ?_
        exact ⟨_, rfl, tk_none htk, hS11.drop⟩
      ·
        have hg16b := hg16
        try simp only [decide_eq_true_eq, decide_eq_false_iff_not, Bool.not_eq_true', Bool.not_eq_false', Bool.and_eq_true, Bool.or_eq_true, Int.not_lt, Int.not_le, ne_eq, Decidable.not_not] at hg16
        refine l_on rfl rfl hg16b ?_
        refine l_q rfl rfl (q_moveS rfl) ?_
        refine l_on rfl rfl hg16b ?_
        refine l_q rfl rfl (q_lenSl (e := 5) rfl (by kernel_rfl)) ?_
        refine l_on rfl rfl hg16b ?_
        refine l_q rfl rfl (q_moveI rfl) ?_
        refine l_on rfl rfl hg16b ?_
        refine l_q rfl rfl (q_addx rfl rfl (by first | decide | omega) (by first | decide | omega)) ?_
        refine l_on rfl rfl hg16b ?_
        refine l_q rfl rfl (q_lss rfl rfl) ?_
        refine l_q rfl rfl (q_pickF rfl hg16b rfl) ?_
        refine l_nil ?_
        refine hK15 _ _ ?_
        refine c_cond rfl (fun hc19 => ?_) (fun hc19 => ?_)
        ·
          have hc19b := hc19
          try simp only [decide_eq_true_eq, decide_eq_false_iff_not, Bool.not_eq_true', Bool.not_eq_false', Bool.and_eq_true, Bool.or_eq_true, Int.not_lt, Int.not_le, ne_eq, Decidable.not_not] at hc19
          have htk : tkN l = none := by unfold tkN; rw [if_neg hk0, hn1]; exact if_pos (.inr (by omega))
          refine wp_seq_k (fun K20 hK20 => ?_)
          refine wp_region_lit ?_
          refine l_q rfl rfl (q_assignS rfl) ?_
          refine l_nil ?_
          refine hK20 _ _ ?_
          refine wp_ret ?_
          refine c_ret1 rfl rfl ?_
          exact ⟨_, rfl, tk_none htk, hS11.drop⟩
        ·
          have hc19b := hc19
          try simp only [decide_eq_true_eq, decide_eq_false_iff_not, Bool.not_eq_true', Bool.not_eq_false', Bool.and_eq_true, Bool.or_eq_true, Int.not_lt, Int.not_le, ne_eq, Decidable.not_not] at hc19
          have hk1 : ¬ (4096 < x1 * 2 ^ 8 + x2 + 1 ∨ l.length < 5 + (x1 * 2 ^ 8 + x2 + 1)) := by omega
          refine wp_skip ?_
          refine hK14 _ _ ?_
          refine wp_seq_k (fun K21 hK21 => ?_)
          refine wp_region_lit ?_
          refine l_q rfl rfl (q_moveS rfl) ?_
          refine l_q rfl rfl (q_moveI rfl) ?_
          refine l_q rfl rfl (q_addx rfl rfl (by first | decide | omega) (by first | decide | omega)) ?_
          refine l_q rfl rfl (q_sliceX (e := 5) (size := 1) (l := 5) (h := (5 + (((x1 * 2 ^ 8) + x2) + 1))) (m := cap) (ad' := (subS ad 5 1 cap)) (len' := ((5 + (((x1 * 2 ^ 8) + x2) + 1)) - 5)) (cap' := (cap - 5)) rfl (by kernel_rfl) (by kernel_rfl) rfl ⟨_, int_nat (by first | rfl | omega) rfl⟩ ⟨_, int_nat (by first | rfl | omega) rfl⟩ (by omega) (by first | omega | (simp only [List.length_append, List.length_map, List.length_cons, List.length_nil, List.length_take, List.length_drop, List.length_set] <;> omega)) (by first | omega | (simp only [List.length_append, List.length_map, List.length_cons, List.length_nil, List.length_take, List.length_drop, List.length_set] <;> omega)) rfl rfl rfl rfl) ?_
          refine l_q rfl rfl (q_assignS rfl) ?_
          refine l_nil ?_
          refine hK21 _ _ ?_
          refine wp_seq_k (fun K22 hK22 => ?_)
          refine wp_seq_k (fun K23 hK23 => ?_)
          refine r_any (by kernel_rfl) hS11 (fun w24 hS24 => ?_)
          clear hS11
          refine o_pure (i := 0) (fun _ _ => trivial) rfl rfl (by kernel_rfl) (goes0 rfl) (QOk.then (QOk.then QOk.body)) (fun w => q_moveS rfl) ?_
          refine o_pure (i := 1) (fun _ _ => trivial) rfl rfl (by kernel_rfl) (goes0 rfl) (QOk.then (QOk.then QOk.body)) (fun w => q_ixG (e := 5) (m := 1) (j := 1) rfl rfl (by kernel_rfl) (by kernel_rfl) (by first | rfl | omega) (by omega) hG (by first | (simp only [List.length_map]; omega) | (simp; omega) | omega)) ?_
          refine o_held (i := 2) [6, 8, 9, 10] (fun _ _ => trivial) rfl rfl (by kernel_rfl) (goes0 rfl) (QOk.then (QOk.then QOk.body)) (q_load1 rfl (by kernel_rfl) (SlG.cell (hG.mono hS24.base) (Gle.refl _) (at1 (bv_at hx1)))) ?_
          refine o_pure (i := 3) (fun j w => ⟨(fun _ _ => trivial) j w, fun _ h => h⟩) rfl rfl (by kernel_rfl) (goes0 rfl) (QOk.then (QOk.then QOk.body)) (fun w => q_moveS rfl) ?_
          refine o_pure (i := 4) (fun j w => ⟨(fun _ _ => trivial) j w, fun _ h => h⟩) rfl rfl (by kernel_rfl) (goes0 rfl) (QOk.then (QOk.then QOk.body)) (fun w => q_ixG (e := 5) (m := 1) (j := 2) rfl rfl (by kernel_rfl) (by kernel_rfl) (by first | rfl | omega) (by omega) hG (by first | (simp only [List.length_map]; omega) | (simp; omega) | omega)) ?_
          refine o_held (i := 5) [6, 8, 9, 10] (fun j w => ⟨(fun _ _ => trivial) j w, fun _ h => h⟩) rfl rfl (by kernel_rfl) (goes0 rfl) (QOk.then (QOk.then QOk.body)) (q_load1 rfl (by kernel_rfl) (SlG.cell (hG.mono hS24.base) (Gle.refl _) (at1 (bv_at hx2)))) ?_
          refine o_pure (i := 7) (fun j w => ⟨(fun j w => ⟨(fun _ _ => trivial) j w, fun _ h => h⟩) j w, fun _ h => h⟩) rfl rfl (by kernel_rfl) (goes0 rfl) (QOk.then (QOk.then QOk.body)) (fun w => q_moveS rfl) ?_
          refine o_eff (i := 6) (by kernel_rfl) rfl (goes0 rfl) (fun K hK => ?_)
          refine e_buildSlice1 (e := 5) (zv := .int .u8 0) (xs := [.tmp 41, .tmp 44]) hS24 (by kernel_rfl) (by kernel_rfl) (by kernel_rfl) rfl rfl rfl rfl (allone (by repeat' (first | exact trivial | refine ⟨by first | rfl | assumption, ?_⟩))) rfl (fun b25 w25 (hS25 : St _ _ [.blk b25 (.cells #[.int .u8 ((x1 : Nat) : Int), .int .u8 ((x2 : Nat) : Int)] 5)] _) => ?_)
          clear hS24
          have hB25 : Bytes [x1, x2] := by intro q hq; simp only [List.mem_cons, List.not_mem_nil, or_false] at hq; omega
          have hS25o : St _ _ [.ow 5 1 (some ⟨b25, 0, none⟩) 2 2 (bv [x1, x2])] _ := hS25.blkOw' (i := 0) (m := 2) (size := 1) (xs := bv [x1, x2]) rfl rfl rfl (by decide); clear hS25
          refine hK _ _ ⟨⟨trivial, fun h => absurd h (by decide)⟩, fun h => absurd h (by decide)⟩ ?_; clear hK K
          refine o_eff (i := 8) (by kernel_rfl) rfl (goes0 rfl) (fun K hK => ?_)
          have hB26 : Bytes ([x1, x2] ++ ((l.drop 5).take ((5 + (((x1 * 2 ^ 8) + x2) + 1)) - 5))) := Bytes.app hB25 (Bytes.sub hl)
          refine e_app (e := 5) (size := 1) (bytes := 1) (i := 0) (m' := (2 + ((5 + (((x1 * 2 ^ 8) + x2) + 1)) - 5))) (by kernel_rfl) hS25o rfl rfl rfl (SlG.src (e := 5) (by kernel_rfl) ((bv_sub (SlG.sub (l := 5) (size := 1) (m := cap) (n := (5 + (((x1 * 2 ^ 8) + x2) + 1)) - 5) hG (by first | omega | (simp only [List.length_append, List.length_map, List.length_cons, List.length_nil, List.length_take, List.length_drop, List.length_set] <;> omega)) (by decide))).mono hS25o.base) (by first | (simp only [List.length_append, List.length_map, List.length_cons, List.length_nil, List.length_take, List.length_drop, List.length_set, Nat.mul_one]; done) | (simp only [List.length_append, List.length_map, List.length_cons, List.length_nil, List.length_take, List.length_drop, List.length_set]; omega) | rfl | (simp; done)) (by decide) (bv_one _)) (by first | omega | (simp only [List.length_append, List.length_map, List.length_cons, List.length_nil, List.length_take, List.length_drop, List.length_set]; omega) | (simp; done)) bv_app (by first | omega | (simp only [maxLen, List.length_append, List.length_map, List.length_cons, List.length_nil, List.length_take, List.length_drop, List.length_set] <;> omega) | (simp only [maxLen]; omega)) (by first | omega | (simp only [List.length_append, List.length_map, List.length_cons, List.length_nil, List.length_take, List.length_drop, List.length_set] <;> omega)) (fun ad26 cp26 w26 (hS26 : St _ _ [.ow 5 1 ad26 (2 + ((5 + (((x1 * 2 ^ 8) + x2) + 1)) - 5)) cp26 (bv ([x1, x2] ++ ((l.drop 5).take ((5 + (((x1 * 2 ^ 8) + x2) + 1)) - 5))))] _) => ?_)
          clear hS25o
          refine hK _ _ ⟨⟨trivial, fun h => absurd h (by decide)⟩, fun h => absurd h (by decide)⟩ ?_; clear hK K
          refine o_eff (i := 9) (by kernel_rfl) rfl (goes0 rfl) (fun K hK => ?_)
          refine e_call (by kernel_rfl) (chk_ok ([x1, x2] ++ ((l.drop 5).take ((5 + (((x1 * 2 ^ 8) + x2) + 1)) - 5))) hB26 (2 + ((5 + (((x1 * 2 ^ 8) + x2) + 1)) - 5)) (by first | omega | (simp only [List.length_append, List.length_map, List.length_cons, List.length_nil, List.length_take, List.length_drop, List.length_set] <;> omega)) (by first | omega | (simp only [List.length_append, List.length_map, List.length_cons, List.length_nil, List.length_take, List.length_drop, List.length_set] <;> omega)) _ _ _ (hS26.owG (i := 0) rfl)) rfl (after_R hS26 (fun v27 w27 hv27 hS27 => ?_))
          clear hS26
          obtain rfl := hv27
          refine hK _ _ ⟨⟨trivial, fun h => absurd h (by decide)⟩, fun h => absurd h (by decide)⟩ ?_; clear hK K
          have hcr : crc 65535 (l.getD 1 0 :: l.getD 2 0 :: (l.drop 5).take (x1 * 2 ^ 8 + x2 + 1)) = (crc 65535 ([x1, x2] ++ ((l.drop 5).take ((5 + (((x1 * 2 ^ 8) + x2) + 1)) - 5)))) := by rw [getD_of hx1, getD_of hx2, show 5 + (x1 * 2 ^ 8 + x2 + 1) - 5 = x1 * 2 ^ 8 + x2 + 1 from by omega]; rfl
          refine o_pure (i := 10) (fun j w => ⟨(fun j w => ⟨(fun _ _ => trivial) j w, fun _ h => h⟩) j w, fun _ h => h⟩) rfl rfl (by kernel_rfl) (goes0 rfl) (QOk.then (QOk.then QOk.body)) (fun w => q_assignI rfl) ?_
          refine o_done (by kernel_rfl) ?_
          refine hK23 _ _ ?_
          refine wp_seq_k (fun K28 hK28 => ?_)
          refine wp_region_lit ?_
          refine l_q rfl rfl (q_moveI rfl) ?_
          refine l_q rfl rfl (q_shrN (k := .u16) (a := (crc 65535 ([x1, x2] ++ ((l.drop 5).take ((5 + (((x1 * 2 ^ 8) + x2) + 1)) - 5))))) (b := 8) rfl rfl (by decide)) ?_
          refine l_q rfl rfl (u_conv (a := ((crc 65535 ([x1, x2] ++ ((l.drop 5).take ((5 + (((x1 * 2 ^ 8) + x2) + 1)) - 5)))) / 2 ^ 8)) (k' := .u8) (M := 256) rfl (by kernel_rfl) (by kernel_rfl) rfl (by decide)) ?_
          refine l_q rfl rfl (q_moveS rfl) ?_
          refine l_q rfl rfl (q_ixG (e := 5) (m := 1) (j := 3) rfl rfl (by kernel_rfl) (by kernel_rfl) (by first | rfl | omega) (by omega) hG (by first | (simp only [List.length_map]; omega) | (simp; omega) | omega)) ?_
          obtain ⟨x3, hx3⟩ : ∃ x, (l)[3]? = some x := ⟨_, List.getElem?_eq_getElem (by first | omega | (simp; omega))⟩
          have hb3 : x3 < 256 := hl x3 (List.mem_of_getElem? hx3)
          refine l_q rfl rfl (q_load1 rfl (by kernel_rfl) (SlG.cell (hG.mono hS27.base) (Gle.refl _) (at1 (bv_at hx3)))) ?_
          refine l_q rfl rfl (q_neq rfl rfl) ?_
          refine l_q rfl rfl (q_moveB rfl) ?_
          refine g_splitL (t := 56) rfl (fun hg30 => ?_) (fun hg30 => ?_)
          ·
            have hg30b := hg30
            try simp only [decide_eq_true_eq, decide_eq_false_iff_not, Bool.not_eq_true', Bool.not_eq_false', Bool.and_eq_true, Bool.or_eq_true, Int.not_lt, Int.not_le, ne_eq, Decidable.not_not] at hg30
            have htk : tkN l = none := by unfold tkN; rw [if_neg hk0, hn1, if_neg hk1, hcr]; exact if_neg (by rw [getD_of hx3]; omega)
            refine l_off rfl rfl rfl hg30b ?_
            refine l_off rfl rfl rfl hg30b ?_
            refine l_off rfl rfl rfl hg30b ?_
            refine l_off rfl rfl rfl hg30b ?_
            refine l_off rfl rfl rfl hg30b ?_
            refine l_off rfl rfl rfl hg30b ?_
            refine l_q rfl rfl (q_pickT rfl hg30b rfl) ?_
            refine l_nil ?_
            refine hK28 _ _ ?_
            refine c_condT rfl rfl ?_
            refine wp_seq_k (fun K32 hK32 => ?_)
            refine wp_region_lit ?_
            refine l_q rfl rfl (q_assignS rfl) ?_
            refine l_nil ?_
            refine hK32 _ _ ?_
            refine wp_ret ?_
            refine c_ret1 rfl rfl ?_
            exact ⟨_, rfl, tk_none htk, hS27.drop⟩
          ·
            have hg30b := hg30
            try simp only [decide_eq_true_eq, decide_eq_false_iff_not, Bool.not_eq_true', Bool.not_eq_false', Bool.and_eq_true, Bool.or_eq_true, Int.not_lt, Int.not_le, ne_eq, Decidable.not_not] at hg30
            refine l_on rfl rfl hg30b ?_
            refine l_q rfl rfl (q_moveI rfl) ?_
            refine l_on rfl rfl hg30b ?_
            refine l_q rfl rfl (u_conv (a := (crc 65535 ([x1, x2] ++ ((l.drop 5).take ((5 + (((x1 * 2 ^ 8) + x2) + 1)) - 5))))) (k' := .u8) (M := 256) rfl (by kernel_rfl) (by kernel_rfl) rfl (by decide)) ?_
            refine l_on rfl rfl hg30b ?_
            refine l_q rfl rfl (q_moveS rfl) ?_
            refine l_on rfl rfl hg30b ?_
            refine l_q rfl rfl (q_ixG (e := 5) (m := 1) (j := 4) rfl rfl (by kernel_rfl) (by kernel_rfl) (by first | rfl | omega) (by omega) hG (by first | (simp only [List.length_map]; omega) | (simp; omega) | omega)) ?_
            refine l_on rfl rfl hg30b ?_
            obtain ⟨x4, hx4⟩ : ∃ x, (l)[4]? = some x := ⟨_, List.getElem?_eq_getElem (by first | omega | (simp; omega))⟩
            have hb4 : x4 < 256 := hl x4 (List.mem_of_getElem? hx4)
            refine l_q rfl rfl (q_load1 rfl (by kernel_rfl) (SlG.cell (hG.mono hS27.base) (Gle.refl _) (at1 (bv_at hx4)))) ?_
            refine l_on rfl rfl hg30b ?_
            refine l_q rfl rfl (q_neq rfl rfl) ?_
            refine l_q rfl rfl (q_pickF rfl hg30b rfl) ?_
            refine l_nil ?_
            refine hK28 _ _ ?_
            refine c_cond rfl (fun hc34 => ?_) (fun hc34 => ?_)
            ·
              have hc34b := hc34
              try simp only [decide_eq_true_eq, decide_eq_false_iff_not, Bool.not_eq_true', Bool.not_eq_false', Bool.and_eq_true, Bool.or_eq_true, Int.not_lt, Int.not_le, ne_eq, Decidable.not_not] at hc34
              have htk : tkN l = none := by unfold tkN; rw [if_neg hk0, hn1, if_neg hk1, hcr]; exact if_neg (by rw [getD_of hx4]; omega)
              refine wp_seq_k (fun K35 hK35 => ?_)
              refine wp_region_lit ?_
              refine l_q rfl rfl (q_assignS rfl) ?_
              refine l_nil ?_
              refine hK35 _ _ ?_
              refine wp_ret ?_
              refine c_ret1 rfl rfl ?_
              exact ⟨_, rfl, tk_none htk, hS27.drop⟩
            ·
              have hc34b := hc34
              try simp only [decide_eq_true_eq, decide_eq_false_iff_not, Bool.not_eq_true', Bool.not_eq_false', Bool.and_eq_true, Bool.or_eq_true, Int.not_lt, Int.not_le, ne_eq, Decidable.not_not] at hc34
              have htk : tkN l = some (x1 * 2 ^ 8 + x2 + 1) := by unfold tkN; rw [if_neg hk0, hn1, if_neg hk1, hcr]; exact if_pos (by rw [getD_of hx3, getD_of hx4]; omega)
              refine wp_skip ?_
              refine hK22 _ _ ?_
              refine wp_seq_k (fun K36 hK36 => ?_)
              refine wp_region_lit ?_
              refine l_q rfl rfl (q_moveS rfl) ?_
              refine l_q rfl rfl (q_assignS rfl) ?_
              refine l_nil ?_
              refine hK36 _ _ ?_
              refine wp_ret ?_
              refine c_ret1 rfl rfl ?_
              exact ⟨_, rfl, tk_some htk, hS27.drop⟩

end Go.Proofs.Ytmbbkliekgiolaa
