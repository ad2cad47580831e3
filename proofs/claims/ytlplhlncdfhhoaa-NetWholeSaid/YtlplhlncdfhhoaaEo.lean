/- Net's laws: what they share. -/
import Derived.Test.YtlplhlncdfhhoaaEi
set_option linter.unusedVariables false
set_option linter.unusedSimpArgs false
namespace Go.Proofs.Ytlplhlncdfhhoaa
open Go.RowKit
theorem snd_111 {A A' : List (Int × Lr)} {s s' : Nat} {l : Lr} {a b : Int} (h : snd A s l = ((a, b), A', s')) (hb : ¬b = 0) (hf : A.length < 1024) : b = 111 := by
  rcases snd_or A s l with ⟨e, _⟩ | ⟨e, _, h3⟩ | ⟨e, _⟩ <;> rw [e] at h <;> injection h with h2 h3' <;> injection h2 with h4 h5 <;> omega
theorem no_del (L : List (Int × Ent)) (n : Int) : ∀ q ∈ absN (mdel L n), q.1 ≠ n := fun q hq => mdel_ne (by rw [absN_del] at hq; exact hq)
theorem no_more {L : List (Int × Ent)} {n m : Int} (h : ∀ q ∈ absN L, q.1 ≠ n) : ∀ q ∈ absN (mdel L m), q.1 ≠ n := fun q hq => h q (by rw [absN_del] at hq; exact (List.mem_filter.1 hq).1)
theorem mem_del {L : List (Int × Ent)} {n m : Int} {l : Lr} (h : (n, l) ∈ absN L) (hnm : n ≠ m) : (n, l) ∈ absN (mdel L m) := by
  rw [absN_del]; exact List.mem_filter.2 ⟨h, by simpa using hnm⟩
theorem same_self {a b : Lr} (h : a = b) : sameL a b = true := by subst h; exact sameL_rfl _
theorem tmod_rng {z : Int} (h : 0 ≤ z) : 0 ≤ z.tmod 1024 ∧ z.tmod 1024 < 1024 := by rw [Int.tmod_eq_emod_of_nonneg h]; omega
/-- The same letter, so many times. -/
def allL (l : Lr) (i : Nat) : List (Int × Lr) := (List.range i).map fun (j : Nat) => (((j : Nat) : Int), l)
theorem allL_succ (l : Lr) (i : Nat) : allL l (i + 1) = allL l i ++ [((i : Int), l)] := by unfold allL; rw [List.range_succ, List.map_append]; rfl
theorem allL_mem {l : Lr} {i : Nat} {n : Int} (h0 : 0 ≤ n) (h : n < (i : Int)) : (n, l) ∈ allL l i := List.mem_map.2 ⟨n.toNat, List.mem_range.2 (by omega), by rw [Int.toNat_of_nonneg h0]⟩
theorem allL_len (l : Lr) (i : Nat) : (allL l i).length = i := by unfold allL; rw [List.length_map, List.length_range]
theorem to_ok2 (k mb s t o : Nat) (L : List (Int × Ent)) (hn : NumOk (absN L) s) (hs1 : s ≤ 1000000) (hl : L.length ≤ 1000000) (node : Int) (h0 : 0 ≤ node) (w : World) (hk : w.heap[k]? = some (ntO mb s t o)) (hM : MapSat (.int .i64) mb (List.map nc L) w) (hE : EOk (hw w) L) : Calls Try.prog 19 #[pV k, .int .i64 node] w (PostN w fun v G => ∃ ad cap, v = .slice ad (numsW (absN L) node).length cap ∧ G = [.ow 3 1 ad (numsW (absN L) node).length cap (iv (numsW (absN L) node))]) := by
  have := to_ok k mb s t o L hn hs1 hl node w hk hM hE
  rw [to_nums (nc_apart hM) h0] at this; exact this
theorem nums_ok2 (k mb s t o : Nat) (L : List (Int × Ent)) (hn : NumOk (absN L) s) (hs1 : s ≤ 1000000) (hl : L.length ≤ 1000000) (w : World) (hk : w.heap[k]? = some (ntO mb s t o)) (hM : MapSat (.int .i64) mb (List.map nc L) w) (hE : EOk (hw w) L) : Calls Try.prog 15 #[pV k] w (PostN w fun v G => ∃ ad cap, v = .slice ad (numsW (absN L) (-1)).length cap ∧ G = [.ow 3 1 ad (numsW (absN L) (-1)).length cap (iv (numsW (absN L) (-1)))]) := by
  have := nums_ok k mb s t o L hn hs1 hl w hk hM hE
  rw [all_nums] at this; exact this

end Go.Proofs.Ytlplhlncdfhhoaa
