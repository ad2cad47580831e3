/- Net: Numbers, To. -/
import Derived.Test.YtlplhlncdfhhoaaEd
import Derived.Test.YtlplhlncdfhhoaaMk
import Derived.Test.YtlplhlncdfhhoaaKn
set_option linter.unusedVariables false
set_option linter.unusedSimpArgs false
namespace Go.Proofs.Ytlplhlncdfhhoaa
open Go Go.RowKit Go.Maps Go.Sort Go.Shelf
theorem sortsA (m : Nat) : AnyZI.SortsIn Try.prog sortedA_ren Fence.wide m :=
  ⟨fun blk off cap ss W hH hblk hsz => callsIn_wide.2 (AnyM.slices_Sort_int sortA blk off cap ss W hH hblk hsz),
   fun p cap W => callsIn_wide.2 (AnyM.slices_Sort_int_none sortA p cap W)⟩
theorem msorted_ok (kb mb : Nat) (L : List (Int × Ent)) (hr : ∀ q ∈ L, -9223372036854775808 ≤ q.1 ∧ q.1 ≤ 9223372036854775807) (hp : (List.map Prod.fst L).Pairwise (· < ·)) (hl : L.length ≤ 1000000) (w : World) (hkb : w.heap[kb]? = some (.cells #[.map (some mb)] 58)) (hM : MapSat (.int .i64) mb (List.map nc L) w) :
    Calls Try.prog 29 #[.func (.func 40) #[] #[.pointer (some ⟨kb, 0, none⟩)]] w (PostN w fun v G => ∃ ad cap, v = .slice ad (List.map Prod.fst L).length cap ∧ G = [.ow 3 1 ad (List.map Prod.fst L).length cap (iv (List.map Prod.fst L))]) := by
  obtain ⟨D, hown, hperm, hsz⟩ := hM.owns (k := 3) Try.underlying3 (key := fun q => q.1) (fun q => rfl) hr (by unfold maxLen; omega)
  have hseq : SeqGives Fence.wide 2 Try.prog 40 #[.pointer (some ⟨kb, 0, none⟩)] encZ (fun ss => ss.Perm (intKeys D)) (Maps.size D) w :=
    AnyZI.keys_gives (ρ := keysA_ren) { keysA with } Fence.wide _ trivial rfl (by omega) kb mb L.length D w (Array.getElem?_eq_some_iff.1 hkb).1 (cell_blk hkb rfl) hown
  have cS := AnyZI.sorted_in sortedA Fence.wide 5 trivial trivial trivial trivial rfl (by omega) (sortsA _) (enters_of Try.func39 (by kernel_rfl) rfl) 40 #[.pointer (some ⟨kb, 0, none⟩)] trivial (enters_of Try.func40 (by kernel_rfl) rfl) _ _ (by rw [hsz]; unfold maxLen; omega) (by rw [hsz]; omega) _ hseq
  change CallsIn _ _ Try.prog 29 _ _ _ at cS
  refine ((callsIn_wide (n := 5)).1 cS).mono ?_
  rintro e w' ⟨v, ss, rfl, hS, hrow, _, hb⟩
  have hss : ss.Perm (List.map Prod.fst L) := hS.trans hperm
  rw [sort_rise hss hp, hss.length_eq] at hrow
  obtain ⟨ad, cap, rfl, hSt⟩ := St.ofRow hb hrow (by decide)
  exact ⟨_, _, rfl, ⟨ad, cap, rfl, rfl⟩, hSt⟩
theorem nums_rise {L : List (Int × Ent)} {s : Nat} (h : NumOk (absN L) s) : (List.map Prod.fst L).Pairwise (· < ·) := by
  have := h.1
  unfold absN at this
  rw [List.pairwise_map] at this ⊢
  exact this
theorem nums_rng {L : List (Int × Ent)} {s : Nat} (h : NumOk (absN L) s) (hs : s ≤ 1000000) : ∀ q ∈ L, -9223372036854775808 ≤ q.1 ∧ q.1 ≤ 9223372036854775807 := fun q hq => by
  have := h.2 (q.1, q.2.l) (List.mem_map.2 ⟨q, hq, rfl⟩)
  simp only at this; omega
attribute [local irreducible] Oper.wp Sem.run Code.wp wpList wpAnyO callFunc execOp Calls
attribute [local irreducible] toU short rencs renc rowE encRow rightB zig unzig decRw rightL risB lastN bitsOf nodesTo encL encLE sameL snd numsW sameI

set_option maxRecDepth 100000 in
theorem mkeys_ok (mb : Nat) (w : World) : Calls Try.prog 30 #[.map (some mb)] w (PostN w fun v G => ∃ b, v = .func (.func 40) #[] #[.pointer (some ⟨b, 0, none⟩)] ∧ G = [.blk b (.cells #[.map (some mb)] 58)]) := by
 have hS := St.start w
 refine c_enter Try.func30 rfl rfl rfl ?_
 refine wp_seq_k (fun K1 hK1 => ?_)
 refine wp_region_lit ?_
 refine l_e rfl (fun K hK => ?_)
 refine e_box hS rfl (fun b2 w2 (hS2 : St _ _ [.blk b2 (.cells #[.map (some mb)] 58)] _) => ?_)
 clear hS
 refine hK _ _ ?_; clear hK K
 refine l_q rfl rfl (q_assign rfl) ?_
 refine l_nil ?_
 refine hK1 _ _ ?_
 refine wp_seq_k (fun K3 hK3 => ?_)
 refine wp_region_lit ?_
 refine l_q rfl rfl (q_makeFunc) ?_
 refine l_q rfl rfl (q_assign rfl) ?_
 refine l_nil ?_
 refine hK3 _ _ ?_
 refine wp_ret ?_
 refine c_ret1 rfl rfl ?_
 exact ⟨_, _, rfl, ⟨_, rfl, rfl⟩, hS2⟩

set_option maxRecDepth 100000 in
theorem nums_ok (k mb s t o : Nat) (L : List (Int × Ent)) (hn : NumOk (absN L) s) (hs1 : s ≤ 1000000) (hl : L.length ≤ 1000000) (w : World) (hk : w.heap[k]? = some (ntO mb s t o)) (hM : MapSat (.int .i64) mb (List.map nc L) w) (hE : EOk (hw w) L) : Calls Try.prog 15 #[pV k] w (PostN w fun v G => ∃ ad cap, v = .slice ad (List.map Prod.fst L).length cap ∧ G = [.ow 3 1 ad (List.map Prod.fst L).length cap (iv (List.map Prod.fst L))]) := by
 have hS := St.start w
 refine c_enter Try.func15 rfl rfl rfl ?_
 refine wp_seq_k (fun K1 hK1 => ?_)
 refine wp_region_lit ?_
 refine l_q rfl rfl (q_assignS rfl) ?_
 refine l_nil ?_
 refine hK1 _ _ ?_
 refine wp_seq_k (fun K2 hK2 => ?_)
 refine wp_seq_k (fun K3 hK3 => ?_)
 refine wp_region_lit ?_
 refine l_q rfl rfl (q_moveP rfl) ?_
 refine l_q rfl rfl (q_peq rfl (by kernel_rfl)) ?_
 refine l_nil ?_
 refine hK3 _ _ ?_
 refine c_condF rfl rfl ?_
 refine wp_skip ?_
 refine hK2 _ _ ?_
 refine wp_seq_k (fun K5 hK5 => ?_)
 refine wp_region_lit ?_
 refine l_q rfl rfl (q_moveP rfl) ?_
 refine l_q rfl rfl (q_nilCheck rfl) ?_
 refine l_q rfl rfl (q_fieldAddr (ft := 58) (o := 0) rfl (by kernel_rfl)) ?_
 refine l_q rfl rfl (q_load1 rfl (by kernel_rfl) (cell_blk (hS.base _ _ hk) rfl)) ?_
 refine l_e rfl (fun K hK => ?_)
 refine e_call (by kernel_rfl) (mkeys_ok mb _) rfl (after_N hS (fun v6 G6 w6 hv6 hS6 => ?_))
 clear hS
 obtain ⟨b6, rfl, rfl⟩ := hv6
 have hS7 : St _ _ [.blk b6 (.cells #[.map (some mb)] 58)] _ := hS6; clear hS6
 refine hK _ _ ?_; clear hK K
 refine l_e rfl (fun K hK => ?_)
 refine e_call (by kernel_rfl) (msorted_ok b6 mb L (nums_rng hn hs1) (nums_rise hn) hl _ (hS7.blk (i := 0) rfl) (hM.mono hS7.base)) rfl (after_N hS7 (fun v8 G8 w8 hv8 hS8 => ?_))
 clear hS7
 obtain ⟨ad8, cp8, rfl, rfl⟩ := hv8
 have hS9 : St _ _ [.ow 3 1 ad8 ((List.map Prod.fst L).length) cp8 (iv (List.map Prod.fst L)), _] _ := hS8; clear hS8
 refine hK _ _ ?_; clear hK K
 refine l_q rfl rfl (q_assignS rfl) ?_
 refine l_nil ?_
 refine hK5 _ _ ?_
 refine wp_ret ?_
 refine c_ret1 rfl rfl ?_
 have hS10 : St _ _ [_] _ := hS9.only 1; clear hS9
 exact ⟨_, _, rfl, ⟨ad8, cp8, rfl, rfl⟩, hS10⟩

end Go.Proofs.Ytlplhlncdfhhoaa
