/- Package table: a table; find. -/
import Derived.Test.YtmbbkliekgiolaaT5
import Derived.Test.YtmbbkliekgiolaaSy
set_option linter.unusedVariables false
set_option linter.unusedSimpArgs false
namespace Go.Proofs.Ytmbbkliekgiolaa
open Go.RowKit
theorem PgG.mono {g g' : Gh} {a : Pg} (h : PgG g a) (hg : Gle g g') : PgG g' a := ⟨h.1.mono hg, fun x hx => (h.2 x hx).mono hg⟩
abbrev tO (ad : Option Addr) (m cap size : Nat) : Obj := .cells #[.slice ad m cap, .int .i64 ((size : Nat) : Int)] 107
def pgc (p : Pg) : Ch := .ow 41 2 p.ad p.es.length p.cap (List.flatMap en p.es)
/-- A table. -/
def tb (k : Nat) (ad : Option Addr) (cap : Nat) (ps : List Pg) : Ch := .pk [.blk k (tO ad ps.length cap (flat ps).length), .ow 111 1 ad ps.length cap (List.flatMap pg ps), .pk (ps.map pgc)]
/-- What its entries are. -/
def EOk (g : Gh) (a : En) : Prop := EnG g a ∧ a.kb.length ≤ 1000000 ∧ a.rb.length ≤ 1000000
theorem EOk.mono {g g' : Gh} {a : En} (h : EOk g a) (hg : Gle g g') : EOk g' a := ⟨h.1.mono hg, h.2⟩
structure TOk (g : Gh) (ps : List Pg) : Prop where
  pok : POk ps
  ent : ∀ a ∈ flat ps, EOk g a
theorem TOk.mono {g g' : Gh} {ps : List Pg} (h : TOk g ps) (hg : Gle g g') : TOk g' ps := ⟨h.pok, fun a ha => (h.ent a ha).mono hg⟩
theorem flat_len {ps : List Pg} (h : ∀ p ∈ ps, 0 < p.es.length) : ps.length ≤ (flat ps).length := by
  induction ps with
  | nil => simp
  | cons p ps ih =>
    rw [flat_cons, List.length_append, List.length_cons]
    have := h p (.head _)
    have := ih fun q hq => h q (.tail _ hq)
    omega
theorem TOk.pages {g : Gh} {ps : List Pg} (h : TOk g ps) : ps.length ≤ (flat ps).length := flat_len fun p hp => (h.pok.few p hp).1
theorem POk.pageAt {ps : List Pg} (h : POk ps) (i : Nat) (p : Pg) (hp : ps[i]? = some p) : Srt (p.es.map En.kv) := by
  obtain ⟨A, B, e, _⟩ := split_at hp
  exact h.page e
section
variable {w0 w : World} {D : Nat → Prop} {Γ : List Ch} {k cap : Nat} {ad : Option Addr} {ps : List Pg}
theorem tb_open (h : St w0 D (tb k ad cap ps :: Γ) w) : St w0 D (.blk k (tO ad ps.length cap (flat ps).length) :: .ow 111 1 ad ps.length cap (List.flatMap pg ps) :: .pk (ps.map pgc) :: Γ) w := h.unpk
theorem tb_close (h : St w0 D (.blk k (tO ad ps.length cap (flat ps).length) :: .ow 111 1 ad ps.length cap (List.flatMap pg ps) :: .pk (ps.map pgc) :: Γ) w) : St w0 D (tb k ad cap ps :: Γ) w := h.pk
/-- All pages lie where they lie. -/
theorem St.pages {g : Gh} {i : Nat} (h : St w0 D Γ w) (hi : Γ[i]? = some (.pk (ps.map pgc))) (hg : Gle g (hw w)) (hT : TOk g ps) : ∀ p ∈ ps, PgG (hw w) p := fun p hp => by
  refine ⟨?_, fun a ha => (hT.ent a (List.mem_flatMap.2 ⟨p, hp, ha⟩)).1.mono hg⟩
  obtain ⟨j, hj, rfl⟩ := List.getElem_of_mem hp
  have h1 : Sat 0 (fun _ => True) (ps.map pgc) w := (h.sat.get hi).1
  have h2 := h1.get (i := j) (c := pgc ps[j]) (by rw [List.getElem?_map, List.getElem?_eq_getElem hj]; rfl)
  have h3 : St w (fun _ => True) [pgc ps[j]] w := ⟨rfl, rfl, rfl, Nat.le_refl _, fun _ _ _ => rfl, h2.1, fun k hk => ⟨.inl trivial, (h2.2 k hk).2⟩, fun d hd => (by cases hd), trivial⟩
  exact h3.owG (i := 0) rfl
end
attribute [local irreducible] Oper.wp Sem.run Code.wp wpList wpAnyO callFunc execOp Calls
attribute [local irreducible] cmpL

set_option maxRecDepth 100000 in
theorem find_ok (k : Nat) (ps : List Pg) (key : List Nat) (hkb : Bytes key) (hn : ps.length ≤ 1000000) (hkn : key.length ≤ 1000000) (ad ak : Option Addr) (cap ck sz : Nat) (w : World) (hk : w.heap[k]? = some (tO ad ps.length cap sz)) (hok : ∀ a ∈ ps, PgG (hw w) a) (hP : POk ps) (hG : SlG (hw w) ad (List.flatMap pg ps)) (hG2 : SlG (hw w) ak (bv key)) : Calls Try.prog 62 #[pV k, .slice ak key.length ck] w (PostR w fun v => ∃ i k' fd, v = .tuple #[.int .i64 ((i : Nat) : Int), .int .i64 ((k' : Nat) : Int), .bool fd] ∧ Where ps key i k' fd) := by
  have hS := St.start w
  have hne : ∀ a ∈ ps, 0 < a.es.length ∧ a.es.length ≤ 1000000 := fun a ha => ⟨(hP.few a ha).1, Nat.le_trans (hP.few a ha).2 (by decide)⟩
  have hpage := hP.pageAt
  refine c_enter Try.func62 rfl rfl rfl ?_
  refine wp_seq_k (fun K1 hK1 => ?_)
  refine wp_region_lit ?_
  refine l_q rfl rfl (q_assignI rfl) ?_
  refine l_q rfl rfl (q_assignI rfl) ?_
  refine l_q rfl rfl (q_assignB rfl) ?_
  refine l_nil ?_
  refine hK1 _ _ ?_
  refine wp_seq_k (fun K2 hK2 => ?_)
  refine wp_region_lit ?_
  refine l_q rfl rfl (q_moveP rfl) ?_
  refine l_q rfl rfl (q_nilCheck rfl) ?_
  refine l_q rfl rfl (q_fieldAddr (ft := 105) (o := 0) rfl (by kernel_rfl)) ?_
  refine l_q rfl rfl (q_load1 rfl (by kernel_rfl) (cell_blk (hS.base _ _ hk) rfl)) ?_
  refine l_q rfl rfl (q_moveS rfl) ?_
  refine l_e rfl (fun K hK => ?_)
  refine e_call (by kernel_rfl) (bsP_ok ps key hkb (by omega) (by omega) _ _ _ _ _ (fun a ha => (hok a ha).mono hS.base) hne (hP.upP _) (hG.mono hS.base) (hG2.mono hS.base)) rfl (after_R hS (fun v3 w3 hv3 hS3 => ?_))
  clear hS
  obtain ⟨i1, fd1, rfl, hs1⟩ := hv3
  refine hK _ _ ?_; clear hK K
  refine l_q rfl rfl (q_move rfl) ?_
  refine l_q rfl rfl (q_extract rfl rfl) ?_
  refine l_q rfl rfl (q_extract rfl rfl) ?_
  refine l_q rfl rfl (q_assignI rfl) ?_
  refine l_q rfl rfl (q_assignB rfl) ?_
  refine l_nil ?_
  have hi1 := hs1.1
  refine hK2 _ _ ?_
  refine wp_seq_k (fun K4 hK4 => ?_)
  refine wp_seq_k (fun K5 hK5 => ?_)
  refine wp_region_lit ?_
  refine l_q rfl rfl (q_moveB rfl) ?_
  refine l_q rfl rfl (q_not rfl) ?_
  refine l_nil ?_
  refine hK5 _ _ ?_
  refine c_cond rfl (fun hc6 => ?_) (fun hc6 => ?_)
  ·
    have hc6b := hc6
    try simp only [decide_eq_true_eq, decide_eq_false_iff_not, Bool.not_eq_true', Bool.not_eq_false', Bool.and_eq_true, Bool.or_eq_true, Int.not_lt, Int.not_le, ne_eq, Decidable.not_not] at hc6
    have hf1 : fd1 = false := by first | exact hc6 | simpa using hc6
    refine wp_region_lit ?_
    refine l_q rfl rfl (q_moveI rfl) ?_
    refine l_q rfl rfl (q_subx rfl rfl (by first | decide | omega) (by first | decide | omega)) ?_
    refine l_q rfl rfl (q_max rfl rfl) ?_
    refine l_q rfl rfl (q_assignI rfl) ?_
    refine l_nil ?_
    refine hK4 _ _ ?_
    refine wp_seq_k (fun K7 hK7 => ?_)
    refine wp_seq_k (fun K8 hK8 => ?_)
    refine wp_region_lit ?_
    refine l_q rfl rfl (q_moveI rfl) ?_
    refine l_q rfl rfl (q_moveP rfl) ?_
    refine l_q rfl rfl (q_nilCheck rfl) ?_
    refine l_q rfl rfl (q_fieldAddr (ft := 105) (o := 0) rfl (by kernel_rfl)) ?_
    refine l_q rfl rfl (q_load1 rfl (by kernel_rfl) (cell_blk (hS3.base _ _ hk) rfl)) ?_
    refine l_q rfl rfl (q_lenSl (e := 111) rfl (by kernel_rfl)) ?_
    refine l_q rfl rfl (q_eql rfl rfl) ?_
    refine l_nil ?_
    refine hK8 _ _ ?_
    refine c_cond rfl (fun hc9 => ?_) (fun hc9 => ?_)
    ·
      have hc9b := hc9
      try simp only [decide_eq_true_eq, decide_eq_false_iff_not, Bool.not_eq_true', Bool.not_eq_false', Bool.and_eq_true, Bool.or_eq_true, Int.not_lt, Int.not_le, ne_eq, Decidable.not_not] at hc9
      have hps : ps = [] := by
        have := hs1.1
        cases ps with
        | nil => rfl
        | cons q qs => exfalso; simp only [List.length_cons] at *; omega
      refine wp_seq_k (fun K10 hK10 => ?_)
      refine wp_region_lit ?_
      refine l_q rfl rfl (q_moveI rfl) ?_
      refine l_q rfl rfl (q_assignI rfl) ?_
      refine l_q rfl rfl (q_assignI rfl) ?_
      refine l_q rfl rfl (q_assignB rfl) ?_
      refine l_nil ?_
      refine hK10 _ _ ?_
      refine wp_ret ?_
      refine c_ret3 rfl rfl rfl rfl ?_
      have hi0 : i1 = 0 := by rw [hps] at hi1; simpa using hi1
      exact ⟨_, rfl, ⟨0, 0, false, by rw [hi0]; rfl, .inl ⟨hps, rfl, rfl, rfl⟩⟩, hS3.drop⟩
    ·
      have hc9b := hc9
      try simp only [decide_eq_true_eq, decide_eq_false_iff_not, Bool.not_eq_true', Bool.not_eq_false', Bool.and_eq_true, Bool.or_eq_true, Int.not_lt, Int.not_le, ne_eq, Decidable.not_not] at hc9
      have hi2 : (i1 - 1) < ps.length := by omega
      refine wp_skip ?_
      refine hK7 _ _ ?_
      refine wp_seq_k (fun K11 hK11 => ?_)
      refine wp_region_lit ?_
      refine l_q rfl rfl (q_moveP rfl) ?_
      refine l_q rfl rfl (q_nilCheck rfl) ?_
      refine l_q rfl rfl (q_fieldAddr (ft := 105) (o := 0) rfl (by kernel_rfl)) ?_
      refine l_q rfl rfl (q_load1 rfl (by kernel_rfl) (cell_blk (hS3.base _ _ hk) rfl)) ?_
      refine l_q rfl rfl (q_moveI rfl) ?_
      refine l_q rfl rfl (q_ixG (e := 111) (m := 1) (j := (i1 - 1)) rfl rfl (by kernel_rfl) (by kernel_rfl) (by first | rfl | omega) (by omega) hG (by rw [rows_len (c := pg) (m := 1) (fun _ => rfl)]; first | omega | (simp only [List.length_append, List.length_map, List.length_cons, List.length_nil, List.length_take, List.length_drop, List.length_set] <;> omega))) ?_
      obtain ⟨x12, hx12⟩ : ∃ x, (ps)[(i1 - 1)]? = some x := ⟨_, List.getElem?_eq_getElem (by first | omega | (simp only [List.length_append, List.length_map, List.length_cons, List.length_nil, List.length_take, List.length_drop, List.length_set] <;> omega) | (simp <;> omega))⟩
      have hok_x12 := hok x12 (List.mem_of_getElem? hx12)
      obtain ⟨hne_x12, hnl_x12⟩ := hne x12 (List.mem_of_getElem? hx12)
      refine l_q rfl rfl (q_load1 rfl (by kernel_rfl) (SlG.cell (hG.mono hS3.base) (Gle.refl _) (row_at hx12 (c := pg) (m := 1) (fun _ => rfl) (j := 0) rfl))) ?_
      refine l_q rfl rfl (q_moveS rfl) ?_
      refine l_e rfl (fun K hK => ?_)
      refine e_call (by kernel_rfl) (bsE_ok x12.es key hkb (by omega) (by omega) _ _ _ _ _ (fun a ha => (hok_x12.2 a ha).mono hS3.base) (srt_up (hpage _ _ hx12) _) (hok_x12.1.mono hS3.base) (hG2.mono hS3.base)) rfl (after_R hS3 (fun v13 w13 hv13 hS13 => ?_))
      clear hS3
      obtain ⟨k2, fd2, rfl, hs2⟩ := hv13
      refine hK _ _ ?_; clear hK K
      refine l_q rfl rfl (q_move rfl) ?_
      refine l_q rfl rfl (q_extract rfl rfl) ?_
      refine l_q rfl rfl (q_extract rfl rfl) ?_
      refine l_q rfl rfl (q_assignI rfl) ?_
      refine l_q rfl rfl (q_assignB rfl) ?_
      refine l_nil ?_
      refine hK11 _ _ ?_
      refine wp_seq_k (fun K14 hK14 => ?_)
      refine wp_region_lit ?_
      refine l_q rfl rfl (q_moveI rfl) ?_
      refine l_q rfl rfl (q_moveI rfl) ?_
      refine l_q rfl rfl (q_moveB rfl) ?_
      refine l_q rfl rfl (q_assignI rfl) ?_
      refine l_q rfl rfl (q_assignI rfl) ?_
      refine l_q rfl rfl (q_assignB rfl) ?_
      refine l_nil ?_
      refine hK14 _ _ ?_
      refine wp_ret ?_
      refine c_ret3 rfl rfl rfl rfl ?_
      exact ⟨_, rfl, ⟨(i1 - 1), k2, fd2, congrArg (fun z => Value.tuple #[.int .i64 z, .int .i64 ((k2 : Nat) : Int), .bool fd2]) (show (max (((i1 : Nat) : Int) - 1) 0) = ((i1 - 1 : Nat) : Int) from by omega), where_of hP hs1 (by simp [hf1]) hx12 hs2⟩, hS13.drop⟩
  ·
    have hc6b := hc6
    try simp only [decide_eq_true_eq, decide_eq_false_iff_not, Bool.not_eq_true', Bool.not_eq_false', Bool.and_eq_true, Bool.or_eq_true, Int.not_lt, Int.not_le, ne_eq, Decidable.not_not] at hc6
    have hf1 : fd1 = true := by first | exact hc6 | simpa using hc6
    refine wp_skip ?_
    refine hK4 _ _ ?_
    refine wp_seq_k (fun K15 hK15 => ?_)
    refine wp_seq_k (fun K16 hK16 => ?_)
    refine wp_region_lit ?_
    refine l_q rfl rfl (q_moveI rfl) ?_
    refine l_q rfl rfl (q_moveP rfl) ?_
    refine l_q rfl rfl (q_nilCheck rfl) ?_
    refine l_q rfl rfl (q_fieldAddr (ft := 105) (o := 0) rfl (by kernel_rfl)) ?_
    refine l_q rfl rfl (q_load1 rfl (by kernel_rfl) (cell_blk (hS3.base _ _ hk) rfl)) ?_
    refine l_q rfl rfl (q_lenSl (e := 111) rfl (by kernel_rfl)) ?_
    refine l_q rfl rfl (q_eql rfl rfl) ?_
    refine l_nil ?_
    refine hK16 _ _ ?_
    refine c_cond rfl (fun hc17 => ?_) (fun hc17 => ?_)
    ·
      have hc17b := hc17
      try simp only [decide_eq_true_eq, decide_eq_false_iff_not, Bool.not_eq_true', Bool.not_eq_false', Bool.and_eq_true, Bool.or_eq_true, Int.not_lt, Int.not_le, ne_eq, Decidable.not_not] at hc17
      have hps : ps = [] := by
        have := hs1.1
        cases ps with
        | nil => rfl
        | cons q qs => exfalso; obtain ⟨p, hp, _⟩ := hs1.2.2.2.1 hf1; have := (List.getElem?_eq_some_iff.1 hp).1; omega
      refine wp_seq_k (fun K18 hK18 => ?_)
      refine wp_region_lit ?_
      refine l_q rfl rfl (q_moveI rfl) ?_
      refine l_q rfl rfl (q_assignI rfl) ?_
      refine l_q rfl rfl (q_assignI rfl) ?_
      refine l_q rfl rfl (q_assignB rfl) ?_
      refine l_nil ?_
      refine hK18 _ _ ?_
      refine wp_ret ?_
      refine c_ret3 rfl rfl rfl rfl ?_
      have hi0 : i1 = 0 := by rw [hps] at hi1; simpa using hi1
      exact ⟨_, rfl, ⟨0, 0, false, by rw [hi0]; rfl, .inl ⟨hps, rfl, rfl, rfl⟩⟩, hS3.drop⟩
    ·
      have hc17b := hc17
      try simp only [decide_eq_true_eq, decide_eq_false_iff_not, Bool.not_eq_true', Bool.not_eq_false', Bool.and_eq_true, Bool.or_eq_true, Int.not_lt, Int.not_le, ne_eq, Decidable.not_not] at hc17
      have hi2 : i1 < ps.length := by omega
      refine wp_skip ?_
      refine hK15 _ _ ?_
      refine wp_seq_k (fun K19 hK19 => ?_)
      refine wp_region_lit ?_
      refine l_q rfl rfl (q_moveP rfl) ?_
      refine l_q rfl rfl (q_nilCheck rfl) ?_
      refine l_q rfl rfl (q_fieldAddr (ft := 105) (o := 0) rfl (by kernel_rfl)) ?_
      refine l_q rfl rfl (q_load1 rfl (by kernel_rfl) (cell_blk (hS3.base _ _ hk) rfl)) ?_
      refine l_q rfl rfl (q_moveI rfl) ?_
      refine l_q rfl rfl (q_ixG (e := 111) (m := 1) (j := i1) rfl rfl (by kernel_rfl) (by kernel_rfl) (by first | rfl | omega) (by omega) hG (by rw [rows_len (c := pg) (m := 1) (fun _ => rfl)]; first | omega | (simp only [List.length_append, List.length_map, List.length_cons, List.length_nil, List.length_take, List.length_drop, List.length_set] <;> omega))) ?_
      obtain ⟨x20, hx20⟩ : ∃ x, (ps)[i1]? = some x := ⟨_, List.getElem?_eq_getElem (by first | omega | (simp only [List.length_append, List.length_map, List.length_cons, List.length_nil, List.length_take, List.length_drop, List.length_set] <;> omega) | (simp <;> omega))⟩
      have hok_x20 := hok x20 (List.mem_of_getElem? hx20)
      obtain ⟨hne_x20, hnl_x20⟩ := hne x20 (List.mem_of_getElem? hx20)
      refine l_q rfl rfl (q_load1 rfl (by kernel_rfl) (SlG.cell (hG.mono hS3.base) (Gle.refl _) (row_at hx20 (c := pg) (m := 1) (fun _ => rfl) (j := 0) rfl))) ?_
      refine l_q rfl rfl (q_moveS rfl) ?_
      refine l_e rfl (fun K hK => ?_)
      refine e_call (by kernel_rfl) (bsE_ok x20.es key hkb (by omega) (by omega) _ _ _ _ _ (fun a ha => (hok_x20.2 a ha).mono hS3.base) (srt_up (hpage _ _ hx20) _) (hok_x20.1.mono hS3.base) (hG2.mono hS3.base)) rfl (after_R hS3 (fun v21 w21 hv21 hS21 => ?_))
      clear hS3
      obtain ⟨k2, fd2, rfl, hs2⟩ := hv21
      refine hK _ _ ?_; clear hK K
      refine l_q rfl rfl (q_move rfl) ?_
      refine l_q rfl rfl (q_extract rfl rfl) ?_
      refine l_q rfl rfl (q_extract rfl rfl) ?_
      refine l_q rfl rfl (q_assignI rfl) ?_
      refine l_q rfl rfl (q_assignB rfl) ?_
      refine l_nil ?_
      refine hK19 _ _ ?_
      refine wp_seq_k (fun K22 hK22 => ?_)
      refine wp_region_lit ?_
      refine l_q rfl rfl (q_moveI rfl) ?_
      refine l_q rfl rfl (q_moveI rfl) ?_
      refine l_q rfl rfl (q_moveB rfl) ?_
      refine l_q rfl rfl (q_assignI rfl) ?_
      refine l_q rfl rfl (q_assignI rfl) ?_
      refine l_q rfl rfl (q_assignB rfl) ?_
      refine l_nil ?_
      refine hK22 _ _ ?_
      refine wp_ret ?_
      refine c_ret3 rfl rfl rfl rfl ?_
      exact ⟨_, rfl, ⟨i1, k2, fd2, rfl, where_of hP hs1 (by simp [hf1]) hx20 hs2⟩, hS21.drop⟩

end Go.Proofs.Ytmbbkliekgiolaa
