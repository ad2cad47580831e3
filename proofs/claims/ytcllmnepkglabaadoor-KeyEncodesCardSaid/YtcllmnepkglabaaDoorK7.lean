/- law04: KeyBegins. -/
import Derived.Test.YtcllmnepkglabaaDoorK6
import Derived.Test.YtcllmnepkglabaaDoorKP
import Derived.Test.YtcllmnepkglabaaDoorSd
set_option linter.unusedVariables false
set_option linter.unusedSimpArgs false
namespace Go.Proofs.YtcllmnepkglabaaDoor
open Go.RowKit
theorem ency_ok (L : List Vl) (h : RsOk L) (h16 : L.length ≤ 16) (n : Nat) (hn : L.length = n) (al : Option Addr) (cl : Nat) (w : World) (hG : SlG (hw w) al (List.flatMap vl L)) :
    Calls Tryd.prog 12 #[.slice al n cl] w (PostN w fun v G => ∃ oa oc, v = .tuple #[.slice oa (enc L).length oc, .int .i64 0] ∧ G = [.ow 5 1 oa (enc L).length oc (bv (enc L))]) := by
  have := enc_ok L h.1 n hn al cl w hG
  rw [encR_yes h16 h.2] at this
  exact this
theorem rs_of {L : List Vl} (hL : VsOk L) (h : rightL L = true) : RsOk L := ⟨hL, (rightL_le h).2⟩
theorem enc_ne {L : List Vl} (h : RsOk L) (hp : 0 < L.length) : nxB (enc L) ≠ [] := by
  intro hn
  match L, hp with
  | v :: L, _ =>
    obtain ⟨k0, k5, _, _⟩ := right_k h.hd.2
    rcases nx_split (enc (v :: L)) with ⟨X, y, Z, _, _, _, h3⟩ | ⟨h2, _⟩
    · rw [h3] at hn; simp at hn
    · have := h2 (v.1.toNat % 256) (by rw [enc_cons]; exact List.mem_append_left _ (.head _))
      omega
/-- What lies from the bytes of the first values up to ahead of Next of them. -/
theorem begins_in {L O : List Vl} {n : Nat} (hL : RsOk L) (hO : RsOk O) (hn : 0 < n) (hnl : n ≤ L.length) : (bl (enc O) (enc (L.take n)) = false ∧ bl (enc O) (nxB (enc (L.take n))) = true) ↔ O.take n = L.take n := by
  have hT := hL.take n
  have hne := enc_ne hT (by rw [List.length_take]; omega)
  have h1 := next_in (b := enc (L.take n)) (enc_bytes hO.1)
  constructor
  · rintro ⟨h2, h3⟩
    obtain ⟨r, hr⟩ := h1.1 ⟨h2, .inr h3⟩
    obtain ⟨m, rfl, _⟩ := enc_pre hT hO hr
    rw [List.take_left' (by rw [List.length_take]; omega)]
  · intro h2
    have h3 : enc O = enc (L.take n) ++ enc (O.drop n) := by rw [← h2, ← enc_app, List.take_append_drop]
    obtain ⟨h4, h5⟩ := h1.2 ⟨_, h3⟩
    exact ⟨h4, h5.resolve_left hne⟩
theorem begins_eq {L O : List Vl} {n i : Nat} {bg : Bool} (hL : RsOk L) (hO : RsOk O) (hn : 0 < n) (hnl : n ≤ L.length) (hi : n ≤ i ∨ bg = false) (ht : bg = true → n ≤ O.length ∧ O.take i = L.take i) (hf : bg = false → O.take n ≠ L.take n) (hin : i ≤ n) :
    (bl (enc O) (enc (L.take n)) = false ∧ bl (enc O) (nxB (enc (L.take n))) = true) ↔ bg = true := by
  rw [begins_in hL hO hn hnl]
  cases bg with
  | true =>
    have : i = n := by rcases hi with h | h <;> first | omega | cases h
    subst this
    exact ⟨fun _ => rfl, fun _ => (ht rfl).2⟩
  | false => exact ⟨fun h => absurd h (hf rfl), fun h => by cases h⟩
theorem bg0 {L O : List Vl} {n : Nat} (hnl : n ≤ L.length) : (decide (n ≤ O.length) = true → n ≤ O.length ∧ O.take 0 = L.take 0) ∧ (decide (n ≤ O.length) = false → O.take n ≠ L.take n) := by
  refine ⟨fun h => ⟨of_decide_eq_true h, rfl⟩, fun h h2 => ?_⟩
  have := congrArg List.length h2
  have h3 := of_decide_eq_false h
  rw [List.length_take, List.length_take] at this
  omega
theorem bgS {L O : List Vl} {n i : Nat} {x y : Vl} (hx : O[i]? = some x) (hy : L[i]? = some y) (hin : i < n) (ht : n ≤ O.length ∧ O.take i = L.take i) :
    (decide ((x.1, x.2.1, x.2.2) = (y.1, y.2.1, y.2.2)) = true → n ≤ O.length ∧ O.take (i + 1) = L.take (i + 1)) ∧ (decide ((x.1, x.2.1, x.2.2) = (y.1, y.2.1, y.2.2)) = false → O.take n ≠ L.take n) := by
  have hxy : (x.1, x.2.1, x.2.2) = (y.1, y.2.1, y.2.2) ↔ x = y := Iff.rfl
  refine ⟨fun h => ⟨ht.1, ?_⟩, fun h h2 => ?_⟩
  · have h3 := hxy.1 (of_decide_eq_true h)
    rw [List.take_add_one, List.take_add_one, hx, hy, h3, ht.2]
  · have h3 := congrArg (fun l => l[i]?) h2
    simp only [List.getElem?_take, if_pos hin, hx, hy] at h3
    exact of_decide_eq_false h (hxy.2 (Option.some.inj h3))
theorem pre_take {L : List Vl} {n : Nat} : enc L = enc (L.take n) ++ enc (L.drop n) := by rw [← enc_app, List.take_append_drop]
theorem in_bg1 {p q bg : Bool} (h : (p = false ∧ q = true) ↔ bg = true) (hp : p = false) : (q == bg) = true := by
  revert h hp; cases p <;> cases q <;> cases bg <;> simp
theorem in_bg2 {p q bg : Bool} (h : (p = false ∧ q = true) ↔ bg = true) (hp : p = true) : (false == bg) = true := by
  revert h hp; cases p <;> cases q <;> cases bg <;> simp
theorem nx0 {L : List Vl} {k : Nat} (h : k = 0) : nxB (enc (L.take k)) = [] := by subst h; rfl
theorem en0 {L : List Vl} {k : Nat} (h : k = 0) : (enc (L.take k)).length = 0 := by subst h; rfl
attribute [local irreducible] Oper.wp Sem.run Code.wp wpList wpAnyO callFunc execOp Calls
attribute [local irreducible] enc encR rightB toU encV nxB nxN fewB rightL vls vlt

set_option maxRecDepth 100000 in
theorem kbegins_ok (L O : List Vl) (n : Int) (hL : VsOk L) (hO : VsOk O) (al ao : Option Addr) (cl co : Nat) (hcl : L.length ≤ cl) (hco : O.length ≤ co) (hLm : L.length ≤ 9223372036854775807) (hOm : O.length ≤ 9223372036854775807) (w : World) (hG : SlG (hw w) al (List.flatMap vl L)) (hGo : SlG (hw w) ao (List.flatMap vl O)) : Calls Tryd.prog 3 #[.slice al L.length cl, .int .i64 n, .slice ao O.length co] w (PostR w fun v => v = .bool true) := by
  have hS := St.start w
  refine c_enter Tryd.func3 rfl rfl rfl ?_
  refine wp_seq_k (fun K1 hK1 => ?_)
  refine wp_region_lit ?_
  refine l_q rfl rfl (q_assignB rfl) ?_
  refine l_nil ?_
  refine hK1 _ _ ?_
  refine wp_seq_k (fun K2 hK2 => ?_)
  refine wp_region_lit ?_
  refine l_q rfl rfl (q_moveS rfl) ?_
  refine l_e rfl (fun K hK => ?_)
  refine e_call (by kernel_rfl) (few_ok L hL L.length (by first | omega | (simp only [List.length_append, List.length_map, List.length_cons, List.length_nil, List.length_take, List.length_drop, List.length_set] <;> omega)) _ _ _ (hG.mono hS.base)) rfl (after_R hS (fun v3 w3 hv3 hS3 => ?_))
  clear hS
  obtain rfl := hv3
  refine hK _ _ ?_; clear hK K
  refine l_q rfl rfl (q_assignB rfl) ?_
  refine l_nil ?_
  refine hK2 _ _ ?_
  refine wp_seq_k (fun K4 hK4 => ?_)
  refine wp_region_lit ?_
  refine l_q rfl rfl (q_moveS rfl) ?_
  refine l_e rfl (fun K hK => ?_)
  refine e_call (by kernel_rfl) (rightl_ok L hL L.length (by first | omega | (simp only [List.length_append, List.length_map, List.length_cons, List.length_nil, List.length_take, List.length_drop, List.length_set] <;> omega)) _ _ (by first | omega | (simp only [List.length_append, List.length_map, List.length_cons, List.length_nil, List.length_take, List.length_drop, List.length_set] <;> omega)) _ (hG.mono hS3.base)) rfl (after_R hS3 (fun v5 w5 hv5 hS5 => ?_))
  clear hS3
  obtain rfl := hv5
  refine hK _ _ ?_; clear hK K
  refine l_q rfl rfl (q_assignB rfl) ?_
  refine l_nil ?_
  refine hK4 _ _ ?_
  refine wp_seq_k (fun K6 hK6 => ?_)
  refine wp_region_lit ?_
  refine l_q rfl rfl (q_moveS rfl) ?_
  refine l_e rfl (fun K hK => ?_)
  refine e_call (by kernel_rfl) (few_ok O hO O.length (by first | omega | (simp only [List.length_append, List.length_map, List.length_cons, List.length_nil, List.length_take, List.length_drop, List.length_set] <;> omega)) _ _ _ (hGo.mono hS5.base)) rfl (after_R hS5 (fun v7 w7 hv7 hS7 => ?_))
  clear hS5
  obtain rfl := hv7
  refine hK _ _ ?_; clear hK K
  refine l_q rfl rfl (q_assignB rfl) ?_
  refine l_nil ?_
  refine hK6 _ _ ?_
  refine wp_seq_k (fun K8 hK8 => ?_)
  refine wp_region_lit ?_
  refine l_q rfl rfl (q_moveS rfl) ?_
  refine l_e rfl (fun K hK => ?_)
  refine e_call (by kernel_rfl) (rightl_ok O hO O.length (by first | omega | (simp only [List.length_append, List.length_map, List.length_cons, List.length_nil, List.length_take, List.length_drop, List.length_set] <;> omega)) _ _ (by first | omega | (simp only [List.length_append, List.length_map, List.length_cons, List.length_nil, List.length_take, List.length_drop, List.length_set] <;> omega)) _ (hGo.mono hS7.base)) rfl (after_R hS7 (fun v9 w9 hv9 hS9 => ?_))
  clear hS7
  obtain rfl := hv9
  refine hK _ _ ?_; clear hK K
  refine l_q rfl rfl (q_assignB rfl) ?_
  refine l_nil ?_
  refine hK8 _ _ ?_
  refine wp_seq_k (fun K10 hK10 => ?_)
  refine wp_seq_k (fun K11 hK11 => ?_)
  refine wp_region_lit ?_
  refine l_q rfl rfl (q_moveB rfl) ?_
  refine l_q rfl rfl (q_not rfl) ?_
  refine l_q rfl rfl (q_moveB rfl) ?_
  refine g_splitL (t := 31) rfl (fun hg12 => ?_) (fun hg12 => ?_)
  ·
    have hg12b := hg12
    try simp only [decide_eq_true_eq, decide_eq_false_iff_not, Bool.not_eq_true', Bool.not_eq_false', Bool.and_eq_true, Bool.or_eq_true, Int.not_lt, Int.not_le, ne_eq, Decidable.not_not] at hg12
    refine l_off rfl rfl rfl hg12b ?_
    refine l_off rfl rfl rfl hg12b ?_
    refine l_q rfl rfl (q_pickT rfl hg12b rfl) ?_
    refine l_q rfl rfl (q_moveB rfl) ?_
    refine l_off rfl rfl rfl rfl ?_
    refine l_off rfl rfl rfl rfl ?_
    refine l_q rfl rfl (q_pickT rfl rfl rfl) ?_
    refine l_q rfl rfl (q_moveB rfl) ?_
    refine l_off rfl rfl rfl rfl ?_
    refine l_off rfl rfl rfl rfl ?_
    refine l_q rfl rfl (q_pickT rfl rfl rfl) ?_
    refine l_q rfl rfl (q_moveB rfl) ?_
    refine l_off rfl rfl rfl rfl ?_
    refine l_off rfl rfl rfl rfl ?_
    refine l_q rfl rfl (q_pickT rfl rfl rfl) ?_
    refine l_q rfl rfl (q_moveB rfl) ?_
    refine l_off rfl rfl rfl rfl ?_
    refine l_off rfl rfl rfl rfl ?_
    refine l_off rfl rfl rfl rfl ?_
    refine l_off rfl rfl rfl rfl ?_
    refine l_q rfl rfl (q_pickT rfl rfl rfl) ?_
    refine l_nil ?_
    refine hK11 _ _ ?_
    refine c_condT rfl rfl ?_
    refine wp_seq_k (fun K14 hK14 => ?_)
    refine wp_region_lit ?_
    refine l_e rfl (fun K hK => ?_)
    refine e_call (by kernel_rfl) (alive4_ok _) rfl (after_R hS9 (fun v15 w15 hv15 hS15 => ?_))
    clear hS9
    obtain rfl := hv15
    refine hK _ _ ?_; clear hK K
    refine l_q rfl rfl (q_assignB rfl) ?_
    refine l_nil ?_
    refine hK14 _ _ ?_
    refine wp_ret ?_
    refine c_ret1 rfl rfl ?_
    exact ⟨_, rfl, rfl, hS15.drop⟩
  ·
    have hg12b := hg12
    try simp only [decide_eq_true_eq, decide_eq_false_iff_not, Bool.not_eq_true', Bool.not_eq_false', Bool.and_eq_true, Bool.or_eq_true, Int.not_lt, Int.not_le, ne_eq, Decidable.not_not] at hg12
    refine l_on rfl rfl hg12b ?_
    refine l_q rfl rfl (q_moveB rfl) ?_
    refine l_on rfl rfl hg12b ?_
    refine l_q rfl rfl (q_not rfl) ?_
    refine l_q rfl rfl (q_pickF rfl hg12b rfl) ?_
    refine l_q rfl rfl (q_moveB rfl) ?_
    refine g_splitL (t := 35) rfl (fun hg16 => ?_) (fun hg16 => ?_)
    ·
      have hg16b := hg16
      try simp only [decide_eq_true_eq, decide_eq_false_iff_not, Bool.not_eq_true', Bool.not_eq_false', Bool.and_eq_true, Bool.or_eq_true, Int.not_lt, Int.not_le, ne_eq, Decidable.not_not] at hg16
      refine l_off rfl rfl rfl hg16b ?_
      refine l_off rfl rfl rfl hg16b ?_
      refine l_q rfl rfl (q_pickT rfl hg16b rfl) ?_
      refine l_q rfl rfl (q_moveB rfl) ?_
      refine l_off rfl rfl rfl rfl ?_
      refine l_off rfl rfl rfl rfl ?_
      refine l_q rfl rfl (q_pickT rfl rfl rfl) ?_
      refine l_q rfl rfl (q_moveB rfl) ?_
      refine l_off rfl rfl rfl rfl ?_
      refine l_off rfl rfl rfl rfl ?_
      refine l_q rfl rfl (q_pickT rfl rfl rfl) ?_
      refine l_q rfl rfl (q_moveB rfl) ?_
      refine l_off rfl rfl rfl rfl ?_
      refine l_off rfl rfl rfl rfl ?_
      refine l_off rfl rfl rfl rfl ?_
      refine l_off rfl rfl rfl rfl ?_
      refine l_q rfl rfl (q_pickT rfl rfl rfl) ?_
      refine l_nil ?_
      refine hK11 _ _ ?_
      refine c_condT rfl rfl ?_
      refine wp_seq_k (fun K18 hK18 => ?_)
      refine wp_region_lit ?_
      refine l_e rfl (fun K hK => ?_)
      refine e_call (by kernel_rfl) (alive4_ok _) rfl (after_R hS9 (fun v19 w19 hv19 hS19 => ?_))
      clear hS9
      obtain rfl := hv19
      refine hK _ _ ?_; clear hK K
      refine l_q rfl rfl (q_assignB rfl) ?_
      refine l_nil ?_
      refine hK18 _ _ ?_
      refine wp_ret ?_
      refine c_ret1 rfl rfl ?_
      exact ⟨_, rfl, rfl, hS19.drop⟩
    ·
      have hg16b := hg16
      try simp only [decide_eq_true_eq, decide_eq_false_iff_not, Bool.not_eq_true', Bool.not_eq_false', Bool.and_eq_true, Bool.or_eq_true, Int.not_lt, Int.not_le, ne_eq, Decidable.not_not] at hg16
      refine l_on rfl rfl hg16b ?_
      refine l_q rfl rfl (q_moveB rfl) ?_
      refine l_on rfl rfl hg16b ?_
      refine l_q rfl rfl (q_not rfl) ?_
      refine l_q rfl rfl (q_pickF rfl hg16b rfl) ?_
      refine l_q rfl rfl (q_moveB rfl) ?_
      refine g_splitL (t := 39) rfl (fun hg20 => ?_) (fun hg20 => ?_)
      ·
        have hg20b := hg20
        try simp only [decide_eq_true_eq, decide_eq_false_iff_not, Bool.not_eq_true', Bool.not_eq_false', Bool.and_eq_true, Bool.or_eq_true, Int.not_lt, Int.not_le, ne_eq, Decidable.not_not] at hg20
        refine l_off rfl rfl rfl hg20b ?_
        refine l_off rfl rfl rfl hg20b ?_
        refine l_q rfl rfl (q_pickT rfl hg20b rfl) ?_
        refine l_q rfl rfl (q_moveB rfl) ?_
        refine l_off rfl rfl rfl rfl ?_
        refine l_off rfl rfl rfl rfl ?_
        refine l_q rfl rfl (q_pickT rfl rfl rfl) ?_
        refine l_q rfl rfl (q_moveB rfl) ?_
        refine l_off rfl rfl rfl rfl ?_
        refine l_off rfl rfl rfl rfl ?_
        refine l_off rfl rfl rfl rfl ?_
        refine l_off rfl rfl rfl rfl ?_
        refine l_q rfl rfl (q_pickT rfl rfl rfl) ?_
        refine l_nil ?_
        refine hK11 _ _ ?_
        refine c_condT rfl rfl ?_
        refine wp_seq_k (fun K22 hK22 => ?_)
        refine wp_region_lit ?_
        refine l_e rfl (fun K hK => ?_)
        refine e_call (by kernel_rfl) (alive4_ok _) rfl (after_R hS9 (fun v23 w23 hv23 hS23 => ?_))
        clear hS9
        obtain rfl := hv23
        refine hK _ _ ?_; clear hK K
        refine l_q rfl rfl (q_assignB rfl) ?_
        refine l_nil ?_
        refine hK22 _ _ ?_
        refine wp_ret ?_
        refine c_ret1 rfl rfl ?_
        exact ⟨_, rfl, rfl, hS23.drop⟩
      ·
        have hg20b := hg20
        try simp only [decide_eq_true_eq, decide_eq_false_iff_not, Bool.not_eq_true', Bool.not_eq_false', Bool.and_eq_true, Bool.or_eq_true, Int.not_lt, Int.not_le, ne_eq, Decidable.not_not] at hg20
        refine l_on rfl rfl hg20b ?_
        refine l_q rfl rfl (q_moveB rfl) ?_
        refine l_on rfl rfl hg20b ?_
        refine l_q rfl rfl (q_not rfl) ?_
        refine l_q rfl rfl (q_pickF rfl hg20b rfl) ?_
        refine l_q rfl rfl (q_moveB rfl) ?_
        refine g_splitL (t := 43) rfl (fun hg24 => ?_) (fun hg24 => ?_)
        ·
          have hg24b := hg24
          try simp only [decide_eq_true_eq, decide_eq_false_iff_not, Bool.not_eq_true', Bool.not_eq_false', Bool.and_eq_true, Bool.or_eq_true, Int.not_lt, Int.not_le, ne_eq, Decidable.not_not] at hg24
          refine l_off rfl rfl rfl hg24b ?_
          refine l_off rfl rfl rfl hg24b ?_
          refine l_q rfl rfl (q_pickT rfl hg24b rfl) ?_
          refine l_q rfl rfl (q_moveB rfl) ?_
          refine l_off rfl rfl rfl rfl ?_
          refine l_off rfl rfl rfl rfl ?_
          refine l_off rfl rfl rfl rfl ?_
          refine l_off rfl rfl rfl rfl ?_
          refine l_q rfl rfl (q_pickT rfl rfl rfl) ?_
          refine l_nil ?_
          refine hK11 _ _ ?_
          refine c_condT rfl rfl ?_
          refine wp_seq_k (fun K26 hK26 => ?_)
          refine wp_region_lit ?_
          refine l_e rfl (fun K hK => ?_)
          refine e_call (by kernel_rfl) (alive4_ok _) rfl (after_R hS9 (fun v27 w27 hv27 hS27 => ?_))
          clear hS9
          obtain rfl := hv27
          refine hK _ _ ?_; clear hK K
          refine l_q rfl rfl (q_assignB rfl) ?_
          refine l_nil ?_
          refine hK26 _ _ ?_
          refine wp_ret ?_
          refine c_ret1 rfl rfl ?_
          exact ⟨_, rfl, rfl, hS27.drop⟩
        ·
          have hg24b := hg24
          try simp only [decide_eq_true_eq, decide_eq_false_iff_not, Bool.not_eq_true', Bool.not_eq_false', Bool.and_eq_true, Bool.or_eq_true, Int.not_lt, Int.not_le, ne_eq, Decidable.not_not] at hg24
          refine l_on rfl rfl hg24b ?_
          refine l_q rfl rfl (q_moveI rfl) ?_
          refine l_on rfl rfl hg24b ?_
          refine l_q rfl rfl (q_lss rfl rfl) ?_
          refine l_q rfl rfl (q_pickF rfl hg24b rfl) ?_
          refine l_q rfl rfl (q_moveB rfl) ?_
          refine g_splitL (t := 47) rfl (fun hg28 => ?_) (fun hg28 => ?_)
          ·
            have hg28b := hg28
            try simp only [decide_eq_true_eq, decide_eq_false_iff_not, Bool.not_eq_true', Bool.not_eq_false', Bool.and_eq_true, Bool.or_eq_true, Int.not_lt, Int.not_le, ne_eq, Decidable.not_not] at hg28
            refine l_off rfl rfl rfl hg28b ?_
            refine l_off rfl rfl rfl hg28b ?_
            refine l_off rfl rfl rfl hg28b ?_
            refine l_off rfl rfl rfl hg28b ?_
            refine l_q rfl rfl (q_pickT rfl hg28b rfl) ?_
            refine l_nil ?_
            refine hK11 _ _ ?_
            refine c_condT rfl rfl ?_
            refine wp_seq_k (fun K30 hK30 => ?_)
            refine wp_region_lit ?_
            refine l_e rfl (fun K hK => ?_)
            refine e_call (by kernel_rfl) (alive4_ok _) rfl (after_R hS9 (fun v31 w31 hv31 hS31 => ?_))
            clear hS9
            obtain rfl := hv31
            refine hK _ _ ?_; clear hK K
            refine l_q rfl rfl (q_assignB rfl) ?_
            refine l_nil ?_
            refine hK30 _ _ ?_
            refine wp_ret ?_
            refine c_ret1 rfl rfl ?_
            exact ⟨_, rfl, rfl, hS31.drop⟩
          ·
            have hg28b := hg28
            try simp only [decide_eq_true_eq, decide_eq_false_iff_not, Bool.not_eq_true', Bool.not_eq_false', Bool.and_eq_true, Bool.or_eq_true, Int.not_lt, Int.not_le, ne_eq, Decidable.not_not] at hg28
            refine l_on rfl rfl hg28b ?_
            refine l_q rfl rfl (q_moveI rfl) ?_
            refine l_on rfl rfl hg28b ?_
            refine l_q rfl rfl (q_moveS rfl) ?_
            refine l_on rfl rfl hg28b ?_
            refine l_q rfl rfl (q_lenSl (e := 31) rfl (by kernel_rfl)) ?_
            refine l_on rfl rfl hg28b ?_
            refine l_q rfl rfl (q_gtr rfl rfl) ?_
            refine l_q rfl rfl (q_pickF rfl hg28b rfl) ?_
            refine l_nil ?_
            refine hK11 _ _ ?_
            refine c_cond rfl (fun hc32 => ?_) (fun hc32 => ?_)
            ·
              have hc32b := hc32
              try simp only [decide_eq_true_eq, decide_eq_false_iff_not, Bool.not_eq_true', Bool.not_eq_false', Bool.and_eq_true, Bool.or_eq_true, Int.not_lt, Int.not_le, ne_eq, Decidable.not_not] at hc32
              refine wp_seq_k (fun K33 hK33 => ?_)
              refine wp_region_lit ?_
              refine l_e rfl (fun K hK => ?_)
              refine e_call (by kernel_rfl) (alive4_ok _) rfl (after_R hS9 (fun v34 w34 hv34 hS34 => ?_))
              clear hS9
              obtain rfl := hv34
              refine hK _ _ ?_; clear hK K
              refine l_q rfl rfl (q_assignB rfl) ?_
              refine l_nil ?_
              refine hK33 _ _ ?_
              refine wp_ret ?_
              refine c_ret1 rfl rfl ?_
              exact ⟨_, rfl, rfl, hS34.drop⟩
            ·
              have hc32b := hc32
              try simp only [decide_eq_true_eq, decide_eq_false_iff_not, Bool.not_eq_true', Bool.not_eq_false', Bool.and_eq_true, Bool.or_eq_true, Int.not_lt, Int.not_le, ne_eq, Decidable.not_not] at hc32
              have hfl : fewB L = true := by assumption
              have hrl : rightL L = true := by assumption
              have hfo : fewB O = true := by assumption
              have hro : rightL O = true := by assumption
              have hRL := rs_of hL hrl
              have hRO := rs_of hO hro
              have hL16 := (rightL_le hrl).1
              have hO16 := (rightL_le hro).1
              have hT16 : (L.take n.toNat).length ≤ 16 := by rw [List.length_take]; omega
              have htl : (L.take n.toNat).length = n.toNat := by rw [List.length_take]; omega
              refine wp_skip ?_
              refine hK10 _ _ ?_
              refine wp_seq_k (fun K35 hK35 => ?_)
              refine wp_region_lit ?_
              refine l_q rfl rfl (q_moveS rfl) ?_
              refine l_e rfl (fun K hK => ?_)
              have hel36 := enc_len hRL.2
              refine e_call (by kernel_rfl) (ency_ok L hRL hL16 L.length (by first | omega | (simp only [List.length_append, List.length_map, List.length_cons, List.length_nil, List.length_take, List.length_drop, List.length_set] <;> omega)) _ _ _ (hG.mono hS9.base)) rfl (after_N hS9 (fun v36 G36 w36 hv36 hS36 => ?_))
              clear hS9
              obtain ⟨oa36, oc36, rfl, rfl⟩ := hv36
              have hS37 : St _ _ [.ow 5 1 oa36 ((enc L).length) oc36 (bv (enc L))] _ := hS36; clear hS36
              refine hK _ _ ?_; clear hK K
              refine l_q rfl rfl (q_move rfl) ?_
              refine l_q rfl rfl (q_extract rfl rfl) ?_
              refine l_q rfl rfl (q_extract rfl rfl) ?_
              refine l_q rfl rfl (q_assignS rfl) ?_
              refine l_q rfl rfl (q_assignI rfl) ?_
              refine l_nil ?_
              refine hK35 _ _ ?_
              refine wp_seq_k (fun K38 hK38 => ?_)
              refine wp_region_lit ?_
              refine l_q rfl rfl (q_moveS rfl) ?_
              refine l_q rfl rfl (q_moveI rfl) ?_
              refine l_q rfl rfl (q_sliceX (e := 31) (size := 3) (l := 0) (h := n.toNat) (m := cl) (ad' := al) (len' := n.toNat) (cap' := cl) rfl (by kernel_rfl) (by kernel_rfl) rfl ⟨_, int_nat (by first | rfl | omega) rfl⟩ rfl (by omega) (by first | omega | (simp only [List.length_append, List.length_map, List.length_cons, List.length_nil, List.length_take, List.length_drop, List.length_set] <;> omega)) (by first | omega | (simp only [List.length_append, List.length_map, List.length_cons, List.length_nil, List.length_take, List.length_drop, List.length_set] <;> omega)) rfl subS_zero (Nat.sub_zero _) (Nat.sub_zero _)) ?_
              refine l_e rfl (fun K hK => ?_)
              have hel39 := enc_len (hRL.take n.toNat).2
              refine e_call (by kernel_rfl) (ency_ok (L.take n.toNat) (hRL.take n.toNat) hT16 n.toNat (by first | omega | (simp only [List.length_append, List.length_map, List.length_cons, List.length_nil, List.length_take, List.length_drop, List.length_set] <;> omega)) _ _ _ ((rows_takeG (c := vl) (m := 3) (fun _ => rfl) hG).mono hS37.base)) rfl (after_N hS37 (fun v39 G39 w39 hv39 hS39 => ?_))
              clear hS37
              obtain ⟨oa39, oc39, rfl, rfl⟩ := hv39
              have hS40 : St _ _ [.ow 5 1 oa39 ((enc (L.take n.toNat)).length) oc39 (bv (enc (L.take n.toNat))), .ow 5 1 oa36 ((enc L).length) oc36 (bv (enc L))] _ := hS39; clear hS39
              refine hK _ _ ?_; clear hK K
              refine l_q rfl rfl (q_move rfl) ?_
              refine l_q rfl rfl (q_extract rfl rfl) ?_
              refine l_q rfl rfl (q_extract rfl rfl) ?_
              refine l_q rfl rfl (q_assignS rfl) ?_
              refine l_q rfl rfl (q_assignI rfl) ?_
              refine l_nil ?_
              refine hK38 _ _ ?_
              refine wp_seq_k (fun K41 hK41 => ?_)
              refine wp_region_lit ?_
              refine l_q rfl rfl (q_moveS rfl) ?_
              refine l_e rfl (fun K hK => ?_)
              have hel42 := enc_len hRO.2
              refine e_call (by kernel_rfl) (ency_ok O hRO hO16 O.length (by first | omega | (simp only [List.length_append, List.length_map, List.length_cons, List.length_nil, List.length_take, List.length_drop, List.length_set] <;> omega)) _ _ _ (hGo.mono hS40.base)) rfl (after_N hS40 (fun v42 G42 w42 hv42 hS42 => ?_))
              clear hS40
              obtain ⟨oa42, oc42, rfl, rfl⟩ := hv42
              have hS43 : St _ _ [.ow 5 1 oa42 ((enc O).length) oc42 (bv (enc O)), .ow 5 1 oa39 ((enc (L.take n.toNat)).length) oc39 (bv (enc (L.take n.toNat))), .ow 5 1 oa36 ((enc L).length) oc36 (bv (enc L))] _ := hS42; clear hS42
              refine hK _ _ ?_; clear hK K
              refine l_q rfl rfl (q_move rfl) ?_
              refine l_q rfl rfl (q_extract rfl rfl) ?_
              refine l_q rfl rfl (q_extract rfl rfl) ?_
              refine l_q rfl rfl (q_assignS rfl) ?_
              refine l_q rfl rfl (q_assignI rfl) ?_
              refine l_nil ?_
              refine hK41 _ _ ?_
              refine wp_seq_k (fun K44 hK44 => ?_)
              refine wp_seq_k (fun K45 hK45 => ?_)
              have hpt := congrArg List.length (pre_take (L := L) (n := n.toNat))
              rw [List.length_append] at hpt
              have hpx : (enc L).take (enc (L.take n.toNat)).length = enc (L.take n.toNat) := by have h := pre_take (L := L) (n := n.toNat); generalize enc (L.take n.toNat) = A at h ⊢; rw [h]; exact List.take_left' rfl
              refine r_any (by kernel_rfl) hS43 (fun w46 hS46 => ?_)
              clear hS43
              refine o_pure (i := 0) (fun _ _ => trivial) rfl rfl (by kernel_rfl) (goes0 rfl) (QOk.then (QOk.then QOk.body)) (fun w => q_moveI rfl) ?_
              refine o_pure (i := 1) (fun _ _ => trivial) rfl rfl (by kernel_rfl) (goes0 rfl) (QOk.then (QOk.then QOk.body)) (fun w => q_neq rfl rfl) ?_
              refine o_pure (i := 2) (fun _ _ => trivial) rfl rfl (by kernel_rfl) (goes0 rfl) (QOk.then (QOk.then QOk.body)) (fun w => q_moveB rfl) ?_
              refine o_pure (i := 3) (fun _ _ => trivial) rfl rfl (by kernel_rfl) (goes1 rfl rfl (by decide)) (QOk.then (QOk.then QOk.body)) (fun w => q_moveI rfl) ?_
              refine o_pure (i := 4) (fun _ _ => trivial) rfl rfl (by kernel_rfl) (goes1 rfl rfl (by decide)) (QOk.then (QOk.then QOk.body)) (fun w => q_neq rfl rfl) ?_
              refine o_pure (i := 5) (fun _ _ => trivial) rfl rfl (by kernel_rfl) (goes0 rfl) (QOk.then (QOk.then QOk.body)) (fun w => q_pickF rfl (by decide) rfl) ?_
              refine o_pure (i := 6) (fun _ _ => trivial) rfl rfl (by kernel_rfl) (goes0 rfl) (QOk.then (QOk.then QOk.body)) (fun w => q_moveB rfl) ?_
              refine o_pure (i := 7) (fun _ _ => trivial) rfl rfl (by kernel_rfl) (goes1 rfl rfl (by decide)) (QOk.then (QOk.then QOk.body)) (fun w => q_moveI rfl) ?_
              refine o_pure (i := 8) (fun _ _ => trivial) rfl rfl (by kernel_rfl) (goes1 rfl rfl (by decide)) (QOk.then (QOk.then QOk.body)) (fun w => q_neq rfl rfl) ?_
              refine o_pure (i := 9) (fun _ _ => trivial) rfl rfl (by kernel_rfl) (goes0 rfl) (QOk.then (QOk.then QOk.body)) (fun w => q_pickF rfl (by decide) rfl) ?_
              refine o_pure (i := 10) (fun _ _ => trivial) rfl rfl (by kernel_rfl) (goes0 rfl) (QOk.then (QOk.then QOk.body)) (fun w => q_moveB rfl) ?_
              refine o_pure (i := 11) (fun _ _ => trivial) rfl rfl (by kernel_rfl) (goes1 rfl rfl (by decide)) (QOk.then (QOk.then QOk.body)) (fun w => q_moveS rfl) ?_
              refine o_pure (i := 12) (fun _ _ => trivial) rfl rfl (by kernel_rfl) (goes1 rfl rfl (by decide)) (QOk.then (QOk.then QOk.body)) (fun w => q_lenSl (e := 5) rfl (by kernel_rfl)) ?_
              refine o_pure (i := 13) (fun _ _ => trivial) rfl rfl (by kernel_rfl) (goes1 rfl rfl (by decide)) (QOk.then (QOk.then QOk.body)) (fun w => q_moveS rfl) ?_
              refine o_pure (i := 14) (fun _ _ => trivial) rfl rfl (by kernel_rfl) (goes1 rfl rfl (by decide)) (QOk.then (QOk.then QOk.body)) (fun w => q_lenSl (e := 5) rfl (by kernel_rfl)) ?_
              refine o_pure (i := 15) (fun _ _ => trivial) rfl rfl (by kernel_rfl) (goes1 rfl rfl (by decide)) (QOk.then (QOk.then QOk.body)) (fun w => q_lss rfl rfl) ?_
              refine o_pure (i := 16) (fun _ _ => trivial) rfl rfl (by kernel_rfl) (goes0 rfl) (QOk.then (QOk.then QOk.body)) (fun w => q_pickF rfl (by decide) rfl) ?_
              refine o_pure (i := 17) (fun _ _ => trivial) rfl rfl (by kernel_rfl) (goes0 rfl) (QOk.then (QOk.then QOk.body)) (fun w => q_moveB rfl) ?_
              refine g_splitO (t := 88) rfl (fun hg47 => ?_) (fun hg47 => ?_)
              ·
                have hg47b := hg47
                try simp only [decide_eq_true_eq, decide_eq_false_iff_not, Bool.not_eq_true', Bool.not_eq_false', Bool.and_eq_true, Bool.or_eq_true, Int.not_lt, Int.not_le, ne_eq, Decidable.not_not] at hg47
                refine o_off (i := 18) (fun _ _ => trivial) rfl rfl (by kernel_rfl) rfl rfl hg47b (QOk.then (QOk.then QOk.body)) ?_
                refine o_off (i := 19) (fun _ _ => trivial) rfl rfl (by kernel_rfl) rfl rfl hg47b (QOk.then (QOk.then QOk.body)) ?_
                refine o_off (i := 20) (fun _ _ => trivial) rfl rfl (by kernel_rfl) rfl rfl hg47b (QOk.then (QOk.then QOk.body)) ?_
                refine o_off (i := 21) (fun _ _ => trivial) rfl rfl (by kernel_rfl) rfl rfl hg47b (QOk.then (QOk.then QOk.body)) ?_
                refine o_off (i := 22) (fun _ _ => trivial) rfl rfl (by kernel_rfl) rfl rfl hg47b (QOk.then (QOk.then QOk.body)) ?_
                refine o_off (i := 23) (fun _ _ => trivial) rfl rfl (by kernel_rfl) rfl rfl hg47b (QOk.then (QOk.then QOk.body)) ?_
                refine o_off (i := 24) (fun _ _ => trivial) rfl rfl (by kernel_rfl) rfl rfl hg47b (QOk.then (QOk.then QOk.body)) ?_
                refine o_off (i := 25) (fun _ _ => trivial) rfl rfl (by kernel_rfl) rfl rfl hg47b (QOk.then (QOk.then QOk.body)) ?_
                refine o_pure (i := 26) (fun _ _ => trivial) rfl rfl (by kernel_rfl) (goes0 rfl) (QOk.then (QOk.then QOk.body)) (fun w => q_pickT rfl hg47b rfl) ?_
                refine o_done (by kernel_rfl) ?_
                refine hK45 _ _ ?_
                refine c_condT rfl rfl ?_
                refine wp_seq_k (fun K49 hK49 => ?_)
                refine wp_region_lit ?_
                refine l_q rfl rfl (q_assignB rfl) ?_
                refine l_nil ?_
                refine hK49 _ _ ?_
                refine wp_ret ?_
                refine c_ret1 rfl rfl ?_
                exact ⟨_, rfl, congrArg Value.bool (by first | (rw [nx0 (by omega)]; rfl) | exact absurd (en0 (L := L) (k := n.toNat) (by omega)) (by omega) | exact in_bg1 (begins_eq hRL hRO (by omega) (by omega) (by first | exact .inl (by omega) | exact .inr (by assumption)) ht hf hi) (by assumption) | exact in_bg2 (begins_eq hRL hRO (by omega) (by omega) (by first | exact .inl (by omega) | exact .inr (by assumption)) ht hf hi) (by assumption)), hS46.drop⟩
              ·
                have hg47b := hg47
                try simp only [decide_eq_true_eq, decide_eq_false_iff_not, Bool.not_eq_true', Bool.not_eq_false', Bool.and_eq_true, Bool.or_eq_true, Int.not_lt, Int.not_le, ne_eq, Decidable.not_not] at hg47
                refine o_pure (i := 18) (fun _ _ => trivial) rfl rfl (by kernel_rfl) (goes1 rfl rfl hg47b) (QOk.then (QOk.then QOk.body)) (fun w => q_moveS rfl) ?_
                refine o_pure (i := 19) (fun _ _ => trivial) rfl rfl (by kernel_rfl) (goes1 rfl rfl hg47b) (QOk.then (QOk.then QOk.body)) (fun w => q_moveS rfl) ?_
                refine o_pure (i := 20) (fun _ _ => trivial) rfl rfl (by kernel_rfl) (goes1 rfl rfl hg47b) (QOk.then (QOk.then QOk.body)) (fun w => q_lenSl (e := 5) rfl (by kernel_rfl)) ?_
                have hcp50 := (hS46.owLen (i := 2) rfl).2.1
                refine o_pure (i := 21) (fun _ _ => trivial) rfl rfl (by kernel_rfl) (goes1 rfl rfl hg47b) (QOk.then (QOk.then QOk.body)) (fun w => q_sliceX (e := 5) (size := 1) (l := 0) (h := (enc (L.take n.toNat)).length) (m := oc36) (ad' := oa36) (len' := (enc (L.take n.toNat)).length) (cap' := oc36) rfl (by kernel_rfl) (by kernel_rfl) rfl ⟨_, int_nat (by first | rfl | omega) rfl⟩ rfl (by omega) (by first | omega | (simp only [List.length_append, List.length_map, List.length_cons, List.length_nil, List.length_take, List.length_drop, List.length_set] <;> omega)) (by first | omega | (simp only [List.length_append, List.length_map, List.length_cons, List.length_nil, List.length_take, List.length_drop, List.length_set] <;> omega)) rfl subS_zero (Nat.sub_zero _) (Nat.sub_zero _)) ?_
                refine o_held (i := 22) [25, 26] (fun _ _ => trivial) rfl rfl (by kernel_rfl) (goes1 rfl rfl hg47b) (QOk.then (QOk.then QOk.body)) (q_convBS (l := ((enc L).take ((enc (L.take n.toNat)).length))) rfl ((fun q => (bv_takeG q)) (hS46.owG (i := 2) rfl)) (by first | omega | (simp only [List.length_append, List.length_map, List.length_cons, List.length_nil, List.length_take, List.length_drop, List.length_set] <;> omega)) (by kernel_rfl) (by kernel_rfl)) ?_
                refine o_pure (i := 23) (fun j w => ⟨(fun _ _ => trivial) j w, fun _ h => h⟩) rfl rfl (by kernel_rfl) (goes1 rfl rfl hg47b) (QOk.then (QOk.then QOk.body)) (fun w => q_moveS rfl) ?_
                refine o_held (i := 24) [25, 26] (fun j w => ⟨(fun _ _ => trivial) j w, fun _ h => h⟩) rfl rfl (by kernel_rfl) (goes1 rfl rfl hg47b) (QOk.then (QOk.then QOk.body)) (q_convBS (l := (enc (L.take n.toNat))) rfl (hS46.owG (i := 1) rfl) (by first | omega | (simp only [List.length_append, List.length_map, List.length_cons, List.length_nil, List.length_take, List.length_drop, List.length_set] <;> omega)) (by kernel_rfl) (by kernel_rfl)) ?_
                refine o_pure (i := 25) (fun j w => ⟨(fun j w => ⟨(fun _ _ => trivial) j w, fun _ h => h⟩) j w, fun _ h => h⟩) rfl rfl (by kernel_rfl) (goes1 rfl rfl hg47b) (QOk.then (QOk.then QOk.body)) (fun w => q_str_neq (l := ((enc L).take ((enc (L.take n.toNat)).length))) (m := (enc (L.take n.toNat))) rfl rfl (Bytes.take (enc_bytes hRL.1)) (enc_bytes (hRL.take n.toNat).1)) ?_
                refine o_pure (i := 26) (fun j w => ⟨(fun j w => ⟨(fun _ _ => trivial) j w, fun _ h => h⟩) j w, fun _ h => h⟩) rfl rfl (by kernel_rfl) (goes0 rfl) (QOk.then (QOk.then QOk.body)) (fun w => q_pickF rfl hg47b rfl) ?_
                refine o_done (by kernel_rfl) ?_
                refine hK45 _ _ ?_
                refine c_cond rfl (fun hc51 => ?_) (fun hc51 => ?_)
                ·
                  have hc51b := hc51
                  try simp only [decide_eq_true_eq, decide_eq_false_iff_not, Bool.not_eq_true', Bool.not_eq_false', Bool.and_eq_true, Bool.or_eq_true, Int.not_lt, Int.not_le, ne_eq, Decidable.not_not] at hc51
                  exact absurd hpx (by first | exact hc51 | simpa using hc51)
                ·
                  have hc51b := hc51
                  try simp only [decide_eq_true_eq, decide_eq_false_iff_not, Bool.not_eq_true', Bool.not_eq_false', Bool.and_eq_true, Bool.or_eq_true, Int.not_lt, Int.not_le, ne_eq, Decidable.not_not] at hc51
                  refine wp_skip ?_
                  refine hK44 _ _ ?_
                  refine wp_seq_k (fun K52 hK52 => ?_)
                  refine wp_region_lit ?_
                  refine l_q rfl rfl (q_moveS rfl) ?_
                  refine l_q rfl rfl (q_lenSl (e := 31) rfl (by kernel_rfl)) ?_
                  refine l_q rfl rfl (q_moveI rfl) ?_
                  refine l_q rfl rfl (q_geq rfl rfl) ?_
                  refine l_q rfl rfl (q_assignB rfl) ?_
                  refine l_nil ?_
                  refine hK52 _ _ ?_
                  refine wp_seq_k (fun K53 hK53 => ?_)
                  refine wp_seq_k (fun K54 hK54 => ?_)
                  refine wp_region_lit ?_
                  refine l_q rfl rfl (q_assignI rfl) ?_
                  refine l_nil ?_
                  refine hK54 _ _ ?_
                  refine wp_block ?_
                  refine c_loop (τ := Nat × Bool) [(17, 18), (102, 118)] (fun x => (fun (i : Nat) (bg : Bool) => [(18, .int .i64 ((i : Nat) : Int)), (17, .bool bg)]) x.1 x.2) (fun x w' => (fun (i : Nat) (bg : Bool) => St w (fun _ => False) [.ow 5 1 oa42 ((enc O).length) oc42 (bv (enc O)), .ow 5 1 oa39 ((enc (L.take n.toNat)).length) oc39 (bv (enc (L.take n.toNat))), .ow 5 1 oa36 ((enc L).length) oc36 (bv (enc L))] w' ∧ i ≤ n.toNat ∧ (bg = true → n.toNat ≤ O.length ∧ O.take i = L.take i) ∧ (bg = false → O.take n.toNat ≠ L.take n.toNat)) x.1 x.2) (fun x => (fun (i : Nat) (bg : Bool) => n.toNat - i) x.1 x.2) (⟨0, (decide (n.toNat ≤ O.length))⟩) ?_ (by refine ⟨rfl, ⟨congrArg Value.bool (decide_eq_decide.2 (by omega)), trivial⟩⟩) (fun x55 j55 w55 hJ55 K55 hK55 => ?_)
                  ·
                    exact ⟨hS46, Nat.zero_le _, (bg0 (by omega)).1, (bg0 (by omega)).2⟩
                  ·
                    obtain ⟨i, bg⟩ := x55
                    obtain ⟨hS55, hi, ht, hf⟩ := hJ55
                    try dsimp only at hS55 hi ht hf ⊢
                    refine wp_seq_k (fun K56 hK56 => ?_)
                    refine wp_seq_k (fun K57 hK57 => ?_)
                    refine wp_region_lit ?_
                    refine l_q rfl rfl (q_moveI rfl) ?_
                    refine l_q rfl rfl (q_moveI rfl) ?_
                    refine l_q rfl rfl (q_lss rfl rfl) ?_
                    refine l_q rfl rfl (q_moveB rfl) ?_
                    refine g_splitL (t := 105) rfl (fun hg58 => ?_) (fun hg58 => ?_)
                    ·
                      have hg58b := hg58
                      try simp only [decide_eq_true_eq, decide_eq_false_iff_not, Bool.not_eq_true', Bool.not_eq_false', Bool.and_eq_true, Bool.or_eq_true, Int.not_lt, Int.not_le, ne_eq, Decidable.not_not] at hg58
                      refine l_on rfl rfl hg58b ?_
                      refine l_q rfl rfl (q_moveB rfl) ?_
                      refine l_q rfl rfl (q_pickT rfl hg58b rfl) ?_
                      refine l_nil ?_
                      refine hK57 _ _ ?_
                      refine c_cond rfl (fun hc59 => ?_) (fun hc59 => ?_)
                      ·
                        have hc59b := hc59
                        try simp only [decide_eq_true_eq, decide_eq_false_iff_not, Bool.not_eq_true', Bool.not_eq_false', Bool.and_eq_true, Bool.or_eq_true, Int.not_lt, Int.not_le, ne_eq, Decidable.not_not] at hc59
                        refine wp_skip ?_
                        refine hK56 _ _ ?_
                        refine wp_seq_k (fun K60 hK60 => ?_)
                        refine wp_block ?_
                        obtain ⟨hno, htk⟩ := ht (by assumption)
                        refine r_any (by kernel_rfl) hS55 (fun w61 hS61 => ?_)
                        clear hS55
                        refine o_pure (i := 0) (fun _ _ => trivial) rfl rfl (by kernel_rfl) (goes0 rfl) (QOk.inBlock (QOk.then (QOk.then (QOk.inBlock (QOk.then QOk.body))))) (fun w => q_moveS rfl) ?_
                        refine o_pure (i := 1) (fun _ _ => trivial) rfl rfl (by kernel_rfl) (goes0 rfl) (QOk.inBlock (QOk.then (QOk.then (QOk.inBlock (QOk.then QOk.body))))) (fun w => q_moveI rfl) ?_
                        refine o_pure (i := 2) (fun _ _ => trivial) rfl rfl (by kernel_rfl) (goes0 rfl) (QOk.inBlock (QOk.then (QOk.then (QOk.inBlock (QOk.then QOk.body))))) (fun w => q_ixG (e := 31) (m := 3) (j := i) rfl rfl (by kernel_rfl) (by kernel_rfl) (by first | rfl | omega) (by omega) hGo (by rw [rows_len (c := vl) (m := 3) (fun _ => rfl)]; first | omega | (simp only [List.length_append, List.length_map, List.length_cons, List.length_nil, List.length_take, List.length_drop, List.length_set] <;> omega))) ?_
                        obtain ⟨x62, hx62⟩ : ∃ x, (O)[i]? = some x := ⟨_, List.getElem?_eq_getElem (by first | omega | (simp only [List.length_append, List.length_map, List.length_cons, List.length_nil, List.length_take, List.length_drop, List.length_set] <;> omega) | (simp <;> omega))⟩
                        have hvb_x62 := (hO x62 (List.mem_of_getElem? hx62)).2
                        refine o_held (i := 3) [8, 9] (fun _ _ => trivial) rfl rfl (by kernel_rfl) (goes0 rfl) (QOk.inBlock (QOk.then (QOk.then (QOk.inBlock (QOk.then QOk.body))))) (q_loadGA (m := 3) rfl (by kernel_rfl) (by kernel_rfl) (hGo.mono hS61.base) (row_take hx62 (c := vl) (m := 3) (fun _ => rfl)) rfl (by decide)) ?_
                        refine o_pure (i := 4) (fun j w => ⟨(fun _ _ => trivial) j w, fun _ h => h⟩) rfl rfl (by kernel_rfl) (goes0 rfl) (QOk.inBlock (QOk.then (QOk.then (QOk.inBlock (QOk.then QOk.body))))) (fun w => q_moveS rfl) ?_
                        refine o_pure (i := 5) (fun j w => ⟨(fun _ _ => trivial) j w, fun _ h => h⟩) rfl rfl (by kernel_rfl) (goes0 rfl) (QOk.inBlock (QOk.then (QOk.then (QOk.inBlock (QOk.then QOk.body))))) (fun w => q_moveI rfl) ?_
                        refine o_pure (i := 6) (fun j w => ⟨(fun _ _ => trivial) j w, fun _ h => h⟩) rfl rfl (by kernel_rfl) (goes0 rfl) (QOk.inBlock (QOk.then (QOk.then (QOk.inBlock (QOk.then QOk.body))))) (fun w => q_ixG (e := 31) (m := 3) (j := i) rfl rfl (by kernel_rfl) (by kernel_rfl) (by first | rfl | omega) (by omega) hG (by rw [rows_len (c := vl) (m := 3) (fun _ => rfl)]; first | omega | (simp only [List.length_append, List.length_map, List.length_cons, List.length_nil, List.length_take, List.length_drop, List.length_set] <;> omega))) ?_
                        obtain ⟨x63, hx63⟩ : ∃ x, (L)[i]? = some x := ⟨_, List.getElem?_eq_getElem (by first | omega | (simp only [List.length_append, List.length_map, List.length_cons, List.length_nil, List.length_take, List.length_drop, List.length_set] <;> omega) | (simp <;> omega))⟩
                        have hvb_x63 := (hL x63 (List.mem_of_getElem? hx63)).2
                        refine o_held (i := 7) [8, 9] (fun j w => ⟨(fun _ _ => trivial) j w, fun _ h => h⟩) rfl rfl (by kernel_rfl) (goes0 rfl) (QOk.inBlock (QOk.then (QOk.then (QOk.inBlock (QOk.then QOk.body))))) (q_loadGA (m := 3) rfl (by kernel_rfl) (by kernel_rfl) (hG.mono hS61.base) (row_take hx63 (c := vl) (m := 3) (fun _ => rfl)) rfl (by decide)) ?_
                        refine o_pure (i := 8) (fun j w => ⟨(fun j w => ⟨(fun _ _ => trivial) j w, fun _ h => h⟩) j w, fun _ h => h⟩) rfl rfl (by kernel_rfl) (goes0 rfl) (QOk.inBlock (QOk.then (QOk.then (QOk.inBlock (QOk.then QOk.body))))) (fun w => q_iis_eql (a := x62.1) (b := x62.2.1) (l := x62.2.2) (a' := x63.1) (b' := x63.2.1) (l' := x63.2.2) rfl rfl (by kernel_rfl) (hO x62 (List.mem_of_getElem? hx62)).1 (hL x63 (List.mem_of_getElem? hx63)).1) ?_
                        refine o_pure (i := 9) (fun j w => ⟨(fun j w => ⟨(fun _ _ => trivial) j w, fun _ h => h⟩) j w, fun _ h => h⟩) rfl rfl (by kernel_rfl) (goes0 rfl) (QOk.inBlock (QOk.then (QOk.then (QOk.inBlock (QOk.then QOk.body))))) (fun w => q_assignB rfl) ?_
                        refine o_done (by kernel_rfl) ?_
                        refine hK60 _ _ ?_
                        refine wp_region_lit ?_
                        refine l_q rfl rfl (q_moveI rfl) ?_
                        refine l_q rfl rfl (q_addx rfl rfl (by first | decide | omega) (by first | decide | omega)) ?_
                        refine l_q rfl rfl (q_assignI rfl) ?_
                        refine l_nil ?_
                        refine hK55 _ _ (came (⟨(i + 1), (decide ((x62.1, x62.2.1, x62.2.2) = (x63.1, x63.2.1, x63.2.2)))⟩) (by repeat' (first | exact Agree.refl _ _ | refine Agree.up ?_ rfl | refine Agree.hav2 ?_ rfl | refine Agree.ups2 ?_ rfl)) (by repeat' (first | exact trivial | refine ⟨by first | rfl | exact int_succ _ | assumption, ?_⟩)) ?_)
                        exact ⟨⟨hS61, (by show i + 1 ≤ n.toNat; omega), (bgS hx62 hx63 (by omega) ⟨hno, htk⟩).1, (bgS hx62 hx63 (by omega) ⟨hno, htk⟩).2⟩, by (show n.toNat - (i + 1) < n.toNat - i); omega⟩
                      ·
                        have hc59b := hc59
                        try simp only [decide_eq_true_eq, decide_eq_false_iff_not, Bool.not_eq_true', Bool.not_eq_false', Bool.and_eq_true, Bool.or_eq_true, Int.not_lt, Int.not_le, ne_eq, Decidable.not_not] at hc59
                        refine wp_exit ?_
                        refine hK53 _ _ ?_
                        refine wp_seq_k (fun K64 hK64 => ?_)
                        refine wp_seq_k (fun K65 hK65 => ?_)
                        refine wp_region_lit ?_
                        refine l_q rfl rfl (q_moveI rfl) ?_
                        refine l_q rfl rfl (q_eql rfl rfl) ?_
                        refine l_nil ?_
                        refine hK65 _ _ ?_
                        refine c_cond rfl (fun hc66 => ?_) (fun hc66 => ?_)
                        ·
                          have hc66b := hc66
                          try simp only [decide_eq_true_eq, decide_eq_false_iff_not, Bool.not_eq_true', Bool.not_eq_false', Bool.and_eq_true, Bool.or_eq_true, Int.not_lt, Int.not_le, ne_eq, Decidable.not_not] at hc66
                          refine wp_seq_k (fun K67 hK67 => ?_)
                          refine wp_region_lit ?_
                          refine l_e rfl (fun K hK => ?_)
                          refine e_call (by kernel_rfl) (alive4_ok _) rfl (after_R hS55 (fun v68 w68 hv68 hS68 => ?_))
                          clear hS55
                          obtain rfl := hv68
                          refine hK _ _ ?_; clear hK K
                          refine l_q rfl rfl (q_moveB rfl) ?_
                          refine l_on rfl rfl rfl ?_
                          refine l_q rfl rfl (q_moveS rfl) ?_
                          refine l_on rfl rfl rfl ?_
                          refine l_q rfl rfl (q_lenSl (e := 5) rfl (by kernel_rfl)) ?_
                          refine l_on rfl rfl rfl ?_
                          refine l_q rfl rfl (q_eql rfl rfl) ?_
                          refine l_q rfl rfl (q_pickT rfl rfl rfl) ?_
                          refine l_q rfl rfl (q_moveB rfl) ?_
                          refine g_splitL (t := 127) rfl (fun hg69 => ?_) (fun hg69 => ?_)
                          ·
                            have hg69b := hg69
                            try simp only [decide_eq_true_eq, decide_eq_false_iff_not, Bool.not_eq_true', Bool.not_eq_false', Bool.and_eq_true, Bool.or_eq_true, Int.not_lt, Int.not_le, ne_eq, Decidable.not_not] at hg69
                            refine l_on rfl rfl hg69b ?_
                            refine l_q rfl rfl (q_moveS rfl) ?_
                            refine l_on rfl rfl hg69b ?_
                            refine l_e rfl (fun K hK => ?_)
                            have hcp70 := (hS68.owLen (i := 1) rfl).2.1
                            refine e_call (by kernel_rfl) (next_ok (enc (L.take n.toNat)) (enc_bytes (hRL.take n.toNat).1) ((enc (L.take n.toNat)).length) (by first | omega | (simp only [List.length_append, List.length_map, List.length_cons, List.length_nil, List.length_take, List.length_drop, List.length_set] <;> omega)) (by first | omega | (simp only [List.length_append, List.length_map, List.length_cons, List.length_nil, List.length_take, List.length_drop, List.length_set] <;> omega)) _ _ (by first | omega | (simp only [List.length_append, List.length_map, List.length_cons, List.length_nil, List.length_take, List.length_drop, List.length_set] <;> omega)) _ (hS68.owG (i := 1) rfl)) rfl (after_N hS68 (fun v70 G70 w70 hv70 hS70 => ?_))
                            clear hS68
                            obtain ⟨oa70, oc70, rfl, rfl⟩ := hv70
                            have hS71 : St _ _ [.ow 5 1 oa70 ((nxB (enc (L.take n.toNat))).length) oc70 (bv (nxB (enc (L.take n.toNat)))), .ow 5 1 oa42 ((enc O).length) oc42 (bv (enc O)), .ow 5 1 oa39 ((enc (L.take n.toNat)).length) oc39 (bv (enc (L.take n.toNat))), .ow 5 1 oa36 ((enc L).length) oc36 (bv (enc L))] _ := hS70; clear hS70
                            refine hK _ _ ?_; clear hK K
                            refine l_on rfl rfl hg69b ?_
                            refine l_q rfl rfl (q_lenSl (e := 5) rfl (by kernel_rfl)) ?_
                            refine l_on rfl rfl hg69b ?_
                            refine l_q rfl rfl (q_eql rfl rfl) ?_
                            refine l_q rfl rfl (q_pickT rfl hg69b rfl) ?_
                            refine l_q rfl rfl (q_assignB rfl) ?_
                            refine l_nil ?_
                            refine hK67 _ _ ?_
                            refine wp_ret ?_
                            refine c_ret1 rfl rfl ?_
                            exact ⟨_, rfl, congrArg Value.bool (by first | (rw [nx0 (by omega)]; rfl) | exact absurd (en0 (L := L) (k := n.toNat) (by omega)) (by omega) | exact in_bg1 (begins_eq hRL hRO (by omega) (by omega) (by first | exact .inl (by omega) | exact .inr (by assumption)) ht hf hi) (by assumption) | exact in_bg2 (begins_eq hRL hRO (by omega) (by omega) (by first | exact .inl (by omega) | exact .inr (by assumption)) ht hf hi) (by assumption)), hS71.drop⟩
                          ·
                            have hg69b := hg69
                            try simp only [decide_eq_true_eq, decide_eq_false_iff_not, Bool.not_eq_true', Bool.not_eq_false', Bool.and_eq_true, Bool.or_eq_true, Int.not_lt, Int.not_le, ne_eq, Decidable.not_not] at hg69
                            refine l_off rfl rfl rfl hg69b ?_
                            refine l_off rfl rfl rfl hg69b ?_
                            refine l_off rfl rfl rfl hg69b ?_
                            refine l_off rfl rfl rfl hg69b ?_
                            refine l_q rfl rfl (q_pickF rfl hg69b rfl) ?_
                            refine l_q rfl rfl (q_assignB rfl) ?_
                            refine l_nil ?_
                            refine hK67 _ _ ?_
                            refine wp_ret ?_
                            refine c_ret1 rfl rfl ?_
                            exact ⟨_, rfl, congrArg Value.bool (by first | (rw [nx0 (by omega)]; rfl) | exact absurd (en0 (L := L) (k := n.toNat) (by omega)) (by omega) | exact in_bg1 (begins_eq hRL hRO (by omega) (by omega) (by first | exact .inl (by omega) | exact .inr (by assumption)) ht hf hi) (by assumption) | exact in_bg2 (begins_eq hRL hRO (by omega) (by omega) (by first | exact .inl (by omega) | exact .inr (by assumption)) ht hf hi) (by assumption)), hS68.drop⟩
                        ·
                          have hc66b := hc66
                          try simp only [decide_eq_true_eq, decide_eq_false_iff_not, Bool.not_eq_true', Bool.not_eq_false', Bool.and_eq_true, Bool.or_eq_true, Int.not_lt, Int.not_le, ne_eq, Decidable.not_not] at hc66
                          refine wp_skip ?_
                          refine hK64 _ _ ?_
                          refine wp_seq_k (fun K72 hK72 => ?_)
                          refine wp_region_lit ?_
                          refine l_q rfl rfl (q_moveS rfl) ?_
                          refine l_e rfl (fun K hK => ?_)
                          have hcp73 := (hS55.owLen (i := 1) rfl).2.1
                          refine e_call (by kernel_rfl) (next_ok (enc (L.take n.toNat)) (enc_bytes (hRL.take n.toNat).1) ((enc (L.take n.toNat)).length) (by first | omega | (simp only [List.length_append, List.length_map, List.length_cons, List.length_nil, List.length_take, List.length_drop, List.length_set] <;> omega)) (by first | omega | (simp only [List.length_append, List.length_map, List.length_cons, List.length_nil, List.length_take, List.length_drop, List.length_set] <;> omega)) _ _ (by first | omega | (simp only [List.length_append, List.length_map, List.length_cons, List.length_nil, List.length_take, List.length_drop, List.length_set] <;> omega)) _ (hS55.owG (i := 1) rfl)) rfl (after_N hS55 (fun v73 G73 w73 hv73 hS73 => ?_))
                          clear hS55
                          obtain ⟨oa73, oc73, rfl, rfl⟩ := hv73
                          have hS74 : St _ _ [.ow 5 1 oa73 ((nxB (enc (L.take n.toNat))).length) oc73 (bv (nxB (enc (L.take n.toNat)))), .ow 5 1 oa42 ((enc O).length) oc42 (bv (enc O)), .ow 5 1 oa39 ((enc (L.take n.toNat)).length) oc39 (bv (enc (L.take n.toNat))), .ow 5 1 oa36 ((enc L).length) oc36 (bv (enc L))] _ := hS73; clear hS73
                          refine hK _ _ ?_; clear hK K
                          refine l_q rfl rfl (q_assignS rfl) ?_
                          refine l_nil ?_
                          refine hK72 _ _ ?_
                          refine wp_seq_k (fun K75 hK75 => ?_)
                          refine wp_region_lit ?_
                          refine l_q rfl rfl (q_moveS rfl) ?_
                          refine l_q rfl rfl (q_convBS (l := (enc O)) rfl (hS74.owG (i := 1) rfl) (by first | omega | (simp only [List.length_append, List.length_map, List.length_cons, List.length_nil, List.length_take, List.length_drop, List.length_set] <;> omega)) (by kernel_rfl) (by kernel_rfl)) ?_
                          refine l_q rfl rfl (q_moveS rfl) ?_
                          refine l_q rfl rfl (q_convBS (l := (enc (L.take n.toNat))) rfl (hS74.owG (i := 2) rfl) (by first | omega | (simp only [List.length_append, List.length_map, List.length_cons, List.length_nil, List.length_take, List.length_drop, List.length_set] <;> omega)) (by kernel_rfl) (by kernel_rfl)) ?_
                          refine l_q rfl rfl (q_str_geq (l := (enc O)) (m := (enc (L.take n.toNat))) rfl rfl (enc_bytes hRO.1) (enc_bytes (hRL.take n.toNat).1)) ?_
                          refine l_q rfl rfl (q_moveB rfl) ?_
                          refine g_splitL (t := 140) rfl (fun hg76 => ?_) (fun hg76 => ?_)
                          ·
                            have hg76b := hg76
                            try simp only [decide_eq_true_eq, decide_eq_false_iff_not, Bool.not_eq_true', Bool.not_eq_false', Bool.and_eq_true, Bool.or_eq_true, Int.not_lt, Int.not_le, ne_eq, Decidable.not_not] at hg76
                            refine l_on rfl rfl hg76b ?_
                            refine l_q rfl rfl (q_moveS rfl) ?_
                            refine l_on rfl rfl hg76b ?_
                            refine l_q rfl rfl (q_convBS (l := (enc O)) rfl (hS74.owG (i := 1) rfl) (by first | omega | (simp only [List.length_append, List.length_map, List.length_cons, List.length_nil, List.length_take, List.length_drop, List.length_set] <;> omega)) (by kernel_rfl) (by kernel_rfl)) ?_
                            refine l_on rfl rfl hg76b ?_
                            refine l_q rfl rfl (q_moveS rfl) ?_
                            refine l_on rfl rfl hg76b ?_
                            refine l_q rfl rfl (q_convBS (l := (nxB (enc (L.take n.toNat)))) rfl (hS74.owG (i := 0) rfl) (by first | omega | (simp only [List.length_append, List.length_map, List.length_cons, List.length_nil, List.length_take, List.length_drop, List.length_set] <;> omega)) (by kernel_rfl) (by kernel_rfl)) ?_
                            refine l_on rfl rfl hg76b ?_
                            refine l_q rfl rfl (q_str_lss (l := (enc O)) (m := (nxB (enc (L.take n.toNat)))) rfl rfl (enc_bytes hRO.1) (nxB_bytes (enc_bytes (hRL.take n.toNat).1))) ?_
                            refine l_q rfl rfl (q_pickT rfl hg76b rfl) ?_
                            refine l_q rfl rfl (q_assignB rfl) ?_
                            refine l_nil ?_
                            refine hK75 _ _ ?_
                            refine wp_seq_k (fun K77 hK77 => ?_)
                            refine wp_region_lit ?_
                            refine l_e rfl (fun K hK => ?_)
                            refine e_call (by kernel_rfl) (alive4_ok _) rfl (after_R hS74 (fun v78 w78 hv78 hS78 => ?_))
                            clear hS74
                            obtain rfl := hv78
                            refine hK _ _ ?_; clear hK K
                            refine l_q rfl rfl (q_moveB rfl) ?_
                            refine l_on rfl rfl rfl ?_
                            refine l_q rfl rfl (q_moveB rfl) ?_
                            refine l_on rfl rfl rfl ?_
                            refine l_q rfl rfl (q_moveB rfl) ?_
                            refine l_on rfl rfl rfl ?_
                            refine l_q rfl rfl (q_bool_eql rfl rfl (by kernel_rfl)) ?_
                            refine l_q rfl rfl (q_pickT rfl rfl rfl) ?_
                            refine l_q rfl rfl (q_assignB rfl) ?_
                            refine l_nil ?_
                            refine hK77 _ _ ?_
                            refine wp_ret ?_
                            refine c_ret1 rfl rfl ?_
                            exact ⟨_, rfl, congrArg Value.bool (by first | (rw [nx0 (by omega)]; rfl) | exact absurd (en0 (L := L) (k := n.toNat) (by omega)) (by omega) | exact in_bg1 (begins_eq hRL hRO (by omega) (by omega) (by first | exact .inl (by omega) | exact .inr (by assumption)) ht hf hi) (by assumption) | exact in_bg2 (begins_eq hRL hRO (by omega) (by omega) (by first | exact .inl (by omega) | exact .inr (by assumption)) ht hf hi) (by assumption)), hS78.drop⟩
                          ·
                            have hg76b := hg76
                            try simp only [decide_eq_true_eq, decide_eq_false_iff_not, Bool.not_eq_true', Bool.not_eq_false', Bool.and_eq_true, Bool.or_eq_true, Int.not_lt, Int.not_le, ne_eq, Decidable.not_not] at hg76
                            refine l_off rfl rfl rfl hg76b ?_
                            refine l_off rfl rfl rfl hg76b ?_
                            refine l_off rfl rfl rfl hg76b ?_
                            refine l_off rfl rfl rfl hg76b ?_
                            refine l_off rfl rfl rfl hg76b ?_
                            refine l_q rfl rfl (q_pickF rfl hg76b rfl) ?_
                            refine l_q rfl rfl (q_assignB rfl) ?_
                            refine l_nil ?_
                            refine hK75 _ _ ?_
                            refine wp_seq_k (fun K79 hK79 => ?_)
                            refine wp_region_lit ?_
                            refine l_e rfl (fun K hK => ?_)
                            refine e_call (by kernel_rfl) (alive4_ok _) rfl (after_R hS74 (fun v80 w80 hv80 hS80 => ?_))
                            clear hS74
                            obtain rfl := hv80
                            refine hK _ _ ?_; clear hK K
                            refine l_q rfl rfl (q_moveB rfl) ?_
                            refine l_on rfl rfl rfl ?_
                            refine l_q rfl rfl (q_moveB rfl) ?_
                            refine l_on rfl rfl rfl ?_
                            refine l_q rfl rfl (q_moveB rfl) ?_
                            refine l_on rfl rfl rfl ?_
                            refine l_q rfl rfl (q_bool_eql rfl rfl (by kernel_rfl)) ?_
                            refine l_q rfl rfl (q_pickT rfl rfl rfl) ?_
                            refine l_q rfl rfl (q_assignB rfl) ?_
                            refine l_nil ?_
                            refine hK79 _ _ ?_
                            refine wp_ret ?_
                            refine c_ret1 rfl rfl ?_
                            exact ⟨_, rfl, congrArg Value.bool (by first | (rw [nx0 (by omega)]; rfl) | exact absurd (en0 (L := L) (k := n.toNat) (by omega)) (by omega) | exact in_bg1 (begins_eq hRL hRO (by omega) (by omega) (by first | exact .inl (by omega) | exact .inr (by assumption)) ht hf hi) (by assumption) | exact in_bg2 (begins_eq hRL hRO (by omega) (by omega) (by first | exact .inl (by omega) | exact .inr (by assumption)) ht hf hi) (by assumption)), hS80.drop⟩
                    ·
                      have hg58b := hg58
                      try simp only [decide_eq_true_eq, decide_eq_false_iff_not, Bool.not_eq_true', Bool.not_eq_false', Bool.and_eq_true, Bool.or_eq_true, Int.not_lt, Int.not_le, ne_eq, Decidable.not_not] at hg58
                      refine l_off rfl rfl rfl hg58b ?_
                      refine l_q rfl rfl (q_pickF rfl hg58b rfl) ?_
                      refine l_nil ?_
                      refine hK57 _ _ ?_
                      refine c_condF rfl rfl ?_
                      refine wp_exit ?_
                      refine hK53 _ _ ?_
                      refine wp_seq_k (fun K82 hK82 => ?_)
                      refine wp_seq_k (fun K83 hK83 => ?_)
                      refine wp_region_lit ?_
                      refine l_q rfl rfl (q_moveI rfl) ?_
                      refine l_q rfl rfl (q_eql rfl rfl) ?_
                      refine l_nil ?_
                      refine hK83 _ _ ?_
                      refine c_cond rfl (fun hc84 => ?_) (fun hc84 => ?_)
                      ·
                        have hc84b := hc84
                        try simp only [decide_eq_true_eq, decide_eq_false_iff_not, Bool.not_eq_true', Bool.not_eq_false', Bool.and_eq_true, Bool.or_eq_true, Int.not_lt, Int.not_le, ne_eq, Decidable.not_not] at hc84
                        refine wp_seq_k (fun K85 hK85 => ?_)
                        refine wp_region_lit ?_
                        refine l_e rfl (fun K hK => ?_)
                        refine e_call (by kernel_rfl) (alive4_ok _) rfl (after_R hS55 (fun v86 w86 hv86 hS86 => ?_))
                        clear hS55
                        obtain rfl := hv86
                        refine hK _ _ ?_; clear hK K
                        refine l_q rfl rfl (q_moveB rfl) ?_
                        refine l_on rfl rfl rfl ?_
                        refine l_q rfl rfl (q_moveS rfl) ?_
                        refine l_on rfl rfl rfl ?_
                        refine l_q rfl rfl (q_lenSl (e := 5) rfl (by kernel_rfl)) ?_
                        refine l_on rfl rfl rfl ?_
                        refine l_q rfl rfl (q_eql rfl rfl) ?_
                        refine l_q rfl rfl (q_pickT rfl rfl rfl) ?_
                        refine l_q rfl rfl (q_moveB rfl) ?_
                        refine g_splitL (t := 127) rfl (fun hg87 => ?_) (fun hg87 => ?_)
                        ·
                          have hg87b := hg87
                          try simp only [decide_eq_true_eq, decide_eq_false_iff_not, Bool.not_eq_true', Bool.not_eq_false', Bool.and_eq_true, Bool.or_eq_true, Int.not_lt, Int.not_le, ne_eq, Decidable.not_not] at hg87
                          refine l_on rfl rfl hg87b ?_
                          refine l_q rfl rfl (q_moveS rfl) ?_
                          refine l_on rfl rfl hg87b ?_
                          refine l_e rfl (fun K hK => ?_)
                          have hcp88 := (hS86.owLen (i := 1) rfl).2.1
                          refine e_call (by kernel_rfl) (next_ok (enc (L.take n.toNat)) (enc_bytes (hRL.take n.toNat).1) ((enc (L.take n.toNat)).length) (by first | omega | (simp only [List.length_append, List.length_map, List.length_cons, List.length_nil, List.length_take, List.length_drop, List.length_set] <;> omega)) (by first | omega | (simp only [List.length_append, List.length_map, List.length_cons, List.length_nil, List.length_take, List.length_drop, List.length_set] <;> omega)) _ _ (by first | omega | (simp only [List.length_append, List.length_map, List.length_cons, List.length_nil, List.length_take, List.length_drop, List.length_set] <;> omega)) _ (hS86.owG (i := 1) rfl)) rfl (after_N hS86 (fun v88 G88 w88 hv88 hS88 => ?_))
                          clear hS86
                          obtain ⟨oa88, oc88, rfl, rfl⟩ := hv88
                          have hS89 : St _ _ [.ow 5 1 oa88 ((nxB (enc (L.take n.toNat))).length) oc88 (bv (nxB (enc (L.take n.toNat)))), .ow 5 1 oa42 ((enc O).length) oc42 (bv (enc O)), .ow 5 1 oa39 ((enc (L.take n.toNat)).length) oc39 (bv (enc (L.take n.toNat))), .ow 5 1 oa36 ((enc L).length) oc36 (bv (enc L))] _ := hS88; clear hS88
                          refine hK _ _ ?_; clear hK K
                          refine l_on rfl rfl hg87b ?_
                          refine l_q rfl rfl (q_lenSl (e := 5) rfl (by kernel_rfl)) ?_
                          refine l_on rfl rfl hg87b ?_
                          refine l_q rfl rfl (q_eql rfl rfl) ?_
                          refine l_q rfl rfl (q_pickT rfl hg87b rfl) ?_
                          refine l_q rfl rfl (q_assignB rfl) ?_
                          refine l_nil ?_
                          refine hK85 _ _ ?_
                          refine wp_ret ?_
                          refine c_ret1 rfl rfl ?_
                          exact ⟨_, rfl, congrArg Value.bool (by first | (rw [nx0 (by omega)]; rfl) | exact absurd (en0 (L := L) (k := n.toNat) (by omega)) (by omega) | exact in_bg1 (begins_eq hRL hRO (by omega) (by omega) (by first | exact .inl (by omega) | exact .inr (by assumption)) ht hf hi) (by assumption) | exact in_bg2 (begins_eq hRL hRO (by omega) (by omega) (by first | exact .inl (by omega) | exact .inr (by assumption)) ht hf hi) (by assumption)), hS89.drop⟩
                        ·
                          have hg87b := hg87
                          try simp only [decide_eq_true_eq, decide_eq_false_iff_not, Bool.not_eq_true', Bool.not_eq_false', Bool.and_eq_true, Bool.or_eq_true, Int.not_lt, Int.not_le, ne_eq, Decidable.not_not] at hg87
                          refine l_off rfl rfl rfl hg87b ?_
                          refine l_off rfl rfl rfl hg87b ?_
                          refine l_off rfl rfl rfl hg87b ?_
                          refine l_off rfl rfl rfl hg87b ?_
                          refine l_q rfl rfl (q_pickF rfl hg87b rfl) ?_
                          refine l_q rfl rfl (q_assignB rfl) ?_
                          refine l_nil ?_
                          refine hK85 _ _ ?_
                          refine wp_ret ?_
                          refine c_ret1 rfl rfl ?_
                          exact ⟨_, rfl, congrArg Value.bool (by first | (rw [nx0 (by omega)]; rfl) | exact absurd (en0 (L := L) (k := n.toNat) (by omega)) (by omega) | exact in_bg1 (begins_eq hRL hRO (by omega) (by omega) (by first | exact .inl (by omega) | exact .inr (by assumption)) ht hf hi) (by assumption) | exact in_bg2 (begins_eq hRL hRO (by omega) (by omega) (by first | exact .inl (by omega) | exact .inr (by assumption)) ht hf hi) (by assumption)), hS86.drop⟩
                      ·
                        have hc84b := hc84
                        try simp only [decide_eq_true_eq, decide_eq_false_iff_not, Bool.not_eq_true', Bool.not_eq_false', Bool.and_eq_true, Bool.or_eq_true, Int.not_lt, Int.not_le, ne_eq, Decidable.not_not] at hc84
                        refine wp_skip ?_
                        refine hK82 _ _ ?_
                        refine wp_seq_k (fun K90 hK90 => ?_)
                        refine wp_region_lit ?_
                        refine l_q rfl rfl (q_moveS rfl) ?_
                        refine l_e rfl (fun K hK => ?_)
                        have hcp91 := (hS55.owLen (i := 1) rfl).2.1
                        refine e_call (by kernel_rfl) (next_ok (enc (L.take n.toNat)) (enc_bytes (hRL.take n.toNat).1) ((enc (L.take n.toNat)).length) (by first | omega | (simp only [List.length_append, List.length_map, List.length_cons, List.length_nil, List.length_take, List.length_drop, List.length_set] <;> omega)) (by first | omega | (simp only [List.length_append, List.length_map, List.length_cons, List.length_nil, List.length_take, List.length_drop, List.length_set] <;> omega)) _ _ (by first | omega | (simp only [List.length_append, List.length_map, List.length_cons, List.length_nil, List.length_take, List.length_drop, List.length_set] <;> omega)) _ (hS55.owG (i := 1) rfl)) rfl (after_N hS55 (fun v91 G91 w91 hv91 hS91 => ?_))
                        clear hS55
                        obtain ⟨oa91, oc91, rfl, rfl⟩ := hv91
                        have hS92 : St _ _ [.ow 5 1 oa91 ((nxB (enc (L.take n.toNat))).length) oc91 (bv (nxB (enc (L.take n.toNat)))), .ow 5 1 oa42 ((enc O).length) oc42 (bv (enc O)), .ow 5 1 oa39 ((enc (L.take n.toNat)).length) oc39 (bv (enc (L.take n.toNat))), .ow 5 1 oa36 ((enc L).length) oc36 (bv (enc L))] _ := hS91; clear hS91
                        refine hK _ _ ?_; clear hK K
                        refine l_q rfl rfl (q_assignS rfl) ?_
                        refine l_nil ?_
                        refine hK90 _ _ ?_
                        refine wp_seq_k (fun K93 hK93 => ?_)
                        refine wp_region_lit ?_
                        refine l_q rfl rfl (q_moveS rfl) ?_
                        refine l_q rfl rfl (q_convBS (l := (enc O)) rfl (hS92.owG (i := 1) rfl) (by first | omega | (simp only [List.length_append, List.length_map, List.length_cons, List.length_nil, List.length_take, List.length_drop, List.length_set] <;> omega)) (by kernel_rfl) (by kernel_rfl)) ?_
                        refine l_q rfl rfl (q_moveS rfl) ?_
                        refine l_q rfl rfl (q_convBS (l := (enc (L.take n.toNat))) rfl (hS92.owG (i := 2) rfl) (by first | omega | (simp only [List.length_append, List.length_map, List.length_cons, List.length_nil, List.length_take, List.length_drop, List.length_set] <;> omega)) (by kernel_rfl) (by kernel_rfl)) ?_
                        refine l_q rfl rfl (q_str_geq (l := (enc O)) (m := (enc (L.take n.toNat))) rfl rfl (enc_bytes hRO.1) (enc_bytes (hRL.take n.toNat).1)) ?_
                        refine l_q rfl rfl (q_moveB rfl) ?_
                        refine g_splitL (t := 140) rfl (fun hg94 => ?_) (fun hg94 => ?_)
                        ·
                          have hg94b := hg94
                          try simp only [decide_eq_true_eq, decide_eq_false_iff_not, Bool.not_eq_true', Bool.not_eq_false', Bool.and_eq_true, Bool.or_eq_true, Int.not_lt, Int.not_le, ne_eq, Decidable.not_not] at hg94
                          refine l_on rfl rfl hg94b ?_
                          refine l_q rfl rfl (q_moveS rfl) ?_
                          refine l_on rfl rfl hg94b ?_
                          refine l_q rfl rfl (q_convBS (l := (enc O)) rfl (hS92.owG (i := 1) rfl) (by first | omega | (simp only [List.length_append, List.length_map, List.length_cons, List.length_nil, List.length_take, List.length_drop, List.length_set] <;> omega)) (by kernel_rfl) (by kernel_rfl)) ?_
                          refine l_on rfl rfl hg94b ?_
                          refine l_q rfl rfl (q_moveS rfl) ?_
                          refine l_on rfl rfl hg94b ?_
                          refine l_q rfl rfl (q_convBS (l := (nxB (enc (L.take n.toNat)))) rfl (hS92.owG (i := 0) rfl) (by first | omega | (simp only [List.length_append, List.length_map, List.length_cons, List.length_nil, List.length_take, List.length_drop, List.length_set] <;> omega)) (by kernel_rfl) (by kernel_rfl)) ?_
                          refine l_on rfl rfl hg94b ?_
                          refine l_q rfl rfl (q_str_lss (l := (enc O)) (m := (nxB (enc (L.take n.toNat)))) rfl rfl (enc_bytes hRO.1) (nxB_bytes (enc_bytes (hRL.take n.toNat).1))) ?_
                          refine l_q rfl rfl (q_pickT rfl hg94b rfl) ?_
                          refine l_q rfl rfl (q_assignB rfl) ?_
                          refine l_nil ?_
                          refine hK93 _ _ ?_
                          refine wp_seq_k (fun K95 hK95 => ?_)
                          refine wp_region_lit ?_
                          refine l_e rfl (fun K hK => ?_)
                          refine e_call (by kernel_rfl) (alive4_ok _) rfl (after_R hS92 (fun v96 w96 hv96 hS96 => ?_))
                          clear hS92
                          obtain rfl := hv96
                          refine hK _ _ ?_; clear hK K
                          refine l_q rfl rfl (q_moveB rfl) ?_
                          refine l_on rfl rfl rfl ?_
                          refine l_q rfl rfl (q_moveB rfl) ?_
                          refine l_on rfl rfl rfl ?_
                          refine l_q rfl rfl (q_moveB rfl) ?_
                          refine l_on rfl rfl rfl ?_
                          refine l_q rfl rfl (q_bool_eql rfl rfl (by kernel_rfl)) ?_
                          refine l_q rfl rfl (q_pickT rfl rfl rfl) ?_
                          refine l_q rfl rfl (q_assignB rfl) ?_
                          refine l_nil ?_
                          refine hK95 _ _ ?_
                          refine wp_ret ?_
                          refine c_ret1 rfl rfl ?_
                          exact ⟨_, rfl, congrArg Value.bool (by first | (rw [nx0 (by omega)]; rfl) | exact absurd (en0 (L := L) (k := n.toNat) (by omega)) (by omega) | exact in_bg1 (begins_eq hRL hRO (by omega) (by omega) (by first | exact .inl (by omega) | exact .inr (by assumption)) ht hf hi) (by assumption) | exact in_bg2 (begins_eq hRL hRO (by omega) (by omega) (by first | exact .inl (by omega) | exact .inr (by assumption)) ht hf hi) (by assumption)), hS96.drop⟩
                        ·
                          have hg94b := hg94
                          try simp only [decide_eq_true_eq, decide_eq_false_iff_not, Bool.not_eq_true', Bool.not_eq_false', Bool.and_eq_true, Bool.or_eq_true, Int.not_lt, Int.not_le, ne_eq, Decidable.not_not] at hg94
                          refine l_off rfl rfl rfl hg94b ?_
                          refine l_off rfl rfl rfl hg94b ?_
                          refine l_off rfl rfl rfl hg94b ?_
                          refine l_off rfl rfl rfl hg94b ?_
                          refine l_off rfl rfl rfl hg94b ?_
                          refine l_q rfl rfl (q_pickF rfl hg94b rfl) ?_
                          refine l_q rfl rfl (q_assignB rfl) ?_
                          refine l_nil ?_
                          refine hK93 _ _ ?_
                          refine wp_seq_k (fun K97 hK97 => ?_)
                          refine wp_region_lit ?_
                          refine l_e rfl (fun K hK => ?_)
                          refine e_call (by kernel_rfl) (alive4_ok _) rfl (after_R hS92 (fun v98 w98 hv98 hS98 => ?_))
                          clear hS92
                          obtain rfl := hv98
                          refine hK _ _ ?_; clear hK K
                          refine l_q rfl rfl (q_moveB rfl) ?_
                          refine l_on rfl rfl rfl ?_
                          refine l_q rfl rfl (q_moveB rfl) ?_
                          refine l_on rfl rfl rfl ?_
                          refine l_q rfl rfl (q_moveB rfl) ?_
                          refine l_on rfl rfl rfl ?_
                          refine l_q rfl rfl (q_bool_eql rfl rfl (by kernel_rfl)) ?_
                          refine l_q rfl rfl (q_pickT rfl rfl rfl) ?_
                          refine l_q rfl rfl (q_assignB rfl) ?_
                          refine l_nil ?_
                          refine hK97 _ _ ?_
                          refine wp_ret ?_
                          refine c_ret1 rfl rfl ?_
                          exact ⟨_, rfl, congrArg Value.bool (by first | (rw [nx0 (by omega)]; rfl) | exact absurd (en0 (L := L) (k := n.toNat) (by omega)) (by omega) | exact in_bg1 (begins_eq hRL hRO (by omega) (by omega) (by first | exact .inl (by omega) | exact .inr (by assumption)) ht hf hi) (by assumption) | exact in_bg2 (begins_eq hRL hRO (by omega) (by omega) (by first | exact .inl (by omega) | exact .inr (by assumption)) ht hf hi) (by assumption)), hS98.drop⟩

end Go.Proofs.YtcllmnepkglabaaDoor
