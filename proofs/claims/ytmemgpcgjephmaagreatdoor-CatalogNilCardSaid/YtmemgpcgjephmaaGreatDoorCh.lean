/- What the rows of this seat share: their arguments, opened. -/
import Derived.Test.YtmemgpcgjephmaaGreatDoorCe
import Derived.Test.YtmemgpcgjephmaaGreatDoorSo
import Derived.SizedLaws
set_option linter.unusedVariables false
set_option linter.unusedSimpArgs false
namespace Go.Proofs.YtmemgpcgjephmaaGreatDoor
open Go.RowKit Go.ChangeShapes Go.WideShapes
theorem ownK : ownKnob Tryz.prog.godebug = none := by kernel_rfl
theorem laidOutK : laidOutB Tryz.prog = true := by kernel_rfl
theorem bs_of (s : ByteArray) : ∃ l, s = bs l ∧ Bytes l := by
  refine ⟨s.data.toList.map (·.toNat), ?_, fun x hx => ?_⟩
  · apply ByteArray.ext
    apply Array.ext'
    rw [bs_data, List.map_map]
    have : (UInt8.ofNat ∘ fun x : UInt8 => x.toNat) = id := by funext x; simp
    rw [this, List.map_id]
  · obtain ⟨y, _, rfl⟩ := List.mem_map.1 hx
    exact y.toNat_lt
section
variable {H : Type} {enc : TypeId × Value → H} {W : World} {base : Nat} {spare : Nat → Bool} {held : Bool}
theorem opn_vl {n : Nat} {c : List Value} {y : DataW H × List MemPlace} (h : DataW.trod enc Tryz.prog W base spare held n 59 c = some y) : ∃ a, c = vl a ∧ VOk a := by
  obtain ⟨hl, n', hf⟩ := opn_fields (fs := _) Tryz.underlying59 (by kernel_rfl) (by kernel_rfl) h
  match c, hl with
  | [v0, v1, v2], _ =>
    obtain ⟨z0, t0⟩ := hf 0 _ _ rfl rfl
    obtain ⟨z1, t1⟩ := hf 1 _ _ rfl rfl
    obtain ⟨z2, t2⟩ := hf 2 _ _ rfl rfl
    obtain ⟨k0, e0, _, w0⟩ := DataW.trod_int Tryz.underlying45 t0
    obtain ⟨k1, e1, _, w1⟩ := DataW.trod_int Tryz.underlying2 t1
    obtain ⟨s, e2, _, _⟩ := DataW.trod_string Tryz.underlying9 t2
    injection e0 with e0 _; injection e1 with e1 _; injection e2 with e2 _
    obtain ⟨l, rfl, hB⟩ := bs_of s
    subst e0 e1 e2
    exact ⟨(k0, k1, l), rfl, hB, bnd_i64 w0, bnd_i64 w1⟩
/-- Values that are handed in. -/
theorem opn_vals {sa : Option Addr} {sl sc : Nat} {d : DataW H} {p : List MemPlace} (h : DataW.Trod enc Tryz.prog W base spare held 23 (.slice sa sl sc) d p) :
    ∃ l : List Vl, l.length = sl ∧ SlG (hw W) sa (List.flatMap vl l) ∧ VsOk l ∧ sl ≤ sc ∧ sl ≤ 9223372036854775807 := by
  obtain ⟨fu, h⟩ := h
  obtain ⟨l, h1, h2, h3, h4, h5⟩ := opn_rows (C := 3) (f := vl) (Q := VOk) Tryz.underlying23 (by kernel_rfl) (by decide) (fun _ => rfl) (fun n c y hy => opn_vl hy) h
  have h6 : maxLen = 9223372036854775807 := rfl
  exact ⟨l, h1, h2, h3, h4, by omega⟩
/-- How many they may be. -/
theorem vals_sized {ts : List TypeId} {ds : List (DataW H)} {j : Nat} {sa : Option Addr} {sl sc : Nat} {d : DataW H} {p : List MemPlace} (h : (DataW.weightsEach Tryz.prog ts ds).all (· ≤ reachBytes) = true) (ht : ts[j]? = some 23) (hd : ds[j]? = some d) (h0 : DataW.Trod enc Tryz.prog W base spare held 23 (.slice sa sl sc) d p) : sl ≤ 4398046510976 := by
  obtain ⟨fu, h0⟩ := h0
  rcases Go.Deep.open_slice Tryz.underlying23 h0 with ⟨h1, _⟩ | ⟨a, len, cap, m, n, D, Pl, h1, hb, hl, hm, hmm, hx, _⟩
  · injection h1 with h1 _; injection h1 with _ h2 _; omega
  · injection h1 with h1 _; injection h1 with _ h2 _
    simp only [Prod.mk.injEq] at hx
    have h3 := sized_slice h ht (hd.trans (congrArg some hx.1)) Tryz.underlying23
    have h4 : Tryz.prog.bytesOf 59 = 32 := by kernel_rfl
    have h5 : reachBytes = 140737488351232 := rfl
    rw [h4, h5, List.length_map, List.length_range] at h3
    have h6 := Nat.le_of_mul_le_mul_right (Nat.le_trans h3 (show 140737488351232 ≤ 4398046510976 * 32 from by decide)) (by decide)
    omega
set_option maxRecDepth 100000 in
/-- A value by value. -/
theorem opn_val {r : Reach} {b0 : Nat} {v : Value} {d : DataW H} {p : List MemPlace} (hv : Value.okWide Tryz.prog W r b0 59 v) (h : DataW.Trod enc Tryz.prog W base spare held 59 v d p) : ∃ a, v = .agg (vl a).toArray ∧ VOk a := by
  obtain ⟨cs, rfl, _⟩ := okWide_struct (fs := _) Tryz.underlying59 hv
  obtain ⟨fu, h⟩ := h
  obtain ⟨a, ha, hok⟩ := opn_vl h
  refine ⟨a, ?_, hok⟩
  rw [← ha]; rfl
theorem opn_cc {n : Nat} {c : List Value} {y : DataW H × List MemPlace} (h : DataW.trod enc Tryz.prog W base spare held n 47 c = some y) : ∃ a, c = cc a ∧ COk a := by
  obtain ⟨hl, n', hf⟩ := opn_fields (fs := _) Tryz.underlying47 (by kernel_rfl) (by kernel_rfl) h
  match c, hl with
  | [v0, v1, v2], _ =>
    obtain ⟨z0, t0⟩ := hf 0 _ _ rfl rfl
    obtain ⟨z1, t1⟩ := hf 1 _ _ rfl rfl
    obtain ⟨z2, t2⟩ := hf 2 _ _ rfl rfl
    obtain ⟨s, e0, _, _⟩ := DataW.trod_string Tryz.underlying9 t0
    obtain ⟨k1, e1, _, w1⟩ := DataW.trod_int Tryz.underlying45 t1
    obtain ⟨b2, e2, _⟩ := DataW.trod_bool Tryz.underlying4 t2
    injection e0 with e0 _; injection e1 with e1 _; injection e2 with e2 _
    obtain ⟨l, rfl, hB⟩ := bs_of s
    subst e0 e1 e2
    exact ⟨⟨l, k1, b2⟩, rfl, hB, bnd_i64 w1⟩
theorem is_slice {t e : TypeId} {fuel : Nat} {v : Value} {x : DataW H × List MemPlace} (ht : Tryz.prog.underlying t = some (.slice e)) (h : DataW.trod enc Tryz.prog W base spare held fuel t [v] = some x) : ∃ ad len cap, v = .slice ad len cap := by
  rcases Go.Deep.open_slice ht h with ⟨h0, _⟩ | ⟨a, len, cap, _, _, _, _, h0, _⟩
  · injection h0 with h0 _; exact ⟨_, _, _, h0⟩
  · injection h0 with h0 _; exact ⟨_, _, _, h0⟩
theorem opn_tb {n : Nat} {c : List Value} {y : DataW H × List MemPlace} (h : DataW.trod enc Tryz.prog W base spare held n 25 c = some y) :
    ∃ (t : Tb) (ca ba : Option Addr) (cca cba : Nat), c = [.string (bs t.nm), .slice ca t.cs.length cca, .int .i64 t.key, .int .i64 t.pt, .slice ba t.bd.length cba] ∧ Bytes t.nm ∧ CsOk t.cs ∧ VsOk t.bd ∧ SlG (hw W) ca (List.flatMap cc t.cs) ∧ SlG (hw W) ba (List.flatMap vl t.bd) ∧ t.cs.length ≤ cca ∧ t.bd.length ≤ cba := by
  obtain ⟨hl, n', hf⟩ := opn_fields (fs := _) Tryz.underlying25 (by kernel_rfl) (by kernel_rfl) h
  match c, hl with
  | [v0, v1, v2, v3, v4], _ =>
    obtain ⟨z0, t0⟩ := hf 0 _ _ rfl rfl
    obtain ⟨z1, t1⟩ := hf 1 _ _ rfl rfl
    obtain ⟨z2, t2⟩ := hf 2 _ _ rfl rfl
    obtain ⟨z3, t3⟩ := hf 3 _ _ rfl rfl
    obtain ⟨z4, t4⟩ := hf 4 _ _ rfl rfl
    obtain ⟨s, e0, _, _⟩ := DataW.trod_string Tryz.underlying9 t0
    obtain ⟨ca, nc, cca, rfl⟩ := is_slice Tryz.underlying22 t1
    obtain ⟨k2, e2, _, _⟩ := DataW.trod_int Tryz.underlying3 t2
    obtain ⟨k3, e3, _, _⟩ := DataW.trod_int Tryz.underlying3 t3
    obtain ⟨ba, nb, cba, rfl⟩ := is_slice Tryz.underlying23 t4
    injection e0 with e0 _; injection e2 with e2 _; injection e3 with e3 _
    subst e0 e2 e3
    obtain ⟨nm, rfl, hB⟩ := bs_of s
    obtain ⟨l, h1, h2, h3, h4, h5⟩ := opn_rows (C := 3) (f := cc) (Q := COk) Tryz.underlying22 (by kernel_rfl) (by decide) (fun _ => rfl) (fun n c y hy => opn_cc hy) t1
    obtain ⟨m, g1, g2, g3, g4, g5⟩ := opn_rows (C := 3) (f := vl) (Q := VOk) Tryz.underlying23 (by kernel_rfl) (by decide) (fun _ => rfl) (fun n c y hy => opn_vl hy) t4
    subst h1 g1
    exact ⟨⟨nm, l, k2, k3, m⟩, ca, ba, cca, cba, rfl, hB, h3, g3, h2, g2, h4, g4⟩
set_option maxRecDepth 100000 in
theorem tb_agg {r : Reach} {b0 : Nat} {v : Value} (hv : Value.okWide Tryz.prog W r b0 25 v) : ∃ cs : Array Value, v = .agg cs := by
  obtain ⟨cs, h, _⟩ := okWide_struct (fs := _) Tryz.underlying25 hv
  exact ⟨cs, h⟩
set_option maxRecDepth 100000 in
/-- A table by value. -/
theorem opn_table {r : Reach} {b0 : Nat} {v : Value} {d : DataW H} {p : List MemPlace} (hv : Value.okWide Tryz.prog W r b0 25 v) (h : DataW.Trod enc Tryz.prog W base spare held 25 v d p) :
    ∃ (t : Tb) (ca ba : Option Addr) (cca cba : Nat), v = .agg #[.string (bs t.nm), .slice ca t.cs.length cca, .int .i64 t.key, .int .i64 t.pt, .slice ba t.bd.length cba] ∧ Bytes t.nm ∧ CsOk t.cs ∧ VsOk t.bd ∧ SlG (hw W) ca (List.flatMap cc t.cs) ∧ SlG (hw W) ba (List.flatMap vl t.bd) ∧ t.cs.length ≤ cca ∧ t.bd.length ≤ cba := by
  obtain ⟨cs, rfl⟩ := tb_agg hv
  obtain ⟨fu, h⟩ := h
  obtain ⟨t, ca, ba, cca, cba, ha, hr⟩ := opn_tb h
  refine ⟨t, ca, ba, cca, cba, ?_, hr⟩
  rw [show cs = ([.string (bs t.nm), .slice ca t.cs.length cca, .int .i64 t.key, .int .i64 t.pt, .slice ba t.bd.length cba] : List Value).toArray from by rw [← ha]; rfl]
end
end Go.Proofs.YtmemgpcgjephmaaGreatDoor
