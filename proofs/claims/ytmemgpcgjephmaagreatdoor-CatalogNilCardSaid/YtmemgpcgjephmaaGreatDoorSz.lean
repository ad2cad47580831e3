/- Ranges over a function, V: the law over frames; the ghost heap of all but one block. Over any program. -/
import Derived.Test.YtmemgpcgjephmaaGreatDoorSv
import Derived.Test.YtmemgpcgjephmaaGreatDoorSy
set_option linter.unusedVariables false
set_option linter.unusedSimpArgs false
namespace Go.Proofs.YtmemgpcgjephmaaGreatDoor
open Go Go.RowKit
section
variable {w0 w W WL : World} {D : Nat → Prop} {Γ : List Ch} {b b' : Nat} {o o' : Obj} {i j : Nat}
/-- All of a world but one block. -/
def gbx (b : Nat) (W : World) : Gh := fun k => if k = b then none else W.heap[k]?
theorem gbx_lt : ∀ k o, gbx b W k = some o → k < W.heap.size := fun k o h => by
  unfold gbx at h
  split at h
  · cases h
  · exact (Array.getElem?_eq_some_iff.1 h).1
theorem gbx_le : Gle (gbx b W) (hw W) := fun k o h => by
  unfold gbx at h
  split at h
  · cases h
  · exact h
theorem St.gbase (hS : St w (fun _ => False) Γ W) (hi : Γ[i]? = some (.blk b o)) : Gle (hw w) (gbx b W) := fun k o' h => by
  have hk : k < w.heap.size := (Array.getElem?_eq_some_iff.1 h).1
  have hb := ((hS.sat.get hi).2 b rfl).1
  unfold gbx
  rw [if_neg (by rintro rfl; rcases hb with h1 | h1; exact h1; omega)]
  exact (hS.keep k hk id).trans h
theorem St.gblk (hS : St w D Γ W) (hi : Γ[i]? = some (.blk b o)) (hj : Γ[j]? = some (.blk b' o')) (hne : i ≠ j) : gbx b W b' = some o' := by
  unfold gbx
  rw [if_neg (by rintro rfl; exact hS.sat.disj hi hj hne _ rfl rfl)]
  exact (hS.sat.get hj).1
theorem rog_of (hX : St WL (owns [.blk b o]) Γ W) : Rog Γ W (gbx b WL) := fun k o' h => by
  have hk := gbx_lt k o' h
  have hn : ¬ owns [.blk b o] k := by
    rintro ⟨c, hc, hck⟩
    rw [List.mem_singleton] at hc; subst hc
    have hkb : k = b := hck
    subst hkb
    simp [gbx] at h
  refine ⟨(hX.keep k hk hn).trans (gbx_le k o' h), ?_⟩
  rintro ⟨c, hc, hck⟩
  rcases ((hX.sat.mem c hc).2 k hck).1 with h1 | h1
  · exact hn h1
  · omega
theorem Rog.moreN {Γ' : List Ch} {g : Gh} (h : Rog Γ w g) (hN : St w (fun _ => False) Γ' W) : Rog (Γ' ++ Γ) W g := fun k o hk => by
  obtain ⟨h1, h2⟩ := h k o hk
  have hk' : k < w.heap.size := (Array.getElem?_eq_some_iff.1 h1).1
  refine ⟨(hN.keep k hk' id).trans h1, ?_⟩
  rintro ⟨c, hc, hck⟩
  rcases List.mem_append.1 hc with hc | hc
  · rcases ((hN.sat.mem c hc).2 k hck).1 with h3 | h3
    · exact h3
    · omega
  · exact h2 ⟨c, hc, hck⟩
/-- Pieces that are cells. -/
def IsC : Ch → Prop
  | .blk b o => o.isCells = true
  | .gen own sat _ => ∀ w, sat w → ∀ k, own k → ∃ o : Obj, w.heap[k]? = some o ∧ o.isCells = true
theorem isC_cel {c : Ch} (h : IsC c) (hs : c.sat w) : c.cel w := by
  cases c with
  | blk b o => rintro k rfl; exact ⟨o, hs, h⟩
  | gen own sat loc => exact h w hs
theorem isC_ow {e : TypeId} {size m cap : Nat} {ad : Option Addr} {xs : List Value} : IsC (.ow e size ad m cap xs) := fun w hs => cel_ow (w := w) hs
theorem isC_pk {Δ : List Ch} (h : ∀ c ∈ Δ, IsC c) : IsC (.pk Δ) := fun w hs => by
  rintro k ⟨c, hc, hk⟩
  exact isC_cel (h c hc) (Sat.mem (show Sat 0 (fun _ => True) Δ w from hs) c hc).1 k hk
theorem St.cels (h : St w0 D Γ W) (hc : ∀ c ∈ Γ, IsC c) : ∀ c ∈ Γ, c.cel W := fun c hm => isC_cel (hc c hm) (h.sat.mem c hm).1
theorem St.keepsN {B : Nat} (h : St w (fun _ => False) Γ W) : KeepsFrom B w W := St.keeps (Γ := []) (by rw [owns_nil]; exact h) (fun c hc => by cases hc)
end
theorem nlo_then {Q : Exit → Act → World → Prop} {K : Act → World → Prop} (h : ¬ LetsOut Q) : ¬ LetsOut (Exit.then K Q) := fun ⟨a, w, hq⟩ => h ⟨a, w, hq⟩
theorem nlo_block {Q : Exit → Act → World → Prop} {id : Nat} (h : ¬ LetsOut Q) : ¬ LetsOut (Exit.inBlock id Q) := fun ⟨a, w, hq⟩ => h ⟨a, w, hq⟩
theorem nlo_false : ¬ LetsOut (fun _ _ _ => False) := fun ⟨_, _, h⟩ => h
section
variable {α : Type} {B : Nat} {Kp : World → World → Prop} {I : List α → World → Prop} {Ix : Code → List α → World → Prop} {xs : List α} {W : World}
theorem nlo_G : ¬ LetsOut (ownPostG B Kp I Ix xs W) := fun ⟨_, _, h⟩ => h
theorem QOk.ownG : QOk (ownPostG B Kp I Ix xs W) := fun c a d v w h => h
end
/-- A range over a function: its loop variable (in slot d) is boxed (in slot t) in every round. -/
theorem rf_own {α : Type} {P : Program} {m : Nat} {f : Nat → Value} {Q : Exit → Act → World → Prop} {w : World} {g : Operand} {d t : Tmp} {assign body : Code} {gf : Nat} {lb : Array Value} {enc : α → Value} {arr : α → Array Value} {T : TypeId} {Kp : World → World → Prop} {S Sp : List α → Prop} {N : Nat}
    (hg : ev m f g = .func (.func gf) #[] lb) (eg : ∀ args w, (callFunc gf args).run P w = .ok (.enter gf args) w) (hseq : SeqStopsK Fence.wide 2 P gf lb (fun x => #[enc x]) Kp S Sp N w)
    (hKt : ∀ {A B C : World}, Kp A B → Kp B C → Kp A C) (hKb : ∀ (W : World) (l : Nat) (o o' : Obj), w.heap.size ≤ l → Kp W (W.putObj l o'))
    (I : List α → World → Prop) (Ix : Code → List α → World → Prop) (hI : OwnFrom w.heap.size I) (hIx : ∀ c, OwnFrom w.heap.size (Ix c)) (h0 : I [] w)
    (hassign : ∀ (l : Nat) (pre : List α) (x : α) (W : World) (K : Act → World → Prop), I pre W → (∀ b W', KeepsFrom w.heap.size W W' → Kp W W' → I pre W' → W'.heap[b]? = some (.cells (arr x) T) → K (E m (up (up f d (enc x)) t (.pointer (some ⟨b, 0, none⟩)))) W') →
      assign.wpIn (Fence.wide.inRound l) 1 P (Exit.then K (fun _ _ _ => False)) (E m (up f d (enc x))) W)
    (hbody : ∀ (l : Nat) (pre : List α) (x : α) (b : Nat) (W : World), I pre W → W.heap[b]? = some (.cells (arr x) T) → pre.length < N → body.wpIn (Fence.wide.inRound l) 1 P (ownPostG w.heap.size Kp I Ix (pre ++ [x]) W) (E m (up (up f d (enc x)) t (.pointer (some ⟨b, 0, none⟩)))) W)
    (hdone : ∀ (D : Nat) (xs : List α) (W : World), w.heap.size ≤ D → S xs → I xs W → W.heap[D]? = some (.deferred (some [])) → Q .normal (Em m f [{ target := .collected D, args := #[] }]) W)
    (hstop : ∀ (D : Nat) (c : Code) (pre : List α) (W : World), w.heap.size ≤ D → Sp pre → Ix c pre W → W.heap[D]? = some (.deferred (some [])) → c.wp P Q (Em m f [{ target := .collected D, args := #[] }]) W) :
    (Code.rangeFunc g #[d] assign body).wp P Q (E m f) w := by
  refine wpIn_wide.1 (wpIn_rangeFunc_ownH (F := Fence.wide) (n := 3) rfl (by decide) (by rw [E_eval]; exact hg) trivial eg hseq hKt (fun W l o o' hl _ _ _ => hKb W l o o' hl) (Below.refl _ _) (fun _ => rfl) I Ix hI hIx h0
    (fun x a' W => ∃ b, a' = E m (up (up f d (enc x)) t (.pointer (some ⟨b, 0, none⟩))) ∧ W.heap[b]? = some (.cells (arr x) T)) (fun x a' => own_cells) ?_ ?_ ?_ ?_)
  · intro l pre x W K hi hK
    have h := hassign l pre x W K hi (fun b W' h1 h2 h3 h4 => hK _ W' h1 h2 h3 ⟨b, rfl, h4⟩)
    rw [← E_put] at h
    have e2 : Array.foldl (fun (t : Array Value) (q : Tmp × Value) => t.setIfInBounds q.1 q.2) (E m f).tmps (#[d].zip #[enc x]) = (E m f).tmps.setIfInBounds d (enc x) := by simp
    have e3 : (⟨Array.foldl (fun (t : Array Value) (q : Tmp × Value) => t.setIfInBounds q.1 q.2) (E m f).tmps (#[d].zip #[enc x]), []⟩ : Act) = (E m f).put (some d) (enc x) := by rw [e2]; rfl
    rw [← e3] at h
    exact h
  · rintro l pre x a' W hl hr hi ⟨b, rfl, hb⟩ hlt
    exact hbody l pre x b W hi hb hlt
  · intro D xs W hD hs hi hd
    exact hdone D xs W hD hs hi hd
  · intro D c pre W hD hs hi hd
    exact wpIn_wide.2 (hstop D c pre W hD hs hi hd)
end Go.Proofs.YtmemgpcgjephmaaGreatDoor
