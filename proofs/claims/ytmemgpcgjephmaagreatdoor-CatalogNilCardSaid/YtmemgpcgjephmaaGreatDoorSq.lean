/- Ranges over a function: what is walked outside a round serves within one. Over any program. -/
import Derived.Test.YtmemgpcgjephmaaGreatDoorSp
import Derived.RangeFuncNested
import Derived.RangeFuncBound
import Derived.RangeFuncCalls
import Derived.RangeFuncLeaves
import Derived.OrdersIn
import Derived.TacticsIn
import Derived.OwnWalkIn
set_option linter.unusedVariables false
set_option linter.unusedSimpArgs false
namespace Go.Proofs.YtmemgpcgjephmaaGreatDoor
open Go Go.RowKit
section
variable {P : Program} {n : Nat} {l : Nat} {w : World} {a : Act} {Q : Exit → Act → World → Prop} {ops : Array Oper}
theorem calls_in {f : FuncId} {args : Array Value} {R : Ending → World → Prop} (h : Calls P f args w R) : CallsIn (Fence.wide.inRound l) n P f args w R := CallsIn.inRound l (callsIn_wide.2 h)
theorem rows_in {row : String} {args : Array Value} {R : Value → World → Prop} (h : Rows P row args w R) : RowsIn (Fence.wide.inRound l) n P row args w R :=
  fun c cs _ => let ⟨v, w', r, s⟩ := h c cs; ⟨v, w', r, stepsIn_wide.2 s⟩
theorem oper_in {o : Oper} {next : Act → World → Prop} (hd : ∀ c, o.op ≠ .defer c) (h : o.wp P a w next Q) : o.wpIn (Fence.wide.inRound l) n P a w next Q := by
  refine ⟨fun _ _ => trivial, ?_⟩
  show o.uponIn _ n P a next Q ((o.semAt (some l) a.eval).run P w)
  rw [Oper.semAt_some l _ _ hd]
  unfold Oper.wp at h
  generalize (execOp a.eval o).run P w = r at h
  unfold Oper.upon at h
  split at h
  · exact h
  · exact h
  · exact h
  · exact ⟨(fun h => by cases h), calls_in h⟩
  · exact ⟨(fun h => by cases h), rows_in h⟩
  · exact h
  · exact h.elim
def ndB (o : Oper) : Bool := match o.op with | .defer _ => false | _ => true
theorem nd_of {o : Oper} (h : ndB o = true) : ∀ c, o.op ≠ .defer c := fun c hc => by unfold ndB at h; rw [hc] at h; cases h
theorem list_in (hQ : ¬ LetsOut Q) : ∀ {rest : List Oper} {a : Act} {w : World}, rest.all ndB = true → wpList P ops Q rest a w → wpListIn (Fence.wide.inRound l) n P ops Q rest a w
  | [], a, w, _, h => h
  | o :: rest, a, w, hd, h => by
    rw [List.all_cons, Bool.and_eq_true] at hd
    unfold wpList at h
    unfold wpListIn
    split
    · rename_i hw
      rw [if_pos hw] at h
      refine oper_in (nd_of hd.1) (Oper.wp_mono (fun a w h => list_in hQ hd.2 h) (h.resolve_right fun h => hQ h.2))
    · rename_i hw
      rw [if_neg hw] at h
      exact ⟨fun _ _ => trivial, list_in hQ hd.2 h⟩
theorem any_in {md : Region.Mode} (hQ : ¬ LetsOut Q) (hd : ops.toList.all ndB = true) : ∀ {fuel : Nat} {listed : Array Bool} {a : Act} {w : World}, wpAny P md ops Q fuel listed a w → wpAnyIn (Fence.wide.inRound l) n P md ops Q fuel listed a w
  | 0, listed, a, w, h => h
  | fuel + 1, listed, a, w, h => by
    refine ⟨h.1, fun i hi => ?_⟩
    have h1 := h.2 i hi
    unfold wpOp at h1
    unfold wpOpIn
    split at h1
    · rename_i ho
      rw [ho]; exact any_in hQ hd h1
    · rename_i o ho
      rw [ho]
      simp only
      split at h1
      · rename_i hw
        rw [if_pos hw]
        refine oper_in (nd_of ?_) (Oper.wp_mono (fun a w h => any_in hQ hd h) (h1.resolve_right fun h => hQ h.2))
        exact List.all_eq_true.1 hd o (Array.mem_toList_iff.2 (Array.mem_of_getElem? ho))
      · rename_i hw
        rw [if_neg hw]
        exact ⟨fun _ _ => trivial, any_in hQ hd h1⟩
/-- A region within a round, walked as one outside. -/
theorem in_region {id : Nat} {L : List Oper} (hQ : ¬ LetsOut Q) (hd : L.all ndB = true) (h : wpList P L.toArray Q L a w) : (Code.region id L.toArray false).wpIn (Fence.wide.inRound l) n P Q a w := wpIn_region_lit (list_in hQ hd h)
theorem in_regionD {id : Nat} (hm : P.follows .mixedOrders = true) (hQ : ¬ LetsOut Q) (hd : ops.toList.all ndB = true) (h : wpAny P .any ops Q ops.size (Array.replicate ops.size false) a { w with drawn := w.drawn + 1 }) : (Code.region id ops true).wpIn (Fence.wide.inRound l) n P Q a w := wpIn_region_any hm (any_in hQ hd h)
/-- A drawing region within a round. -/
theorem r_anyR {id m : Nat} {f : Nat → Value} {D : Nat → Prop} {Γ : List Ch} {w0 : World} {L : List Oper} (hm : P.follows .mixedOrders = true) (hQ : ¬ LetsOut Q) (hd : L.all ndB = true) (hS : St w0 D Γ w)
    (h : ∀ w', St w0 D Γ w' → wpAnyO P L.toArray Q (fun _ _ _ => True) L.toArray.size (Array.replicate L.toArray.size false) (E m f) w') : (Code.region id L.toArray true).wpIn (Fence.wide.inRound l) n P Q (E m f) w :=
  in_regionD hm hQ hd (wpAny_of_O _ _ _ _ (h _ (hS.drawn _)))
end
end Go.Proofs.YtmemgpcgjephmaaGreatDoor
