import Derived.Test.YtggkjfllbfcagaaRange
import Derived.Test.YtggkjfllbfcagaaRegion
namespace Go.Proofs.Ytggkjfllbfcagaa
open Go Go.RowKit

/-! A region within a round, walked as outside of rounds. -/
theorem rowsIn_round {l n : Nat} {P : Program} {row : String} {args : Array Value} {w : World} {R : Value → World → Prop} (h : Rows P row args w R) : RowsIn (Fence.wide.inRound l) n P row args w R :=
  fun c cs _ => let ⟨v, w', r, s⟩ := h c cs; ⟨v, w', r, stepsIn_wide.2 s⟩
theorem uponIn_round {l : Nat} {P : Program} {o : Oper} {a : Act} {K K' : Act → World → Prop} {Q : Exit → Act → World → Prop} (hK : ∀ a w, K a w → K' a w) (hL : ¬ LetsOut Q) {r : Result Next}
    (h : o.upon P a K Q r) : o.uponIn (Fence.wide.inRound l) 0 P a K' Q r := by
  cases r with
  | ok x w' =>
    cases x with
    | value v => exact hK _ _ h
    | skip => exact hK _ _ h
    | defer d => exact hK _ _ h
    | enter f args =>
      refine ⟨fun h => by simp [Fence.wide] at h, ?_⟩
      refine CallsIn.inRound l (CallsIn.mono (callsIn_wide.2 h) ?_)
      intro e w'' hr
      cases e with
      | returned v => exact hK _ _ hr
      | panicked c => exact hr
      | outgrown => exact absurd hr hL
    | row row args =>
      refine ⟨fun h => by simp [Fence.wide] at h, rowsIn_round (Rows.mono h ?_)⟩
      intro v w'' hr
      exact hK _ _ hr
    | _ => exact False.elim h
  | halt x w' =>
    cases x with
    | panic v => exact h
    | _ => exact False.elim h
theorem wpOpsIn_round {l : Nat} {P : Program} {ops : Array Oper} {Q : Exit → Act → World → Prop} (hd : ops.all (fun o => match o.op with | .defer _ => false | _ => true) = true) (hL : ¬ LetsOut Q) :
    ∀ (is : List Nat) (a : Act) (w : World), wpOps P ops Q is a w → wpOpsIn (Fence.wide.inRound l) 0 P ops Q is a w
  | [], _, _, h => h
  | i :: rest, a, w, h => by
    unfold wpOps at h
    unfold wpOpsIn
    split at h
    · rename_i he
      simp only [he]
      exact wpOpsIn_round hd hL rest a w h
    · rename_i o he
      simp only [he]
      have hod : ∀ c, o.op ≠ .defer c := by
        intro c hc
        rw [Array.all_eq_true'] at hd
        have := hd o (Array.mem_of_getElem? he)
        rw [hc] at this
        simp at this
      split at h
      · rename_i hw
        simp only [hw, if_true]
        refine ⟨fun f _ => trivial, ?_⟩
        rw [Oper.semAt_eq _ _ _ hod]
        rcases h with h | ⟨_, h⟩
        · exact uponIn_round (fun a w => wpOpsIn_round hd hL rest a w) hL h
        · exact absurd h hL
      · rename_i hw
        simp only [hw]
        exact ⟨fun f _ => trivial, wpOpsIn_round hd hL rest _ w h⟩
theorem listIn_round {l : Nat} {P : Program} {ops : Array Oper} {Q : Exit → Act → World → Prop} (hL : ¬ LetsOut Q) :
    ∀ {rest : List Oper} {a : Act} {w : World}, rest.all (fun o => match o.op with | .defer _ => false | _ => true) = true → wpList P ops Q rest a w → wpListIn (Fence.wide.inRound l) 0 P ops Q rest a w
  | [], _, _, _, h => h
  | o :: rest, a, w, hd, h => by
    unfold wpList at h
    unfold wpListIn
    rw [List.all_cons, Bool.and_eq_true] at hd
    have hod : ∀ c, o.op ≠ .defer c := by
      intro c hc
      have := hd.1
      rw [hc] at this
      simp at this
    split at h
    · rename_i hw
      simp only [hw, if_true]
      refine ⟨fun f _ => trivial, ?_⟩
      rw [Oper.semAt_eq _ _ _ hod]
      rcases h with h | ⟨_, h⟩
      · exact uponIn_round (fun a w => listIn_round hL hd.2) hL h
      · exact absurd h hL
    · rename_i hw
      simp only [hw]
      exact ⟨fun f _ => trivial, listIn_round hL hd.2 h⟩
/-- In a round: a region that is carried out in the text's order. -/
theorem region_round {l id : Nat} {P : Program} {ops : List Oper} {Q : Exit → Act → World → Prop} {a : Act} {w : World} (hd : ops.toArray.all (fun o => match o.op with | .defer _ => false | _ => true) = true) (hL : ¬ LetsOut Q)
    (h : wpList P ops.toArray Q ops a w) : (Code.region id ops.toArray false).wpIn (Fence.wide.inRound l) 0 P Q a w := by
  refine wpIn_region (wpOpsIn_round hd hL _ _ _ ?_)
  rw [List.range_eq_range', List.size_toArray, wpOps_eq_wpList ops 0 (by simp)]
  exact h
/-- In a round: a region that draws its order. -/
theorem region_round_draw {l id : Nat} {P : Program} {ops : Array Oper} {Q : Exit → Act → World → Prop} {a : Act} {w : World} (hd : ops.all (fun o => match o.op with | .defer _ => false | _ => true) = true) (hL : ¬ LetsOut Q)
    (h : ∀ t, wpOps P ops Q (Region.schedule (P.follows .mixedOrders) ops t) a { w with drawn := w.drawn + 1 }) : (Code.region id ops true).wpIn (Fence.wide.inRound l) 0 P Q a w :=
  wpIn_region_draw fun t => wpOpsIn_round hd hL _ _ _ (h t)
theorem letsOut_then {K : Act → World → Prop} {Q : Exit → Act → World → Prop} (h : ¬ LetsOut Q) : ¬ LetsOut (Exit.then K Q) := fun ⟨a, w, hq⟩ => h ⟨a, w, hq⟩
theorem letsOut_round {keep kp : Nat → Prop} {I : Nat → World → Prop} {Ix : Code → Nat → World → Prop} {k : Nat} {W : World} : ¬ LetsOut (roundQ keep kp I Ix k W) := fun ⟨_, _, h⟩ => h
theorem letsOut_block {id : Nat} {Q : Exit → Act → World → Prop} (h : ¬ LetsOut Q) : ¬ LetsOut (Exit.inBlock id Q) := fun ⟨a, w, hq⟩ => h ⟨a, w, hq⟩
end Go.Proofs.Ytggkjfllbfcagaa
