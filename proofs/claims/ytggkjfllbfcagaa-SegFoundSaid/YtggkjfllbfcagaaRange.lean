import Derived.Test.YtggkjfllbfcagaaBase
import Derived.RangeFuncNested
import Derived.RangeFuncBound
import Derived.RangeFuncCalls
import Derived.RangeFuncLeaves
import Derived.Shelf.Abstract
import Derived.Shelf.RegionOpen
import Derived.WalkKit
import Derived.OwnWalkIn
import Derived.TacticsInMore
import Derived.LoopNIn
import Derived.LoopIn
namespace Go.Proofs.Ytggkjfllbfcagaa
open Go Go.RowKit Go.Shelf

/-- Whatever block is none of 'own' lies as it lay. -/
structure EvB (own : Nat → Prop) (A B : World) : Prop where
  os : B.os = A.os
  tape : B.tape = A.tape
  output : B.output = A.output
  size : A.heap.size ≤ B.heap.size
  block : ∀ k, k < A.heap.size → ¬ own k → B.heap[k]? = A.heap[k]?

namespace EvB
variable {own own' : Nat → Prop} {A B C : World}
theorem refl (own : Nat → Prop) (A : World) : EvB own A A := ⟨rfl, rfl, rfl, Nat.le_refl _, fun _ _ _ => rfl⟩
theorem trans (h : EvB own A B) (k : EvB own B C) : EvB own A C :=
  ⟨k.os.trans h.os, k.tape.trans h.tape, k.output.trans h.output, Nat.le_trans h.size k.size, fun i hi ho => (k.block i (Nat.lt_of_lt_of_le hi h.size) ho).trans (h.block i hi ho)⟩
theorem imp (h : EvB own A B) (ho : ∀ k, k < A.heap.size → own k → own' k) : EvB own' A B := ⟨h.os, h.tape, h.output, h.size, fun k hk hn => h.block k hk (fun e => hn (ho k hk e))⟩
theorem of_below {n : Nat} (h : Below n A B) (hn : ∀ k, k < A.heap.size → ¬ own k → k < n) : EvB own A B := ⟨h.os, h.tape, h.output, h.size, fun k hk ho => h.block k (hn k hk ho)⟩
theorem ofB (own : Nat → Prop) (h : Below A.heap.size A B) : EvB own A B := of_below h (fun _ hk _ => hk)
theorem below {n : Nat} (h : EvB own A B) (hn : n ≤ A.heap.size) (ho : ∀ k, k < n → ¬ own k) : Below n A B := ⟨h.os, h.tape, h.output, h.size, fun k hk => h.block k (Nat.lt_of_lt_of_le hk hn) (ho k hk)⟩
theorem alloc (h : EvB own A B) (o : Obj) : EvB own A (B.alloc o) := h.trans (ofB _ ((Below.refl _ _).alloc (Nat.le_refl _) o))
theorem drew (h : EvB own A B) : EvB own A B.drew := ⟨h.os, h.tape, h.output, h.size, h.block⟩
theorem drewN (h : EvB own A B) (n : Nat) : EvB own A (B.drewN n) := ⟨h.os, h.tape, h.output, h.size, h.block⟩
theorem setCell (h : EvB own A B) {p : Addr} (hp : own p.block) (u : Value) : EvB own A (B.setCell p u) :=
  h.trans ⟨rfl, rfl, rfl, by simp [World.setCell], fun k _ hk => Below.heap_setCell _ _ _ _ (fun e => hk (e ▸ hp))⟩
theorem set (h : EvB own A B) {g : Nat} (hp : own g) (i : Nat) (u : Value) : EvB own A (B.setCell ⟨g, i, none⟩ u) := h.setCell (p := ⟨g, i, none⟩) hp u
theorem fresh (h : EvB own A B) {g : Nat} (hp : A.heap.size ≤ g) (i : Nat) (u : Value) : EvB own A (B.setCell ⟨g, i, none⟩ u) :=
  ⟨h.os, h.tape, h.output, by simpa [World.setCell] using h.size, fun k hk ho => (Below.heap_setCell _ _ _ _ (by simp; omega)).trans (h.block k hk ho)⟩
theorem putObj (h : EvB own A B) {l : Nat} (hl : own l) (o : Obj) : EvB own A (B.putObj l o) :=
  h.trans ⟨rfl, rfl, rfl, by simp, fun k _ hk => World.putObj_heap_other (fun e => hk (e ▸ hl))⟩
theorem grown (h : EvB own A B) {row : Option Nat} (hg : B.grownBy C row) (hr : ∀ k, row = some k → own k) : EvB own A C :=
  h.trans ⟨hg.os, hg.tape, hg.output, hg.size, fun k hk ho => hg.block k hk (fun e => ho (hr k e.symm))⟩
theorem blk (h : EvB own A B) {g : Nat} {o : Obj} (hb : A.heap[g]? = some o) (hn : ¬ own g) : B.heap[g]? = some o := (h.block g (Array.getElem?_eq_some_iff.1 hb).1 hn).trans hb
end EvB

/-- The blocks of 'kp' lie as they lay. -/
structure Kept (kp : Nat → Prop) (A B : World) : Prop where
  os : B.os = A.os
  tape : B.tape = A.tape
  output : B.output = A.output
  size : A.heap.size ≤ B.heap.size
  block : ∀ k, k < A.heap.size → kp k → B.heap[k]? = A.heap[k]?
namespace Kept
variable {kp kp' : Nat → Prop} {A B C : World}
theorem refl (kp : Nat → Prop) (A : World) : Kept kp A A := ⟨rfl, rfl, rfl, Nat.le_refl _, fun _ _ _ => rfl⟩
theorem trans (h : Kept kp A B) (k : Kept kp B C) : Kept kp A C := ⟨k.os.trans h.os, k.tape.trans h.tape, k.output.trans h.output, Nat.le_trans h.size k.size, fun i hi ho => (k.block i (Nat.lt_of_lt_of_le hi h.size) ho).trans (h.block i hi ho)⟩
theorem imp (h : Kept kp A B) (hk : ∀ k, kp' k → kp k) : Kept kp' A B := ⟨h.os, h.tape, h.output, h.size, fun i hi ho => h.block i hi (hk i ho)⟩
theorem of_ev {own : Nat → Prop} (h : EvB own A B) (hk : ∀ k, own k → ¬ kp k) : Kept kp A B := ⟨h.os, h.tape, h.output, h.size, fun i hi ho => h.block i hi (fun e => hk i e ho)⟩
theorem blk (h : Kept kp A B) {g : Nat} {o : Obj} (hb : A.heap[g]? = some o) (hn : kp g) : B.heap[g]? = some o := (h.block g (Array.getElem?_eq_some_iff.1 hb).1 hn).trans hb
theorem alloc (h : Kept kp A B) (o : Obj) : Kept kp A (B.alloc o) := h.trans ⟨rfl, rfl, rfl, by simp, fun k hk _ => Below.heap_alloc _ _ _ hk⟩
theorem drew (h : Kept kp A B) : Kept kp A B.drew := ⟨h.os, h.tape, h.output, h.size, h.block⟩
theorem drewN (h : Kept kp A B) (n : Nat) : Kept kp A (B.drewN n) := ⟨h.os, h.tape, h.output, h.size, h.block⟩
theorem setCell (h : Kept kp A B) {p : Addr} (hp : ¬ kp p.block) (u : Value) : Kept kp A (B.setCell p u) :=
  h.trans ⟨rfl, rfl, rfl, by simp [World.setCell], fun k _ hk => Below.heap_setCell _ _ _ _ (fun e => hp (e ▸ hk))⟩
theorem set (h : Kept kp A B) {g : Nat} (hp : ¬ kp g) (i : Nat) (u : Value) : Kept kp A (B.setCell ⟨g, i, none⟩ u) := h.setCell (p := ⟨g, i, none⟩) hp u
theorem of_below (h : Below A.heap.size A B) : Kept kp A B := ⟨h.os, h.tape, h.output, h.size, fun k hk _ => h.block k hk⟩
theorem below (h : Kept kp A B) (hb : Below B.heap.size B C) : Kept kp A C := h.trans (of_below hb)
theorem grown (h : Kept kp A B) {row : Option Nat} (hg : B.grownBy C row) (hr : ∀ k, row = some k → ¬ kp k) : Kept kp A C :=
  h.trans ⟨hg.os, hg.tape, hg.output, hg.size, fun k hk ho => hg.block k hk (fun e => hr k e.symm ho)⟩
theorem to_below (h : Kept kp A B) {n : Nat} (hk : ∀ k, k < n → kp k) (hn : n ≤ A.heap.size) : Below n A B := ⟨h.os, h.tape, h.output, h.size, fun k hkn => h.block k (Nat.lt_of_lt_of_le hkn hn) (hk k hkn)⟩
end Kept

/-- An iterator's contract: it hands out xs, one by one; of what there is it writes blocks of 'own' alone; it leans on blocks of 'kp'. -/
def SeqI {α : Type} (P : Program) (g : Nat) (lb : Array Value) (encs : α → Array Value) (own kp : Nat → Prop) (xs : List α) (w : World) : Prop :=
  ∀ (l : Nat) (J Jx : Nat → World → Prop) (W : World), Below w.heap.size w W →
    (∀ k A B, J k A → EvB own A B → J k B) → (∀ k A B, Jx k A → EvB own A B → Jx k B) →
    (∀ k (x : α) W1, xs[k]? = some x → J k W1 → YieldAt Fence.wide 0 P l (encs x) W1 fun e W' =>
      (e = .returned (.bool true) ∧ J (k + 1) W' ∧ Kept kp W1 W') ∨ (e = .returned (.bool false) ∧ Jx (k + 1) W')) →
    J 0 W →
    CallsIn Fence.wide 0 P g (#[.func (.yield l) #[] #[]] ++ lb) W fun e W' => (∃ v, e = .returned v) ∧ (J xs.length W' ∨ (∃ k, k ≤ xs.length ∧ Jx k W'))

/-- At a call of yield. -/
theorem yield_upon {P : Program} {l : Nat} {args : Array Value} {W : World} {R : Ending → World → Prop} {o : Oper} {a : Act} {K : Act → World → Prop} {Q : Exit → Act → World → Prop}
    (hY : YieldAt Fence.wide 0 P l args W R) (h : ∀ e w', R e w' → ∃ v, e = .returned v ∧ K (a.put o.dst v) w') : Oper.uponIn Fence.wide 0 P o a K Q ((Instr.yield l args).run P W) := by
  obtain ⟨fn, tmps, assign, body, hy, hR⟩ := hY
  rw [hy]
  refine ⟨fun h => by simp [Fence.wide] at h, hR.mono ?_⟩
  intro e w' hr
  obtain ⟨v, rfl, hk⟩ := h e w' hr
  exact hk

/-- How a round's body may be left. -/
def roundQ (keep : Nat → Prop) (kp : Nat → Prop) (I : Nat → World → Prop) (Ix : Code → Nat → World → Prop) (k : Nat) (W : World) : Exit → Act → World → Prop
  | .normal, _, W' => Kept keep W W' ∧ Kept kp W W' ∧ I (k + 1) W'
  | .ret, _, W' => Kept keep W W' ∧ Ix .ret (k + 1) W'
  | .exit id, _, W' => Kept keep W W' ∧ Ix (.exit id) (k + 1) W'
  | .goto t, _, W' => Kept keep W W' ∧ Ix (.goto t) (k + 1) W'
  | .panic _, _, _ => False
  | .outgrown, _, _ => False

theorem callsIn_depth {n m : Nat} {P : Program} {f : FuncId} {args : Array Value} {w : World} {R : Ending → World → Prop} (h : CallsIn Fence.wide n P f args w R) : CallsIn Fence.wide m P f args w R := callsIn_wide.2 (callsIn_wide.1 h)

theorem range_law {α : Type} {P : Program} {n : Nat} {g : Operand} {ps : Array Tmp} {assign body : Code} {Q : Exit → Act → World → Prop} {a : Act} {w : World}
    {gf : Nat} {lb : Array Value} (hg : a.eval g = .func (.func gf) #[] lb) (eg : ∀ args w, (callFunc gf args).run P w = .ok (.enter gf args) w)
    {encs : α → Array Value} {own kp : Nat → Prop} {xs : List α} (hseq : SeqI P gf lb encs own kp xs w) (hps : ∀ x, (encs x).size = ps.size)
    (hown : ∀ k, own k → k < w.heap.size) (hkp : ∀ k, kp k → k < w.heap.size)
    (I : Nat → World → Prop) (Ix : Code → Nat → World → Prop)
    (hI : ∀ k A B, I k A → EvB (fun i => own i ∨ i = w.heap.size ∨ i = w.heap.size + 1) A B → I k B)
    (hIx : ∀ c k A B, Ix c k A → EvB (fun i => own i ∨ i = w.heap.size ∨ i = w.heap.size + 1) A B → Ix c k B)
    (h0 : I 0 w)
    (hround : ∀ (k : Nat) (x : α) (W : World), xs[k]? = some x → I k W → w.heap.size + 2 ≤ W.heap.size →
      assign.wpIn (Fence.wide.inRound (w.heap.size + 1)) 0 P (Exit.then (fun a1 W1 => Kept (fun i => i = w.heap.size ∨ i = w.heap.size + 1) W W1 ∧ Kept kp W W1 ∧
          ∀ W2, EvB (fun i => i = w.heap.size ∨ i = w.heap.size + 1) W1 W2 → body.wpIn (Fence.wide.inRound (w.heap.size + 1)) 0 P (roundQ (fun i => i = w.heap.size ∨ i = w.heap.size + 1) kp I Ix k W2) a1 W2) (fun _ _ _ => False))
        { tmps := (ps.zip (encs x)).foldl (fun t (p, v) => t.setIfInBounds p v) a.tmps, defers := [] } W)
    (hdone : ∀ W, I xs.length W → w.heap.size + 2 ≤ W.heap.size → W.heap[w.heap.size]? = some (.deferred (some [])) → Q .normal { a with defers := { target := .collected w.heap.size, args := #[] } :: a.defers } W)
    (hstop : ∀ c k W, k ≤ xs.length → Ix c k W → w.heap.size + 2 ≤ W.heap.size → W.heap[w.heap.size]? = some (.deferred (some [])) → c.wpIn Fence.wide n P Q { a with defers := { target := .collected w.heap.size, args := #[] } :: a.defers } W) :
    (Code.rangeFunc g ps assign body).wpIn Fence.wide n P Q a w := by
  refine wpIn_rangeFunc ?_
  intro fn hfn
  obtain ⟨rec, hrec⟩ : ∃ rec : LoopState → Option Code → Loop, rec = fun st pe => { state := st, pending := pe, fn, tmps := a.tmps, params := ps, assign, body, defers := w.heap.size } := ⟨_, rfl⟩
  obtain ⟨W1, hW1⟩ : ∃ W1, (w.alloc (.deferred (some []))).alloc (.loop (rec .ready none)) = W1 := ⟨_, rfl⟩
  have hL1 : W1.heap[w.heap.size + 1]? = some (.loop (rec .ready none)) := by
    rw [← hW1]; have := World.alloc_heap_new (w.alloc (.deferred (some []))) (.loop (rec .ready none)); rwa [World.size_alloc] at this
  have hK1 : W1.heap[w.heap.size]? = some (.deferred (some [])) := by
    rw [← hW1]; exact (Below.heap_alloc _ _ _ (by simp)).trans (World.alloc_heap_new w _)
  have hb1 : Below w.heap.size w W1 := by
    rw [← hW1]; exact ((Below.refl _ w).alloc (Nat.le_refl _) _).alloc (by simp) _
  have hI1 : I 0 W1 := hI _ _ _ h0 (EvB.ofB _ hb1)
  refine ⟨w.heap.size + 1, [{ target := .collected w.heap.size, args := #[] }], W1, { target := .fn (.func gf) lb, args := #[.func (.yield (w.heap.size + 1)) #[] #[]] }, W1, gf,
    #[.func (.yield (w.heap.size + 1)) #[] #[]] ++ lb, W1, ?_, ?_, ?_, ?_, fun h => by simp [Fence.wide] at h, ?_⟩
  · rw [← hW1, hrec]; exact run_enterLoop_outer _ _ _ _ _
  · simp only [resolve, hg]
    simp [go_sem]
  · intro f' hf'; trivial
  · simp [invoke, go_sem, eg]
  · have hev : ∀ {A B : World}, EvB own A B → EvB (fun i => own i ∨ i = w.heap.size ∨ i = w.heap.size + 1) A B := fun h => h.imp (fun _ _ => .inl)
    have hin : ∀ {A B : World} {i : Nat} {o : Obj}, EvB own A B → i = w.heap.size ∨ i = w.heap.size + 1 → A.heap[i]? = some o → B.heap[i]? = some o := fun {A B i o} h hi ho =>
      (h.block i (Array.getElem?_eq_some_iff.1 ho).1 (fun e => by have := hown i e; omega)).trans ho
    refine callsIn_depth ((hseq (w.heap.size + 1)
      (fun k W => I k W ∧ W.heap[w.heap.size + 1]? = some (.loop (rec .ready none)) ∧ W.heap[w.heap.size]? = some (.deferred (some [])))
      (fun k W => ∃ c, Ix c k W ∧ W.heap[w.heap.size + 1]? = some (.loop (rec .done (some c))) ∧ W.heap[w.heap.size]? = some (.deferred (some [])))
      W1 hb1
      (fun k A B hs he => ⟨hI k A B hs.1 (hev he), hin he (.inr rfl) hs.2.1, hin he (.inl rfl) hs.2.2⟩)
      (fun k A B hs he => by
        obtain ⟨c, hc, hl, hk⟩ := hs
        exact ⟨c, hIx c k A B hc (hev he), hin he (.inr rfl) hl, hin he (.inl rfl) hk⟩)
      ?_ ⟨hI1, hL1, hK1⟩).mono ?_)
    · -- one round
      rintro k x W hx ⟨hi, hl, hk⟩
      have hlt : w.heap.size + 1 < W.heap.size := (Array.getElem?_eq_some_iff.1 hl).1
      have hy := run_yield (P := P) (args := encs x) hl (by rw [hrec]; exact hps x)
      rw [hrec] at hy
      refine ⟨fn, _, assign, body, hy, roundIn_of_wpIn hfn (wpIn_mono (hround k x W hx hi (by omega)) ?_)⟩
      clear hy
      rintro e a1 Wa hp
      cases e with
      | normal =>
        obtain ⟨hkr, hkk, hbody⟩ := hp
        have hla : Wa.heap[w.heap.size + 1]? = some (.loop (rec .ready none)) := (hkr.block _ (by omega) (.inr rfl)).trans hl
        have hka : Wa.heap[w.heap.size]? = some (.deferred (some [])) := (hkr.block _ (by omega) (.inl rfl)).trans hk
        have hlta : w.heap.size + 1 < Wa.heap.size := (Array.getElem?_eq_some_iff.1 hla).1
        refine ⟨_, run_beginRound hla (by rw [hrec]), ?_⟩
        obtain ⟨W2, hW2⟩ : ∃ W2, Wa.putObj (w.heap.size + 1) (.loop { rec .ready none with state := .busy }) = W2 := ⟨_, rfl⟩
        rw [hW2]
        have he2 : EvB (fun i => i = w.heap.size ∨ i = w.heap.size + 1) Wa W2 := by rw [← hW2]; exact (EvB.refl _ _).putObj (.inr rfl) _
        have hl2 : W2.heap[w.heap.size + 1]? = some (.loop { rec .ready none with state := .busy }) := by rw [← hW2]; exact World.putObj_heap_same hlta
        have hk2 : W2.heap[w.heap.size]? = some (.deferred (some [])) := by rw [← hW2]; exact (World.putObj_heap_other (by omega)).trans hka
        have hkp2 : Kept kp Wa W2 := Kept.of_ev he2 (fun i hi hkpi => by have := hkp i hkpi; omega)
        refine wpIn_mono (hbody W2 he2) ?_
        have fin : ∀ (jump : Option Code) (W3 : World), Kept (fun i => i = w.heap.size ∨ i = w.heap.size + 1) W2 W3 →
            ∃ W4, (Instr.endRound (w.heap.size + 1) jump).run P W3 = .ok (.bool jump.isNone) W4 ∧ EvB (fun i => i = w.heap.size ∨ i = w.heap.size + 1) W3 W4 ∧
            W4.heap[w.heap.size + 1]? = some (.loop (rec (if jump.isNone then .ready else .done) jump)) ∧ W4.heap[w.heap.size]? = some (.deferred (some [])) := fun jump W3 hk3 => by
          have hl3 : W3.heap[w.heap.size + 1]? = some (.loop { rec .ready none with state := .busy }) := (hk3.block _ (Array.getElem?_eq_some_iff.1 hl2).1 (.inr rfl)).trans hl2
          have hk3' : W3.heap[w.heap.size]? = some (.deferred (some [])) := (hk3.block _ (Array.getElem?_eq_some_iff.1 hk2).1 (.inl rfl)).trans hk2
          have hrun := run_endRound (P := P) jump hl3
          rw [hrec] at hrun ⊢
          exact ⟨_, hrun, (EvB.refl _ _).putObj (.inr rfl) _, World.putObj_heap_same (Array.getElem?_eq_some_iff.1 hl3).1, (World.putObj_heap_other (by omega)).trans hk3'⟩
        have up : ∀ {A B : World}, EvB (fun i => i = w.heap.size ∨ i = w.heap.size + 1) A B → EvB (fun i => own i ∨ i = w.heap.size ∨ i = w.heap.size + 1) A B := fun h => h.imp (fun _ _ => .inr)
        have kpe : ∀ {A B : World}, EvB (fun i => i = w.heap.size ∨ i = w.heap.size + 1) A B → Kept kp A B := fun h => Kept.of_ev h (fun i hi hkpi => by have := hkp i hkpi; omega)
        rintro e a3 W3 hp
        cases e with
        | normal =>
          obtain ⟨hk3, hkp3, hi3⟩ := hp
          obtain ⟨W4, hr, he4, hl4, hk4⟩ := fin none W3 hk3
          exact ⟨_, _, hr, .inl ⟨rfl, ⟨hI _ _ _ hi3 (up he4), hl4, hk4⟩, hkk.trans (hkp2.trans (hkp3.trans (kpe he4)))⟩⟩
        | ret =>
          obtain ⟨hk3, hi3⟩ := hp
          obtain ⟨W4, hr, he4, hl4, hk4⟩ := fin (some .ret) W3 hk3
          exact ⟨_, _, hr, .inr ⟨rfl, .ret, hIx _ _ _ _ hi3 (up he4), hl4, hk4⟩⟩
        | exit id =>
          obtain ⟨hk3, hi3⟩ := hp
          obtain ⟨W4, hr, he4, hl4, hk4⟩ := fin (some (.exit id)) W3 hk3
          exact ⟨_, _, hr, .inr ⟨rfl, .exit id, hIx _ _ _ _ hi3 (up he4), hl4, hk4⟩⟩
        | goto t =>
          obtain ⟨hk3, hi3⟩ := hp
          obtain ⟨W4, hr, he4, hl4, hk4⟩ := fin (some (.goto t)) W3 hk3
          exact ⟨_, _, hr, .inr ⟨rfl, .goto t, hIx _ _ _ _ hi3 (up he4), hl4, hk4⟩⟩
        | panic ch => exact hp.elim
        | outgrown => exact hp.elim
      | exit id => exact hp.elim
      | goto t => exact hp.elim
      | ret => exact hp.elim
      | panic chain => exact hp.elim
      | outgrown => exact hp.elim
    · -- behind the iterator
      have up : ∀ {A B : World}, EvB (fun i => i = w.heap.size ∨ i = w.heap.size + 1) A B → EvB (fun i => own i ∨ i = w.heap.size ∨ i = w.heap.size + 1) A B := fun h => h.imp (fun _ _ => .inr)
      rintro e W2 ⟨⟨v, rfl⟩, (⟨hi, hl, hk⟩ | ⟨k, hkx, c, hi, hl, hk⟩)⟩
      · have hlt2 := (Array.getElem?_eq_some_iff.1 hl).1
        exact ⟨none, _, by have := run_endLoop (P := P) hl (by rw [hrec]; simp); rw [hrec] at this; exact this, hdone _ (hI _ _ _ hi (up ((EvB.refl _ _).putObj (.inr rfl) _))) (by simp; omega) ((World.putObj_heap_other (by omega)).trans hk)⟩
      · have hlt2 := (Array.getElem?_eq_some_iff.1 hl).1
        exact ⟨some c, _, by have := run_endLoop (P := P) hl (by rw [hrec]; simp); rw [hrec] at this; exact this, hstop c k _ hkx (hIx _ _ _ _ hi (up ((EvB.refl _ _).putObj (.inr rfl) _))) (by simp; omega) ((World.putObj_heap_other (by omega)).trans hk)⟩
end Go.Proofs.Ytggkjfllbfcagaa
