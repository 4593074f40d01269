import Derived.Test.YtoibbedpaaeclaaGreatProg
import Derived.Below
import Derived.Deep.Draws
import Derived.Deep.AppendLies
import Derived.Maps.AppendAt
import Derived.OwnWalk
import Derived.Laws.BytesArg
import Derived.Laws.MakeOwn
import Derived.Laws.OwnMore
import Derived.Deep.OwnRows
import Derived.Tactics
import Derived.Lib.ConvBytes
import Derived.Laws.Slices
import Derived.WalkKit
import Derived.KernelRfl
import Derived.RowKit3
import Derived.Deep.LoopGhost
import Derived.Deep.QuietTactic
import Derived.BigQuiet
import Derived.WideLaws
import Derived.Deep.DeepCutAuto
import Derived.Deep.CutBlock
import Derived.Deep.RegionHeld3
import Derived.Laws.Rows
import Derived.Lib.AppendStr
import Derived.ArgAppend
import Derived.Laws.IdiomCopy
import Derived.OrdersHeld
import Derived.Laws.BitsLemmas
import Derived.RowKit
import Derived.Test.YtoibbedpaaeclaaGreatSW0
import Derived.Lib.Hide
import Derived.RangeFuncNested
import Derived.RangeFuncBound
import Derived.RangeFuncCalls
import Derived.RangeFuncLeaves
import Derived.Shelf.Abstract
import Derived.Shelf.RegionOpen
import Derived.OwnWalkIn
import Derived.TacticsInMore
import Derived.LoopNIn
import Derived.LoopIn
import Derived.Deep.Quiet
import Derived.Sort.LoopGhostIn
import Derived.RegionTactic
import Derived.ChangeAlike
import Derived.Test.YtoibbedpaaeclaaGreatRz3
import Derived.Test.YtoibbedpaaeclaaGreatRz4
section
namespace Go.Proofs.YtoibbedpaaeclaaGreat
end Go.Proofs.YtoibbedpaaeclaaGreat
end

section
namespace Go.Proofs.YtoibbedpaaeclaaGreat
open Go Go.RowKit Go.Proofs.YtoibbedpaaeclaaGreatW.PrintWords Go.Proofs.YtoibbedpaaeclaaGreatW.PrintLast Go.Proofs.YtoibbedpaaeclaaGreatW.PrintMore
set_option linter.unusedVariables false
/-- A label: categories with levels. -/
abbrev Lab := List (Int × Int)
def kPr : Kd (Int × Int) := Kd.pair (Kd.int .u64) (Kd.int .i64)
theorem kPr_open {w : World} {x : Int × Int} {cs : List Value} (h : kPr.K w x cs) : cs = [.int .u64 x.1, .int .i64 x.2] := by
  obtain ⟨c0, c1, rfl, h0, h1⟩ := h
  have e0 : c0 = [.int .u64 x.1] := h0
  have e1 : c1 = [.int .i64 x.2] := h1
  rw [e0, e1]; rfl
theorem kPr_mkM (w : World) (base : Nat) (ok : Nat → Prop) (x : Int × Int) : kPr.M w base ok x [.int .u64 x.1, .int .i64 x.2] := ⟨[.int .u64 x.1], [.int .i64 x.2], rfl, rfl, rfl⟩
/-- The cells of a label's element. -/
theorem lab_at {w : World} {A : Option Addr} {l : Lab} (h : kPr.C w A l.length l) (i : Nat) (hi : i < l.length) :
    ∃ ad, A = some ad ∧ w.cell? (ad.add (i * 2)) = some (.int .u64 l[i].1) ∧ w.cell? ⟨(ad.add (i * 2)).block, (ad.add (i * 2)).off + 1, none⟩ = some (.int .i64 l[i].2) := by
  obtain ⟨ad, c, e, _, hk, hc⟩ := Kd.C_get h (0, 0) (i : Int) (by omega) (by omega)
  have hx : l.getD (i : Int).toNat (0, 0) = l[i] := by simp [hi]
  rw [hx] at hk
  obtain rfl := kPr_open hk
  refine ⟨ad, e, by simpa [kPr, Kd.pair, Kd.int, Kd.scalar] using hc 0 _ rfl, ?_⟩
  have h1 := hc 1 _ rfl
  rw [Int.toNat_natCast, add_field _ _ _ (by omega)] at h1
  exact h1
theorem q6v {w : World} {A : Option Addr} {p : Int × Int} {t : Lab} (h : kPr.C w A (p :: t).length (p :: t)) :
    ∃ ad, A = some ad ∧ w.cell? ad = some (.int .u64 p.1) ∧ w.cell? ⟨ad.block, ad.off + 1, none⟩ = some (.int .i64 p.2) := by
  obtain ⟨ad, e, h0, h1⟩ := lab_at h 0 (by simp)
  have hz : ad.add 0 = ad := by unfold Addr.add; simp
  rw [Nat.zero_mul, hz] at h0 h1
  exact ⟨ad, e, h0, h1⟩
theorem q9k {w : World} {A : Option Addr} {c : Nat} {p : Int × Int} {t : Lab} (h : kPr.C w A (p :: t).length (p :: t)) (hc : (p :: t).length ≤ c) :
    kPr.C w (if c = 1 then A else A.map (·.add 2)) t.length t := Kd.C_drop (m := 1) (c := c) h (by simp) hc
/-- Two labels, category by category: the levels in both. -/
def q2f : Lab → Lab → List (Int × (Int × Int))
  | [], [] => []
  | p :: a, [] => (p.1, (p.2, 2)) :: q2f a []
  | [], q :: b => (q.1, (2, q.2)) :: q2f [] b
  | p :: a, q :: b => if p.1 < q.1 then (p.1, (p.2, 2)) :: q2f a (q :: b) else if q.1 < p.1 then (q.1, (2, q.2)) :: q2f (p :: a) b else (q.1, (p.2, q.2)) :: q2f a b
termination_by a b => a.length + b.length
end Go.Proofs.YtoibbedpaaeclaaGreat
end

section
namespace Go.Proofs.YtoibbedpaaeclaaGreat
open Go Go.RowKit Go.Shelf
/-- Whatever block is none of 'own' lies as it lay. -/
structure EvB (own : Nat → Prop) (A B : World) : Prop where
  os : B.os = A.os
  tape : B.tape = A.tape
  output : B.output = A.output
  size : A.heap.size ≤ B.heap.size
  block : ∀ k, k < A.heap.size → ¬ own k → B.heap[k]? = A.heap[k]?
namespace EvB
variable {own own' : Nat → Prop} {A B C : World}
theorem refl (own : Nat → Prop) (A : World) : EvB own A A := ⟨rfl, rfl, rfl, Nat.le_refl _, fun _ _ _ => rfl⟩
theorem trans (h : EvB own A B) (k : EvB own B C) : EvB own A C :=
  ⟨k.os.trans h.os, k.tape.trans h.tape, k.output.trans h.output, Nat.le_trans h.size k.size, fun i hi ho => (k.block i (Nat.lt_of_lt_of_le hi h.size) ho).trans (h.block i hi ho)⟩
theorem imp (h : EvB own A B) (ho : ∀ k, k < A.heap.size → own k → own' k) : EvB own' A B := ⟨h.os, h.tape, h.output, h.size, fun k hk hn => h.block k hk (fun e => hn (ho k hk e))⟩
theorem of_below {n : Nat} (h : Below n A B) (hn : ∀ k, k < A.heap.size → ¬ own k → k < n) : EvB own A B := ⟨h.os, h.tape, h.output, h.size, fun k hk ho => h.block k (hn k hk ho)⟩
theorem ofB (own : Nat → Prop) (h : Below A.heap.size A B) : EvB own A B := of_below h (fun _ hk _ => hk)
theorem below {n : Nat} (h : EvB own A B) (hn : n ≤ A.heap.size) (ho : ∀ k, k < n → ¬ own k) : Below n A B := ⟨h.os, h.tape, h.output, h.size, fun k hk => h.block k (Nat.lt_of_lt_of_le hk hn) (ho k hk)⟩
theorem alloc (h : EvB own A B) (o : Obj) : EvB own A (B.alloc o) := h.trans (ofB _ ((Below.refl _ _).alloc (Nat.le_refl _) o))
theorem drew (h : EvB own A B) : EvB own A B.drew := ⟨h.os, h.tape, h.output, h.size, h.block⟩
theorem drewN (h : EvB own A B) (n : Nat) : EvB own A (B.drewN n) := ⟨h.os, h.tape, h.output, h.size, h.block⟩
theorem setCell (h : EvB own A B) {p : Addr} (hp : own p.block) (u : Value) : EvB own A (B.setCell p u) :=
  h.trans ⟨rfl, rfl, rfl, by simp [World.setCell], fun k _ hk => Below.heap_setCell _ _ _ _ (fun e => hk (e ▸ hp))⟩
theorem set (h : EvB own A B) {g : Nat} (hp : own g) (i : Nat) (u : Value) : EvB own A (B.setCell ⟨g, i, none⟩ u) := h.setCell (p := ⟨g, i, none⟩) hp u
theorem fresh (h : EvB own A B) {g : Nat} (hp : A.heap.size ≤ g) (i : Nat) (u : Value) : EvB own A (B.setCell ⟨g, i, none⟩ u) :=
  ⟨h.os, h.tape, h.output, by simpa [World.setCell] using h.size, fun k hk ho => (Below.heap_setCell _ _ _ _ (by simp; omega)).trans (h.block k hk ho)⟩
theorem putObj (h : EvB own A B) {l : Nat} (hl : own l) (o : Obj) : EvB own A (B.putObj l o) :=
  h.trans ⟨rfl, rfl, rfl, by simp, fun k _ hk => World.putObj_heap_other (fun e => hk (e ▸ hl))⟩
theorem blk (h : EvB own A B) {g : Nat} {o : Obj} (hb : A.heap[g]? = some o) (hn : ¬ own g) : B.heap[g]? = some o := (h.block g (Array.getElem?_eq_some_iff.1 hb).1 hn).trans hb
end EvB
/-- The blocks of 'kp' lie as they lay. -/
structure Kept (kp : Nat → Prop) (A B : World) : Prop where
  os : B.os = A.os
  tape : B.tape = A.tape
  output : B.output = A.output
  size : A.heap.size ≤ B.heap.size
  block : ∀ k, k < A.heap.size → kp k → B.heap[k]? = A.heap[k]?
namespace Kept
variable {kp kp' : Nat → Prop} {A B C : World}
theorem refl (kp : Nat → Prop) (A : World) : Kept kp A A := ⟨rfl, rfl, rfl, Nat.le_refl _, fun _ _ _ => rfl⟩
theorem trans (h : Kept kp A B) (k : Kept kp B C) : Kept kp A C := ⟨k.os.trans h.os, k.tape.trans h.tape, k.output.trans h.output, Nat.le_trans h.size k.size, fun i hi ho => (k.block i (Nat.lt_of_lt_of_le hi h.size) ho).trans (h.block i hi ho)⟩
theorem imp (h : Kept kp A B) (hk : ∀ k, kp' k → kp k) : Kept kp' A B := ⟨h.os, h.tape, h.output, h.size, fun i hi ho => h.block i hi (hk i ho)⟩
theorem of_ev {own : Nat → Prop} (h : EvB own A B) (hk : ∀ k, own k → ¬ kp k) : Kept kp A B := ⟨h.os, h.tape, h.output, h.size, fun i hi ho => h.block i hi (fun e => hk i e ho)⟩
theorem blk (h : Kept kp A B) {g : Nat} {o : Obj} (hb : A.heap[g]? = some o) (hn : kp g) : B.heap[g]? = some o := (h.block g (Array.getElem?_eq_some_iff.1 hb).1 hn).trans hb
theorem alloc (h : Kept kp A B) (o : Obj) : Kept kp A (B.alloc o) := h.trans ⟨rfl, rfl, rfl, by simp, fun k hk _ => Below.heap_alloc _ _ _ hk⟩
theorem setCell (h : Kept kp A B) {p : Addr} (hp : ¬ kp p.block) (u : Value) : Kept kp A (B.setCell p u) :=
  h.trans ⟨rfl, rfl, rfl, by simp [World.setCell], fun k _ hk => Below.heap_setCell _ _ _ _ (fun e => hp (e ▸ hk))⟩
theorem set (h : Kept kp A B) {g : Nat} (hp : ¬ kp g) (i : Nat) (u : Value) : Kept kp A (B.setCell ⟨g, i, none⟩ u) := h.setCell (p := ⟨g, i, none⟩) hp u
theorem of_below (h : Below A.heap.size A B) : Kept kp A B := ⟨h.os, h.tape, h.output, h.size, fun k hk _ => h.block k hk⟩
theorem below (h : Kept kp A B) (hb : Below B.heap.size B C) : Kept kp A C := h.trans (of_below hb)
theorem grown (h : Kept kp A B) {row : Option Nat} (hg : B.grownBy C row) (hr : ∀ k, row = some k → ¬ kp k) : Kept kp A C :=
  h.trans ⟨hg.os, hg.tape, hg.output, hg.size, fun k hk ho => hg.block k hk (fun e => hr k e.symm ho)⟩
theorem to_below (h : Kept kp A B) {n : Nat} (hk : ∀ k, k < n → kp k) (hn : n ≤ A.heap.size) : Below n A B := ⟨h.os, h.tape, h.output, h.size, fun k hkn => h.block k (Nat.lt_of_lt_of_le hkn hn) (hk k hkn)⟩
end Kept
/-- An iterator's contract: it hands out xs, one by one; of what there is it writes blocks of 'own' alone; it leans on blocks of 'kp'. -/
def SeqI {α : Type} (P : Program) (g : Nat) (lb : Array Value) (encs : α → Array Value) (own kp : Nat → Prop) (xs : List α) (w : World) : Prop :=
  ∀ (l : Nat) (J Jx : Nat → World → Prop) (W : World), Below w.heap.size w W →
    (∀ k A B, J k A → EvB own A B → J k B) → (∀ k A B, Jx k A → EvB own A B → Jx k B) →
    (∀ k (x : α) W1, xs[k]? = some x → J k W1 → YieldAt Fence.wide 0 P l (encs x) W1 fun e W' =>
      (e = .returned (.bool true) ∧ J (k + 1) W' ∧ Kept kp W1 W') ∨ (e = .returned (.bool false) ∧ Jx (k + 1) W')) →
    J 0 W →
    CallsIn Fence.wide 0 P g (#[.func (.yield l) #[] #[]] ++ lb) W fun e W' => (∃ v, e = .returned v) ∧ (J xs.length W' ∨ (∃ k, k ≤ xs.length ∧ Jx k W'))
/-- At a call of yield. -/
theorem q6c {P : Program} {l : Nat} {args : Array Value} {W : World} {R : Ending → World → Prop} {o : Oper} {a : Act} {K : Act → World → Prop} {Q : Exit → Act → World → Prop}
    (hY : YieldAt Fence.wide 0 P l args W R) (h : ∀ e w', R e w' → ∃ v, e = .returned v ∧ K (a.put o.dst v) w') : Oper.uponIn Fence.wide 0 P o a K Q ((Instr.yield l args).run P W) := by
  obtain ⟨fn, tmps, assign, body, hy, hR⟩ := hY
  rw [hy]
  refine ⟨fun h => by simp [Fence.wide] at h, hR.mono ?_⟩
  intro e w' hr
  obtain ⟨v, rfl, hk⟩ := h e w' hr
  exact hk
/-- How a round's body may be left. -/
def roundQ (keep : Nat → Prop) (kp : Nat → Prop) (I : Nat → World → Prop) (Ix : Code → Nat → World → Prop) (k : Nat) (W : World) : Exit → Act → World → Prop
  | .normal, _, W' => Kept keep W W' ∧ Kept kp W W' ∧ I (k + 1) W'
  | .ret, _, W' => Kept keep W W' ∧ Ix .ret (k + 1) W'
  | .exit id, _, W' => Kept keep W W' ∧ Ix (.exit id) (k + 1) W'
  | .goto t, _, W' => Kept keep W W' ∧ Ix (.goto t) (k + 1) W'
  | .panic _, _, _ => False
  | .outgrown, _, _ => False
theorem x1b {n m : Nat} {P : Program} {f : FuncId} {args : Array Value} {w : World} {R : Ending → World → Prop} (h : CallsIn Fence.wide n P f args w R) : CallsIn Fence.wide m P f args w R := callsIn_wide.2 (callsIn_wide.1 h)
theorem range_law {α : Type} {P : Program} {n : Nat} {g : Operand} {ps : Array Tmp} {assign body : Code} {Q : Exit → Act → World → Prop} {a : Act} {w : World}
    {gf : Nat} {lb : Array Value} (hg : a.eval g = .func (.func gf) #[] lb) (eg : ∀ args w, (callFunc gf args).run P w = .ok (.enter gf args) w)
    {encs : α → Array Value} {own kp : Nat → Prop} {xs : List α} (hseq : SeqI P gf lb encs own kp xs w) (hps : ∀ x, (encs x).size = ps.size)
    (hown : ∀ k, own k → k < w.heap.size) (hkp : ∀ k, kp k → k < w.heap.size)
    (I : Nat → World → Prop) (Ix : Code → Nat → World → Prop)
    (hI : ∀ k A B, I k A → EvB (fun i => own i ∨ i = w.heap.size ∨ i = w.heap.size + 1) A B → I k B)
    (hIx : ∀ c k A B, Ix c k A → EvB (fun i => own i ∨ i = w.heap.size ∨ i = w.heap.size + 1) A B → Ix c k B)
    (h0 : I 0 w)
    (hround : ∀ (k : Nat) (x : α) (W : World), xs[k]? = some x → I k W → w.heap.size + 2 ≤ W.heap.size →
      assign.wpIn (Fence.wide.inRound (w.heap.size + 1)) 0 P (Exit.then (fun a1 W1 => Kept (fun i => i = w.heap.size ∨ i = w.heap.size + 1) W W1 ∧ Kept kp W W1 ∧
          ∀ W2, EvB (fun i => i = w.heap.size ∨ i = w.heap.size + 1) W1 W2 → body.wpIn (Fence.wide.inRound (w.heap.size + 1)) 0 P (roundQ (fun i => i = w.heap.size ∨ i = w.heap.size + 1) kp I Ix k W2) a1 W2) (fun _ _ _ => False))
        { tmps := (ps.zip (encs x)).foldl (fun t (p, v) => t.setIfInBounds p v) a.tmps, defers := [] } W)
    (hdone : ∀ W, I xs.length W → w.heap.size + 2 ≤ W.heap.size → W.heap[w.heap.size]? = some (.deferred (some [])) → Q .normal { a with defers := { target := .collected w.heap.size, args := #[] } :: a.defers } W)
    (hstop : ∀ c k W, k ≤ xs.length → Ix c k W → w.heap.size + 2 ≤ W.heap.size → W.heap[w.heap.size]? = some (.deferred (some [])) → c.wpIn Fence.wide n P Q { a with defers := { target := .collected w.heap.size, args := #[] } :: a.defers } W) :
    (Code.rangeFunc g ps assign body).wpIn Fence.wide n P Q a w := by
  refine wpIn_rangeFunc ?_
  intro fn hfn
  obtain ⟨rec, hrec⟩ : ∃ rec : LoopState → Option Code → Loop, rec = fun st pe => { state := st, pending := pe, fn, tmps := a.tmps, params := ps, assign, body, defers := w.heap.size } := ⟨_, rfl⟩
  obtain ⟨W1, hW1⟩ : ∃ W1, (w.alloc (.deferred (some []))).alloc (.loop (rec .ready none)) = W1 := ⟨_, rfl⟩
  have hL1 : W1.heap[w.heap.size + 1]? = some (.loop (rec .ready none)) := by
    rw [← hW1]; have := World.alloc_heap_new (w.alloc (.deferred (some []))) (.loop (rec .ready none)); rwa [World.size_alloc] at this
  have hK1 : W1.heap[w.heap.size]? = some (.deferred (some [])) := by
    rw [← hW1]; exact (Below.heap_alloc _ _ _ (by simp)).trans (World.alloc_heap_new w _)
  have hb1 : Below w.heap.size w W1 := by
    rw [← hW1]; exact ((Below.refl _ w).alloc (Nat.le_refl _) _).alloc (by simp) _
  have hI1 : I 0 W1 := hI _ _ _ h0 (EvB.ofB _ hb1)
  refine ⟨w.heap.size + 1, [{ target := .collected w.heap.size, args := #[] }], W1, { target := .fn (.func gf) lb, args := #[.func (.yield (w.heap.size + 1)) #[] #[]] }, W1, gf,
    #[.func (.yield (w.heap.size + 1)) #[] #[]] ++ lb, W1, ?_, ?_, ?_, ?_, fun h => by simp [Fence.wide] at h, ?_⟩
  · rw [← hW1, hrec]; exact run_enterLoop_outer _ _ _ _ _
  · simp only [resolve, hg]
    simp [go_sem]
  · intro f' hf'; trivial
  · simp [invoke, go_sem, eg]
  · have hev : ∀ {A B : World}, EvB own A B → EvB (fun i => own i ∨ i = w.heap.size ∨ i = w.heap.size + 1) A B := fun h => h.imp (fun _ _ => .inl)
    have hin : ∀ {A B : World} {i : Nat} {o : Obj}, EvB own A B → i = w.heap.size ∨ i = w.heap.size + 1 → A.heap[i]? = some o → B.heap[i]? = some o := fun {A B i o} h hi ho =>
      (h.block i (Array.getElem?_eq_some_iff.1 ho).1 (fun e => by have := hown i e; omega)).trans ho
    refine x1b ((hseq (w.heap.size + 1)
      (fun k W => I k W ∧ W.heap[w.heap.size + 1]? = some (.loop (rec .ready none)) ∧ W.heap[w.heap.size]? = some (.deferred (some [])))
      (fun k W => ∃ c, Ix c k W ∧ W.heap[w.heap.size + 1]? = some (.loop (rec .done (some c))) ∧ W.heap[w.heap.size]? = some (.deferred (some [])))
      W1 hb1
      (fun k A B hs he => ⟨hI k A B hs.1 (hev he), hin he (.inr rfl) hs.2.1, hin he (.inl rfl) hs.2.2⟩)
      (fun k A B hs he => by
        obtain ⟨c, hc, hl, hk⟩ := hs
        exact ⟨c, hIx c k A B hc (hev he), hin he (.inr rfl) hl, hin he (.inl rfl) hk⟩)
      ?_ ⟨hI1, hL1, hK1⟩).mono ?_)
    · -- one round
      rintro k x W hx ⟨hi, hl, hk⟩
      have hlt : w.heap.size + 1 < W.heap.size := (Array.getElem?_eq_some_iff.1 hl).1
      have hy := run_yield (P := P) (args := encs x) hl (by rw [hrec]; exact hps x)
      rw [hrec] at hy
      refine ⟨fn, _, assign, body, hy, roundIn_of_wpIn hfn (wpIn_mono (hround k x W hx hi (by omega)) ?_)⟩
      clear hy
      rintro e a1 Wa hp
      cases e with
      | normal =>
        obtain ⟨hkr, hkk, hbody⟩ := hp
        have hla : Wa.heap[w.heap.size + 1]? = some (.loop (rec .ready none)) := (hkr.block _ (by omega) (.inr rfl)).trans hl
        have hka : Wa.heap[w.heap.size]? = some (.deferred (some [])) := (hkr.block _ (by omega) (.inl rfl)).trans hk
        have hlta : w.heap.size + 1 < Wa.heap.size := (Array.getElem?_eq_some_iff.1 hla).1
        refine ⟨_, run_beginRound hla (by rw [hrec]), ?_⟩
        obtain ⟨W2, hW2⟩ : ∃ W2, Wa.putObj (w.heap.size + 1) (.loop { rec .ready none with state := .busy }) = W2 := ⟨_, rfl⟩
        rw [hW2]
        have he2 : EvB (fun i => i = w.heap.size ∨ i = w.heap.size + 1) Wa W2 := by rw [← hW2]; exact (EvB.refl _ _).putObj (.inr rfl) _
        have hl2 : W2.heap[w.heap.size + 1]? = some (.loop { rec .ready none with state := .busy }) := by rw [← hW2]; exact World.putObj_heap_same hlta
        have hk2 : W2.heap[w.heap.size]? = some (.deferred (some [])) := by rw [← hW2]; exact (World.putObj_heap_other (by omega)).trans hka
        have hkp2 : Kept kp Wa W2 := Kept.of_ev he2 (fun i hi hkpi => by have := hkp i hkpi; omega)
        refine wpIn_mono (hbody W2 he2) ?_
        have fin : ∀ (jump : Option Code) (W3 : World), Kept (fun i => i = w.heap.size ∨ i = w.heap.size + 1) W2 W3 →
            ∃ W4, (Instr.endRound (w.heap.size + 1) jump).run P W3 = .ok (.bool jump.isNone) W4 ∧ EvB (fun i => i = w.heap.size ∨ i = w.heap.size + 1) W3 W4 ∧
            W4.heap[w.heap.size + 1]? = some (.loop (rec (if jump.isNone then .ready else .done) jump)) ∧ W4.heap[w.heap.size]? = some (.deferred (some [])) := fun jump W3 hk3 => by
          have hl3 : W3.heap[w.heap.size + 1]? = some (.loop { rec .ready none with state := .busy }) := (hk3.block _ (Array.getElem?_eq_some_iff.1 hl2).1 (.inr rfl)).trans hl2
          have hk3' : W3.heap[w.heap.size]? = some (.deferred (some [])) := (hk3.block _ (Array.getElem?_eq_some_iff.1 hk2).1 (.inl rfl)).trans hk2
          have hrun := run_endRound (P := P) jump hl3
          rw [hrec] at hrun ⊢
          exact ⟨_, hrun, (EvB.refl _ _).putObj (.inr rfl) _, World.putObj_heap_same (Array.getElem?_eq_some_iff.1 hl3).1, (World.putObj_heap_other (by omega)).trans hk3'⟩
        have up : ∀ {A B : World}, EvB (fun i => i = w.heap.size ∨ i = w.heap.size + 1) A B → EvB (fun i => own i ∨ i = w.heap.size ∨ i = w.heap.size + 1) A B := fun h => h.imp (fun _ _ => .inr)
        have kpe : ∀ {A B : World}, EvB (fun i => i = w.heap.size ∨ i = w.heap.size + 1) A B → Kept kp A B := fun h => Kept.of_ev h (fun i hi hkpi => by have := hkp i hkpi; omega)
        rintro e a3 W3 hp
        cases e with
        | normal =>
          obtain ⟨hk3, hkp3, hi3⟩ := hp
          obtain ⟨W4, hr, he4, hl4, hk4⟩ := fin none W3 hk3
          exact ⟨_, _, hr, .inl ⟨rfl, ⟨hI _ _ _ hi3 (up he4), hl4, hk4⟩, hkk.trans (hkp2.trans (hkp3.trans (kpe he4)))⟩⟩
        | ret =>
          obtain ⟨hk3, hi3⟩ := hp
          obtain ⟨W4, hr, he4, hl4, hk4⟩ := fin (some .ret) W3 hk3
          exact ⟨_, _, hr, .inr ⟨rfl, .ret, hIx _ _ _ _ hi3 (up he4), hl4, hk4⟩⟩
        | exit id =>
          obtain ⟨hk3, hi3⟩ := hp
          obtain ⟨W4, hr, he4, hl4, hk4⟩ := fin (some (.exit id)) W3 hk3
          exact ⟨_, _, hr, .inr ⟨rfl, .exit id, hIx _ _ _ _ hi3 (up he4), hl4, hk4⟩⟩
        | goto t =>
          obtain ⟨hk3, hi3⟩ := hp
          obtain ⟨W4, hr, he4, hl4, hk4⟩ := fin (some (.goto t)) W3 hk3
          exact ⟨_, _, hr, .inr ⟨rfl, .goto t, hIx _ _ _ _ hi3 (up he4), hl4, hk4⟩⟩
        | panic ch => exact hp.elim
        | outgrown => exact hp.elim
      | exit id => exact hp.elim
      | goto t => exact hp.elim
      | ret => exact hp.elim
      | panic chain => exact hp.elim
      | outgrown => exact hp.elim
    · -- behind the iterator
      have up : ∀ {A B : World}, EvB (fun i => i = w.heap.size ∨ i = w.heap.size + 1) A B → EvB (fun i => own i ∨ i = w.heap.size ∨ i = w.heap.size + 1) A B := fun h => h.imp (fun _ _ => .inr)
      rintro e W2 ⟨⟨v, rfl⟩, (⟨hi, hl, hk⟩ | ⟨k, hkx, c, hi, hl, hk⟩)⟩
      · have hlt2 := (Array.getElem?_eq_some_iff.1 hl).1
        exact ⟨none, _, by have := run_endLoop (P := P) hl (by rw [hrec]; simp); rw [hrec] at this; exact this, hdone _ (hI _ _ _ hi (up ((EvB.refl _ _).putObj (.inr rfl) _))) (by simp; omega) ((World.putObj_heap_other (by omega)).trans hk)⟩
      · have hlt2 := (Array.getElem?_eq_some_iff.1 hl).1
        exact ⟨some c, _, by have := run_endLoop (P := P) hl (by rw [hrec]; simp); rw [hrec] at this; exact this, hstop c k _ hkx (hIx _ _ _ _ hi (up ((EvB.refl _ _).putObj (.inr rfl) _))) (by simp; omega) ((World.putObj_heap_other (by omega)).trans hk)⟩
end Go.Proofs.YtoibbedpaaeclaaGreat
end

section
namespace Go.Proofs.YtoibbedpaaeclaaGreat
open Go Go.RowKit Go.Proofs.YtoibbedpaaeclaaGreatW.PrintWords Go.Proofs.YtoibbedpaaeclaaGreatW.PrintLast Go.Proofs.YtoibbedpaaeclaaGreatW.PrintMore
open Classical in
/-- x, where it has grown out of w; else w. -/
theorem q2z {n g : Nat} {A B : World} (h : Below n A B) (hp : n ≤ g) (i : Nat) (u : Value) : Below n A (B.setCell ⟨g, i, none⟩ u) := h.setCell (p := ⟨g, i, none⟩) hp u
theorem q4t {w : World} {g g' : Nat} {t : TypeId} {cs : Array Value} (h : w.heap[g]? = some (.cells cs t (0, 0))) (hp : g ≠ g') (i : Nat) (u : Value) : (w.setCell ⟨g', i, none⟩ u).heap[g]? = some (.cells cs t (0, 0)) := blk_far (p := ⟨g', i, none⟩) h hp u
theorem q4m {w : World} {g : Nat} {t : TypeId} {v u : Value} (h : w.heap[g]? = some (.cells #[v] t (0, 0))) : (w.setCell ⟨g, 0, none⟩ u).heap[g]? = some (.cells #[u] t (0, 0)) := blk_set h 0 u
theorem blk_at {w : World} {o : Obj} {n : Nat} (h : n = w.heap.size) : (w.alloc o).heap[n]? = some o := by subst h; exact blk_new w o
end Go.Proofs.YtoibbedpaaeclaaGreat
end

section
namespace Go.Proofs.YtoibbedpaaeclaaGreat
open Go Go.RowKit Go.Shelf Go.Proofs.YtoibbedpaaeclaaGreatW.PrintWords Go.Proofs.YtoibbedpaaeclaaGreatW.PrintLast Go.Proofs.YtoibbedpaaeclaaGreatW.PrintMore
set_option linter.unusedVariables false
set_option linter.unusedSimpArgs false
attribute [local go_sem] Oper.semAt_some
theorem infoPair : (Tryz.prog.info? 76).map (fun i => (i.zero, i.size, i.bytes)) = some (some (.agg #[.int .u64 0, .int .i64 0]), 2, 16) := by kernel_rfl
/-- What 'l[1:]' yields. -/
theorem lab_cut (A : Option Addr) (n c : Nat) (h : 1 ≤ n) (W : World) :
    (Instr.slice 26 (.slice A n c) (some (.int .i64 1)) none none).run Tryz.prog W = .ok (.slice (if c = 1 then A else A.map (·.add 2)) (n - 1) (c - 1)) W := by
  obtain ⟨i, hi, _, hs, _⟩ := info_parts infoPair
  exact cut_from 26 76 .i64 Tryz.underlying26 hi 2 hs A n c 1 (by omega) (by omega) W
theorem both_calls (A B : Option Addr) (n m c d : Nat) (w : World) :
    Calls Tryz.prog 283 #[.slice A n c, .slice B m d] w fun e w' => e = .returned (.func (.func 303) #[] #[.pointer (some ⟨w.heap.size, 0, none⟩), .pointer (some ⟨w.heap.size + 1, 0, none⟩)]) ∧ w' = (w.alloc (.cells #[.slice A n c] 26)).alloc (.cells #[.slice B m d] 26) := by
  go_enter Tryz.func283, Tryz.ntmps283
  go_wp2
  go_ret
  exact ⟨rfl, rfl⟩
theorem q8w {α : Type} {l : List α} {i : Nat} {x : α} {r : List α} (h : l.drop i = x :: r) : l[i]? = some x ∧ l.drop (i + 1) = r := by
  constructor
  · have := congrArg (·[0]?) h
    simpa using this
  · have := congrArg (List.drop 1) h
    rw [List.drop_drop] at this
    simpa using this
theorem w_abs {p : World → Prop} (w : World) (h : ∀ W, W = w → p W) : p w := h w rfl
theorem blk_set2a {w : World} {g : Nat} {t : TypeId} {v x u : Value} (h : w.heap[g]? = some (.cells #[v, x] t (0, 0))) : (w.setCell ⟨g, 0, none⟩ u).heap[g]? = some (.cells #[u, x] t (0, 0)) := blk_set h 0 u
set_option maxRecDepth 100000 in
set_option maxHeartbeats 4000000 in
theorem both_seq (w0 w : World) (hB : Below w0.heap.size w0 w) (ba bb : Nat) (hba : w0.heap.size ≤ ba) (hbb : w0.heap.size ≤ bb) (hne : ba ≠ bb) (la lb : Lab) (Aa Ab : Option Addr) (ca cb : Nat)
    (hA : w.heap[ba]? = some (.cells #[.slice Aa la.length ca] 26 (0, 0))) (hBx : w.heap[bb]? = some (.cells #[.slice Ab lb.length cb] 26 (0, 0)))
    (hCa : kPr.C w0 Aa la.length la) (hCb : kPr.C w0 Ab lb.length lb) (hca : la.length ≤ ca) (hcb : lb.length ≤ cb) (hlen : la.length + lb.length ≤ 1000000) :
    SeqI Tryz.prog 303 #[.pointer (some ⟨ba, 0, none⟩), .pointer (some ⟨bb, 0, none⟩)] (fun x : Int × (Int × Int) => #[.int .u64 x.1, .agg #[.int .i64 x.2.1, .int .i64 x.2.2]])
      (fun k => k = ba ∨ k = bb) (fun k => k < w0.heap.size ∨ k = ba ∨ k = bb) (q2f la lb) w := by
  intro l J Jx W hW hJ hJx hY h0
  have hlt1 := blk_lt hA
  have hlt2 := blk_lt hBx
  refine callsIn_of_wp Tryz.func303 rfl trivial ?_
  simp only [Tryz.ntmps303, List.size_toArray, List.length_cons, List.length_nil, Nat.reduceAdd, Nat.reduceSub, Array.replicate_succ, Array.replicate_zero, List.push_toArray, List.append_toArray, List.nil_append, List.cons_append]
  gi_wp2
  gi_loopg [] (la.length + lb.length) (fun gk wr => ∃ (ra rb : Lab) (i : Nat) (Ra Rb : Option Addr) (na nb da db : Nat), q2f ra rb = (q2f la lb).drop i ∧ i ≤ (q2f la lb).length ∧ gk = ra.length + rb.length ∧ ra.length + rb.length ≤ 1000000 ∧
      wr.heap[ba]? = some (.cells #[.slice Ra na da] 26 (0, 0)) ∧ wr.heap[bb]? = some (.cells #[.slice Rb nb db] 26 (0, 0)) ∧ na = ra.length ∧ nb = rb.length ∧ ra.length ≤ da ∧ rb.length ≤ db ∧
      kPr.C w0 Ra ra.length ra ∧ kPr.C w0 Rb rb.length rb ∧ J i wr ∧ Below w0.heap.size w0 wr)
  case atStart => exact ⟨la, lb, 0, Aa, Ab, _, _, ca, cb, by simp, by simp, rfl, hlen, (hW.block ba hlt1).trans hA, (hW.block bb hlt2).trans hBx, rfl, rfl, hca, hcb, hCa, hCb, h0, hB.trans (hW.mono hB.size)⟩
  case round =>
    obtain ⟨ra, rb, i, Ra, Rb, na, nb, da, db, hm, hi, rfl, hlen', hba', hbb', hna, hnb, hda, hdb, hRa, hRb, hJi, hBr⟩ := hrel
    cases ra with
    | nil =>
      cases rb with
      | nil =>
        have hnil : i = (q2f la lb).length := by
          have := congrArg List.length hm
          simp [q2f] at this
          omega
        subst hna; subst hnb
        have h1 := blk_cell hba' 0
        have h2 := blk_cell hbb' 0
        simp only [List.getElem?_toArray, List.getElem?_cons_zero] at h1 h2
        clear hba' hbb' hm
        gi_wp2
        go_end0
        exact ⟨⟨_, rfl⟩, .inl (hnil ▸ hJi)⟩
      | cons q tb =>
        obtain rfl : na = 0 := by rw [hna]; simp
        obtain ⟨m, hm'⟩ : ∃ m, tb.length = m := ⟨_, rfl⟩
        obtain rfl : nb = m + 1 := by rw [hnb]; simp [hm']
        obtain ⟨bc, rfl, b0, b1⟩ := q6v hRb
        have cb0 := pw_cell_below hBr b0
        have cb1 := pw_cell_below hBr b1
        have ltb : bc.block < wr.heap.size := World.block_lt_of_cell? wr _ cb0
        have hm1 : m + 1 ≤ 1000000 := by simp [hm'] at hlen'; omega
        have y1 : ((m : Int) + 1 == 0) = false := by rw [beq_eq_false_iff_ne]; omega
        have y2 : decide ((m : Int) + 1 > 0) = true := decide_eq_true (by omega)
        obtain ⟨Rb', hRb'⟩ : ∃ A', (if db = 1 then some bc else (some bc).map (·.add 2)) = A' := ⟨_, rfl⟩
        have cutb : ∀ W, (Instr.slice 26 (.slice (some bc) (m + 1) db) (some (.int .i64 1)) none none).run Tryz.prog W = .ok (.slice Rb' m (db - 1)) W := fun W => by have := lab_cut (some bc) (m + 1) db (by omega) W; rw [hRb'] at this; simpa using this
        have htb := q9k hRb hdb
        rw [hRb'] at htb
        clear hRb'
        obtain ⟨hx, hm2⟩ := q8w (show (q2f la lb).drop i = (q.1, (2, q.2)) :: q2f [] tb by rw [← hm]; simp [q2f])
        have h1 := blk_cell hba' 0
        have h2 := blk_cell hbb' 0
        have f1 := blk_frozen hba' 0
        have f2 := blk_frozen hbb' 0
        simp only [List.getElem?_toArray, List.getElem?_cons_zero] at h1 h2
        have lt1 := blk_lt hba'
        have lt2 := blk_lt hbb'
        have hii : i + 1 ≤ (q2f la lb).length := by have := (List.getElem?_eq_some_iff.1 hx).1; omega
        have HA := Lib.hid hba'
        have HB := Lib.hid hbb'
        have HX := Lib.hid hx
        have HM2 := Lib.hid hm2
        have HM := Lib.hid hm'
        have HY := Lib.hid hY
        have HJ := Lib.hid hJ
        clear hba' hbb' hm hx hm2  hm' hnb hna hY hJ hJx hA hBx
        gi_wp2_with fail
        refine wpIn_wide.2 ?_
        go_big_quiet (fail)
        gi_wp2_with fail
        refine wpIn_wide.2 ?_
        go_big_quiet (fail)
        gi_wp2_with fail
        refine wpIn_wide.2 ?_
        go_region
        gi_wp2_with fail
        refine q6c (HY.out i (q.1, (2, q.2)) _ HX.out (HJ.out _ _ _ hJi ?ev)) ?_
        case ev => first | exact (by repeat (first | with_reducible (exact EvB.refl _ _) | with_reducible (apply EvB.alloc) | with_reducible (apply EvB.drew) | with_reducible (apply EvB.drewN) | (with_reducible (refine EvB.set ?_ ?_ _ _); rotate_left; (first | exact Or.inl rfl | exact Or.inr rfl)) | (with_reducible (refine EvB.fresh ?_ ?_ _ _); rotate_left; omega))) | skip
        rintro e W1 (⟨rfl, hJ1, hK1⟩ | ⟨rfl, hJx1⟩)
        · refine ⟨_, rfl, ?_⟩
          gi_wp2_with fail
          have B1 : Below w0.heap.size w0 W1 := Below.trans (show Below w0.heap.size w0 _ from (by repeat (first | with_reducible (exact hBr) | with_reducible (apply below_alloc) | with_reducible (apply below_drew1) | with_reducible (apply pw_below_drewN) | (with_reducible (refine q2z ?_ ?_ _ _); rotate_left; omega)))) (hK1.to_below (fun k hk => .inl hk) (by have := hBr.size; simp [World.setCell]; omega))
          go_roundg (([] : Lab).length + tb.length)
          case rel => exact ⟨([] : Lab), tb, i + 1, Ra, Rb', 0, m, da, (db - 1), HM2.out.symm, hii, rfl, by simp at hlen' ⊢; omega, hK1.blk (by repeat (first | with_reducible (exact HA.out) | with_reducible (refine blk_alloc ?_ _) | with_reducible (refine blk_drewN ?_ _) | with_reducible (refine blk_drew ?_) | with_reducible (apply q4m) | with_reducible (refine q4t ?_ (by omega) _ _))) (.inr (.inl rfl)), hK1.blk (by repeat (first | with_reducible (exact HB.out) | with_reducible (refine blk_alloc ?_ _) | with_reducible (refine blk_drewN ?_ _) | with_reducible (refine blk_drew ?_) | with_reducible (apply q4m) | with_reducible (refine q4t ?_ (by omega) _ _))) (.inr (.inr rfl)), rfl, HM.out.symm, hda, by simp at hdb; omega, hRa, htb, hJ1, B1⟩
          case measure => first | omega | (simp; done) | (simp; omega)
        · refine ⟨_, rfl, ?_⟩
          gi_wp2_with fail
          refine bodyPost_ret (results_none rfl _ _ _) rfl ?_
          exact ⟨⟨_, rfl⟩, .inr ⟨i + 1, hii, hJx1⟩⟩
    | cons p ta =>
      cases rb with
      | nil =>
        obtain ⟨n, hn'⟩ : ∃ n, ta.length = n := ⟨_, rfl⟩
        obtain rfl : na = n + 1 := by rw [hna]; simp [hn']
        obtain ⟨ac, rfl, a0, a1⟩ := q6v hRa
        have ca0 := pw_cell_below hBr a0
        have ca1 := pw_cell_below hBr a1
        have lta : ac.block < wr.heap.size := World.block_lt_of_cell? wr _ ca0
        have hn1 : n + 1 ≤ 1000000 := by simp [hn'] at hlen'; omega
        have x1 : ((n : Int) + 1 == 0) = false := by rw [beq_eq_false_iff_ne]; omega
        have x2 : decide ((n : Int) + 1 > 0) = true := decide_eq_true (by omega)
        obtain ⟨Ra', hRa'⟩ : ∃ A', (if da = 1 then some ac else (some ac).map (·.add 2)) = A' := ⟨_, rfl⟩
        have cuta : ∀ W, (Instr.slice 26 (.slice (some ac) (n + 1) da) (some (.int .i64 1)) none none).run Tryz.prog W = .ok (.slice Ra' n (da - 1)) W := fun W => by have := lab_cut (some ac) (n + 1) da (by omega) W; rw [hRa'] at this; simpa using this
        have hta := q9k hRa hda
        rw [hRa'] at hta
        clear hRa'
        obtain rfl : nb = 0 := by rw [hnb]; simp
        obtain ⟨hx, hm2⟩ := q8w (show (q2f la lb).drop i = (p.1, (p.2, 2)) :: q2f ta [] by rw [← hm]; simp [q2f])
        have h1 := blk_cell hba' 0
        have h2 := blk_cell hbb' 0
        have f1 := blk_frozen hba' 0
        have f2 := blk_frozen hbb' 0
        simp only [List.getElem?_toArray, List.getElem?_cons_zero] at h1 h2
        have lt1 := blk_lt hba'
        have lt2 := blk_lt hbb'
        have hii : i + 1 ≤ (q2f la lb).length := by have := (List.getElem?_eq_some_iff.1 hx).1; omega
        have HA := Lib.hid hba'
        have HB := Lib.hid hbb'
        have HX := Lib.hid hx
        have HM2 := Lib.hid hm2
        have HN := Lib.hid hn'
        have HY := Lib.hid hY
        have HJ := Lib.hid hJ
        clear hba' hbb' hm hx hm2 hn'  hnb hna hY hJ hJx hA hBx
        gi_wp2_with fail
        refine wpIn_wide.2 ?_
        go_big_quiet (fail)
        gi_wp2_with fail
        refine wpIn_wide.2 ?_
        go_big_quiet (fail)
        gi_wp2_with fail
        refine wpIn_wide.2 ?_
        go_region
        gi_wp2_with fail
        refine q6c (HY.out i (p.1, (p.2, 2)) _ HX.out (HJ.out _ _ _ hJi ?ev)) ?_
        case ev => first | exact (by repeat (first | with_reducible (exact EvB.refl _ _) | with_reducible (apply EvB.alloc) | with_reducible (apply EvB.drew) | with_reducible (apply EvB.drewN) | (with_reducible (refine EvB.set ?_ ?_ _ _); rotate_left; (first | exact Or.inl rfl | exact Or.inr rfl)) | (with_reducible (refine EvB.fresh ?_ ?_ _ _); rotate_left; omega))) | skip
        rintro e W1 (⟨rfl, hJ1, hK1⟩ | ⟨rfl, hJx1⟩)
        · refine ⟨_, rfl, ?_⟩
          gi_wp2_with fail
          have B1 : Below w0.heap.size w0 W1 := Below.trans (show Below w0.heap.size w0 _ from (by repeat (first | with_reducible (exact hBr) | with_reducible (apply below_alloc) | with_reducible (apply below_drew1) | with_reducible (apply pw_below_drewN) | (with_reducible (refine q2z ?_ ?_ _ _); rotate_left; omega)))) (hK1.to_below (fun k hk => .inl hk) (by have := hBr.size; simp [World.setCell]; omega))
          go_roundg (ta.length + ([] : Lab).length)
          case rel => exact ⟨ta, ([] : Lab), i + 1, Ra', Rb, n, 0, (da - 1), db, HM2.out.symm, hii, rfl, by simp at hlen' ⊢; omega, hK1.blk (by repeat (first | with_reducible (exact HA.out) | with_reducible (refine blk_alloc ?_ _) | with_reducible (refine blk_drewN ?_ _) | with_reducible (refine blk_drew ?_) | with_reducible (apply q4m) | with_reducible (refine q4t ?_ (by omega) _ _))) (.inr (.inl rfl)), hK1.blk (by repeat (first | with_reducible (exact HB.out) | with_reducible (refine blk_alloc ?_ _) | with_reducible (refine blk_drewN ?_ _) | with_reducible (refine blk_drew ?_) | with_reducible (apply q4m) | with_reducible (refine q4t ?_ (by omega) _ _))) (.inr (.inr rfl)), HN.out.symm, rfl, by simp at hda; omega, hdb, hta, hRb, hJ1, B1⟩
          case measure => first | omega | (simp; done) | (simp; omega)
        · refine ⟨_, rfl, ?_⟩
          gi_wp2_with fail
          refine bodyPost_ret (results_none rfl _ _ _) rfl ?_
          exact ⟨⟨_, rfl⟩, .inr ⟨i + 1, hii, hJx1⟩⟩
      | cons q tb =>
        by_cases hpq : p.1 < q.1
        · obtain ⟨n, hn'⟩ : ∃ n, ta.length = n := ⟨_, rfl⟩
          obtain rfl : na = n + 1 := by rw [hna]; simp [hn']
          obtain ⟨ac, rfl, a0, a1⟩ := q6v hRa
          have ca0 := pw_cell_below hBr a0
          have ca1 := pw_cell_below hBr a1
          have lta : ac.block < wr.heap.size := World.block_lt_of_cell? wr _ ca0
          have hn1 : n + 1 ≤ 1000000 := by simp [hn'] at hlen'; omega
          have x1 : ((n : Int) + 1 == 0) = false := by rw [beq_eq_false_iff_ne]; omega
          have x2 : decide ((n : Int) + 1 > 0) = true := decide_eq_true (by omega)
          obtain ⟨Ra', hRa'⟩ : ∃ A', (if da = 1 then some ac else (some ac).map (·.add 2)) = A' := ⟨_, rfl⟩
          have cuta : ∀ W, (Instr.slice 26 (.slice (some ac) (n + 1) da) (some (.int .i64 1)) none none).run Tryz.prog W = .ok (.slice Ra' n (da - 1)) W := fun W => by have := lab_cut (some ac) (n + 1) da (by omega) W; rw [hRa'] at this; simpa using this
          have hta := q9k hRa hda
          rw [hRa'] at hta
          clear hRa'
          obtain ⟨m, hm'⟩ : ∃ m, tb.length = m := ⟨_, rfl⟩
          obtain rfl : nb = m + 1 := by rw [hnb]; simp [hm']
          obtain ⟨bc, rfl, b0, b1⟩ := q6v hRb
          have cb0 := pw_cell_below hBr b0
          have cb1 := pw_cell_below hBr b1
          have ltb : bc.block < wr.heap.size := World.block_lt_of_cell? wr _ cb0
          have hm1 : m + 1 ≤ 1000000 := by simp [hm'] at hlen'; omega
          have y1 : ((m : Int) + 1 == 0) = false := by rw [beq_eq_false_iff_ne]; omega
          have y2 : decide ((m : Int) + 1 > 0) = true := decide_eq_true (by omega)
          have z1 : decide ((n : Int) + 1 + ((m : Int) + 1) > 0) = true := decide_eq_true (by omega)
          have g1 : decide (p.1 < q.1) = true := decide_eq_true hpq
          have g2 : decide (p.1 ≤ q.1) = true := decide_eq_true (by omega)
          have g3 : decide (q.1 < p.1) = false := decide_eq_false (by omega)
          have g4 : decide (q.1 ≤ p.1) = false := decide_eq_false (by omega)
          have g5 : decide (p.1 = q.1) = false := decide_eq_false (by omega)
          have g6 : (p.1 == q.1) = false := by rw [beq_eq_false_iff_ne]; omega
          obtain ⟨hx, hm2⟩ := q8w (show (q2f la lb).drop i = (p.1, (p.2, 2)) :: q2f ta (q :: tb) by rw [← hm]; rw [q2f]; simp [hpq])
          have h1 := blk_cell hba' 0
          have h2 := blk_cell hbb' 0
          have f1 := blk_frozen hba' 0
          have f2 := blk_frozen hbb' 0
          simp only [List.getElem?_toArray, List.getElem?_cons_zero] at h1 h2
          have lt1 := blk_lt hba'
          have lt2 := blk_lt hbb'
          have hii : i + 1 ≤ (q2f la lb).length := by have := (List.getElem?_eq_some_iff.1 hx).1; omega
          have HA := Lib.hid hba'
          have HB := Lib.hid hbb'
          have HX := Lib.hid hx
          have HM2 := Lib.hid hm2
          have HN := Lib.hid hn'
          have HM := Lib.hid hm'
          have HY := Lib.hid hY
          have HJ := Lib.hid hJ
          clear hba' hbb' hm hx hm2 hn' hm' hnb hna hY hJ hJx hA hBx
          gi_wp2_with fail
          refine wpIn_wide.2 ?_
          go_big_quiet (fail)
          gi_wp2_with fail
          refine wpIn_wide.2 ?_
          go_big_quiet (fail)
          gi_wp2_with fail
          refine wpIn_wide.2 ?_
          go_region
          gi_wp2_with fail
          refine q6c (HY.out i (p.1, (p.2, 2)) _ HX.out (HJ.out _ _ _ hJi ?ev)) ?_
          case ev => first | exact (by repeat (first | with_reducible (exact EvB.refl _ _) | with_reducible (apply EvB.alloc) | with_reducible (apply EvB.drew) | with_reducible (apply EvB.drewN) | (with_reducible (refine EvB.set ?_ ?_ _ _); rotate_left; (first | exact Or.inl rfl | exact Or.inr rfl)) | (with_reducible (refine EvB.fresh ?_ ?_ _ _); rotate_left; omega))) | skip
          rintro e W1 (⟨rfl, hJ1, hK1⟩ | ⟨rfl, hJx1⟩)
          · refine ⟨_, rfl, ?_⟩
            gi_wp2_with fail
            have B1 : Below w0.heap.size w0 W1 := Below.trans (show Below w0.heap.size w0 _ from (by repeat (first | with_reducible (exact hBr) | with_reducible (apply below_alloc) | with_reducible (apply below_drew1) | with_reducible (apply pw_below_drewN) | (with_reducible (refine q2z ?_ ?_ _ _); rotate_left; omega)))) (hK1.to_below (fun k hk => .inl hk) (by have := hBr.size; simp [World.setCell]; omega))
            go_roundg (ta.length + (q :: tb).length)
            case rel => exact ⟨ta, (q :: tb), i + 1, Ra', (some bc), n, (m + 1), (da - 1), db, HM2.out.symm, hii, rfl, by simp at hlen' ⊢; omega, hK1.blk (by repeat (first | with_reducible (exact HA.out) | with_reducible (refine blk_alloc ?_ _) | with_reducible (refine blk_drewN ?_ _) | with_reducible (refine blk_drew ?_) | with_reducible (apply q4m) | with_reducible (refine q4t ?_ (by omega) _ _))) (.inr (.inl rfl)), hK1.blk (by repeat (first | with_reducible (exact HB.out) | with_reducible (refine blk_alloc ?_ _) | with_reducible (refine blk_drewN ?_ _) | with_reducible (refine blk_drew ?_) | with_reducible (apply q4m) | with_reducible (refine q4t ?_ (by omega) _ _))) (.inr (.inr rfl)), HN.out.symm, by simp; exact HM.out.symm, by simp at hda; omega, hdb, hta, hRb, hJ1, B1⟩
            case measure => first | omega | (simp; done) | (simp; omega)
          · refine ⟨_, rfl, ?_⟩
            gi_wp2_with fail
            refine bodyPost_ret (results_none rfl _ _ _) rfl ?_
            exact ⟨⟨_, rfl⟩, .inr ⟨i + 1, hii, hJx1⟩⟩
        by_cases hqp : q.1 < p.1
        · obtain ⟨n, hn'⟩ : ∃ n, ta.length = n := ⟨_, rfl⟩
          obtain rfl : na = n + 1 := by rw [hna]; simp [hn']
          obtain ⟨ac, rfl, a0, a1⟩ := q6v hRa
          have ca0 := pw_cell_below hBr a0
          have ca1 := pw_cell_below hBr a1
          have lta : ac.block < wr.heap.size := World.block_lt_of_cell? wr _ ca0
          have hn1 : n + 1 ≤ 1000000 := by simp [hn'] at hlen'; omega
          have x1 : ((n : Int) + 1 == 0) = false := by rw [beq_eq_false_iff_ne]; omega
          have x2 : decide ((n : Int) + 1 > 0) = true := decide_eq_true (by omega)
          obtain ⟨m, hm'⟩ : ∃ m, tb.length = m := ⟨_, rfl⟩
          obtain rfl : nb = m + 1 := by rw [hnb]; simp [hm']
          obtain ⟨bc, rfl, b0, b1⟩ := q6v hRb
          have cb0 := pw_cell_below hBr b0
          have cb1 := pw_cell_below hBr b1
          have ltb : bc.block < wr.heap.size := World.block_lt_of_cell? wr _ cb0
          have hm1 : m + 1 ≤ 1000000 := by simp [hm'] at hlen'; omega
          have y1 : ((m : Int) + 1 == 0) = false := by rw [beq_eq_false_iff_ne]; omega
          have y2 : decide ((m : Int) + 1 > 0) = true := decide_eq_true (by omega)
          obtain ⟨Rb', hRb'⟩ : ∃ A', (if db = 1 then some bc else (some bc).map (·.add 2)) = A' := ⟨_, rfl⟩
          have cutb : ∀ W, (Instr.slice 26 (.slice (some bc) (m + 1) db) (some (.int .i64 1)) none none).run Tryz.prog W = .ok (.slice Rb' m (db - 1)) W := fun W => by have := lab_cut (some bc) (m + 1) db (by omega) W; rw [hRb'] at this; simpa using this
          have htb := q9k hRb hdb
          rw [hRb'] at htb
          clear hRb'
          have z1 : decide ((n : Int) + 1 + ((m : Int) + 1) > 0) = true := decide_eq_true (by omega)
          have g1 : decide (q.1 < p.1) = true := decide_eq_true hqp
          have g2 : decide (q.1 ≤ p.1) = true := decide_eq_true (by omega)
          have g3 : decide (p.1 < q.1) = false := decide_eq_false (by omega)
          have g4 : decide (p.1 ≤ q.1) = false := decide_eq_false (by omega)
          have g5 : decide (p.1 = q.1) = false := decide_eq_false (by omega)
          have g6 : (p.1 == q.1) = false := by rw [beq_eq_false_iff_ne]; omega
          obtain ⟨hx, hm2⟩ := q8w (show (q2f la lb).drop i = (q.1, (2, q.2)) :: q2f (p :: ta) tb by rw [← hm]; rw [q2f]; simp [hpq, hqp])
          have h1 := blk_cell hba' 0
          have h2 := blk_cell hbb' 0
          have f1 := blk_frozen hba' 0
          have f2 := blk_frozen hbb' 0
          simp only [List.getElem?_toArray, List.getElem?_cons_zero] at h1 h2
          have lt1 := blk_lt hba'
          have lt2 := blk_lt hbb'
          have hii : i + 1 ≤ (q2f la lb).length := by have := (List.getElem?_eq_some_iff.1 hx).1; omega
          have HA := Lib.hid hba'
          have HB := Lib.hid hbb'
          have HX := Lib.hid hx
          have HM2 := Lib.hid hm2
          have HN := Lib.hid hn'
          have HM := Lib.hid hm'
          have HY := Lib.hid hY
          have HJ := Lib.hid hJ
          clear hba' hbb' hm hx hm2 hn' hm' hnb hna hY hJ hJx hA hBx
          gi_wp2_with fail
          refine wpIn_wide.2 ?_
          go_big_quiet (fail)
          gi_wp2_with fail
          refine wpIn_wide.2 ?_
          go_big_quiet (fail)
          gi_wp2_with fail
          refine wpIn_wide.2 ?_
          go_region
          gi_wp2_with fail
          refine q6c (HY.out i (q.1, (2, q.2)) _ HX.out (HJ.out _ _ _ hJi ?ev)) ?_
          case ev => first | exact (by repeat (first | with_reducible (exact EvB.refl _ _) | with_reducible (apply EvB.alloc) | with_reducible (apply EvB.drew) | with_reducible (apply EvB.drewN) | (with_reducible (refine EvB.set ?_ ?_ _ _); rotate_left; (first | exact Or.inl rfl | exact Or.inr rfl)) | (with_reducible (refine EvB.fresh ?_ ?_ _ _); rotate_left; omega))) | skip
          rintro e W1 (⟨rfl, hJ1, hK1⟩ | ⟨rfl, hJx1⟩)
          · refine ⟨_, rfl, ?_⟩
            gi_wp2_with fail
            have B1 : Below w0.heap.size w0 W1 := Below.trans (show Below w0.heap.size w0 _ from (by repeat (first | with_reducible (exact hBr) | with_reducible (apply below_alloc) | with_reducible (apply below_drew1) | with_reducible (apply pw_below_drewN) | (with_reducible (refine q2z ?_ ?_ _ _); rotate_left; omega)))) (hK1.to_below (fun k hk => .inl hk) (by have := hBr.size; simp [World.setCell]; omega))
            go_roundg ((p :: ta).length + tb.length)
            case rel => exact ⟨(p :: ta), tb, i + 1, (some ac), Rb', (n + 1), m, da, (db - 1), HM2.out.symm, hii, rfl, by simp at hlen' ⊢; omega, hK1.blk (by repeat (first | with_reducible (exact HA.out) | with_reducible (refine blk_alloc ?_ _) | with_reducible (refine blk_drewN ?_ _) | with_reducible (refine blk_drew ?_) | with_reducible (apply q4m) | with_reducible (refine q4t ?_ (by omega) _ _))) (.inr (.inl rfl)), hK1.blk (by repeat (first | with_reducible (exact HB.out) | with_reducible (refine blk_alloc ?_ _) | with_reducible (refine blk_drewN ?_ _) | with_reducible (refine blk_drew ?_) | with_reducible (apply q4m) | with_reducible (refine q4t ?_ (by omega) _ _))) (.inr (.inr rfl)), by simp; exact HN.out.symm, HM.out.symm, hda, by simp at hdb; omega, hRa, htb, hJ1, B1⟩
            case measure => first | omega | (simp; done) | (simp; omega)
          · refine ⟨_, rfl, ?_⟩
            gi_wp2_with fail
            refine bodyPost_ret (results_none rfl _ _ _) rfl ?_
            exact ⟨⟨_, rfl⟩, .inr ⟨i + 1, hii, hJx1⟩⟩
        obtain ⟨n, hn'⟩ : ∃ n, ta.length = n := ⟨_, rfl⟩
        obtain rfl : na = n + 1 := by rw [hna]; simp [hn']
        obtain ⟨ac, rfl, a0, a1⟩ := q6v hRa
        have ca0 := pw_cell_below hBr a0
        have ca1 := pw_cell_below hBr a1
        have lta : ac.block < wr.heap.size := World.block_lt_of_cell? wr _ ca0
        have hn1 : n + 1 ≤ 1000000 := by simp [hn'] at hlen'; omega
        have x1 : ((n : Int) + 1 == 0) = false := by rw [beq_eq_false_iff_ne]; omega
        have x2 : decide ((n : Int) + 1 > 0) = true := decide_eq_true (by omega)
        obtain ⟨Ra', hRa'⟩ : ∃ A', (if da = 1 then some ac else (some ac).map (·.add 2)) = A' := ⟨_, rfl⟩
        have cuta : ∀ W, (Instr.slice 26 (.slice (some ac) (n + 1) da) (some (.int .i64 1)) none none).run Tryz.prog W = .ok (.slice Ra' n (da - 1)) W := fun W => by have := lab_cut (some ac) (n + 1) da (by omega) W; rw [hRa'] at this; simpa using this
        have hta := q9k hRa hda
        rw [hRa'] at hta
        clear hRa'
        obtain ⟨m, hm'⟩ : ∃ m, tb.length = m := ⟨_, rfl⟩
        obtain rfl : nb = m + 1 := by rw [hnb]; simp [hm']
        obtain ⟨bc, rfl, b0, b1⟩ := q6v hRb
        have cb0 := pw_cell_below hBr b0
        have cb1 := pw_cell_below hBr b1
        have ltb : bc.block < wr.heap.size := World.block_lt_of_cell? wr _ cb0
        have hm1 : m + 1 ≤ 1000000 := by simp [hm'] at hlen'; omega
        have y1 : ((m : Int) + 1 == 0) = false := by rw [beq_eq_false_iff_ne]; omega
        have y2 : decide ((m : Int) + 1 > 0) = true := decide_eq_true (by omega)
        obtain ⟨Rb', hRb'⟩ : ∃ A', (if db = 1 then some bc else (some bc).map (·.add 2)) = A' := ⟨_, rfl⟩
        have cutb : ∀ W, (Instr.slice 26 (.slice (some bc) (m + 1) db) (some (.int .i64 1)) none none).run Tryz.prog W = .ok (.slice Rb' m (db - 1)) W := fun W => by have := lab_cut (some bc) (m + 1) db (by omega) W; rw [hRb'] at this; simpa using this
        have htb := q9k hRb hdb
        rw [hRb'] at htb
        clear hRb'
        have z1 : decide ((n : Int) + 1 + ((m : Int) + 1) > 0) = true := decide_eq_true (by omega)
        have lb0 : bc.block < w0.heap.size := World.block_lt_of_cell? w0 _ b0
        have nb1 : bc.block ≠ ba := by omega
        have nb2 : ba ≠ bc.block := by omega
        have nb3 : bc.block ≠ bb := by omega
        have hpq3 : p.1 = q.1 := by omega
        have g1 : decide (p.1 < q.1) = false := decide_eq_false (by omega)
        have g2 : decide (p.1 ≤ q.1) = true := decide_eq_true (by omega)
        have g3 : decide (q.1 < p.1) = false := decide_eq_false (by omega)
        have g4 : decide (q.1 ≤ p.1) = true := decide_eq_true (by omega)
        have g5 : decide (p.1 = q.1) = true := decide_eq_true (by omega)
        have g6 : (p.1 == q.1) = true := by rw [beq_iff_eq]; omega
        obtain ⟨hx, hm2⟩ := q8w (show (q2f la lb).drop i = (q.1, (p.2, q.2)) :: q2f ta tb by rw [← hm]; rw [q2f]; simp [hpq, hqp])
        have h1 := blk_cell hba' 0
        have h2 := blk_cell hbb' 0
        have f1 := blk_frozen hba' 0
        have f2 := blk_frozen hbb' 0
        simp only [List.getElem?_toArray, List.getElem?_cons_zero] at h1 h2
        have lt1 := blk_lt hba'
        have lt2 := blk_lt hbb'
        have hii : i + 1 ≤ (q2f la lb).length := by have := (List.getElem?_eq_some_iff.1 hx).1; omega
        have HA := Lib.hid hba'
        have HB := Lib.hid hbb'
        have HX := Lib.hid hx
        have HM2 := Lib.hid hm2
        have HN := Lib.hid hn'
        have HM := Lib.hid hm'
        have HY := Lib.hid hY
        have HJ := Lib.hid hJ
        clear hba' hbb' hm hx hm2 hn' hm' hnb hna hY hJ hJx hA hBx
        gi_wp2_with fail
        refine wpIn_wide.2 ?_
        go_big_quiet (fail)
        gi_wp2_with fail
        refine wpIn_wide.2 ?_
        go_big_quiet (fail)
        gi_wp2_with fail
        refine wpIn_wide.2 ?_
        go_region
        gi_wp2_with fail
        refine wpIn_wide.2 ?_
        refine w_abs (p := fun W => Code.wp _ _ _ _ W) _ (fun W2 hW2 => ?_)
        have H2 : W2.heap[bb]? = some (.cells #[.slice (some bc) (m + 1) db] 26 (0, 0)) := by rw [hW2]; exact (by repeat (first | with_reducible (exact HB.out) | with_reducible (refine blk_alloc ?_ _) | with_reducible (refine blk_drewN ?_ _) | with_reducible (refine blk_drew ?_) | with_reducible (apply q4m) | with_reducible (refine q4t ?_ (by omega) _ _)))
        have HX2 : W2.heap[wr.heap.size]? = some (.cells #[.int .i64 p.2, .int .i64 2] 309 (0, 0)) := by rw [hW2]; exact (by repeat (first | with_reducible (exact blk_new _ _) | with_reducible (apply blk_drewN) | with_reducible (apply blk_drew) | with_reducible (apply blk_set2a) | with_reducible (refine q4t ?_ (by omega) _ _)))
        have B2 : Below w0.heap.size w0 W2 := by rw [hW2]; exact (by repeat (first | with_reducible (exact hBr) | with_reducible (apply below_alloc) | with_reducible (apply below_drew1) | with_reducible (apply pw_below_drewN) | (with_reducible (refine q2z ?_ ?_ _ _); rotate_left; omega)))
        have c1 := blk_cell H2 0
        have c2 := blk_frozen H2 0
        have c3 := blk_cell HX2 1
        have c4 := blk_frozen HX2 1
        have c5 := pw_cell_below B2 b0
        have c6 := pw_cell_below B2 b1
        have c7 := blk_lt H2
        have c8 := blk_lt HX2
        have c9 := blk_cell HX2 0
        simp only [List.getElem?_toArray, List.getElem?_cons_zero, List.getElem?_cons_succ] at c1 c3 c9
        have HW2 := Lib.hid hW2
        have HH2 := Lib.hid H2
        have HHX2 := Lib.hid HX2
        have HB2 := Lib.hid B2
        clear hW2 H2 HX2 B2 h1 h2 f1 f2 ca0 ca1 cb0 cb1
        go_region
        gi_wp2_with fail
        obtain rfl := HW2.out
        refine q6c (HY.out i (q.1, (p.2, q.2)) _ HX.out (HJ.out _ _ _ hJi ?ev)) ?_
        case ev => first | exact (by repeat (first | with_reducible (exact EvB.refl _ _) | with_reducible (apply EvB.alloc) | with_reducible (apply EvB.drew) | with_reducible (apply EvB.drewN) | (with_reducible (refine EvB.set ?_ ?_ _ _); rotate_left; (first | exact Or.inl rfl | exact Or.inr rfl)) | (with_reducible (refine EvB.fresh ?_ ?_ _ _); rotate_left; omega))) | skip
        rintro e W1 (⟨rfl, hJ1, hK1⟩ | ⟨rfl, hJx1⟩)
        · refine ⟨_, rfl, ?_⟩
          gi_wp2_with fail
          have B1 : Below w0.heap.size w0 W1 := Below.trans (show Below w0.heap.size w0 _ from (by repeat (first | with_reducible (exact hBr) | with_reducible (apply below_alloc) | with_reducible (apply below_drew1) | with_reducible (apply pw_below_drewN) | (with_reducible (refine q2z ?_ ?_ _ _); rotate_left; omega)))) (hK1.to_below (fun k hk => .inl hk) (by have := hBr.size; simp [World.setCell]; omega))
          go_roundg (ta.length + tb.length)
          case rel => exact ⟨ta, tb, i + 1, Ra', Rb', n, m, (da - 1), (db - 1), HM2.out.symm, hii, rfl, by simp at hlen' ⊢; omega, hK1.blk (by repeat (first | with_reducible (exact HA.out) | with_reducible (refine blk_alloc ?_ _) | with_reducible (refine blk_drewN ?_ _) | with_reducible (refine blk_drew ?_) | with_reducible (apply q4m) | with_reducible (refine q4t ?_ (by omega) _ _))) (.inr (.inl rfl)), hK1.blk (by repeat (first | with_reducible (exact HB.out) | with_reducible (refine blk_alloc ?_ _) | with_reducible (refine blk_drewN ?_ _) | with_reducible (refine blk_drew ?_) | with_reducible (apply q4m) | with_reducible (refine q4t ?_ (by omega) _ _))) (.inr (.inr rfl)), HN.out.symm, HM.out.symm, by simp at hda; omega, by simp at hdb; omega, hta, htb, hJ1, B1⟩
          case measure => first | omega | (simp; done) | (simp; omega)
        · refine ⟨_, rfl, ?_⟩
          gi_wp2_with fail
          refine bodyPost_ret (results_none rfl _ _ _) rfl ?_
          exact ⟨⟨_, rfl⟩, .inr ⟨i + 1, hii, hJx1⟩⟩
end Go.Proofs.YtoibbedpaaeclaaGreat
end

section
-- PRINTED by print.py (a twelfth state) out of the translation. Not trusted: Lean checks it.
namespace Go.Proofs.YtoibbedpaaeclaaGreat.PLev
open Go.RowKit Go.Proofs.YtoibbedpaaeclaaGreatW.PrintWords Go.Proofs.YtoibbedpaaeclaaGreatW.PrintLast Go.Proofs.YtoibbedpaaeclaaGreatW.PrintMore
attribute [local go_sem] max2_int min2_int max_two min_two max_three min_three max_four min_four -- for this text's walks alone
set_option linter.unusedVariables false
set_option linter.unusedSimpArgs false
def errW : Option Int → Value
  | none => .nilIface
  | some c => .iface 0 (.int .i64 c)
theorem errW_none : errW none = .nilIface := rfl
theorem errW_some (c : Int) : errW (some c) = .iface 0 (.int .i64 c) := rfl
-- the values' own types
end Go.Proofs.YtoibbedpaaeclaaGreat.PLev
end

section
-- PRINTED by print.py (a twelfth state) out of the translation. Not trusted: Lean checks it.
namespace Go.Proofs.YtoibbedpaaeclaaGreat.PLev
open Go.RowKit Go.Proofs.YtoibbedpaaeclaaGreatW.PrintWords Go.Proofs.YtoibbedpaaeclaaGreatW.PrintLast Go.Proofs.YtoibbedpaaeclaaGreatW.PrintMore
attribute [local go_sem] max2_int min2_int max_two min_two max_three min_three max_four min_four -- for this text's walks alone
set_option linter.unusedVariables false
set_option linter.unusedSimpArgs false
def level_Fit.f (a0 : Int) : Option (Bool) := if a0 ≥ 0 then (some (decide (a0 ≤ 5))) else (some false)
set_option maxHeartbeats 8000000 in
set_option maxRecDepth 100000 in
theorem level_Fit.calls (a0 : Int) (r : Bool) (w : World) (h : level_Fit.f a0 = some r) :
    Calls Tryz.prog 278 #[.int .i64 a0] w fun e w' => e = .returned (.bool r) ∧ Drawn0 w w' := by
  have H : (if a0 ≥ 0 then (some (decide (a0 ≤ 5))) else (some false)) = some r := h
  clear h
  by_cases c2 : a0 ≥ 0
  · rw [if_pos c2] at H
    have c2b0 : decide (0 ≤ a0) = true := decide_eq_true c2
    clear c2
    obtain rfl := Option.some.inj H
    go_enter Tryz.func278, Tryz.ntmps278
    go_wp2
    go_ret
    exact ⟨by first | rfl | (simp; done) | (simp [*]; done), by repeat (first | exact Drawn0.refl _ | apply Drawn0.step)⟩
  · rw [if_neg c2] at H
    have c2b0 : decide (0 ≤ a0) = false := decide_eq_false c2
    clear c2
    obtain rfl := Option.some.inj H
    go_enter Tryz.func278, Tryz.ntmps278
    go_wp2
    go_ret
    exact ⟨by first | rfl | (simp; done) | (simp [*]; done), by repeat (first | exact Drawn0.refl _ | apply Drawn0.step)⟩
def level_of.f (a0 : Int) : Option (Int) := (level_Fit.f a0).bind fun t101 => (if t101 = true then (some a0) else (some 2))
set_option maxHeartbeats 8000000 in
set_option maxRecDepth 100000 in
theorem level_of.calls (a0 : Int) (r : Int) (w : World) (h : level_of.f a0 = some r) :
    Calls Tryz.prog 296 #[.int .i64 a0] w fun e w' => e = .returned (.int .i64 r) ∧ Drawn0 w w' := by
  have H : ((level_Fit.f a0).bind fun t101 => (if t101 = true then (some a0) else (some 2))) = some r := h
  clear h
  replace H := Option.bind_eq_some_iff.mp H
  obtain ⟨t101, A20, H⟩ := H
  replace H : (if t101 = true then (some a0) else (some 2)) = some r := H
  have A2 := Aside0.mk A20
  clear A20
  by_cases c3 : t101 = true
  · subst c3
    have H1 : (some a0) = some r := by rw [if_pos rfl] at H; exact H
    clear H
    have H := H1
    clear H1
    obtain rfl := Option.some.inj H
    go_enter Tryz.func296, Tryz.ntmps296
    go_wp2_with (first | ((with_reducible refine gate_callee (f := 278) rfl ?_); refine goesL_ (some 4) rfl rfl Tryz.func278 (by kernel_rfl) rfl #[.int .i64 a0] rfl (by (try simp only [List.map_toArray, List.map_cons, List.map_nil]); first | done | rfl | (simp only [List.length_drop, List.length_take]; rfl)) ?_; (with_reducible refine (level_Fit.calls a0 true _ A2.out).mono ?_); rintro e w' ⟨rfl, ⟨nd, rfl⟩⟩; refine ⟨_, rfl, ?_⟩))
    go_ret
    exact ⟨by first | rfl | (simp; done) | (simp [*]; done), by repeat (first | exact Drawn0.refl _ | apply Drawn0.step)⟩
  · replace c3 := Bool.eq_false_iff.mpr c3
    subst c3
    have H1 : (some 2) = some r := by rw [if_neg (show ¬ (false = true) by decide)] at H; exact H
    clear H
    have H := H1
    clear H1
    obtain rfl := Option.some.inj H
    go_enter Tryz.func296, Tryz.ntmps296
    go_wp2_with (first | ((with_reducible refine gate_callee (f := 278) rfl ?_); refine goesL_ (some 4) rfl rfl Tryz.func278 (by kernel_rfl) rfl #[.int .i64 a0] rfl (by (try simp only [List.map_toArray, List.map_cons, List.map_nil]); first | done | rfl | (simp only [List.length_drop, List.length_take]; rfl)) ?_; (with_reducible refine (level_Fit.calls a0 false _ A2.out).mono ?_); rintro e w' ⟨rfl, ⟨nd, rfl⟩⟩; refine ⟨_, rfl, ?_⟩))
    go_ret
    exact ⟨by first | rfl | (simp; done) | (simp [*]; done), by repeat (first | exact Drawn0.refl _ | apply Drawn0.step)⟩
def level_Leq.f (a0 : Int) (a1 : Int) : Option (Bool) := (level_of.f a0).bind fun t102 => ((level_of.f a1).bind fun t103 => (some (decide (t102 ≤ t103))))
set_option maxHeartbeats 8000000 in
set_option maxRecDepth 100000 in
theorem level_Leq.calls (a0 : Int) (a1 : Int) (r : Bool) (w : World) (h : level_Leq.f a0 a1 = some r) :
    Calls Tryz.prog 284 #[.int .i64 a0, .int .i64 a1] w fun e w' => e = .returned (.bool r) ∧ Drawn0 w w' := by
  have H : ((level_of.f a0).bind fun t102 => ((level_of.f a1).bind fun t103 => (some (decide (t102 ≤ t103))))) = some r := h
  clear h
  replace H := Option.bind_eq_some_iff.mp H
  obtain ⟨t102, A30, H⟩ := H
  replace H : ((level_of.f a1).bind fun t103 => (some (decide (t102 ≤ t103)))) = some r := H
  have A3 := Aside0.mk A30
  clear A30
  replace H := Option.bind_eq_some_iff.mp H
  obtain ⟨t103, A40, H⟩ := H
  replace H : (some (decide (t102 ≤ t103))) = some r := H
  have A4 := Aside0.mk A40
  clear A40
  obtain rfl := Option.some.inj H
  go_enter Tryz.func284, Tryz.ntmps284
  go_wp2_with (first | ((with_reducible refine gate_callee (f := 296) rfl ?_); refine goesL_ (some 6) rfl rfl Tryz.func296 (by kernel_rfl) rfl #[.int .i64 a0] rfl (by (try simp only [List.map_toArray, List.map_cons, List.map_nil]); first | done | rfl | (simp only [List.length_drop, List.length_take]; rfl)) ?_; (with_reducible refine (level_of.calls a0 t102 _ A3.out).mono ?_); rintro e w' ⟨rfl, ⟨nd, rfl⟩⟩; refine ⟨_, rfl, ?_⟩) | ((with_reducible refine gate_callee (f := 296) rfl ?_); refine goesL_ (some 8) rfl rfl Tryz.func296 (by kernel_rfl) rfl #[.int .i64 a1] rfl (by (try simp only [List.map_toArray, List.map_cons, List.map_nil]); first | done | rfl | (simp only [List.length_drop, List.length_take]; rfl)) ?_; (with_reducible refine (level_of.calls a1 t103 _ A4.out).mono ?_); rintro e w' ⟨rfl, ⟨nd, rfl⟩⟩; refine ⟨_, rfl, ?_⟩))
  go_ret
  exact ⟨by first | rfl | (simp; done) | (simp [*]; done), by repeat (first | exact Drawn0.refl _ | apply Drawn0.step)⟩
def level_greatest.l0 : Nat → List Int → Int → Int → Int → Option (Int)
  | 0, _, _, _, _ => none
  | k + 1, x0, x3, x6, x7 => if x7 < x6 then (if 0 ≤ x7 then (if x7 < (x0.length : Int) then ((level_of.f (rd x0 x7)).bind fun t106 => (level_greatest.l0 k x0 (mx x3 t106) x6 (wrap64 (x7 + 1)))) else (none)) else (none)) else (some x3)
def level_greatest.f (k : Nat) (l0 : List Int) : Option (Int) := level_greatest.l0 k l0 0 (l0.length : Int) 0
set_option maxHeartbeats 8000000 in
set_option maxRecDepth 100000 in
theorem level_greatest.calls (k : Nat) (A0 : Option Addr) (c0 : Nat) (l0 : List Int) (r : Int) (w : World) (hr0 : Kd.C (Kd.int .i64) w A0 l0.length l0) (hc0 : l0.length ≤ c0) (h : level_greatest.f k l0 = some r) :
    Calls Tryz.prog 297 #[.slice A0 l0.length c0] w fun e w' => e = .returned (.int .i64 r) ∧ Below w.heap.size w w' := by
  have HR0 := Aside0.mk hr0
  have HC0 := Aside0.mk hc0
  clear hr0 hc0
  have HB := Aside0.mk (Below.refl w.heap.size w)
  have H : (level_greatest.l0 k l0 0 (l0.length : Int) 0) = some r := h
  clear h
  have H' := Aside0.mk H
  clear H
  go_enter Tryz.func297, Tryz.ntmps297
  go_wp2
  go_loopg [3, 7] k (fun kq v3 v7 w' => ∃ (x3_1 : Int) (x7_1 : Int), v3 = .int .i64 x3_1 ∧ v7 = .int .i64 x7_1 ∧ Aside0 (level_greatest.l0 kq l0 x3_1 (l0.length : Int) x7_1 = some r) ∧ Aside0 (kq ≤ k) ∧ Aside0 (Below w.heap.size w w'))
  case atStart => exact ⟨(0), (0), (by first | rfl | (simp; done) | (simp [*]; done)), (by first | rfl | (simp; done) | (simp [*]; done)), H', ⟨Nat.le_refl _⟩, ⟨by repeat (first | (with_reducible first | exact HB.out | apply below_alloc | apply pw_below_drewN | apply below_drew1) | exact HB.out)⟩⟩
  case round =>
    clear H'
    obtain ⟨x3_1, x7_1, rfl, rfl, HA, HK1, HB⟩ := hrel
    cases gk with
    | zero => exact absurd HA.out (by simp [level_greatest.l0])
    | succ k1 =>
      have H := HA.out
      clear HA
      simp only [level_greatest.l0] at H
      by_cases c2 : x7_1 < (l0.length : Int)
      · rw [if_pos c2] at H
        have c2b0 : decide (x7_1 < (l0.length : Int)) = true := decide_eq_true c2
        clear c2
        by_cases c3 : 0 ≤ x7_1
        · rw [if_pos c3] at H
          have c3b0 : decide (0 ≤ x7_1) = true := decide_eq_true c3
          clear c3
          by_cases c4 : x7_1 < (l0.length : Int)
          · rw [if_pos c4] at H
            have c4b0 : decide (x7_1 < (l0.length : Int)) = true := decide_eq_true c4
            clear c4
            replace H := Option.bind_eq_some_iff.mp H
            obtain ⟨t106, A50, H⟩ := H
            replace H : (level_greatest.l0 k1 l0 (mx x3_1 t106) (l0.length : Int) (wrap64 (x7_1 + 1))) = some r := H
            have A5 := Aside0.mk A50
            clear A50
            obtain ⟨ji6, hji6⟩ : ∃ j_ : Int, (mx x3_1 t106) = j_ := ⟨_, rfl⟩
            replace H : (level_greatest.l0 k1 l0 ji6 (l0.length : Int) (wrap64 (x7_1 + 1))) = some r := by first | (rw [hji6] at H; exact H) | (simp only [hji6] at H ⊢; exact H)
            (try rw [hji6] at A5)
            have hji6_ : (if x3_1 < t106 then t106 else x3_1) = ji6 := hji6
            have H' := Aside0.mk H
            clear H
            have p105 : 0 ≤ (x7_1 : Int) := of_decide_eq_true (by first | (with_reducible assumption) | assumption)
            have q105 : x7_1 < (l0.length : Int) := of_decide_eq_true (by first | (with_reducible assumption) | assumption)
            obtain ⟨ad105, e105, hx105_0⟩ := Kd.at_int HR0.out x7_1 p105 q105
            cases e105
            replace hx105_0 := (HB.out.cell (World.block_lt_of_cell? w _ hx105_0)).trans hx105_0
            replace p105 := eq_true p105
            replace q105 := eq_true q105
            go_wp2_with (first | ((with_reducible refine gate_callee (f := 296) rfl ?_); refine goesL_ (some 15) rfl rfl Tryz.func296 (by kernel_rfl) rfl #[.int .i64 (rd l0 x7_1)] rfl (by (try simp only [List.map_toArray, List.map_cons, List.map_nil]); first | done | rfl | (simp only [List.length_drop, List.length_take]; rfl)) ?_; (with_reducible refine (level_of.calls (rd l0 x7_1) t106 _ A5.out).mono ?_); rintro e w' ⟨rfl, ⟨nd, rfl⟩⟩; refine ⟨_, rfl, ?_⟩))
            go_roundg k1
            case measure => have := HK1.out; omega
            case rel => exact ⟨(ji6), (wrap64 (x7_1 + 1)), (by first | rfl | (simp; done) | (simp only [← hji6] <;> (first | rfl | simp)) | (simp [*]; done)), (by first | rfl | (simp; done) | (simp [*]; done)), H', ⟨by have := HK1.out; omega⟩, ⟨by repeat (first | (with_reducible first | exact HB.out | apply below_alloc | apply pw_below_drewN | apply below_drew1) | exact HB.out)⟩⟩
          · rw [if_neg c4] at H
            exact absurd H (by simp)
        · rw [if_neg c3] at H
          exact absurd H (by simp)
      · rw [if_neg c2] at H
        have c2b0 : decide (x7_1 < (l0.length : Int)) = false := decide_eq_false c2
        clear c2
        obtain rfl := Option.some.inj H
        go_wp2
        go_ret
        exact ⟨by first | rfl | (simp [errW_none, errW_some] <;> rfl) | (simp [*, errW_none, errW_some] <;> rfl), by repeat (first | (with_reducible first | exact HB.out | apply below_alloc | apply pw_below_drewN | apply below_drew1) | exact HB.out)⟩
def level_Join.f (k : Nat) (a0 : Int) (a1 : Int) : Option (Int) := (level_greatest.f k (([a0, a1] : List Int))).bind fun t110 => (some t110)
set_option maxHeartbeats 8000000 in
set_option maxRecDepth 100000 in
theorem level_Join.calls (k : Nat) (a0 : Int) (a1 : Int) (r : Int) (w : World) (h : level_Join.f k a0 a1 = some r) :
    Calls Tryz.prog 263 #[.int .i64 a0, .int .i64 a1] w fun e w' => e = .returned (.int .i64 r) ∧ Below w.heap.size w w' := by
  have HB := Aside0.mk (Below.refl w.heap.size w)
  have H : ((level_greatest.f k (([a0, a1] : List Int))).bind fun t110 => (some t110)) = some r := h
  clear h
  obtain ⟨y107, hy107⟩ : ∃ y_ : List Int, y_ = (([a0, a1] : List Int)) := ⟨_, rfl⟩
  replace H : ((level_greatest.f k y107).bind fun t110 => (some t110)) = some r := by first | (rw [hy107]; with_reducible exact H) | (have H2_ := (Option.bind_some _ _).symm.trans H; rw [hy107]; with_reducible exact H2_) | (have H2_ := (Option.bind_some _ _).symm.trans H; with_reducible exact H2_) | with_reducible exact H | (rw [hy107]; exact H) | exact H
  have Ny107 := Aside0.mk hy107
  clear hy107
  replace H := Option.bind_eq_some_iff.mp H
  obtain ⟨t110, A30, H⟩ := H
  replace H : (some t110) = some r := H
  have A3 := Aside0.mk A30
  clear A30
  obtain rfl := Option.some.inj H
  go_enter Tryz.func263, Tryz.ntmps263
  go_wp2_with (first | ((with_reducible refine gate_dst (N := 7) rfl ?_); refine Kd.R_lit (Kd.int .i64) _ 3 ?hg (N := 7) ?hd (xs := ([a0, a1] : List Int)) (inner := [.int .i64 a0, .int .i64 a1]) (ok := fun _ => True) (okp := fun _ => True) ?hr ?hp (fun _ hk => hk) trivial (Below.refl _ _) (Nat.le_refl _) (by simp) ?_; (case hd => rfl); (case hg => rfl); (case hr => first | (go_simp; done) | (go_simp; rfl)); (case hp => exact (Reps.one (show Kd.M (Kd.int .i64) _ _ _ a0 [.int .i64 a0] from rfl) (Reps.one (show Kd.M (Kd.int .i64) _ _ _ a1 [.int .i64 a1] from rfl) (Reps.none _ _)))); intro v108 w4 ho5 hb hg_ hnew_; clear hg_ hnew_; (first | rw [← Ny107.out] at ho5 | (simp only [Int.reduceToNat] at ho5; rw [← Ny107.out] at ho5)); have n0_ := Aside0.mk (Kd.R_lower ho5 (below_size (by repeat (first | (with_reducible first | exact HB.out | apply below_alloc | apply pw_below_drewN | apply below_drew1) | exact HB.out)))); have n1_ := Aside0.mk (below_step (by repeat (first | (with_reducible first | exact HB.out | apply below_alloc | apply pw_below_drewN | apply below_drew1) | exact HB.out)) hb); clear HB; have HO109 := n0_; have HB := n1_; clear n0_ n1_; clear hb ho5; obtain ⟨Ao6, co6, eo6⟩ := Kd.R_slice HO109.out; subst eo6) | ((with_reducible refine gate_callee (f := 297) rfl ?_); refine goesL_ (some 8) rfl rfl Tryz.func297 (by kernel_rfl) rfl #[.slice Ao6 y107.length co6] rfl (by (try simp only [List.map_toArray, List.map_cons, List.map_nil]); first | done | rfl | (simp only [List.length_drop, List.length_take]; rfl)) ?_; (with_reducible refine (level_greatest.calls k _ _ y107 t110 _ ?side1 ?side2 A3.out).mono ?_); (case side1 => repeat (first | exact (Kd.R_reads' HO109.out).2.2 | (with_reducible refine Kd.C_alloc ?_ _) | (with_reducible refine Kd.C_drewN ?_ _) | (with_reducible refine Kd.C_drew ?_))); (case side2 => exact (Kd.R_reads' HO109.out).2.1); rintro e w7 ⟨rfl, hb⟩; refine ⟨_, rfl, ?_⟩; have n0_ := Aside0.mk (Kd.R_below (by (with_reducible repeat (first | apply Kd.R_alloc | apply Kd.R_drewN | apply Kd.R_drew)); exact HO109.out) hb); have n1_ := Aside0.mk (below_step (by repeat (first | (with_reducible first | exact HB.out | apply below_alloc | apply pw_below_drewN | apply below_drew1) | exact HB.out)) hb); clear HO109; clear HB; have HO109 := n0_; have HB := n1_; clear n0_ n1_; (try clear hb); (try clear hb2); (try clear hk); (try clear hi)))
  go_ret
  exact ⟨by first | rfl | (simp [errW_none, errW_some] <;> rfl) | (simp [*, errW_none, errW_some] <;> rfl), by repeat (first | (with_reducible first | exact HB.out | apply below_alloc | apply pw_below_drewN | apply below_drew1) | exact HB.out)⟩
end Go.Proofs.YtoibbedpaaeclaaGreat.PLev
end

section
-- PRINTED by print.py (a twelfth state) out of the translation. Not trusted: Lean checks it.
namespace Go.Proofs.YtoibbedpaaeclaaGreat.PLev
open Go.RowKit Go.Proofs.YtoibbedpaaeclaaGreatW.PrintWords Go.Proofs.YtoibbedpaaeclaaGreatW.PrintLast Go.Proofs.YtoibbedpaaeclaaGreatW.PrintMore
attribute [local go_sem] max2_int min2_int max_two min_two max_three min_three max_four min_four -- for this text's walks alone
set_option linter.unusedVariables false
set_option linter.unusedSimpArgs false
end Go.Proofs.YtoibbedpaaeclaaGreat.PLev
end

section
namespace Go.Proofs.YtoibbedpaaeclaaGreat
open Go Go.RowKit Go.Shelf Go.Proofs.YtoibbedpaaeclaaGreatW.PrintWords Go.Proofs.YtoibbedpaaeclaaGreatW.PrintLast Go.Proofs.YtoibbedpaaeclaaGreatW.PrintMore
set_option linter.unusedVariables false
set_option linter.unusedSimpArgs false
attribute [local go_sem] Oper.semAt_some
/-- A number as a level. -/
def ofL (n : Int) : Int := if 0 ≤ n ∧ n ≤ 5 then n else 2
theorem lev_of (a : Int) : PLev.level_of.f a = some (ofL a) := by
  unfold PLev.level_of.f PLev.level_Fit.f ofL
  by_cases h1 : a ≥ 0
  · by_cases h2 : a ≤ 5
    · simp [h1, h2]
    · simp [h1, h2]
  · simp [h1]
theorem lev_leq (a b : Int) (w : World) : Calls Tryz.prog 284 #[.int .i64 a, .int .i64 b] w fun e w' => e = .returned (.bool (decide (ofL a ≤ ofL b))) ∧ Below w.heap.size w w' := by
  refine (PLev.level_Leq.calls a b (decide (ofL a ≤ ofL b)) w ?_).mono ?_
  · unfold PLev.level_Leq.f; rw [lev_of, lev_of]; simp
  · rintro e w' ⟨rfl, m, rfl⟩; exact ⟨rfl, pw_below_drewN (Below.refl _ _) _⟩
def leqB (a b : Lab) : Bool := (q2f a b).all (fun x => decide (ofL x.2.1 ≤ ofL x.2.2))
set_option maxRecDepth 100000 in
set_option maxHeartbeats 1000000 in
theorem leq_calls (la lb : Lab) (Aa Ab : Option Addr) (ca cb : Nat) (w : World) (hCa : kPr.C w Aa la.length la) (hCb : kPr.C w Ab lb.length lb) (hca : la.length ≤ ca) (hcb : lb.length ≤ cb) (hlen : la.length + lb.length ≤ 1000000) :
    Calls Tryz.prog 245 #[.slice Aa la.length ca, .slice Ab lb.length cb] w fun e w' => e = .returned (.bool (leqB la lb)) ∧ Below w.heap.size w w' := by
  refine (callsIn_wide (n := 0)).1 (callsIn_of_wp_marks Tryz.func245 rfl trivial ?_ rfl)
  simp only [Tryz.ntmps245, List.size_toArray, List.length_cons, List.length_nil, Nat.reduceAdd, Nat.reduceSub, Array.replicate_succ, Array.replicate_zero, List.push_toArray, List.append_toArray, List.nil_append, List.cons_append]
  gi_wp2_with (refine ⟨trivial, rfl, ?_⟩; gi_at_call 283; refine (callsIn_wide.2 (both_calls _ _ _ _ _ _ _)).mono ?_; rintro e w' ⟨rfl, rfl⟩)
  obtain ⟨W0, hW0⟩ : ∃ W0, (((w.alloc (Obj.cells #[Value.bool false] 4)).alloc (Obj.cells #[Value.slice Aa (List.length la) ca] 26)).alloc (Obj.cells #[Value.slice Ab (List.length lb) cb] 26)) = W0 := ⟨_, rfl⟩
  have hz0 : W0.heap.size = w.heap.size + 3 := by rw [← hW0]; simp
  have hr0 : W0.heap[w.heap.size]? = some (.cells #[.bool false] 4 (0, 0)) := by rw [← hW0]; exact blk_alloc (blk_alloc (blk_new _ _) _) _
  have ha0 : W0.heap[w.heap.size + 1]? = some (.cells #[.slice Aa la.length ca] 26 (0, 0)) := by rw [← hW0]; exact blk_alloc (blk_at (by simp)) _
  have hb0 : W0.heap[w.heap.size + 1 + 1]? = some (.cells #[.slice Ab lb.length cb] 26 (0, 0)) := by rw [← hW0]; exact blk_at (by simp)
  have hB0 : Below w.heap.size w W0 := by rw [← hW0]; exact (by repeat (first | with_reducible (exact Below.refl _ _) | with_reducible (apply below_alloc) | with_reducible (apply below_drew1) | with_reducible (apply pw_below_drewN) | (with_reducible (refine q2z ?_ ?_ _ _); rotate_left; omega)))
  rw [hW0]
  clear hW0
  refine range_law (gf := 303) (lb := #[.pointer (some ⟨w.heap.size + 1, 0, none⟩), .pointer (some ⟨w.heap.size + 1 + 1, 0, none⟩)]) rfl (enters_of Tryz.func303 (by kernel_rfl) rfl)
    (both_seq w W0 hB0 (w.heap.size + 1) (w.heap.size + 1 + 1) (by omega) (by omega) (by omega) la lb Aa Ab ca cb ha0 hb0 hCa hCb hca hcb hlen) (fun _ => rfl) (fun k h => by omega) (fun k h => by omega)
    (fun k W => W.heap[w.heap.size]? = some (.cells #[.bool false] 4 (0, 0)) ∧ (∀ j (x : Int × (Int × Int)), j < k → (q2f la lb)[j]? = some x → ofL x.2.1 ≤ ofL x.2.2) ∧ Below w.heap.size w W)
    (fun c _ W => c = .ret ∧ W.heap[w.heap.size]? = some (.cells #[.bool false] 4 (0, 0)) ∧ leqB la lb = false ∧ Below w.heap.size w W) ?hI ?hIx ⟨hr0, fun _ _ h => absurd h (by omega), hB0⟩ ?round ?done ?stop
  case hI =>
    rintro k A B ⟨h1, h2, h3⟩ he
    have z1 := blk_lt h1
    exact ⟨he.blk h1 (by simp; omega), h2, h3.trans (he.below (by omega) (fun i hi => by simp; omega))⟩
  case hIx =>
    rintro c k A B ⟨rfl, h1, h2, h3⟩ he
    have z1 := blk_lt h1
    exact ⟨rfl, he.blk h1 (by simp; omega), h2, h3.trans (he.below (by omega) (fun i hi => by simp; omega))⟩
  case round =>
    rintro k x W hx ⟨h1, h2, h3⟩ hsz
    have HX := Lib.hid hx
    have HA0 := Lib.hid ha0
    have HB0 := Lib.hid hb0
    have HP := Lib.hid h2
    have H1 := Lib.hid h1
    have z1 : w.heap.size + 3 ≤ W0.heap.size := by omega
    have z2 : W0.heap.size < W.heap.size := by omega
    have z3 : W0.heap.size + 1 < W.heap.size := by omega
    clear hx ha0 hb0 h2 h1 hr0
    gi_wp2
    refine ⟨(Kept.refl _ _).alloc _, (Kept.refl _ _).alloc _, fun W2 he => ?_⟩
    have h32 : Below w.heap.size w W2 := h3.trans (Below.trans ((Below.refl _ _).alloc (by omega) _ : Below w.heap.size W _) (he.below (by simp; omega) (fun i hi => by omega)))
    have g1 := he.blk (blk_alloc H1.out _) (by omega)
    have g2 := he.blk (blk_new W _) (by omega)
    have hsz2 : W.heap.size + 1 ≤ W2.heap.size := by have := he.size; simp at this; omega
    have c1 := blk_cell g1 0
    have c2 := blk_cell g2 0
    have c3 := blk_cell g2 1
    have f1 := blk_frozen g1 0
    simp only [List.getElem?_toArray, List.getElem?_cons_zero, List.getElem?_cons_succ] at c1 c2 c3
    have G1 := Lib.hid g1
    have HB2 := Lib.hid h32
    clear g1 g2 he h3 h32
    by_cases hle : ofL x.2.1 ≤ ofL x.2.2
    · have hd : decide (ofL x.2.1 ≤ ofL x.2.2) = true := decide_eq_true hle
      gi_wp2_with (refine ⟨trivial, rfl, ?_⟩; gi_at_call 284; refine (CallsIn.inRound _ (callsIn_wide.2 (lev_leq _ _ _))).mono ?_; rintro e W3 ⟨rfl, hb⟩)
      have hz3 := hb.size
      refine ⟨(Kept.refl _ _).below hb, (Kept.refl _ _).below hb, blk_below G1.out hb, ?_, HB2.out.trans (hb.mono (by omega))⟩
      intro j y hj hy
      rcases Nat.lt_succ_iff_lt_or_eq.1 hj with h | rfl
      · exact HP.out j y h hy
      · have := HX.out; rw [hy] at this; cases this; exact hle
    · have hd : decide (ofL x.2.1 ≤ ofL x.2.2) = false := decide_eq_false hle
      gi_wp2_with (refine ⟨trivial, rfl, ?_⟩; gi_at_call 284; refine (CallsIn.inRound _ (callsIn_wide.2 (lev_leq _ _ _))).mono ?_; rintro e W3 ⟨rfl, hb⟩; have c1' := pw_cell_below hb c1; have f1' := blk_frozen (blk_below G1.out hb) 0)
      have hz3 := hb.size
      refine ⟨((Kept.refl _ _).below hb).set (by omega) _ _, rfl, q4m (blk_below G1.out hb), ?_, ?_⟩
      · unfold leqB
        rw [List.all_eq_false]
        exact ⟨x, List.mem_of_getElem? HX.out, by simpa using hle⟩
      · exact q2z (HB2.out.trans (hb.mono (by omega))) (Nat.le_refl _) _ _
  case done =>
    rintro W ⟨h1, h2, h3⟩ hsz hD
    have c1 := blk_cell h1 0
    have f1 := blk_frozen h1 0
    simp only [List.getElem?_toArray, List.getElem?_cons_zero] at c1
    have z1 : w.heap.size < W0.heap.size := by omega
    have z2 : W0.heap.size < W.heap.size := by omega
    have D := Lib.hid hD
    have H1 := Lib.hid h1
    have HP := Lib.hid h2
    clear h1 h2 hr0 ha0 hb0 hD
    gi_wp2
    have hD1 : (W.setCell ⟨w.heap.size, 0, none⟩ (.bool true)).heap[W0.heap.size]? = some (.deferred (some [])) := (Below.heap_setCell _ _ _ _ (by simp; omega)).trans D.out
    have k2 : ((W.setCell ⟨w.heap.size, 0, none⟩ (.bool true)).putObj W0.heap.size (.deferred none)).heap[w.heap.size]? = some (.cells #[.bool true] 4 (0, 0)) := (World.putObj_heap_other (by omega)).trans (q4m H1.out)
    have c2 := blk_cell k2 0
    simp only [List.getElem?_toArray, List.getElem?_cons_zero] at c2
    have hq : leqB la lb = true := by
      unfold leqB
      rw [List.all_eq_true]
      intro x hx
      obtain ⟨j, hj⟩ := List.mem_iff_getElem?.1 hx
      exact decide_eq_true (HP.out j x (List.getElem?_eq_some_iff.1 hj).1 hj)
    refine ⟨by simp, .inl ⟨_, _, rfl, run_takeDeferred hD1, ?_⟩⟩
    refine ⟨.bool true, by simp [results, Tryz.results245, go_sem, c2], by rw [hq], ?_⟩
    exact (q2z h3 (Nat.le_refl _) _ _).trans (belowK_b (w := W0) (by omega) _ _ _ _ (Nat.le_refl _) hD1 rfl rfl)
  case stop =>
    rintro c k W hk ⟨rfl, h1, h2, h3⟩ hsz hD
    have c1 := blk_cell h1 0
    have f1 := blk_frozen h1 0
    simp only [List.getElem?_toArray, List.getElem?_cons_zero] at c1
    have z1 : w.heap.size < W0.heap.size := by omega
    have z2 : W0.heap.size < W.heap.size := by omega
    have D := Lib.hid hD
    have H1 := Lib.hid h1
    have H2 := Lib.hid h2
    clear h1 h2 hr0 ha0 hb0 hD
    gi_wp2
    have k2 : (W.putObj W0.heap.size (.deferred none)).heap[w.heap.size]? = some (.cells #[.bool false] 4 (0, 0)) := (World.putObj_heap_other (by omega)).trans H1.out
    have c2 := blk_cell k2 0
    simp only [List.getElem?_toArray, List.getElem?_cons_zero] at c2
    refine ⟨by simp, .inl ⟨_, _, rfl, run_takeDeferred D.out, ?_⟩⟩
    refine ⟨.bool false, by simp [results, Tryz.results245, go_sem, c2], by rw [H2.out], ?_⟩
    exact h3.trans (belowK_b (w := W0) (by omega) _ _ _ _ (Nat.le_refl _) D.out rfl rfl)
end Go.Proofs.YtoibbedpaaeclaaGreat
end

section
namespace Go.Proofs.YtoibbedpaaeclaaGreat
open Go Go.RowKit
theorem rowsIn_round {l n : Nat} {P : Program} {row : String} {args : Array Value} {w : World} {R : Value → World → Prop} (h : Rows P row args w R) : RowsIn (Fence.wide.inRound l) n P row args w R :=
  fun c cs _ => let ⟨v, w', r, s⟩ := h c cs; ⟨v, w', r, stepsIn_wide.2 s⟩
theorem uponIn_round {l : Nat} {P : Program} {o : Oper} {a : Act} {K K' : Act → World → Prop} {Q : Exit → Act → World → Prop} (hK : ∀ a w, K a w → K' a w) (hL : ¬ LetsOut Q) {r : Result Next}
    (h : o.upon P a K Q r) : o.uponIn (Fence.wide.inRound l) 0 P a K' Q r := by
  cases r with
  | ok x w' =>
    cases x with
    | value v => exact hK _ _ h
    | skip => exact hK _ _ h
    | defer d => exact hK _ _ h
    | enter f args =>
      refine ⟨fun h => by simp [Fence.wide] at h, ?_⟩
      refine CallsIn.inRound l (CallsIn.mono (callsIn_wide.2 h) ?_)
      intro e w'' hr
      cases e with
      | returned v => exact hK _ _ hr
      | panicked c => exact hr
      | outgrown => exact absurd hr hL
    | row row args =>
      refine ⟨fun h => by simp [Fence.wide] at h, rowsIn_round (Rows.mono h ?_)⟩
      intro v w'' hr
      exact hK _ _ hr
    | _ => exact False.elim h
  | halt x w' =>
    cases x with
    | panic v => exact h
    | _ => exact False.elim h
theorem q5z {l : Nat} {P : Program} {ops : Array Oper} {Q : Exit → Act → World → Prop} (hd : ops.all (fun o => match o.op with | .defer _ => false | _ => true) = true) (hL : ¬ LetsOut Q) :
    ∀ (is : List Nat) (a : Act) (w : World), wpOps P ops Q is a w → wpOpsIn (Fence.wide.inRound l) 0 P ops Q is a w
  | [], _, _, h => h
  | i :: rest, a, w, h => by
    unfold wpOps at h
    unfold wpOpsIn
    split at h
    · rename_i he
      simp only [he]
      exact q5z hd hL rest a w h
    · rename_i o he
      simp only [he]
      have hod : ∀ c, o.op ≠ .defer c := by
        intro c hc
        rw [Array.all_eq_true'] at hd
        have := hd o (Array.mem_of_getElem? he)
        rw [hc] at this
        simp at this
      split at h
      · rename_i hw
        simp only [hw, if_true]
        refine ⟨fun f _ => trivial, ?_⟩
        rw [Oper.semAt_eq _ _ _ hod]
        rcases h with h | ⟨_, h⟩
        · exact uponIn_round (fun a w => q5z hd hL rest a w) hL h
        · exact absurd h hL
      · rename_i hw
        simp only [hw]
        exact ⟨fun f _ => trivial, q5z hd hL rest _ w h⟩
theorem q8s {l : Nat} {P : Program} {ops : Array Oper} {Q : Exit → Act → World → Prop} (hL : ¬ LetsOut Q) :
    ∀ {rest : List Oper} {a : Act} {w : World}, rest.all (fun o => match o.op with | .defer _ => false | _ => true) = true → wpList P ops Q rest a w → wpListIn (Fence.wide.inRound l) 0 P ops Q rest a w
  | [], _, _, _, h => h
  | o :: rest, a, w, hd, h => by
    unfold wpList at h
    unfold wpListIn
    rw [List.all_cons, Bool.and_eq_true] at hd
    have hod : ∀ c, o.op ≠ .defer c := by
      intro c hc
      have := hd.1
      rw [hc] at this
      simp at this
    split at h
    · rename_i hw
      simp only [hw, if_true]
      refine ⟨fun f _ => trivial, ?_⟩
      rw [Oper.semAt_eq _ _ _ hod]
      rcases h with h | ⟨_, h⟩
      · exact uponIn_round (fun a w => q8s hL hd.2) hL h
      · exact absurd h hL
    · rename_i hw
      simp only [hw]
      exact ⟨fun f _ => trivial, q8s hL hd.2 h⟩
/-- In a round: a region that is carried out in the text's order. -/
theorem region_round {l id : Nat} {P : Program} {ops : List Oper} {Q : Exit → Act → World → Prop} {a : Act} {w : World} (hd : ops.toArray.all (fun o => match o.op with | .defer _ => false | _ => true) = true) (hL : ¬ LetsOut Q)
    (h : wpList P ops.toArray Q ops a w) : (Code.region id ops.toArray false).wpIn (Fence.wide.inRound l) 0 P Q a w := by
  refine wpIn_region (q5z hd hL _ _ _ ?_)
  rw [List.range_eq_range', List.size_toArray, wpOps_eq_wpList ops 0 (by simp)]
  exact h
end Go.Proofs.YtoibbedpaaeclaaGreat
end

section
namespace Go.Proofs.YtoibbedpaaeclaaGreat
open Go Go.RowKit Go.Shelf Go.Proofs.YtoibbedpaaeclaaGreatW.PrintWords Go.Proofs.YtoibbedpaaeclaaGreatW.PrintLast Go.Proofs.YtoibbedpaaeclaaGreatW.PrintMore
set_option linter.unusedVariables false
set_option linter.unusedSimpArgs false
attribute [local go_sem] Oper.semAt_some
/-- Two labels in one, level by level. -/
def q9t (F : Int → Int → Int) (xs : List (Int × (Int × Int))) : Lab := xs.filterMap (fun x => if F x.2.1 x.2.2 = 2 then none else some (x.1, F x.2.1 x.2.2))
def q7y (F : Int → Int → Int) (a b : Lab) : Lab := q9t F (q2f a b)
theorem foldX_snoc (F : Int → Int → Int) (xs : List (Int × (Int × Int))) (k : Nat) (x : Int × (Int × Int)) (hx : xs[k]? = some x) :
    q9t F (xs.take (k + 1)) = q9t F (xs.take k) ++ (if F x.2.1 x.2.2 = 2 then [] else [(x.1, F x.2.1 x.2.2)]) := by
  unfold q9t
  rw [List.take_add_one, hx, List.filterMap_append]
  by_cases h : F x.2.1 x.2.2 = 2 <;> simp [h]
theorem foldX_len (F : Int → Int → Int) (xs : List (Int × (Int × Int))) : (q9t F xs).length ≤ xs.length := List.length_filterMap_le _ _
theorem mergeB_len (a b : Lab) : (q2f a b).length ≤ a.length + b.length := by
  fun_induction q2f a b <;> simp_all <;> omega
set_option maxRecDepth 100000 in
set_option maxHeartbeats 1000000 in
theorem q8v (gf : Nat) (F : Int → Int → Int) (heg : ∀ args w, (callFunc gf args).run Tryz.prog w = .ok (.enter gf args) w)
    (hf : ∀ (a b : Int) (w : World), Calls Tryz.prog gf #[.int .i64 a, .int .i64 b] w fun e w' => e = .returned (.int .i64 (F a b)) ∧ Below w.heap.size w w')
    (la lb : Lab) (Aa Ab : Option Addr) (ca cb : Nat) (w : World) (hCa : kPr.C w Aa la.length la) (hCb : kPr.C w Ab lb.length lb) (hca : la.length ≤ ca) (hcb : lb.length ≤ cb) (hlen : la.length + lb.length ≤ 1000000) :
    Calls Tryz.prog 260 #[.slice Aa la.length ca, .slice Ab lb.length cb, .func (.func gf) #[] #[]] w fun e w' => ∃ v, e = .returned v ∧ Kd.R kPr 76 w' w.heap.size (fun _ => True) v (q7y F la lb) ∧ Below w.heap.size w w' := by
  refine (callsIn_wide (n := 0)).1 (callsIn_of_wp_marks Tryz.func260 rfl trivial ?_ rfl)
  simp only [Tryz.ntmps260, List.size_toArray, List.length_cons, List.length_nil, Nat.reduceAdd, Nat.reduceSub, Array.replicate_succ, Array.replicate_zero, List.push_toArray, List.append_toArray, List.nil_append, List.cons_append]
  gi_wp2_with (refine ⟨trivial, rfl, ?_⟩; gi_at_call 283; refine (callsIn_wide.2 (both_calls _ _ _ _ _ _ _)).mono ?_; rintro e w' ⟨rfl, rfl⟩)
  obtain ⟨W0, hW0⟩ : ∃ W0, ((((w.alloc (Obj.cells #[Value.func (Fn.func gf) #[] #[]] 232)).alloc (Obj.cells #[Value.slice none 0 0] 26)).alloc (Obj.cells #[Value.slice Aa (List.length la) ca] 26)).alloc (Obj.cells #[Value.slice Ab (List.length lb) cb] 26)) = W0 := ⟨_, rfl⟩
  have hz0 : W0.heap.size = w.heap.size + 4 := by rw [← hW0]; simp
  have hg0 : W0.heap[w.heap.size]? = some (.cells #[.func (.func gf) #[] #[]] 232 (0, 0)) := by rw [← hW0]; exact blk_alloc (blk_alloc (blk_alloc (blk_new _ _) _) _) _
  have hr0 : W0.heap[w.heap.size + 1]? = some (.cells #[.slice none 0 0] 26 (0, 0)) := by rw [← hW0]; exact blk_alloc (blk_alloc (blk_at (by simp)) _) _
  have ha0 : W0.heap[w.heap.size + 1 + 1]? = some (.cells #[.slice Aa la.length ca] 26 (0, 0)) := by rw [← hW0]; exact blk_alloc (blk_at (by simp)) _
  have hb0 : W0.heap[w.heap.size + 1 + 1 + 1]? = some (.cells #[.slice Ab lb.length cb] 26 (0, 0)) := by rw [← hW0]; exact blk_at (by simp)
  have hB0 : Below w.heap.size w W0 := by rw [← hW0]; exact (by repeat (first | with_reducible (exact Below.refl _ _) | with_reducible (apply below_alloc) | with_reducible (apply below_drew1) | with_reducible (apply pw_below_drewN) | (with_reducible (refine q2z ?_ ?_ _ _); rotate_left; omega)))
  rw [hW0]
  clear hW0
  refine range_law (gf := 303) (lb := #[.pointer (some ⟨w.heap.size + 1 + 1, 0, none⟩), .pointer (some ⟨w.heap.size + 1 + 1 + 1, 0, none⟩)]) rfl (enters_of Tryz.func303 (by kernel_rfl) rfl)
    (both_seq w W0 hB0 (w.heap.size + 1 + 1) (w.heap.size + 1 + 1 + 1) (by omega) (by omega) (by omega) la lb Aa Ab ca cb ha0 hb0 hCa hCb hca hcb hlen) (fun _ => rfl) (fun k h => by omega) (fun k h => by omega)
    (fun k W => W.heap[w.heap.size]? = some (.cells #[.func (.func gf) #[] #[]] 232 (0, 0)) ∧ (∃ v, W.heap[w.heap.size + 1]? = some (.cells #[v] 26 (0, 0)) ∧ Kd.R kPr 76 W w.heap.size (fun g => W0.heap.size + 2 ≤ g) v (q9t F ((q2f la lb).take k))) ∧ Below w.heap.size w W)
    (fun _ _ _ => False) ?hI (fun _ _ _ _ h _ => h.elim) ⟨hg0, ⟨_, hr0, Kd.R_nil _ _ _ _ _⟩, hB0⟩ ?round ?done (fun _ _ _ _ h => h.elim)
  case hI =>
    rintro k A B ⟨h1, ⟨v, h2, h3⟩, h4⟩ he
    have z1 := blk_lt h2
    exact ⟨he.blk h1 (by simp; omega), ⟨v, he.blk h2 (by simp; omega), Kd.R_step h3 (fun i hi hlt => he.block i hlt (by simp; omega))⟩, h4.trans (he.below (by omega) (fun i hi => by simp; omega))⟩
  case round =>
    rintro k x W hx ⟨h1, ⟨v, h2, h3⟩, h4⟩ hsz
    have hsn := foldX_snoc F (q2f la lb) k x hx
    have HSN := Lib.hid hsn
    have HX := Lib.hid hx
    have HA0 := Lib.hid ha0
    have HB0 := Lib.hid hb0
    have H1 := Lib.hid h1
    have H2 := Lib.hid h2
    have H3 := Lib.hid h3
    have z1 : w.heap.size + 4 ≤ W0.heap.size := by omega
    have z2 : W0.heap.size < W.heap.size := by omega
    have z3 : W0.heap.size + 1 < W.heap.size := by omega
    clear hz0 hx ha0 hb0 h2 h1 h3 hr0 hg0 hsn
    gi_wp2
    refine ⟨(Kept.refl _ _).alloc _, (Kept.refl _ _).alloc _, fun W2 he => ?_⟩
    have h32 : Below w.heap.size w W2 := h4.trans (Below.trans ((Below.refl _ _).alloc (by omega) _ : Below w.heap.size W _) (he.below (by simp; omega) (fun i hi => by omega)))
    have g1 := he.blk (blk_alloc H1.out _) (by omega)
    have g2 := he.blk (blk_new W _) (by omega)
    have g3 := he.blk (blk_alloc H2.out _) (by omega)
    have g4 : Kd.R kPr 76 W2 w.heap.size (fun g => W0.heap.size + 2 ≤ g) v (q9t F ((q2f la lb).take k)) := Kd.R_step (Kd.R_alloc H3.out _) (fun i hi hlt => he.block i hlt (by omega))
    have hsz2 : W.heap.size + 1 ≤ W2.heap.size := by have := he.size; simp at this; omega
    have c1 := blk_cell g1 0
    have c2 := blk_cell g2 0
    have c3 := blk_cell g2 1
    have c4 := blk_cell g3 0
    have f1 := blk_frozen g3 0
    simp only [List.getElem?_toArray, List.getElem?_cons_zero, List.getElem?_cons_succ] at c1 c2 c3 c4
    have G1 := Lib.hid g1
    have G3 := Lib.hid g3
    have G4 := Lib.hid g4
    have HB2 := Lib.hid h32
    clear g1 g2 g3 g4 he h4 h32
    by_cases hle : F x.2.1 x.2.2 = 2
    · have hd : (F x.2.1 x.2.2 == 2) = true := beq_iff_eq.2 hle
      have hd2 : (F x.2.1 x.2.2 != 2) = false := bne_eq_false_iff_eq.2 hle
      have HF := Lib.hid hle
      clear hle
      gi_wp2_with (refine ⟨trivial, rfl, ?_⟩; refine (CallsIn.inRound _ (callsIn_wide.2 (hf _ _ _))).mono ?_; rintro e W3 ⟨rfl, hb⟩)
      have hz3 := hb.size
      refine ⟨(Kept.refl _ _).below hb, (Kept.refl _ _).below hb, blk_below G1.out hb, ⟨v, blk_below G3.out hb, ?_⟩, HB2.out.trans (hb.mono (by omega))⟩
      rw [HSN.out, if_pos HF.out, List.append_nil]
      exact Kd.R_below G4.out hb
    · have hd : (F x.2.1 x.2.2 == 2) = false := beq_eq_false_iff_ne.2 hle
      have hd2 : (F x.2.1 x.2.2 != 2) = true := bne_iff_ne.2 hle
      have HF := Lib.hid hle
      clear hle
      have hl8 : ((q9t F ((q2f la lb).take k)).length + 1) * 16 ≤ 140737488355328 := by
        have h1 := foldX_len F ((q2f la lb).take k)
        have h2 := mergeB_len la lb
        simp only [List.length_take] at h1
        omega
      have HL8 := Lib.hid hl8
      clear hl8
      gi_wp2_with (first | ((with_reducible refine q8s ?hL ?hD ?_); (case hL => exact fun ⟨_, _, h⟩ => h); (case hD => rfl); (with_reducible refine gate_builtin (b := .append) (xs := #[.tmp 24, .tmp 28]) rfl ?_)) | (refine ⟨trivial, rfl, ?_⟩; refine (CallsIn.inRound _ (callsIn_wide.2 (hf _ _ _))).mono ?_; rintro e W3 ⟨rfl, hb⟩; have c4' := pw_cell_below hb c4; have f1' := blk_frozen (blk_below G3.out hb) 0; have G4' := Lib.hid (Kd.R_below G4.out hb); have G1' := Lib.hid (blk_below G1.out hb); have G3' := Lib.hid (blk_below G3.out hb); have hz3 := hb.size; have HB3 := Lib.hid (HB2.out.trans (hb.mono (by omega)))))
      at_builtin
      refine Kd.R_append kPr (w0 := w) w.heap.size rfl (.tmp 24) (.tmp 28) 26 76 (.agg #[.int .u64 0, .int .i64 0]) 16 rfl Tryz.underlying26 infoPair rfl (by decide) (by omega) v (q9t F ((q2f la lb).take k)) (x.1, F x.2.1 x.2.2) [.int .u64 x.1, .int .i64 (F x.2.1 x.2.2)] (fun g => W0.heap.size + 2 ≤ g) (fun _ => False) rfl rfl (kPr_mkM _ _ _ _) (fun _ hk => hk.elim) (fun g hg => by omega) G4'.out HB3.out (by omega) HL8.out ?_
      intro v1 w1 hR1 hB1 hg1 hat1
      obtain ⟨A1, cp1, rfl⟩ := Kd.R_slice hR1
      have hlen1 : (q9t F ((q2f la lb).take k) ++ [(x.1, F x.2.1 x.2.2)]).length = (q9t F ((q2f la lb).take k)).length + 1 := by simp
      rw [hlen1] at hR1 ⊢
      clear hlen1
      have hne : ∀ g, g < W0.heap.size → v.ownBlock ≠ some g := fun g hg he => by have := G4'.out.1 g he; omega
      have g1 := (hg1.block (w.heap.size + 1) (by omega) (hne _ (by omega)).symm).trans G3'.out
      have g2 := (hg1.block w.heap.size (by omega) (hne _ (by omega)).symm).trans G1'.out
      have c5 := blk_cell g1 0
      have f5 := blk_frozen g1 0
      simp only [List.getElem?_toArray, List.getElem?_cons_zero] at c5
      have hg := hg1.size
      have K1 := Lib.hid g1
      have K2 := Lib.hid g2
      have KR := Lib.hid hR1
      have KG := Lib.hid hg1
      clear g1 g2 hR1 hg1 hat1
      go_wp2
      have hk1 : ∀ kp : Nat → Prop, (∀ g, kp g → g < W0.heap.size) → (∀ g, kp g → g ≠ w.heap.size + 1) → Kept kp W2 (w1.setCell ⟨w.heap.size + 1, 0, none⟩ (.slice A1 ((q9t F ((q2f la lb).take k)).length + 1) cp1)) := fun kp h1 h2 =>
        (((Kept.refl _ _).below hb).grown KG.out (fun g he hk => hne g (h1 g hk) he)).set (fun hk => h2 _ hk rfl) _ _
      refine ⟨?_, hk1 (fun k => k < w.heap.size ∨ k = w.heap.size + 1 + 1 ∨ k = w.heap.size + 1 + 1 + 1) (fun g hg => by rcases hg with h | h | h <;> omega) (fun g hg => by rcases hg with h | h | h <;> omega), q4t K2.out (by omega) _ _, ⟨_, q4m K1.out, ?_⟩, q2z hB1 (by omega) _ _⟩
      · exact ((((Kept.refl _ _).below hb).grown KG.out (fun g he hk => by have := G4'.out.1 g he; omega))).set (by omega) _ _
      · rw [HSN.out, if_neg HF.out]
        exact Kd.R_far (p := ⟨w.heap.size + 1, 0, none⟩) KR.out (fun g hg => by simp; omega) _
  case done =>
    rintro W ⟨h1, ⟨v, h2, h3⟩, h4⟩ hsz hD
    have c1 := blk_cell h2 0
    have f1 := blk_frozen h2 0
    simp only [List.getElem?_toArray, List.getElem?_cons_zero] at c1
    have z1 : w.heap.size + 4 ≤ W0.heap.size := by omega
    have z2 : W0.heap.size < W.heap.size := by omega
    have D := Lib.hid hD
    have H3 := Lib.hid h3
    clear h1 h2 h3 hr0 hg0 ha0 hb0 hD hz0
    gi_wp2
    refine ⟨by simp, .inl ⟨_, _, rfl, run_takeDeferred D.out, ?_⟩⟩
    refine ⟨_, results_tmp rfl _ _ _, v, rfl, ?_, h4.trans (belowK_b (w := W0) (by omega) _ _ _ _ (Nat.le_refl _) D.out rfl rfl)⟩
    have := H3.out
    rw [List.take_length] at this
    exact Kd.R_mono (Kd.R_step this (fun i hi hlt => World.putObj_heap_other (by omega))) (fun _ _ => trivial)
end Go.Proofs.YtoibbedpaaeclaaGreat
end

section
namespace Go.Proofs.YtoibbedpaaeclaaGreat
open Go Go.RowKit Go.Shelf Go.Proofs.YtoibbedpaaeclaaGreatW.PrintWords Go.Proofs.YtoibbedpaaeclaaGreatW.PrintLast Go.Proofs.YtoibbedpaaeclaaGreatW.PrintMore
set_option linter.unusedVariables false
set_option linter.unusedSimpArgs false
theorem q6k (a : Int) : 0 ≤ ofL a ∧ ofL a ≤ 5 := by unfold ofL; split <;> omega
theorem ofL_of {a : Int} (h : 0 ≤ a ∧ a ≤ 5) : ofL a = a := if_pos h
/-- The greater of two levels. -/
def upL (a b : Int) : Int := if ofL a ≤ ofL b then ofL b else ofL a
def raL (a : Int) : Int := if ofL a = 0 then 5 else ofL a
def loL (a : Int) : Int := if ofL a = 5 then 0 else ofL a
theorem lev_greatest (a b : Int) : PLev.level_greatest.f 3 [a, b] = some (upL a b) := by
  have ha := q6k a
  have hb := q6k b
  simp only [PLev.level_greatest.f, PLev.level_greatest.l0, lev_of, List.length_cons, List.length_nil, rd]
  simp [wrap64, PLev.level_greatest.l0, lev_of]
  unfold upL
  simp [mx]
  split <;> split <;> split <;> omega
theorem lev_join (a b : Int) (w : World) : Calls Tryz.prog 263 #[.int .i64 a, .int .i64 b] w fun e w' => e = .returned (.int .i64 (upL a b)) ∧ Below w.heap.size w w' := by
  refine PLev.level_Join.calls 3 a b _ w ?_
  unfold PLev.level_Join.f; rw [lev_greatest]; rfl
theorem of_calls (a : Int) (w : World) : Calls Tryz.prog 296 #[.int .i64 a] w fun e w' => e = .returned (.int .i64 (ofL a)) ∧ Below w.heap.size w w' := by
  refine (PLev.level_of.calls a (ofL a) w (lev_of a)).mono ?_
  rintro e w' ⟨rfl, m, rfl⟩; exact ⟨rfl, pw_below_drewN (Below.refl _ _) _⟩
theorem lev_raise (a : Int) (w : World) : Calls Tryz.prog 265 #[.int .i64 a] w fun e w' => e = .returned (.int .i64 (raL a)) ∧ Below w.heap.size w w' := by
  by_cases h : ofL a = 0
  · have h1 : (ofL a == 0) = true := beq_iff_eq.2 h
    have h2 : (ofL a != 0) = false := bne_eq_false_iff_eq.2 h
    have HR : Hid (raL a = 5) := Lib.hid (if_pos h)
    have H := Lib.hid h
    clear h
    go_enter Tryz.func265, Tryz.ntmps265
    go_wp2_with (go_at_call 296; refine (of_calls _ _).mono ?_; rintro e w1 ⟨rfl, hb⟩)
    go_ret
    exact ⟨by rw [HR.out]; rfl, hb⟩
  · have h1 : (ofL a == 0) = false := beq_eq_false_iff_ne.2 h
    have h2 : (ofL a != 0) = true := bne_iff_ne.2 h
    have HR : Hid (raL a = ofL a) := Lib.hid (if_neg h)
    have H := Lib.hid h
    clear h
    go_enter Tryz.func265, Tryz.ntmps265
    go_wp2_with (go_at_call 296; refine (of_calls _ _).mono ?_; rintro e w1 ⟨rfl, hb⟩)
    go_ret
    exact ⟨by rw [HR.out]; rfl, hb⟩
theorem lev_lower (a : Int) (w : World) : Calls Tryz.prog 262 #[.int .i64 a] w fun e w' => e = .returned (.int .i64 (loL a)) ∧ Below w.heap.size w w' := by
  have HR : Hid ((ofL a).tmod 5 = loL a) := Lib.hid (by
    have ha := q6k a
    obtain ⟨n, hn⟩ : ∃ n : Nat, ofL a = n := ⟨(ofL a).toNat, by omega⟩
    unfold loL; rw [hn]
    have : n = 0 ∨ n = 1 ∨ n = 2 ∨ n = 3 ∨ n = 4 ∨ n = 5 := by omega
    rcases this with rfl | rfl | rfl | rfl | rfl | rfl <;> rfl)
  go_enter Tryz.func262, Tryz.ntmps262
  go_wp2_with (go_at_call 296; refine (of_calls _ _).mono ?_; rintro e w1 ⟨rfl, hb⟩)
  go_ret
  exact ⟨by rw [← HR.out]; rfl, hb⟩
theorem raise1_calls (a b : Int) (w : World) : Calls Tryz.prog 264 #[.int .i64 a, .int .i64 b] w fun e w' => e = .returned (.int .i64 (raL a)) ∧ Below w.heap.size w w' := by
  go_enter Tryz.func264, Tryz.ntmps264
  go_wp2_with (go_at_call 265; refine (lev_raise _ _).mono ?_; rintro e w1 ⟨rfl, hb⟩)
  go_ret
  exact ⟨rfl, hb⟩
theorem lower1_calls (a b : Int) (w : World) : Calls Tryz.prog 261 #[.int .i64 a, .int .i64 b] w fun e w' => e = .returned (.int .i64 (loL a)) ∧ Below w.heap.size w w' := by
  go_enter Tryz.func261, Tryz.ntmps261
  go_wp2_with (go_at_call 262; refine (lev_lower _ _).mono ?_; rintro e w1 ⟨rfl, hb⟩)
  go_ret
  exact ⟨rfl, hb⟩
theorem join_calls (la lb : Lab) (Aa Ab : Option Addr) (ca cb : Nat) (w : World) (hCa : kPr.C w Aa la.length la) (hCb : kPr.C w Ab lb.length lb) (hca : la.length ≤ ca) (hcb : lb.length ≤ cb) (hlen : la.length + lb.length ≤ 1000000) :
    Calls Tryz.prog 225 #[.slice Aa la.length ca, .slice Ab lb.length cb] w fun e w' => ∃ v, e = .returned v ∧ Kd.R kPr 76 w' w.heap.size (fun _ => True) v (q7y upL la lb) ∧ Below w.heap.size w w' := by
  go_enter Tryz.func225, Tryz.ntmps225
  go_wp2_with (go_at_call 260; refine (q8v 263 upL (enters_of Tryz.func263 (by kernel_rfl) rfl) lev_join la lb Aa Ab ca cb _ hCa hCb hca hcb hlen).mono ?_; rintro e w1 ⟨v, rfl, hr, hb⟩)
  go_ret
  exact ⟨v, rfl, hr, hb⟩
theorem C_nil0 (w : World) : kPr.C w none ([] : Lab).length ([] : Lab) := by
  obtain ⟨A, c, he, _, h⟩ := Kd.R_reads (Kd.R_nil kPr 0 w 0 (fun _ => True))
  cases he; exact h
theorem raise_calls (la : Lab) (Aa : Option Addr) (ca : Nat) (w : World) (hCa : kPr.C w Aa la.length la) (hca : la.length ≤ ca) (hlen : la.length ≤ 1000000) :
    Calls Tryz.prog 226 #[.slice Aa la.length ca] w fun e w' => ∃ v, e = .returned v ∧ Kd.R kPr 76 w' w.heap.size (fun _ => True) v (q7y (fun a _ => raL a) la []) ∧ Below w.heap.size w w' := by
  have h0 := Lib.hid (C_nil0 w)
  go_enter Tryz.func226, Tryz.ntmps226
  go_wp2_with (go_at_call 260; refine (q8v 264 (fun a _ => raL a) (enters_of Tryz.func264 (by kernel_rfl) rfl) raise1_calls la [] Aa none ca 0 _ hCa h0.out hca (Nat.le_refl _) (by simpa using hlen)).mono ?_; rintro e w1 ⟨v, rfl, hr, hb⟩)
  go_ret
  exact ⟨v, rfl, hr, hb⟩
theorem lower_calls (la : Lab) (Aa : Option Addr) (ca : Nat) (w : World) (hCa : kPr.C w Aa la.length la) (hca : la.length ≤ ca) (hlen : la.length ≤ 1000000) :
    Calls Tryz.prog 224 #[.slice Aa la.length ca] w fun e w' => ∃ v, e = .returned v ∧ Kd.R kPr 76 w' w.heap.size (fun _ => True) v (q7y (fun a _ => loL a) la []) ∧ Below w.heap.size w w' := by
  have h0 := Lib.hid (C_nil0 w)
  go_enter Tryz.func224, Tryz.ntmps224
  go_wp2_with (go_at_call 260; refine (q8v 261 (fun a _ => loL a) (enters_of Tryz.func261 (by kernel_rfl) rfl) lower1_calls la [] Aa none ca 0 _ hCa h0.out hca (Nat.le_refl _) (by simpa using hlen)).mono ?_; rintro e w1 ⟨v, rfl, hr, hb⟩)
  go_ret
  exact ⟨v, rfl, hr, hb⟩
end Go.Proofs.YtoibbedpaaeclaaGreat
end

section

end

section
namespace Go.Proofs.YtoibbedpaaeclaaGreat
open Go Go.RowKit Go.Proofs.YtoibbedpaaeclaaGreatW.PrintWords Go.Proofs.YtoibbedpaaeclaaGreatW.PrintLast Go.Proofs.YtoibbedpaaeclaaGreatW.PrintMore
set_option linter.unusedVariables false
set_option linter.unusedSimpArgs false
def q2g (l : List Pr) : Lab := l.map fun p => (p.cat, p.lev)
def ofPair (x : Int × Int) : Pr := ⟨x.1, x.2⟩
theorem q4e (l : List Pr) : (q2g l).length = l.length := by simp [q2g]
theorem flat_put {α : Type} {f : α → List PV} {sz : Nat} (hsz : ∀ y, (f y).length = sz) : ∀ (l : List α) (j i : Nat) (y : α) (p : PV), l[j]? = some y → (f y)[i]? = some p → (l.map f).flatten[j * sz + i]? = some p := by
  intro l
  induction l with
  | nil => intro j i y p h; simp at h
  | cons a l ih =>
    intro j i y p h k
    rw [List.map_cons, List.flatten_cons]
    cases j with
    | zero =>
      simp at h; subst h
      rw [Nat.zero_mul, Nat.zero_add, List.getElem?_append_left (by exact q3w k)]; exact k
    | succ j =>
      rw [List.getElem?_append_right (by rw [hsz, Nat.add_mul, Nat.one_mul]; omega), hsz]
      rw [show (j + 1) * sz + i - sz = j * sz + i by rw [Nat.add_mul, Nat.one_mul]; omega]
      exact ih j i y p (by simpa using h) k
theorem add_none (b o q : Nat) : (⟨b, o, none⟩ : Addr).add q = ⟨b, o + q, none⟩ := by unfold Addr.add; split <;> simp_all
theorem q7e {w : World} {M σ L} {v : Value} {l : List Pr} (h : VR w M σ L v (.sl (l.map Pr.enc))) (hl : l.length ≤ 1000000) : ∃ A c, v = .slice A (q2g l).length c ∧ kPr.C w A (q2g l).length (q2g l) ∧ (q2g l).length ≤ c := by
  rw [q4e]
  generalize hels : l.map Pr.enc = els0 at h
  cases h with
  | sl0 A cap =>
    have : l = [] := by simpa using hels
    subst this
    exact ⟨A, cap, rfl, ⟨rfl, by simp, fun h => absurd h (by simp)⟩, Nat.zero_le _⟩
  | sl b o sz cap els hc hs f hcell h =>
    subst hels
    refine ⟨some ⟨b, o, none⟩, cap, by simp, ⟨q4e l, by omega, fun _ => ⟨_, rfl, fun j p hj => ?_⟩⟩, by simpa using hc⟩
    unfold q2g at hj
    rw [List.getElem?_map] at hj
    obtain ⟨x, hx, rfl⟩ := Option.map_eq_some_iff.1 hj
    refine ⟨[.int .u64 x.cat, .int .i64 x.lev], rfl, ⟨[_], [_], rfl, rfl, rfl⟩, fun i u hu => ?_⟩
    have key : ∀ i p, (Pr.enc x)[i]? = some p → w.cell? ⟨b, o + (j * 2 + i), none⟩ = some (f (j * 2 + i)) ∧ VR w M σ L (f (j * 2 + i)) p := fun i p hip => by
      have := flat_put Pr.len l j i x p hx hip
      exact ⟨(hcell _ _ this).1, h _ _ this⟩
    have hk : kPr.sz = 2 := rfl
    rw [hk, add_none]
    match i, hu with
    | 0, hu =>
      simp at hu; subst hu
      obtain ⟨k1, k2⟩ := key 0 _ rfl
      rw [k1]; generalize f (j * 2 + 0) = u at k2; cases k2; rfl
    | 1, hu =>
      simp at hu; subst hu
      obtain ⟨k1, k2⟩ := key 1 _ rfl
      rw [k1]; generalize f (j * 2 + 1) = u at k2; cases k2; rfl
theorem vr_of_R {w : World} {M σ L} {e base : Nat} {ok : Nat → Prop} {v : Value} {l : List Pr} (hM : ∀ b o, M b o → b < base) (h : Kd.R kPr e w base ok v (q2g l)) : VR w M σ L v (.sl (l.map Pr.enc)) := by
  obtain ⟨_, inner, ⟨hlen, ho⟩, hr⟩ := h
  rw [q4e] at ho hlen
  rcases ho with ⟨rfl, h0⟩ | ⟨g, cap, cur, rfl, hb, hg, hn, hm, hs, ht⟩
  · have : l = [] := List.eq_nil_of_length_eq_zero h0
    subst this; exact .sl0 none 0
  · rcases Nat.eq_zero_or_pos l.length with h0 | hpos
    · have : l = [] := List.eq_nil_of_length_eq_zero h0
      subst this; exact .sl0 _ _
    · have hk : kPr.sz = 2 := rfl
      rw [hk] at hlen hs ht
      have each : ∀ q p, (l.map Pr.enc).flatten[q]? = some p → ∃ v, w.cell? ⟨g, 0 + q, none⟩ = some v ∧ v.oneCell' = true ∧ VR w M σ L v p := by
        intro q p hq
        obtain ⟨x, hx, hp⟩ := flat_get Pr.len (by decide) l q p hq
        have hj : (q2g l)[q / 2]? = some (x.cat, x.lev) := by unfold q2g; rw [List.getElem?_map, hx]; rfl
        have hc := hr.2 (q / 2) _ hj
        rw [hk] at hc
        obtain ⟨c0, c1, he, h1, h2⟩ := kPr.K_of_M hc
        have h1' : c0 = [.int .u64 x.cat] := h1
        have h2' : c1 = [.int .i64 x.lev] := h2
        subst h1' h2'
        have hq2 : q % 2 < 2 := Nat.mod_lt _ (by decide)
        have hcell : ∀ u, ([.int .u64 x.cat, .int .i64 x.lev] : List Value)[q % 2]? = some u → w.cell? ⟨g, 0 + q, none⟩ = some u := by
          intro u hu
          rw [cell_of_row w g _ cur e (0, 0) hg, Nat.zero_add]
          have e1 : ((inner.drop (q / 2 * 2)).take 2)[q % 2]? = some u := by rw [he]; exact hu
          rw [List.getElem?_take_of_lt hq2, List.getElem?_drop, Nat.div_add_mod' q 2, ← ht] at e1
          have hlt : q < l.length * 2 := by
            have := q3w hx
            omega
          rw [List.getElem?_take_of_lt hlt] at e1
          simpa using e1
        have hpx : Pr.enc x = [.int .u64 x.cat, .int .i64 x.lev] := rfl
        rw [hpx] at hp
        generalize q % 2 = r at hp hcell hq2
        match r, hp with
        | 0, hp => simp at hp; subst hp; exact ⟨_, hcell _ rfl, rfl, .int _ _⟩
        | 1, hp => simp at hp; subst hp; exact ⟨_, hcell _ rfl, rfl, .int _ _⟩
      have := VR.sl (w := w) (M := M) (σ := σ) (L := L) g 0 2 cap (l.map Pr.enc) (by simpa using hn) (fun e he => by obtain ⟨y, _, rfl⟩ := List.mem_map.1 he; rfl) (fun q => (w.cell? ⟨g, 0 + q, none⟩).getD (.bool false))
        (fun q p hq => by obtain ⟨v, k1, k2, k3⟩ := each q p hq; rw [k1]; exact ⟨rfl, fun hm => absurd (hM _ _ hm) (by omega), k2⟩) (fun q p hq => by obtain ⟨v, k1, k2, k3⟩ := each q p hq; rw [k1]; exact k3)
      simpa using this
theorem vl2 {w : World} {M σ L} {vs : List Value} {p q : PV} (h : VL w M σ L vs [p, q]) : ∃ v u, vs = [v, u] ∧ VR w M σ L v p ∧ VR w M σ L u q := by
  obtain ⟨h1, h2⟩ := h
  match vs, h1 with
  | [v, u], _ => exact ⟨v, u, rfl, h2 0 v p rfl rfl, h2 1 u q rfl rfl⟩
theorem vl1 {w : World} {M σ L} {vs : List Value} {p : PV} (h : VL w M σ L vs [p]) : ∃ v, vs = [v] ∧ VR w M σ L v p := by
  obtain ⟨h1, h2⟩ := h
  match vs, h1 with
  | [v], _ => exact ⟨v, rfl, h2 0 v p rfl rfl⟩
def labLeq (a b : List Pr) : Bool := leqB (q2g a) (q2g b)
theorem label_leq (a b : List Pr) (hl : a.length + b.length ≤ 1000000) : Pure Tryz.prog 245 [.sl (a.map Pr.enc), .sl (b.map Pr.enc)] (.bool (labLeq a b)) := by
  intro w M σ L vs hM hvl
  obtain ⟨v, u, rfl, h1, h2⟩ := vl2 hvl
  obtain ⟨A, c, rfl, hC, hc⟩ := q7e h1 (by omega)
  obtain ⟨B, d, rfl, hD, hd⟩ := q7e h2 (by omega)
  refine (leq_calls (q2g a) (q2g b) A B c d w hC hD hc hd (by rw [q4e, q4e]; exact hl)).mono ?_
  rintro e w' ⟨rfl, hb⟩
  exact ⟨_, rfl, .bool _, hb⟩
def q4c (l : List Pr) : List Pr := (q7y (fun a _ => raL a) (q2g l) []).map ofPair
theorem x0i (l : List Pr) (hl : l.length ≤ 1000000) : Pure Tryz.prog 226 [.sl (l.map Pr.enc)] (.sl ((q4c l).map Pr.enc)) := by
  intro w M σ L vs hM hvl
  obtain ⟨v, rfl, h1⟩ := vl1 hvl
  obtain ⟨A, c, rfl, hC, hc⟩ := q7e h1 hl
  refine (raise_calls (q2g l) A c w hC hc (by rw [q4e]; exact hl)).mono ?_
  rintro e w' ⟨v, rfl, hr, hb⟩
  have e1 : q2g (q4c l) = q7y (fun a _ => raL a) (q2g l) [] := by simp [q4c, q2g, ofPair, List.map_map, Function.comp_def]
  rw [← e1] at hr
  exact ⟨v, rfl, vr_of_R hM hr, hb⟩
end Go.Proofs.YtoibbedpaaeclaaGreat
end

section
namespace Go.Proofs.YtoibbedpaaeclaaGreat
open Go Go.RowKit
set_option linter.unusedVariables false
set_option linter.unusedSimpArgs false
set_option maxHeartbeats 16000000
set_option maxRecDepth 100000
attribute [local irreducible] q0i dr q0d Ex.then Ex.inBlock retQ q1n q2d q2c Pure CSat evOp q1i rdOf upd hset strip sp0 cut envL q1g q3i Keep BdL evBs q2n q2s
end Go.Proofs.YtoibbedpaaeclaaGreat
end

section
namespace Go.Proofs.YtoibbedpaaeclaaGreat
open Go Go.RowKit
set_option linter.unusedVariables false
set_option linter.unusedSimpArgs false
set_option maxHeartbeats 16000000
set_option maxRecDepth 100000
attribute [local irreducible] q0i dr q0d Ex.then Ex.inBlock retQ q1n q2d q2c Pure CSat evOp q1i rdOf upd hset strip sp0 cut envL q1g q3i Keep BdL evBs q2n q2s
theorem q5h {l : List Pr} (h : kept l = true) : l.length ≤ 16 := by
  unfold kept at h; simp only [Bool.and_eq_true, decide_eq_true_eq] at h; exact h.2.1
end Go.Proofs.YtoibbedpaaeclaaGreat
end

section
namespace Go.Proofs.YtoibbedpaaeclaaGreat
open Go Go.RowKit
set_option linter.unusedVariables false
set_option linter.unusedSimpArgs false
set_option maxHeartbeats 16000000
set_option maxRecDepth 100000
attribute [local irreducible] q0i dr q0d Ex.then Ex.inBlock retQ q1n q2d q2c Pure CSat evOp q1i rdOf upd hset strip sp0 cut envL q1g q3i Keep BdL evBs q2n q2s
def has (m : Mp) (p : Int) : Bool := decide (p ≥ m.va) && decide (p < IntKind.i64.wrap (m.va + m.n))
end Go.Proofs.YtoibbedpaaeclaaGreat
end

section
namespace Go.Proofs.YtoibbedpaaeclaaGreat
open Go Go.RowKit
set_option linter.unusedVariables false
set_option linter.unusedSimpArgs false
set_option maxHeartbeats 16000000
set_option maxRecDepth 100000
@[go_sem] theorem ne_succ (n : Nat) : (n = n + 1) = False := by simp
attribute [local irreducible] q0i dr q0d Ex.then Ex.inBlock retQ q1n q2d q2c Pure CSat evOp q1i rdOf upd hset strip sp0 cut envL q1g q3i Keep BdL evBs q2n q2s
end Go.Proofs.YtoibbedpaaeclaaGreat
end

section
namespace Go.Proofs.YtoibbedpaaeclaaGreat
open Go Go.RowKit
set_option linter.unusedVariables false
set_option linter.unusedSimpArgs false
set_option maxHeartbeats 16000000
set_option maxRecDepth 100000
attribute [local irreducible] q0i dr q0d Ex.then Ex.inBlock retQ q1n q2d q2c Pure CSat evOp q1i rdOf upd hset strip sp0 cut envL q1g q3i Keep BdL evBs q2n q2s
def shownOf (o : Ob) : List Pr := if (o.kind == 4) = true then q4c o.label else o.label
theorem obj_shown (o : Ob) (hl : o.label.length ≤ 900000) : Pure Tryz.prog 295 [.agg (Ob.enc o)] (.sl ((shownOf o).map Pr.enc)) := by
  refine q2p (by kernel_rfl) (by simp only [go_sem, *]) (by simp only [go_sem, *]) Tryz.func295 Tryz.results295 rfl (by simp [Tryz.ntmps295]) (by kernel_rfl) ?_
  have h := x0i o.label (by omega)
  repeat' (first | (show q0i ..; first | refine q0c ?_ | refine q0e rfl ?_) | (show q0k ..; first | refine q0f rfl rfl ?_ | refine q0l rfl ?_) | (show goOn ..; first | refine q0g ?_ | refine q1d ?_) | (show q1k ..; (refine q0r (r := ?_) ?_ ?_; rotate_left 1; (focus exact h))) | (show q0d ..; first | refine q0h ?_ | refine q0b ?_ | refine q0t ?_ | refine q0s ?_ | refine q0j ?_) | (show q0o ..; refine cd_n (fun _ => ?_) (fun _ => ?_)) | refine q0a ?_ | refine q2j ?_ | (show retQ ..; refine q0u ?_) | refine q0n ?_)
  all_goals (unfold shownOf; simp only [*, if_true, if_false, Bool.false_eq_true]; try rfl)
end Go.Proofs.YtoibbedpaaeclaaGreat
end

section
namespace Go.Proofs.YtoibbedpaaeclaaGreat
open Go Go.RowKit
set_option linter.unusedVariables false
set_option linter.unusedSimpArgs false
set_option maxHeartbeats 16000000
set_option maxRecDepth 100000
attribute [local irreducible] q0i dr q0d Ex.then Ex.inBlock retQ q1n q2d q2c Pure CSat evOp q1i rdOf upd hset strip sp0 cut envL q1g q3i Keep BdL evBs q2n q2s
def obAt (l : List Ob) (k : Nat) : Bool := match l[k]? with
  | none => true
  | some x => sound x && (match k with
    | 0 => true
    | j + 1 => match l[j]? with
      | some y => !decide (y.id ≥ x.id)
      | none => true)
def Wd.L (w : Wd) : Prop := w.objects.length ≤ 9223372036854775807 ∧ ∀ x ∈ w.objects, x.L ∧ x.label.length ≤ 900000
def q6q (w : Wd) : Bool := (!decide (w.time < 0) && (!decide (w.time > 1099511627776) && !decide ((w.objects.length : Int) > 1024))) && allB w.objects.length (obAt w.objects)
theorem r13_fit (w : Wd) (hw : w.L) : Pure Tryz.prog 53 [.agg (Wd.enc w)] (.bool (q6q w)) := by
  refine q2p (by kernel_rfl) (by simp only [go_sem, *]) (by simp only [go_sem, *]) Tryz.func53 Tryz.results53 rfl (by simp [Tryz.ntmps53]) (by kernel_rfl) ?_
  obtain ⟨hl, ho⟩ := hw
  repeat' (first | (show q0i ..; first | refine q0c ?_ | refine q0e rfl ?_ | refine q1a rfl rfl ?_) | (show q0k ..; refine q0f rfl rfl ?_) | (show goOn ..; first | refine q0g ?_ | refine q1d ?_) | (show wGo ..; first | refine q4b ?_ | refine q4y ?_ | refine gw_fb (fun _ => ?_) (fun _ => ?_)) | (show q0d ..; first | refine q0h ?_ | refine q0b ?_ | refine q0t ?_ | refine q0s ?_ | refine q0m ?_ | refine q0j ?_) | (show q0o ..; first | refine cd_t ?_ | refine cd_b (fun _ => ?_) (fun _ => ?_)) | refine q0a ?_ | refine q2j ?_ | (show retQ ..; refine q0u ?_) | refine q0n ?_)
  all_goals first | (refine q1u ?_; unfold q6q; simp only [*, Bool.not_true, Bool.not_false, Bool.and_true, Bool.true_and, Bool.and_false, Bool.false_and, Bool.or_true, Bool.true_or, Bool.or_false, Bool.false_or, Bool.and_self, Bool.or_self, decide_true, decide_false, Bool.not_not, if_true, if_false, Bool.false_eq_true, eq_self]; done) | skip
  rename_i t1 t2 t3
  refine q2l (S := Nat) (fun n => w.objects.length - n) (fun n => n ≤ w.objects.length ∧ ∀ j, j < n → obAt w.objects j = true) (fun n => [(1, .ptr 0 0), (3, .int .i64 n)]) (fun _ => [(0, .box (Wd.enc w))]) (fun _ => 1) 0 ⟨Nat.zero_le _, fun j hj => absurd hj (Nat.not_lt_zero j)⟩ (by (refine q1l ?_ ?_ <;> repeat' (first | exact q0v | exact q0y | refine q0p (by (try simp only [go_sem, *]); try rfl) (by simp only [go_sem, *]) ?_ | refine q0z (by (try simp only [go_sem, *]); try rfl) (by omega) (by simp only [go_sem, *]) ?_ | refine q0x (by (try simp only [go_sem, *]); try rfl) (by omega) (by simp only [go_sem, *]) ?_))) ?_
  rintro n ⟨hn, hs⟩
  have fin : ∀ b, allB w.objects.length (obAt w.objects) = b → b = q6q w := fun b hb => by unfold q6q; rw [hb, t1, t2, t3]; rfl
  rcases Nat.lt_or_ge n w.objects.length with hlt | hge
  · obtain ⟨x, hx⟩ := q2b hlt
    have h0 := q2h hlt
    have h4 := q2a n (by omega)
    have hq := r13_sound x (ho x (List.mem_of_getElem? hx)).1 (ho x (List.mem_of_getElem? hx)).2
    cases n with
    | zero =>
      have e : obAt w.objects 0 = (sound x && true) := by unfold obAt; rw [hx]
      repeat' (first | (show q0i ..; first | refine q0c ?_ | refine q0e rfl ?_) | (show q0k ..; refine q0f rfl rfl ?_) | (show goOn ..; refine q0g ?_) | (show wGo ..; first | refine q4b ?_ | refine q3r ?_ | refine q4y ?_ | refine gw_u ?_ | refine q9s (fun _ => ?_) (fun _ => ?_)) | (show dr ..; first | refine q1y ?_ | refine dr_n rfl ?_ | refine q5j rfl rfl ?_) | (show drGo ..; first | refine q2t rfl ?_ | refine q2k rfl ?_) | (show drOn ..; refine q1z ?_) | (show q2e ..; (refine q1f (r := ?_) ?_ ?_; rotate_left 1; (focus exact hq))) | (refine And.intro (by kernel_rfl : q1n _ = true) ?_) | (show q0d ..; first | refine q0h ?_ | refine q0b ?_ | refine q1o (by kernel_rfl) ?_ | refine q0t ?_ | refine q0s ?_ | refine q0m ?_ | refine q0j ?_) | (show q0o ..; first | refine cd_t ?_ | refine cd_f ?_) | refine q0a ?_ | refine q2j ?_ | refine q0q ?_ | refine q3k ?_ | (show retQ ..; refine q0u ?_) | refine q0n ?_)
      all_goals first
        | (refine q1u (fin _ (q2o hlt ?_)); simp only [*, Bool.not_true, Bool.not_false, Bool.and_true, Bool.true_and, Bool.and_false, Bool.false_and, Bool.or_true, Bool.true_or, Bool.or_false, Bool.false_or, Bool.and_self, Bool.or_self, decide_true, decide_false, Bool.not_not, if_true, if_false, Bool.false_eq_true, eq_self])
        | (refine again (0 + 1) ⟨?_, q5d hs ?_⟩ ?_ (by (refine q1l ?_ ?_ <;> repeat' (first | exact q0v | exact q0y | refine q0p (by (try simp only [go_sem, *]); try rfl) (by simp only [go_sem, *]) ?_ | refine q0z (by (try simp only [go_sem, *]); try rfl) (by omega) (by simp only [go_sem, *]) ?_ | refine q0x (by (try simp only [go_sem, *]); try rfl) (by omega) (by simp only [go_sem, *]) ?_))); (focus omega); (focus simp only [*, Bool.not_true, Bool.not_false, Bool.and_true, Bool.true_and, Bool.and_false, Bool.false_and, Bool.or_true, Bool.true_or, Bool.or_false, Bool.false_or, Bool.and_self, Bool.or_self, decide_true, decide_false, Bool.not_not, if_true, if_false, Bool.false_eq_true, eq_self]); (focus omega))
    | succ j =>
      obtain ⟨y, hy⟩ := q2b (by omega : j < w.objects.length)
      have h5 := x0n j (by omega)
      have h6 := gt_prev j
      have e : obAt w.objects (j + 1) = (sound x && !decide (y.id ≥ x.id)) := by unfold obAt; rw [hx]; simp only [hy]
      repeat' (first | (show q0i ..; first | refine q0c ?_ | refine q0e rfl ?_) | (show q0k ..; refine q0f rfl rfl ?_) | (show goOn ..; refine q0g ?_) | (show wGo ..; first | refine q3h ?_ | refine q4b ?_ | refine q4y ?_ | refine gw_u ?_ | refine q9s (fun _ => ?_) (fun _ => ?_)) | (show dr ..; first | refine q1y ?_ | refine dr_n rfl ?_ | refine q5j rfl rfl ?_) | (show drGo ..; first | refine q2t rfl ?_ | refine q2k rfl ?_) | (show drOn ..; refine q1z ?_) | (show q2e ..; (refine q1f (r := ?_) ?_ ?_; rotate_left 1; (focus exact hq))) | (refine And.intro (by kernel_rfl : q1n _ = true) ?_) | (show q0d ..; first | refine q0h ?_ | refine q0b ?_ | refine q1o (by kernel_rfl) ?_ | refine q0t ?_ | refine q0s ?_ | refine q0m ?_ | refine q0j ?_) | (show q0o ..; first | refine cd_t ?_ | refine cd_b (fun _ => ?_) (fun _ => ?_)) | refine q0a ?_ | refine q2j ?_ | refine q0q ?_ | refine q3k ?_ | (show retQ ..; refine q0u ?_) | refine q0n ?_)
      all_goals first
        | (refine q1u (fin _ (q2o hlt ?_)); simp only [*, Bool.not_true, Bool.not_false, Bool.and_true, Bool.true_and, Bool.and_false, Bool.false_and, Bool.or_true, Bool.true_or, Bool.or_false, Bool.false_or, Bool.and_self, Bool.or_self, decide_true, decide_false, Bool.not_not, if_true, if_false, Bool.false_eq_true, eq_self])
        | (refine again (j + 1 + 1) ⟨?_, q5d hs ?_⟩ ?_ (by (refine q1l ?_ ?_ <;> repeat' (first | exact q0v | exact q0y | refine q0p (by (try simp only [go_sem, *]); try rfl) (by simp only [go_sem, *]) ?_ | refine q0z (by (try simp only [go_sem, *]); try rfl) (by omega) (by simp only [go_sem, *]) ?_ | refine q0x (by (try simp only [go_sem, *]); try rfl) (by omega) (by simp only [go_sem, *]) ?_))); (focus omega); (focus simp only [*, Bool.not_true, Bool.not_false, Bool.and_true, Bool.true_and, Bool.and_false, Bool.false_and, Bool.or_true, Bool.true_or, Bool.or_false, Bool.false_or, Bool.and_self, Bool.or_self, decide_true, decide_false, Bool.not_not, if_true, if_false, Bool.false_eq_true, eq_self]); (focus omega))
  · have h0 := q1q hge
    repeat' (first | (show q0i ..; first | refine q0c ?_ | refine q0e rfl ?_) | (show q0k ..; refine q0f rfl rfl ?_) | (show goOn ..; refine q0g ?_) | (show q0d ..; first | refine q0h ?_ | refine q0b ?_ | refine q0t ?_ | refine q1s ?_ | refine q0j ?_) | (show q0o ..; refine cd_f ?_) | refine q0a ?_ | refine q1r ?_ | refine q1t ?_ | (show retQ ..; refine q0u ?_) | refine q0n ?_)
    exact q1u (fin _ (q2m fun j hj => hs j (by omega)))
end Go.Proofs.YtoibbedpaaeclaaGreat
end

section
namespace Go.Proofs.YtoibbedpaaeclaaGreat
open Go Go.RowKit
set_option linter.unusedVariables false
set_option linter.unusedSimpArgs false
set_option maxHeartbeats 16000000
set_option maxRecDepth 100000
attribute [local irreducible] q0i dr q0d Ex.then Ex.inBlock retQ q1n q2d q2c Pure CSat evOp q1i rdOf upd hset strip sp0 cut envL q1g q3i Keep BdL evBs q2n q2s
def briefOb (o : Ob) : Bool := decide ((o.label.length : Int) ≤ 20) && (decide ((o.links.length : Int) ≤ 80) && (decide ((o.data.length : Int) ≤ 200) && (decide ((o.maps.length : Int) ≤ 20) && (decide ((o.inn.length : Int) ≤ 80) && (decide ((o.out.length : Int) ≤ 80) && decide ((o.thread.alerts.length : Int) ≤ 20))))))
end Go.Proofs.YtoibbedpaaeclaaGreat
end
