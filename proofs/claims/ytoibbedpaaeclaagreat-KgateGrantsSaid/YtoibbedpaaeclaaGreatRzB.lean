import Derived.Test.YtoibbedpaaeclaaGreatRz9
import Derived.Test.YtoibbedpaaeclaaGreatRz8
import Derived.Test.YtoibbedpaaeclaaGreatRz6
import Derived.Test.YtoibbedpaaeclaaGreatRzA
import Derived.Test.YtoibbedpaaeclaaGreatRz3
section
namespace Go.Proofs.YtoibbedpaaeclaaGreat
open Go Go.RowKit
set_option linter.unusedVariables false
set_option linter.unusedSimpArgs false
def q7z : Code → Bool
  | .skip => true
  | .exit _ => true
  | .ret => true
  | .region _ ops draw => !draw && ops.all (fun o => match o.op with | .defer _ => false | _ => true)
  | .seq x y => q7z x && q7z y
  | .cond _ x y => q7z x && q7z y
  | .block _ x => q7z x
  | _ => false
section
variable {P : Program} {w0 : World} {M0 : Nat → Nat → Prop} {σ0 : Nat → Gh} {H0 : Heap} {m0 nt : Nat} {ds : List Deferred}
theorem x0f {m0 m1 : Nat} : ∀ (c : Code) (Q : Ex → Env → Heap → Nat → Prop), q7z c = true → q0d P m0 c Q = q0d P m1 c Q := by
  intro c
  induction c with
  | skip => intro Q _; rfl
  | region id ops draw => intro Q _; rfl
  | seq x y ihx ihy =>
    intro Q h
    simp only [q7z, Bool.and_eq_true] at h
    simp only [q0d]
    rw [ihy _ h.2, ihx _ h.1]
  | cond c x y ihx ihy =>
    intro Q h
    simp only [q7z, Bool.and_eq_true] at h
    simp only [q0d]
    rw [ihy _ h.2, ihx _ h.1]
  | block id x ih =>
    intro Q h
    simp only [q7z] at h
    simp only [q0d]
    rw [ih _ h]
  | exit id => intro Q _; rfl
  | ret => intro Q _; rfl
  | _ => intro _ h; simp [q7z] at h
theorem qq_outs {Q : Ex → Env → Heap → Nat → Prop} : ¬ LetsOut (QQ w0 M0 σ0 H0 m0 nt ds Q) := by
  rintro ⟨a, w, ex, env, H, m, σ, _, _, h⟩
  cases ex <;> exact h.elim
/-- In a round: code without loops. -/
theorem pwCode_round (hm : P.follows .mixedOrders = true) {l : Nat} : ∀ (c : Code) (Q : Ex → Env → Heap → Nat → Prop) (a : Act) (w : World) (env : Env) (H : Heap) (m : Nat) (σ : Nat → Gh), q7z c = true → q4n nt c = true →
    St w0 M0 σ0 H0 m0 nt ds a w env H m σ → q0d P m0 c Q env H m → c.wpIn (Fence.wide.inRound l) 0 P (QQ w0 M0 σ0 H0 m0 nt ds Q) a w := by
  intro c
  induction c with
  | skip => intro Q a w env H m σ hf hd hS h; exact wpIn_skip ⟨.normal, env, H, m, σ, h, hS, trivial⟩
  | region id ops draw =>
    intro Q a w env H m σ hf hd hS h
    have hdst : ∀ o ∈ ops, ∀ x, o.dst = some x → x < nt := fun o ho x hx => by
      have := Array.all_eq_true_iff_forall_mem.1 hd o ho
      rw [hx] at this; simpa using this
    cases draw with
    | false =>
      simp only [q7z, Bool.not_false, Bool.true_and] at hf
      cases ops with
      | mk l => exact region_round hf qq_outs (x0d l a w env H m σ hS (fun o ho => hdst o (Array.mem_toList_iff.1 ho)) h)
    | true => simp [q7z] at hf
  | seq x y ihx ihy =>
    intro Q a w env H m σ hf hd hS h
    simp only [q4n, Bool.and_eq_true] at hd
    simp only [q7z, Bool.and_eq_true] at hf
    refine wpIn_seq (wpIn_mono (ihx _ a w env H m σ hf.1 hd.1 hS h) (qq_then fun a' w' env' H' m' σ' hn hS' => ihy Q a' w' env' H' m' σ' hf.2 hd.2 hS' hn))
  | cond c x y ihx ihy =>
    intro Q a w env H m σ hf hd hS h
    simp only [q4n, Bool.and_eq_true] at hd
    simp only [q7z, Bool.and_eq_true] at hf
    simp only [q0d] at h
    split at h
    · rename_i b hb
      have hv := hS.eval c
      rw [hb] at hv
      have hc : a.eval c = .bool b := by generalize a.eval c = u at hv; cases hv; rfl
      refine wpIn_cond hc ?_
      cases b with
      | true => exact ihx Q a w env H m σ hf.1 hd.1 hS (h.1 rfl)
      | false => exact ihy Q a w env H m σ hf.2 hd.2 hS (h.2 rfl)
    · exact h.elim
  | block id x ih =>
    intro Q a w env H m σ hf hd hS h
    refine wpIn_block (wpIn_mono (ih _ a w env H m σ hf hd hS h) ?_)
    rintro e a' w' ⟨ex, env', H', m', σ', hq, hS', hr⟩
    cases e <;> cases ex <;> first
      | exact hr.elim
      | exact ⟨_, env', H', m', σ', hq, hS', hr⟩
      | (have hr' : _ = _ := hr
         subst hr'
         simp only [Exit.inBlock, Ex.inBlock] at hq ⊢
         split
         · rename_i he; rw [if_pos he] at hq; exact ⟨.normal, env', H', m', σ', hq, hS', trivial⟩
         · rename_i he; rw [if_neg he] at hq; exact ⟨_, env', H', m', σ', hq, hS', rfl⟩)
  | exit id => intro Q a w env H m σ hf hd hS h; exact wpIn_exit ⟨.exit id, env, H, m, σ, h, hS, rfl⟩
  | ret => intro Q a w env H m σ hf hd hS h; exact wpIn_ret ⟨.ret, env, H, m, σ, h, hS, trivial⟩
  | _ => intro _ _ _ _ _ _ _ h; simp [q7z] at h
inductive FrontS : Code → Code → Code → Code → Prop
  | r {x y z : Code} : FrontS x y z (x.seq (y.seq z))
  | l {x y z : Code} : FrontS x y z ((x.seq y).seq z)
  | more {x' x y z b : Code} (h : FrontS x y z b) : FrontS (x'.seq x) y z (x'.seq b)
theorem front_inS (hm : P.follows .mixedOrders = true) (hfree : ∀ i, m0 ≤ i → H0 i = none) {R : Exit → Act → World → Prop} {x y z b : Code} (hF : FrontS x y z b) :
    ∀ {K : Env → Heap → Nat → Prop} {a : Act} {w : World} {env : Env} {H : Heap} {m : Nat} {σ : Nat → Gh}, q4n nt x = true → St w0 M0 σ0 H0 m0 nt ds a w env H m σ → q0d P m0 x (fun ex env H' m' => ex = .normal ∧ K env H' m') env H m →
      (∀ a' w' env' H' m' σ', K env' H' m' → St w0 M0 σ0 H0 m0 nt ds a' w' env' H' m' σ' → y.wpIn Fence.wide 0 P (Exit.then (z.wpIn Fence.wide 0 P R) R) a' w') → b.wpIn Fence.wide 0 P R a w := by
  induction hF with
  | r =>
    intro K a w env H m σ hd hS h hz
    refine wpIn_seq (wpIn_wide.2 (wp_mono (q3d hm hfree _ _ a w env H m σ hd hS h) ?_))
    rintro e a' w' ⟨ex, env', H', m', σ', ⟨rfl, hq⟩, hS', hx⟩
    cases e <;> first | exact hx.elim | skip
    exact wpIn_seq (hz _ _ _ _ _ _ hq hS')
  | l =>
    intro K a w env H m σ hd hS h hz
    refine wpIn_seq (wpIn_seq (wpIn_wide.2 (wp_mono (q3d hm hfree _ _ a w env H m σ hd hS h) ?_)))
    rintro e a' w' ⟨ex, env', H', m', σ', ⟨rfl, hq⟩, hS', hx⟩
    cases e <;> first | exact hx.elim | skip
    exact hz _ _ _ _ _ _ hq hS'
  | more hF ih =>
    intro K a w env H m σ hd hS h hz
    simp only [q4n, Bool.and_eq_true] at hd
    refine wpIn_seq (wpIn_wide.2 (wp_mono (q3d hm hfree _ _ a w env H m σ hd.1 hS h) ?_))
    rintro e a' w' ⟨ex, env', H', m', σ', hq, hS', hx⟩
    cases ex <;> first | exact absurd hq.1 (by intro h; cases h) | skip
    cases e <;> first | exact hx.elim | skip
    exact ih hd.2 hS' hq hz
theorem front_in (hm : P.follows .mixedOrders = true) (hfree : ∀ i, m0 ≤ i → H0 i = none) {R : Exit → Act → World → Prop} {x z b : Code} (hF : Front x z b) :
    ∀ {K : Env → Heap → Nat → Prop} {a : Act} {w : World} {env : Env} {H : Heap} {m : Nat} {σ : Nat → Gh}, q4n nt x = true → St w0 M0 σ0 H0 m0 nt ds a w env H m σ → q0d P m0 x (fun ex env H' m' => ex = .normal ∧ K env H' m') env H m →
      (∀ a' w' env' H' m' σ', K env' H' m' → St w0 M0 σ0 H0 m0 nt ds a' w' env' H' m' σ' → z.wpIn Fence.wide 0 P R a' w') → b.wpIn Fence.wide 0 P R a w := by
  induction hF with
  | one =>
    intro K a w env H m σ hd hS h hz
    refine wpIn_seq (wpIn_wide.2 (wp_mono (q3d hm hfree _ _ a w env H m σ hd hS h) ?_))
    rintro e a' w' ⟨ex, env', H', m', σ', ⟨rfl, hq⟩, hS', hx⟩
    cases e <;> first | exact hx.elim | skip
    exact hz _ _ _ _ _ _ hq hS'
  | more hF ih =>
    intro K a w env H m σ hd hS h hz
    simp only [q4n, Bool.and_eq_true] at hd
    refine wpIn_seq (wpIn_wide.2 (wp_mono (q3d hm hfree _ _ a w env H m σ hd.1 hS h) ?_))
    rintro e a' w' ⟨ex, env', H', m', σ', hq, hS', hx⟩
    cases ex <;> first | exact absurd hq.1 (by intro h; cases h) | skip
    cases e <;> first | exact hx.elim | skip
    exact ih hd.2 hS' hq hz
end
/-- Other blocks change. -/
theorem HR.ev {A B : World} {M M' : Nat → Nat → Prop} {σ : Nat → Gh} {H : Heap} {X : Nat → Prop} (h : HR A M σ H) (he : EvB X A B) (hm : ∀ b o, M' b o → b < B.heap.size) (hX : ∀ b o v, A.cell? ⟨b, o, none⟩ = some v → X b → M b o)
    (hXb : ∀ id, H id ≠ none → ¬ X (σ id).blk) (hM : ∀ b o v, A.cell? ⟨b, o, none⟩ = some v → M' b o → M b o) (hsep : ∀ id, H id ≠ none → ∀ o, ¬ M' (σ id).blk o) : HR B M' σ H ∧ Ext A (MU M σ H) σ (LV H) B (MU M' σ H) σ (LV H) := by
  have E : Ext A (MU M σ H) σ (LV H) B (MU M' σ H) σ (LV H) := ⟨fun b o v h1 h2 => ⟨q5r h1 (he.block b (q3j h1) (fun hx => h2 (.inl (hX b o v h1 hx)))), by
    rintro (h3 | h3 | h3)
    · exact h2 (.inl (hM b o v h1 h3))
    · exact h2 (.inr (.inl h3))
    · exact h2 (.inr (.inr h3))⟩, fun id hid => ⟨hid, .inl rfl⟩⟩
  have hb : ∀ id, H id ≠ none → B.heap[(σ id).blk]? = A.heap[(σ id).blk]? := fun id hid => he.block _ (h.lt hid) (hXb id hid)
  refine ⟨⟨hm, hsep, h.inj, fun id l hl => ?_, fun id e sz els hl => ?_⟩, E⟩
  · obtain ⟨h1, c, t, h2, hsh, h3⟩ := h.box id l hl
    exact ⟨h1, c, t, (hb id (by rw [hl]; simp)).trans h2, hsh, h3.mono E⟩
  · obtain ⟨h1, h2, h3, xs, h4, h5⟩ := h.row id e sz els hl
    exact ⟨h1, h2, h3, xs, q4p h4 (hb id (by rw [hl]; simp)), h5.mono E⟩
/-- Fewer own boxes. -/
theorem HR.part {w : World} {M M' : Nat → Nat → Prop} {σ : Nat → Gh} {H H' : Heap} (h : HR w M σ H) (hrow : ∀ id e sz els, H id ≠ some (.row e sz els)) (hsub : ∀ id, H' id = H id ∨ H' id = none) (hm0 : ∀ b o, M' b o → b < w.heap.size)
    (hsep : ∀ id, H' id ≠ none → ∀ o, ¬ M' (σ id).blk o) (hmu : ∀ b o, M' b o → MU M σ H b o) (hbd : ∀ id l, H' id = some (.box l) → ∀ p ∈ l, Bd (LV H') p) : HR w M' σ H' ∧ (∀ v p, VV w M σ H v p → Bd (LV H') p → VV w M' σ H' v p) := by
  have hs : ∀ i, H' i ≠ none → H' i = H i := fun i hi => (hsub i).resolve_right hi
  have hs' : ∀ i, H' i ≠ none → H i ≠ none := fun i hi => by rw [← hs i hi]; exact hi
  have hmu' : ∀ b o, MU M' σ H' b o → MU M σ H b o := by
    rintro b o (h | ⟨id, l, h1, h2⟩ | ⟨id, e, sz, els, h1, h2, h3⟩)
    · exact hmu b o h
    · exact .inr (.inl ⟨id, l, by rw [← hs id (by rw [h1]; simp)]; exact h1, h2⟩)
    · exact absurd (by rw [← hs id (by rw [h1]; simp)]; exact h1) (hrow id e sz els)
  have hvr : ∀ v p, VV w M σ H v p → Bd (LV H') p → VV w M' σ H' v p := fun v p hv hb => hv.bd (fun b o u _ h1 h2 => h1 (hmu' b o h2)) (fun id hid => ⟨hid, rfl⟩) hb
  refine ⟨⟨hm0, hsep, fun i j hi hj => h.inj i j (hs' i hi) (hs' j hj), fun id l hl => ?_, fun id e sz els hl => ?_⟩, hvr⟩
  · obtain ⟨h1, c, t, h2, hsh, h3⟩ := h.box id l (by rw [← hs id (by rw [hl]; simp)]; exact hl)
    exact ⟨h1, c, t, h2, hsh, h3.len, h3.one, fun i v p hv hp => hvr _ _ (h3.rel i v p hv hp) (hbd id l hl p (q3m hp))⟩
  · exact absurd (by rw [← hs id (by rw [hl]; simp)]; exact hl) (hrow id e sz els)
theorem Fr.evB {w w' : World} {M σ H σ' H'} (h : Fr w M σ H w' σ' H') : EvB (fun b => ∃ i, H i ≠ none ∧ (σ i).blk = b) w w' := ⟨h.os, h.tape, h.output, h.size, fun k hk hn => h.block k hk (fun id hid e => hn ⟨id, hid, e⟩)⟩
theorem Fr.kept {w w' : World} {M σ H σ' H'} (h : Fr w M σ H w' σ' H') {kp : Nat → Prop} (hk : ∀ id, H id ≠ none → ¬ kp (σ id).blk) : Kept kp w w' := Kept.of_ev h.evB (fun k ⟨i, h1, h2⟩ hkp => hk i h1 (h2 ▸ hkp))
/-- An iterator's contract: it hands out xs, one by one; of what there is it writes blocks of 'own' alone; what its caller owns ('C') may be another one behind each, and nothing else that there is. -/
def SeqJ {α : Type} (P : Program) (g : Nat) (lb : Array Value) (encs : α → Array Value) (own C0 : Nat → Prop) (xs : List α) (w : World) : Prop :=
  ∀ (l : Nat) (J : Nat → (Nat → Prop) → World → Prop) (Jx : World → Prop) (C : Nat → Prop) (W : World), Below w.heap.size w W → (∀ b, C b → C0 b ∨ w.heap.size ≤ b) → (∀ k C A, J k C A → ∀ b, C b → b < A.heap.size) →
    (∀ k C A B, J k C A → EvB own A B → J k C B) → (∀ A B, Jx A → EvB own A B → Jx B) →
    (∀ k C (x : α) W1, xs[k]? = some x → J k C W1 → YieldAt Fence.wide 0 P l (encs x) W1 fun e W' =>
      (e = .returned (.bool true) ∧ Kept (fun b => ¬ C b) W1 W' ∧ ∃ C', (∀ b, C' b → C b ∨ W1.heap.size ≤ b) ∧ J (k + 1) C' W') ∨ (e = .returned (.bool false) ∧ Jx W')) →
    J 0 C W → CallsIn Fence.wide 0 P g (#[.func (.yield l) #[] #[]] ++ lb) W fun e W' => (∃ v, e = .returned v) ∧ ((∃ C, J xs.length C W') ∨ Jx W')
/-- How a round's body may be left. -/
def roundJ (keep : Nat → Prop) (I : Nat → (Nat → Prop) → World → Prop) (Ix : Code → World → Prop) (k n : Nat) (C : Nat → Prop) (W : World) : Exit → Act → World → Prop
  | .normal, _, W' => Kept keep W W' ∧ Kept (fun b => ¬ C b ∧ b < n) W W' ∧ ∃ C', (∀ b, C' b → C b ∨ n ≤ b) ∧ I (k + 1) C' W'
  | .ret, _, W' => Kept keep W W' ∧ Ix .ret W'
  | .exit id, _, W' => Kept keep W W' ∧ Ix (.exit id) W'
  | .goto t, _, W' => Kept keep W W' ∧ Ix (.goto t) W'
  | .panic _, _, _ => False
  | .outgrown, _, _ => False
theorem Kept.imp' {kp kp' : Nat → Prop} {A B : World} (h : Kept kp A B) (hk : ∀ k, k < A.heap.size → kp' k → kp k) : Kept kp' A B := ⟨h.os, h.tape, h.output, h.size, fun i hi ho => h.block i hi (hk i hi ho)⟩
theorem range_law2 {α : Type} {P : Program} {n : Nat} {g : Operand} {ps : Array Tmp} {assign body : Code} {Q : Exit → Act → World → Prop} {a : Act} {w : World}
    {gf : Nat} {lb : Array Value} (hg : a.eval g = .func (.func gf) #[] lb) (eg : ∀ args w, (callFunc gf args).run P w = .ok (.enter gf args) w)
    {encs : α → Array Value} {own C0 : Nat → Prop} {xs : List α} (hseq : SeqJ P gf lb encs own C0 xs w) (hps : ∀ x, (encs x).size = ps.size)
    (hown : ∀ k, own k → k < w.heap.size) (hC0 : ∀ k, C0 k → k < w.heap.size)
    (I : Nat → (Nat → Prop) → World → Prop) (Ix : Code → World → Prop) (hIC : ∀ k C A, I k C A → ∀ b, C b → b < A.heap.size)
    (hI : ∀ k C A B, I k C A → EvB (fun i => own i ∨ i = w.heap.size ∨ i = w.heap.size + 1) A B → I k C B)
    (hIx : ∀ c A B, Ix c A → EvB (fun i => own i ∨ i = w.heap.size ∨ i = w.heap.size + 1) A B → Ix c B)
    (h0 : I 0 C0 w)
    (hround : ∀ (k : Nat) (C : Nat → Prop) (x : α) (W : World), xs[k]? = some x → I k C W → w.heap.size + 2 ≤ W.heap.size →
      assign.wpIn (Fence.wide.inRound (w.heap.size + 1)) 0 P (Exit.then (fun a1 W1 => Kept (fun i => i = w.heap.size ∨ i = w.heap.size + 1) W W1 ∧ Kept (fun b => ¬ C b) W W1 ∧
          ∀ W2, EvB (fun i => i = w.heap.size ∨ i = w.heap.size + 1) W1 W2 → body.wpIn (Fence.wide.inRound (w.heap.size + 1)) 0 P (roundJ (fun i => i = w.heap.size ∨ i = w.heap.size + 1) I Ix k W.heap.size C W2) a1 W2) (fun _ _ _ => False))
        { tmps := (ps.zip (encs x)).foldl (fun t (p, v) => t.setIfInBounds p v) a.tmps, defers := [] } W)
    (hdone : ∀ C W, I xs.length C W → w.heap.size + 2 ≤ W.heap.size → W.heap[w.heap.size]? = some (.deferred (some [])) → Q .normal { a with defers := { target := .collected w.heap.size, args := #[] } :: a.defers } W)
    (hstop : ∀ c W, Ix c W → w.heap.size + 2 ≤ W.heap.size → W.heap[w.heap.size]? = some (.deferred (some [])) → c.wpIn Fence.wide n P Q { a with defers := { target := .collected w.heap.size, args := #[] } :: a.defers } W) :
    (Code.rangeFunc g ps assign body).wpIn Fence.wide n P Q a w := by
  refine wpIn_rangeFunc ?_
  intro fn hfn
  obtain ⟨rec, hrec⟩ : ∃ rec : LoopState → Option Code → Loop, rec = fun st pe => { state := st, pending := pe, fn, tmps := a.tmps, params := ps, assign, body, defers := w.heap.size } := ⟨_, rfl⟩
  obtain ⟨W1, hW1⟩ : ∃ W1, (w.alloc (.deferred (some []))).alloc (.loop (rec .ready none)) = W1 := ⟨_, rfl⟩
  have hL1 : W1.heap[w.heap.size + 1]? = some (.loop (rec .ready none)) := by
    rw [← hW1]; have := World.alloc_heap_new (w.alloc (.deferred (some []))) (.loop (rec .ready none)); rwa [World.size_alloc] at this
  have hK1 : W1.heap[w.heap.size]? = some (.deferred (some [])) := by
    rw [← hW1]; exact (Below.heap_alloc _ _ _ (by simp)).trans (World.alloc_heap_new w _)
  have hb1 : Below w.heap.size w W1 := by
    rw [← hW1]; exact ((Below.refl _ w).alloc (Nat.le_refl _) _).alloc (by simp) _
  have hI1 : I 0 C0 W1 := hI _ _ _ _ h0 (EvB.ofB _ hb1)
  refine ⟨w.heap.size + 1, [{ target := .collected w.heap.size, args := #[] }], W1, { target := .fn (.func gf) lb, args := #[.func (.yield (w.heap.size + 1)) #[] #[]] }, W1, gf,
    #[.func (.yield (w.heap.size + 1)) #[] #[]] ++ lb, W1, ?_, ?_, ?_, ?_, fun h => by simp [Fence.wide] at h, ?_⟩
  · rw [← hW1, hrec]; exact run_enterLoop_outer _ _ _ _ _
  · simp only [resolve, hg]
    simp [go_sem]
  · intro f' hf'; trivial
  · simp [invoke, go_sem, eg]
  · have hev : ∀ {A B : World}, EvB own A B → EvB (fun i => own i ∨ i = w.heap.size ∨ i = w.heap.size + 1) A B := fun h => h.imp (fun _ _ => .inl)
    have hin : ∀ {A B : World} {i : Nat} {o : Obj}, EvB own A B → i = w.heap.size ∨ i = w.heap.size + 1 → A.heap[i]? = some o → B.heap[i]? = some o := fun {A B i o} h hi ho =>
      (h.block i (Array.getElem?_eq_some_iff.1 ho).1 (fun e => by have := hown i e; omega)).trans ho
    refine x1b ((hseq (w.heap.size + 1)
      (fun k D W => ∃ C, (∀ b, D b ↔ C b ∨ b = w.heap.size ∨ b = w.heap.size + 1) ∧ I k C W ∧ W.heap[w.heap.size + 1]? = some (.loop (rec .ready none)) ∧ W.heap[w.heap.size]? = some (.deferred (some [])))
      (fun W => ∃ c, Ix c W ∧ W.heap[w.heap.size + 1]? = some (.loop (rec .done (some c))) ∧ W.heap[w.heap.size]? = some (.deferred (some [])))
      (fun b => C0 b ∨ b = w.heap.size ∨ b = w.heap.size + 1)
      W1 hb1 (fun b hb => by rcases hb with h | h | h <;> first | exact .inl h | exact .inr (by omega))
      (fun k D A hs b hb => by
        obtain ⟨C, hD, hi, hl, hk⟩ := hs
        have l1 := (Array.getElem?_eq_some_iff.1 hl).1
        rcases (hD b).1 hb with h | h | h
        · exact hIC k C A hi b h
        · omega
        · omega)
      (fun k D A B hs he => by
        obtain ⟨C, hD, hi, hl, hk⟩ := hs
        exact ⟨C, hD, hI k C A B hi (hev he), hin he (.inr rfl) hl, hin he (.inl rfl) hk⟩)
      (fun A B hs he => by
        obtain ⟨c, hc, hl, hk⟩ := hs
        exact ⟨c, hIx c A B hc (hev he), hin he (.inr rfl) hl, hin he (.inl rfl) hk⟩)
      ?_ ⟨C0, fun _ => Iff.rfl, hI1, hL1, hK1⟩).mono ?_)
    · -- one round
      rintro k D x W hx ⟨C, hD, hi, hl, hk⟩
      have hlt : w.heap.size + 1 < W.heap.size := (Array.getElem?_eq_some_iff.1 hl).1
      have hy := run_yield (P := P) (args := encs x) hl (by rw [hrec]; exact hps x)
      rw [hrec] at hy
      refine ⟨fn, _, assign, body, hy, roundIn_of_wpIn hfn (wpIn_mono (hround k C x W hx hi (by omega)) ?_)⟩
      clear hy
      rintro e a1 Wa hp
      cases e with
      | normal =>
        obtain ⟨hkr, hkk, hbody⟩ := hp
        have hla : Wa.heap[w.heap.size + 1]? = some (.loop (rec .ready none)) := (hkr.block _ (by omega) (.inr rfl)).trans hl
        have hka : Wa.heap[w.heap.size]? = some (.deferred (some [])) := (hkr.block _ (by omega) (.inl rfl)).trans hk
        have hlta : w.heap.size + 1 < Wa.heap.size := (Array.getElem?_eq_some_iff.1 hla).1
        refine ⟨_, run_beginRound hla (by rw [hrec]), ?_⟩
        obtain ⟨W2, hW2⟩ : ∃ W2, Wa.putObj (w.heap.size + 1) (.loop { rec .ready none with state := .busy }) = W2 := ⟨_, rfl⟩
        rw [hW2]
        have he2 : EvB (fun i => i = w.heap.size ∨ i = w.heap.size + 1) Wa W2 := by rw [← hW2]; exact (EvB.refl _ _).putObj (.inr rfl) _
        have hl2 : W2.heap[w.heap.size + 1]? = some (.loop { rec .ready none with state := .busy }) := by rw [← hW2]; exact World.putObj_heap_same hlta
        have hk2 : W2.heap[w.heap.size]? = some (.deferred (some [])) := by rw [← hW2]; exact (World.putObj_heap_other (by omega)).trans hka
        refine wpIn_mono (hbody W2 he2) ?_
        have fin : ∀ (jump : Option Code) (W3 : World), Kept (fun i => i = w.heap.size ∨ i = w.heap.size + 1) W2 W3 →
            ∃ W4, (Instr.endRound (w.heap.size + 1) jump).run P W3 = .ok (.bool jump.isNone) W4 ∧ EvB (fun i => i = w.heap.size ∨ i = w.heap.size + 1) W3 W4 ∧
            W4.heap[w.heap.size + 1]? = some (.loop (rec (if jump.isNone then .ready else .done) jump)) ∧ W4.heap[w.heap.size]? = some (.deferred (some [])) := fun jump W3 hk3 => by
          have hl3 : W3.heap[w.heap.size + 1]? = some (.loop { rec .ready none with state := .busy }) := (hk3.block _ (Array.getElem?_eq_some_iff.1 hl2).1 (.inr rfl)).trans hl2
          have hk3' : W3.heap[w.heap.size]? = some (.deferred (some [])) := (hk3.block _ (Array.getElem?_eq_some_iff.1 hk2).1 (.inl rfl)).trans hk2
          have hrun := run_endRound (P := P) jump hl3
          rw [hrec] at hrun ⊢
          exact ⟨_, hrun, (EvB.refl _ _).putObj (.inr rfl) _, World.putObj_heap_same (Array.getElem?_eq_some_iff.1 hl3).1, (World.putObj_heap_other (by omega)).trans hk3'⟩
        have up : ∀ {A B : World}, EvB (fun i => i = w.heap.size ∨ i = w.heap.size + 1) A B → EvB (fun i => own i ∨ i = w.heap.size ∨ i = w.heap.size + 1) A B := fun h => h.imp (fun _ _ => .inr)
        have kpe : ∀ {A B : World}, EvB (fun i => i = w.heap.size ∨ i = w.heap.size + 1) A B → Kept (fun b => ¬ D b ∧ b < W.heap.size) A B := fun h => Kept.of_ev h (fun i hi hkpi => hkpi.1 ((hD i).2 (.inr hi)))
        have dc : ∀ b, ¬ D b → ¬ C b := fun b h hc => h ((hD b).2 (.inl hc))
        rintro e a3 W3 hp
        cases e with
        | normal =>
          obtain ⟨hk3, hkp3, C', hC', hi3⟩ := hp
          obtain ⟨W4, hr, he4, hl4, hk4⟩ := fin none W3 hk3
          have h1 : Kept (fun b => ¬ D b ∧ b < W.heap.size) W Wa := hkk.imp (fun b hb => dc b hb.1)
          have h3 : Kept (fun b => ¬ D b ∧ b < W.heap.size) W2 W3 := hkp3.imp (fun b hb => ⟨dc b hb.1, hb.2⟩)
          refine ⟨_, _, hr, .inl ⟨rfl, (h1.trans ((kpe he2).trans (h3.trans (kpe he4)))).imp' (fun b hb hd => ⟨hd, hb⟩), fun b => C' b ∨ b = w.heap.size ∨ b = w.heap.size + 1, fun b hb => ?_, C', fun _ => Iff.rfl, hI _ _ _ _ hi3 (up he4), hl4, hk4⟩⟩
          rcases hb with h | h
          · rcases hC' b h with h | h
            · exact .inl ((hD b).2 (.inl h))
            · exact .inr h
          · exact .inl ((hD b).2 (.inr h))
        | ret =>
          obtain ⟨hk3, hi3⟩ := hp
          obtain ⟨W4, hr, he4, hl4, hk4⟩ := fin (some .ret) W3 hk3
          exact ⟨_, _, hr, .inr ⟨rfl, .ret, hIx _ _ _ hi3 (up he4), hl4, hk4⟩⟩
        | exit id =>
          obtain ⟨hk3, hi3⟩ := hp
          obtain ⟨W4, hr, he4, hl4, hk4⟩ := fin (some (.exit id)) W3 hk3
          exact ⟨_, _, hr, .inr ⟨rfl, .exit id, hIx _ _ _ hi3 (up he4), hl4, hk4⟩⟩
        | goto t =>
          obtain ⟨hk3, hi3⟩ := hp
          obtain ⟨W4, hr, he4, hl4, hk4⟩ := fin (some (.goto t)) W3 hk3
          exact ⟨_, _, hr, .inr ⟨rfl, .goto t, hIx _ _ _ hi3 (up he4), hl4, hk4⟩⟩
        | panic ch => exact hp.elim
        | outgrown => exact hp.elim
      | exit id => exact hp.elim
      | goto l => exact hp.elim
      | ret => exact hp.elim
      | panic chain => exact hp.elim
      | outgrown => exact hp.elim
    · -- behind the iterator
      have up : ∀ {A B : World}, EvB (fun i => i = w.heap.size ∨ i = w.heap.size + 1) A B → EvB (fun i => own i ∨ i = w.heap.size ∨ i = w.heap.size + 1) A B := fun h => h.imp (fun _ _ => .inr)
      rintro e W2 ⟨⟨v, rfl⟩, (⟨D, C, hD, hi, hl, hk⟩ | ⟨c, hi, hl, hk⟩)⟩
      · have hlt2 := (Array.getElem?_eq_some_iff.1 hl).1
        exact ⟨none, _, by have := run_endLoop (P := P) hl (by rw [hrec]; simp); rw [hrec] at this; exact this, hdone _ _ (hI _ _ _ _ hi (up ((EvB.refl _ _).putObj (.inr rfl) _))) (by simp; omega) ((World.putObj_heap_other (by omega)).trans hk)⟩
      · have hlt2 := (Array.getElem?_eq_some_iff.1 hl).1
        exact ⟨some c, _, by have := run_endLoop (P := P) hl (by rw [hrec]; simp); rw [hrec] at this; exact this, hstop c _ (hIx _ _ _ hi (up ((EvB.refl _ _).putObj (.inr rfl) _))) (by simp; omega) ((World.putObj_heap_other (by omega)).trans hk)⟩
/-- What an iterator has, and what its caller has. -/
structure Parts (H1 HI HC : Heap) : Prop where
  row : ∀ id e sz els, H1 id ≠ some (.row e sz els)
  i : ∀ id, HI id = H1 id ∨ HI id = none
  c : ∀ id, HC id = H1 id ∨ HC id = none
  apart : ∀ id, HI id = none ∨ HC id = none
  bi : ∀ id l, HI id = some (.box l) → ∀ p ∈ l, Bd (LV HI) p
  bc : ∀ id l, HC id = some (.box l) → ∀ p ∈ l, Bd (LV HC) p
/-- An iterator's contract, for what it has captured. -/
def IterC {α : Type} (P : Program) (gf : Nat) (caps : List PV) (HI : Heap) (encs : α → Array Value) (xs : List α) : Prop :=
  ∀ (w : World) (M : Nat → Nat → Prop) (σ : Nat → Gh) (cs : List Value) (C : Nat → Prop), HR w M σ HI → VL w (MU M σ HI) σ (LV HI) cs caps → (∀ b o, C b → M b o) →
    SeqJ P gf cs.toArray encs (fun b => ∃ i, HI i ≠ none ∧ (σ i).blk = b) C xs w
/-- A caller's state, between rounds. -/
structure RS (w0 : World) (MX : Nat → Nat → Prop) (a : Act) (envK : Env) (W : World) (H : Heap) (m : Nat) (σ : Nat → Gh) : Prop where
  hr : HR W MX σ H
  free : ∀ i, m ≤ i → H i = none
  env : ∀ t, VV W MX σ H (a.tmps.getD t undef) (envK t)
  bel : Below w0.heap.size w0 W
  own : ∀ id, H id ≠ none → w0.heap.size ≤ (σ id).blk
theorem RS.ev {w0 : World} {MX : Nat → Nat → Prop} {a : Act} {envK : Env} {A B : World} {H : Heap} {m : Nat} {σ : Nat → Gh} {X : Nat → Prop} (h : RS w0 MX a envK A H m σ) (he : EvB X A B) (hX : ∀ b o, X b → MX b o) (h0 : ∀ b, X b → w0.heap.size ≤ b) :
    RS w0 MX a envK B H m σ := by
  obtain ⟨h1, h2⟩ := h.hr.ev he (fun b o hm => Nat.lt_of_lt_of_le (h.hr.m0 b o hm) he.size) (fun b o _ _ hx => hX b o hx) (fun id hid hx => h.hr.sep id hid 0 (hX _ 0 hx)) (fun _ _ _ _ h => h) h.hr.sep
  exact ⟨h1, h.free, fun t => (h.env t).mono h2, h.bel.trans (he.below h.bel.size (fun k hk hx => by have := h0 k hx; omega)), h.own⟩
def NoRow (H : Heap) : Prop := ∀ id e sz els, H id ≠ some (.row e sz els)
theorem nr_nil : NoRow (fun _ => none) := fun _ _ _ _ h => by cases h
theorem nr_box {H : Heap} {i : Nat} {l : List PV} (h : NoRow H) : NoRow (hset H i (some (.box l))) := fun id e sz els he => by
  unfold hset at he
  split at he
  · cases he
  · exact h _ _ _ _ he
theorem sub_L {H1 : Heap} {G : List (Nat × HE)} (h : ∀ x ∈ G, H1 x.1 = some x.2) (id : Nat) : q1g G id = H1 id ∨ q1g G id = none := by
  cases he : q1g G id with
  | none => exact .inr rfl
  | some e => exact .inl (h _ (q5o he)).symm
theorem parts_L {H1 : Heap} {GI GC : List (Nat × HE)} (h0 : NoRow H1) (h1 : ∀ x ∈ GI, H1 x.1 = some x.2) (h2 : ∀ x ∈ GC, H1 x.1 = some x.2) (h3 : ∀ x ∈ GI, ∀ y ∈ GC, x.1 ≠ y.1)
    (h4 : ∀ id l, q1g GI id = some (.box l) → ∀ p ∈ l, Bd (LV (q1g GI)) p) (h5 : ∀ id l, q1g GC id = some (.box l) → ∀ p ∈ l, Bd (LV (q1g GC)) p) : Parts H1 (q1g GI) (q1g GC) := by
  refine ⟨h0, sub_L h1, sub_L h2, fun id => ?_, h4, h5⟩
  cases he : q1g GI id with
  | none => exact .inl rfl
  | some e =>
    cases hf : q1g GC id with
    | none => exact .inr rfl
    | some f => exact (h3 _ (q5o he) _ (q5o hf) rfl).elim
theorem env_ke {S : Nat → Prop} {env : Env} {E : List (Nat × PV)} (h : KE S env E) (t : Nat) : envL E t = .any ∨ (envL E t = env t ∧ Bd S (env t)) := by
  unfold envL
  split
  · rename_i x hx
    have h4 := List.find?_some hx
    have h5 := List.mem_of_find?_eq_some hx
    have : x.1 = t := by simpa using h4
    subst this
    obtain ⟨h6, h7⟩ := h x h5
    exact .inr ⟨h6.symm, by rw [h6]; exact h7⟩
  · exact .inl rfl
section
variable {P : Program}
/-- A function that ranges over a function. -/
theorem pure_range {α : Type} (hm : P.follows .mixedOrders = true) {f gf : FuncId} {fn : Func} {x z b : Code} {bid tg p : Nat} {assign body : Code} {args : List PV} {r : PV} {rs : List ResultVar} (encs : α → Value) (pvs : α → PV) (xs : List α)
    (ha : BdL (fun _ => False) args) (hf : P.funcs[f]? = some fn) (hrs : fn.results = rs.toArray) (hb : fn.body = some b) (hF : FrontS x (.block bid (.rangeFunc (.tmp tg) #[p] assign body)) z b) (heg : ∀ args w, (callFunc gf args).run P w = .ok (.enter gf args) w)
    (hn : args.length ≤ fn.ntmps) (hdx : q4n fn.ntmps x = true) (hdz : q4n fn.ntmps z = true) (hda : q4n fn.ntmps assign = true) (hdb : q4n fn.ntmps body = true) (hfz : q7z z = true) (hfa : q7z assign = true) (hfb : q7z body = true) (hp : p < fn.ntmps)
    (hpv : ∀ y w M σ L, VR w M σ L (encs y) (pvs y))
    (h : q0d P 0 x (fun ex env H1 m1 => ex = .normal ∧ ∃ (caps : List PV) (HI HC : Heap) (envK : Env) (Inv : Nat → Heap → Nat → Prop) (InvX : Heap → Nat → Prop),
      env tg = .fn (.func gf) [] caps ∧ IterC P gf caps HI (fun y => #[encs y]) xs ∧ Parts H1 HI HC ∧ (∀ t, envK t = .any ∨ (envK t = env t ∧ Bd (LV HC) (env t))) ∧ BdL (LV HI) caps ∧ Inv 0 HC m1 ∧
      (∀ k y H m, xs[k]? = some y → Inv k H m → q0d P 0 assign (fun ex env' H' m' => ex = .normal ∧ q0d P 0 body (fun ex _ H' m' => (ex = .normal ∧ Inv (k + 1) H' m') ∨ (ex = .ret ∧ InvX H' m')) env' H' m') (upd envK (some p) (pvs y)) H m) ∧
      (∀ H m, Inv xs.length H m → q0d P 0 z (retQ P rs (fun out H' _ => ∃ r', out = .ret r' ∧ Fz H' r' r)) envK H m) ∧
      (∀ H m, InvX H m → ∃ r', q8g P rs envK H = some r' ∧ Fz H r' r)) (q4x args) (fun _ => none) 0) : Pure P f args r := by
  intro w0 M0 σ0 L0 vs hM0 hvl
  have hmu : ∀ b o, MU M0 σ0 (fun _ => none) b o ↔ M0 b o := fun b o => by
    refine ⟨fun h => ?_, fun h => .inl h⟩
    rcases h with h | ⟨id, l, h1, _⟩ | ⟨id, e, sz, els, h1, _⟩
    · exact h
    · cases h1
    · cases h1
  have h0 : HR w0 M0 σ0 (fun _ => none) := ⟨hM0, fun id h => absurd rfl h, fun i j h => absurd rfl h, fun id l h => (by cases h), fun id e sz els h => (by cases h)⟩
  have hvl' : VL w0 (MU M0 σ0 (fun _ => none)) σ0 (LV fun _ => none) vs args := ⟨hvl.1, fun i v p hv hp => (hvl.2 i v p hv hp).bd (fun b o u _ h1 h2 => h1 ((hmu b o).1 h2)) (fun _ h => h.elim) (ha p (q3m hp))⟩
  refine (callsIn_wide (n := 0)).1 (callsIn_of_wp_marks hf hb trivial ?_ rfl)
  have hS0 := st_init (m := 0) (nt := fn.ntmps) h0 (fun _ _ => rfl) hvl' hn
  refine front_inS hm (fun _ _ => rfl) hF hdx hS0 h ?_
  intro a w env H1 m1 σ1 hq hS1
  obtain ⟨caps, HI, HC, envK, Inv, InvX, htg, hIt, hP, hK, hcaps, hI0, hrnd, hz, hxr⟩ := hq
  have hown1 : ∀ id, H1 id ≠ none → w0.heap.size ≤ (σ1 id).blk := fun id hid => by
    rcases hS1.fr.own id hid with h | ⟨j, h, _⟩
    · exact h
    · exact absurd rfl h
  have subI : ∀ id, HI id ≠ none → H1 id ≠ none := fun id hid => by rw [← (hP.i id).resolve_right hid]; exact hid
  have subC : ∀ id, HC id ≠ none → H1 id ≠ none := fun id hid => by rw [← (hP.c id).resolve_right hid]; exact hid
  have disj : ∀ i j, HI i ≠ none → HC j ≠ none → (σ1 i).blk ≠ (σ1 j).blk := fun i j hi hj e => by
    have := hS1.hr.inj i j (subI i hi) (subC j hj) e
    subst this
    rcases hP.apart i with h | h
    · exact hi h
    · exact hj h
  have boxC : ∀ id, HC id ≠ none → ∃ l, HC id = some (.box l) := fun id hid => by
    cases he : HC id with
    | none => exact absurd he hid
    | some e =>
      cases e with
      | box l => exact ⟨l, rfl⟩
      | row e sz els => exact absurd (by rw [← (hP.c id).resolve_right hid, he]) (hP.row id e sz els)
  have boxI : ∀ id, HI id ≠ none → ∃ l, HI id = some (.box l) := fun id hid => by
    cases he : HI id with
    | none => exact absurd he hid
    | some e =>
      cases e with
      | box l => exact ⟨l, rfl⟩
      | row e sz els => exact absurd (by rw [← (hP.i id).resolve_right hid, he]) (hP.row id e sz els)
  -- the iterator
  obtain ⟨MI, hMI⟩ : ∃ MI, MI = MU M0 σ1 HC := ⟨_, rfl⟩
  have hMC : ∀ b o, MI b o → M0 b o ∨ ∃ id, HC id ≠ none ∧ (σ1 id).blk = b := by
    subst hMI
    rintro b o (h | ⟨id, l, h1, h2⟩ | ⟨id, e, sz, els, h1, h2, _⟩)
    · exact .inl h
    · exact .inr ⟨id, by rw [h1]; simp, h2⟩
    · exact .inr ⟨id, by rw [h1]; simp, h2⟩
  have hCM : ∀ id, HC id ≠ none → ∀ o, MI (σ1 id).blk o := fun id hid o => by
    obtain ⟨l, hl⟩ := boxC id hid
    rw [hMI]; exact .inr (.inl ⟨id, l, hl, rfl⟩)
  obtain ⟨hrI, vrI⟩ := hS1.hr.part (M' := MI) (H' := HI) hP.row hP.i
    (fun b o hb => by
      rcases hMC b o hb with h | ⟨id, h1, h2⟩
      · exact hS1.hr.m0 b o h
      · rw [← h2]; exact hS1.hr.lt (subC id h1))
    (fun id hid o hb => by
      rcases hMC _ o hb with h | ⟨j, h1, h2⟩
      · exact hS1.hr.sep id (subI id hid) o h
      · exact disj id j hid h1 h2.symm)
    (fun b o hb => by
      rcases hMC b o hb with h | ⟨id, h1, h2⟩
      · exact .inl h
      · obtain ⟨l, hl⟩ := boxC id h1
        exact .inr (.inl ⟨id, l, by rw [← (hP.c id).resolve_right h1]; exact hl, h2⟩)) hP.bi
  have hv := hS1.eval (.tmp tg)
  simp only [rho] at hv
  rw [htg] at hv
  obtain ⟨cs, hev, hcs⟩ : ∃ cs : List Value, a.eval (.tmp tg) = .func (.func gf) #[] cs.toArray ∧ VL w (MU M0 σ1 H1) σ1 (LV H1) cs caps := by
    generalize a.eval (.tmp tg) = fv at hv
    cases hv with
    | fn _ fs cs _ _ l1 l2 r1 r2 =>
      have hfs : fs = [] := List.eq_nil_of_length_eq_zero l1
      subst hfs
      exact ⟨cs, rfl, l2, r2⟩
  obtain ⟨own, hown⟩ : ∃ own : Nat → Prop, own = fun b => ∃ i, HI i ≠ none ∧ (σ1 i).blk = b := ⟨_, rfl⟩
  have hseq : SeqJ P gf cs.toArray (fun y => #[encs y]) own (fun b => ∃ id, HC id ≠ none ∧ (σ1 id).blk = b) xs w := by
    rw [hown]
    exact hIt w MI σ1 cs _ hrI ⟨hcs.1, fun i v p hv hp => vrI v p (hcs.2 i v p hv hp) (hcaps p (q3m hp))⟩ (fun b o hb => by
      obtain ⟨j, hj, e⟩ := hb
      exact e ▸ hCM j hj o)
  have own_lt : ∀ k, own k → k < w.heap.size := fun k hk => by rw [hown] at hk; obtain ⟨i, h1, rfl⟩ := hk; exact hS1.hr.lt (subI i h1)
  have own_ge : ∀ k, own k → w0.heap.size ≤ k := fun k hk => by rw [hown] at hk; obtain ⟨i, h1, rfl⟩ := hk; exact hown1 i (subI i h1)
  have hw0 : w0.heap.size ≤ w.heap.size := hS1.fr.size
  -- the caller
  obtain ⟨X, hX⟩ : ∃ X : Nat → Prop, X = fun i => own i ∨ i = w.heap.size ∨ i = w.heap.size + 1 := ⟨_, rfl⟩
  have hXge : ∀ b, X b → w0.heap.size ≤ b := fun b hb => by rw [hX] at hb; rcases hb with h | h | h <;> first | exact own_ge b h | omega
  obtain ⟨MX, hMX⟩ : ∃ MX : Nat → Nat → Prop, MX = fun b o => M0 b o ∨ X b := ⟨_, rfl⟩
  have hXM : ∀ b o, X b → MX b o := fun b o hb => by rw [hMX]; exact .inr hb
  have noX : ∀ {W H m σ}, RS w0 MX a envK W H m σ → ∀ id, H id ≠ none → ¬ X (σ id).blk := fun h id hid hx => h.hr.sep id hid 0 (hXM _ _ hx)
  -- from a state to one behind code of the caller's
  have next : ∀ {A B : World} {H H' : Heap} {m m' : Nat} {σ σ' : Nat → Gh}, RS w0 MX a envK A H m σ → Fr A MX σ H B σ' H' → HR B MX σ' H' → (∀ i, m' ≤ i → H' i = none) → RS w0 MX a envK B H' m' σ' := fun h hf hr hfree =>
    ⟨hr, hfree, fun t => (h.env t).mono hf.ext, h.bel.trans (hf.evB.below h.bel.size (fun k hk ⟨i, h1, h2⟩ => by have := h.own i h1; omega)), fun id hid => by
      rcases hf.own id hid with g | ⟨j, g1, g2⟩
      · exact Nat.le_trans h.bel.size g
      · rw [← g2]; exact h.own j g1⟩
  -- the function's end
  have fin : ∀ {A W : World} {H H2 : Heap} {m m2 : Nat} {σ σ2 : Nat → Gh} {a2 : Act} {env2 : Env}, RS w0 MX a envK A H m σ → A.heap[w.heap.size]? = some (.deferred (some [])) → St A MX σ H m fn.ntmps [{ target := .collected w.heap.size, args := #[] }] a2 W env2 H2 m2 σ2 →
      (∃ r', q8g P rs env2 H2 = some r' ∧ Fz H2 r' r) → LeavesInM Fence.wide 0 P fn a2.tmps (fun e w' => ∃ v, e = .returned v ∧ VR w' M0 σ0 L0 v r ∧ Below w0.heap.size w0 w') a2.defers .returning W := by
    rintro A W H H2 m m2 σ σ2 a2 env2 hR hD hS ⟨r', hres, hfz'⟩
    have hR2 := next hR hS.fr hS.hr hS.free
    have hloop : ∀ id, H id ≠ none → (σ id).blk ≠ w.heap.size := fun id hid e => noX hR id hid (by rw [hX, e]; exact .inr (.inl rfl))
    have hD2 : W.heap[w.heap.size]? = some (.deferred (some [])) := (hS.fr.block _ (Array.getElem?_eq_some_iff.1 hD).1 hloop).trans hD
    rw [hS.defers]
    refine ⟨by simp, .inl ⟨_, _, rfl, run_takeDeferred hD2, ?_⟩⟩
    have he : EvB X W (W.putObj w.heap.size (.deferred none)) := (EvB.refl _ _).putObj (by rw [hX]; exact .inr (.inl rfl)) _
    have hR3 := hR2.ev he hXM hXge
    have henv : ∀ t, VV (W.putObj w.heap.size (.deferred none)) MX σ2 H2 (a2.tmps.getD t undef) (env2 t) := fun t => (hS.env t).mono (hR2.hr.ev he (fun b o hm => Nat.lt_of_lt_of_le (hR2.hr.m0 b o hm) he.size) (fun b o _ _ hx => hXM b o hx) (noX hR2) (fun _ _ _ _ h => h) hR2.hr.sep).2
    obtain ⟨v, hv1, hv2⟩ := x0b (fn := fn) (P := P) (a := a2) hR3.hr henv (by rw [hrs]; exact hres)
    exact ⟨v, hv1, v, rfl, fz_sound hR3.hr (fun b o u _ h1 h2 => h1 (.inl (by rw [hMX]; exact .inl h2))) (fun id hid o hm => hR3.hr.sep id hid o (by rw [hMX]; exact .inl hm)) hv2 hfz', hR3.bel⟩
  have start : ∀ B, EvB X w B → w.heap.size + 2 ≤ B.heap.size → RS w0 MX a envK B HC m1 σ1 := fun B he hsz => by
    obtain ⟨M', hM'⟩ : ∃ M' : Nat → Nat → Prop, M' = fun b o => M0 b o ∨ own b := ⟨_, rfl⟩
    have ownBox : ∀ b, own b → ∃ id l, H1 id = some (.box l) ∧ (σ1 id).blk = b := fun b hb => by
      rw [hown] at hb
      obtain ⟨i, h1, h2⟩ := hb
      obtain ⟨l, hl⟩ := boxI i h1
      exact ⟨i, l, by rw [← (hP.i i).resolve_right h1]; exact hl, h2⟩
    have ownC : ∀ id, HC id ≠ none → ¬ own (σ1 id).blk := fun id hid ho => by
      rw [hown] at ho
      obtain ⟨i, h1, h2⟩ := ho
      exact disj i id h1 hid h2
    obtain ⟨hrC, vrC⟩ := hS1.hr.part (M' := M') (H' := HC) hP.row hP.c
      (fun b o hb => by rw [hM'] at hb; exact hb.elim (fun h => hS1.hr.m0 b o h) (fun h => own_lt b h))
      (fun id hid o hb => by rw [hM'] at hb; exact hb.elim (fun h => hS1.hr.sep id (subC id hid) o h) (fun h => ownC id hid h))
      (fun b o hb => by
        rw [hM'] at hb
        rcases hb with h | h
        · exact .inl h
        · obtain ⟨i, l, h1, h2⟩ := ownBox b h
          exact .inr (.inl ⟨i, l, h1, h2⟩)) hP.bc
    have cX : ∀ b o v, w.cell? ⟨b, o, none⟩ = some v → X b → own b := fun b o v hc hx => by
      have := q3j hc
      rw [hX] at hx; rcases hx with h | h | h <;> first | exact h | omega
    have xC : ∀ id, HC id ≠ none → ¬ X (σ1 id).blk := fun id hid hx => by
      have := hS1.hr.lt (subC id hid)
      rw [hX] at hx; rcases hx with h | h | h
      · exact ownC id hid h
      · omega
      · omega
    obtain ⟨h1, h2⟩ := hrC.ev (M' := MX) he
      (fun b o hb => by
        rw [hMX] at hb
        rcases hb with h | h
        · exact Nat.lt_of_lt_of_le (hS1.hr.m0 b o h) he.size
        · have := he.size
          rw [hX] at h; rcases h with h | h | h
          · have := own_lt b h; omega
          · omega
          · omega)
      (fun b o v hc hx => by rw [hM']; exact .inr (cX b o v hc hx)) xC
      (fun b o v hc hb => by
        rw [hMX] at hb; rw [hM']
        rcases hb with h | h
        · exact .inl h
        · exact .inr (cX b o v hc h))
      (fun id hid o hb => by rw [hMX] at hb; exact hb.elim (fun h => hS1.hr.sep id (subC id hid) o h) (fun h => xC id hid h))
    refine ⟨h1, ?_, fun t => ?_, ?_, fun id hid => hown1 id (subC id hid)⟩
    · intro i hi
      rcases hP.c i with g | g
      · rw [g]; exact hS1.free i hi
      · exact g
    · rcases hK t with g | ⟨g, gb⟩
      · rw [g]; exact .any _
      · rw [g]; exact (vrC _ _ (hS1.env t) gb).mono h2
    · have b1 : Below w0.heap.size w0 w := ⟨hS1.fr.os, hS1.fr.tape, hS1.fr.output, hS1.fr.size, fun k hk => hS1.fr.block k hk (fun id h => absurd rfl h)⟩
      exact b1.trans (he.below hw0 (fun k hk hx => by have := hXge k hx; omega))
  refine wpIn_block ?_
  refine range_law2 (gf := gf) (lb := cs.toArray) hev heg hseq (fun _ => rfl) own_lt (fun k hk => by obtain ⟨id, h1, h2⟩ := hk; rw [← h2]; exact hS1.hr.lt (subC id h1))
    (fun k C W => (∀ b, C b → b < W.heap.size) ∧ ∀ B, EvB X W B → w.heap.size + 2 ≤ B.heap.size → ∃ H m σ, (∀ b, C b ↔ ∃ id, H id ≠ none ∧ (σ id).blk = b) ∧ Inv k H m ∧ RS w0 MX a envK B H m σ)
    (fun c W => c = .ret ∧ ∀ B, EvB X W B → w.heap.size + 2 ≤ B.heap.size → ∃ H m σ, InvX H m ∧ RS w0 MX a envK B H m σ)
    (fun k C A h => h.1) ?hI ?hIx ?h0 ?round ?done ?stop
  case hI =>
    rintro k C A B ⟨hC, hA⟩ he
    exact ⟨fun b hb => Nat.lt_of_lt_of_le (hC b hb) he.size, fun D hD hsz => hA D (EvB.trans (by rw [hX]; exact he) hD) hsz⟩
  case hIx =>
    rintro c A B ⟨rfl, hA⟩ he
    exact ⟨rfl, fun C hC hsz => hA C (EvB.trans (by rw [hX]; exact he) hC) hsz⟩
  case h0 => exact ⟨fun b ⟨id, h1, h2⟩ => by rw [← h2]; exact hS1.hr.lt (subC id h1), fun B he hsz => ⟨HC, m1, σ1, fun b => Iff.rfl, hI0, start B he hsz⟩⟩
  case round =>
    rintro k C y W hy ⟨hCl, hIk⟩ hsz
    obtain ⟨H, m, σ, hCH, hinv, hR⟩ := hIk W (EvB.refl _ _) hsz
    have hpw := hrnd k y H m hy hinv
    have hSr : St W MX σ H m fn.ntmps [] { tmps := ((#[p] : Array Nat).zip #[encs y]).foldl (fun t (p, v) => t.setIfInBounds p v) a.tmps, defers := [] } W (upd envK (some p) (pvs y)) H m σ := by
      have ht : ((#[p] : Array Nat).zip #[encs y]).foldl (fun t (p, v) => t.setIfInBounds p v) a.tmps = (a.put (some p) (encs y)).tmps := by simp [Act.put]
      rw [ht]
      refine ⟨hR.hr, hR.free, Nat.le_refl _, Fr.refl _ _ _ _, by rw [put_size]; exact hS1.size, rfl, fun t => ?_⟩
      have := put_get a (some p) (encs y) (fun z hz => by cases hz; rw [hS1.size]; exact hp) t
      simp only at this ⊢
      rw [this]
      unfold upd
      simp only
      by_cases hpt : p = t
      · subst hpt; simp; exact hpv y _ _ _ _
      · have h1 : ¬ (some p = some t) := fun h => hpt (Option.some.inj h)
        rw [if_neg h1]
        simp only [Ne.symm hpt, if_false]
        exact hR.env t
    have hfree : ∀ i, m ≤ i → H i = none := hR.free
    rw [x0f (m1 := m) _ _ hfa] at hpw
    refine wpIn_mono (pwCode_round hm assign _ _ W _ H m σ hfa hda hSr hpw) ?_
    rintro e a1 W1 ⟨ex, env1, H2, m2, σ2, ⟨rfl, hbody⟩, hS2, hx⟩
    cases e <;> first | exact hx.elim | skip
    clear hx
    have hR2 := next hR hS2.fr hS2.hr hS2.free
    have loops : ∀ {W H m σ}, RS w0 MX a envK W H m σ → ∀ id, H id ≠ none → ¬ ((σ id).blk = w.heap.size ∨ (σ id).blk = w.heap.size + 1) := fun h id hid e => noX h id hid (by rw [hX]; exact .inr e)
    refine ⟨hS2.fr.kept (loops hR), hS2.fr.kept (fun id hid hn => hn ((hCH _).2 ⟨id, hid, rfl⟩)), fun W2 he => ?_⟩
    have hC2 : ∀ id, H2 id ≠ none → C (σ2 id).blk ∨ W.heap.size ≤ (σ2 id).blk := fun id hid => by
      rcases hS2.fr.own id hid with g | ⟨j, g1, g2⟩
      · exact .inr g
      · exact .inl ((hCH _).2 ⟨j, g1, g2⟩)
    have he2 : EvB X W1 W2 := he.imp (fun k _ hk => by rw [hX]; exact .inr hk)
    have hR3 := hR2.ev he2 hXM hXge
    have hext := (hR2.hr.ev he2 (fun b o hm => Nat.lt_of_lt_of_le (hR2.hr.m0 b o hm) he2.size) (fun b o _ _ hx => hXM b o hx) (noX hR2) (fun _ _ _ _ h => h) hR2.hr.sep).2
    have hS3 : St W2 MX σ2 H2 m2 fn.ntmps [] a1 W2 env1 H2 m2 σ2 := ⟨hR3.hr, hR3.free, Nat.le_refl _, Fr.refl _ _ _ _, hS2.size, hS2.defers, fun t => (hS2.env t).mono hext⟩
    rw [x0f (m1 := m2) _ _ hfb] at hbody
    refine wpIn_mono (pwCode_round hm body _ _ W2 _ H2 m2 σ2 hfb hdb hS3 hbody) ?_
    rintro e a3 W3 ⟨ex, env3, H4, m4, σ4, hq, hS4, hx⟩
    have hR4 := next hR3 hS4.fr hS4.hr hS4.free
    rcases hq with ⟨rfl, hq⟩ | ⟨rfl, hq⟩
    · cases e <;> first | exact hx.elim | skip
      have hsz2 : W.heap.size ≤ W2.heap.size := Nat.le_trans hS2.fr.size he.size
      refine ⟨hS4.fr.kept (loops hR3), hS4.fr.kept (fun id hid hn => ?_), fun b => ∃ id, H4 id ≠ none ∧ (σ4 id).blk = b, ?_, fun b ⟨id, h1, h2⟩ => by rw [← h2]; exact hS4.hr.lt h1, fun B hB hszB => ⟨H4, m4, σ4, fun b => Iff.rfl, hq, hR4.ev hB hXM hXge⟩⟩
      · rcases hC2 id hid with h | h
        · exact hn.1 h
        · have := hn.2; omega
      · rintro b ⟨id, h1, rfl⟩
        rcases hS4.fr.own id h1 with g | ⟨j, g1, g2⟩
        · exact .inr (by omega)
        · rw [← g2]; exact hC2 j g1
    · cases e <;> first | exact hx.elim | skip
      exact ⟨hS4.fr.kept (loops hR3), rfl, fun B hB hszB => ⟨H4, m4, σ4, hq, hR4.ev hB hXM hXge⟩⟩
  case done =>
    rintro C W ⟨_, hI⟩ hsz hD
    obtain ⟨H, m, σ, _, hinv, hR⟩ := hI W (EvB.refl _ _) hsz
    have hpz := hz H m hinv
    rw [x0f (m1 := m) _ _ hfz] at hpz
    have hSz : St W MX σ H m fn.ntmps [{ target := .collected w.heap.size, args := #[] }] { a with defers := { target := .collected w.heap.size, args := #[] } :: a.defers } W envK H m σ := ⟨hR.hr, hR.free, Nat.le_refl _, Fr.refl _ _ _ _, hS1.size, by simp [hS1.defers], hR.env⟩
    show z.wpIn Fence.wide 0 P _ _ W
    refine wpIn_wide.2 (wp_mono (q3d hm hR.free z _ _ W _ H m σ hdz hSz hpz) ?_)
    rintro e a3 W3 ⟨ex, env3, H4, m4, σ4, hq, hS4, hx⟩
    cases e with
    | normal =>
      cases ex <;> first | exact hx.elim | skip
      simp only [retQ] at hq
      split at hq
      · rename_i r1 hres
        obtain ⟨r', h1, h2⟩ := hq
        cases h1
        exact fin hR hD hS4 ⟨r1, hres, h2⟩
      · exact hq.elim
    | ret =>
      cases ex <;> first | exact hx.elim | skip
      simp only [retQ] at hq
      split at hq
      · rename_i r1 hres
        obtain ⟨r', h1, h2⟩ := hq
        cases h1
        exact fin hR hD hS4 ⟨r1, hres, h2⟩
      · exact hq.elim
    | panic ch =>
      cases ex <;> first | exact hx.elim | skip
      obtain ⟨_, h1, _⟩ := hq
      cases h1
    | exit id => cases ex <;> first | exact hx.elim | exact hq.elim
    | goto l => cases ex <;> exact hx.elim
    | outgrown => cases ex <;> exact hx.elim
  case stop =>
    rintro c W ⟨rfl, hI⟩ hsz hD
    obtain ⟨H, m, σ, hinv, hR⟩ := hI W (EvB.refl _ _) hsz
    have hSz : St W MX σ H m fn.ntmps [{ target := .collected w.heap.size, args := #[] }] { a with defers := { target := .collected w.heap.size, args := #[] } :: a.defers } W envK H m σ := ⟨hR.hr, hR.free, Nat.le_refl _, Fr.refl _ _ _ _, hS1.size, by simp [hS1.defers], hR.env⟩
    exact wpIn_ret (fin hR hD hSz (hxr H m hinv))
end
end Go.Proofs.YtoibbedpaaeclaaGreat
end

section
namespace Go.Proofs.YtoibbedpaaeclaaGreat
open Go Go.RowKit
set_option linter.unusedVariables false
set_option linter.unusedSimpArgs false
section
variable {P : Program} {w0 : World} {M0 : Nat → Nat → Prop} {σ0 : Nat → Gh} {H0 : Heap} {m0 nt : Nat} {ds : List Deferred}
theorem rowsIn_plain {n : Nat} {row : String} {args : Array Value} {w : World} {R : Value → World → Prop} (h : Rows P row args w R) : RowsIn Fence.wide n P row args w R :=
  fun c cs _ => let ⟨v, w', r, s⟩ := h c cs; ⟨v, w', r, stepsIn_wide.2 s⟩
theorem upon_plain {o : Oper} {a : Act} {K K' : Act → World → Prop} {Q Q' : Exit → Act → World → Prop} (hK : ∀ a w, K a w → K' a w) (hp : ∀ ch a w, ¬ Q (.panic ch) a w) (hL : ¬ LetsOut Q) {r : Result Next} (h : o.upon P a K Q r) : o.uponIn Fence.wide 0 P a K' Q' r := by
  cases r with
  | ok x w' =>
    cases x with
    | value v => exact hK _ _ h
    | skip => exact hK _ _ h
    | defer d => exact hK _ _ h
    | enter f args =>
      refine ⟨fun h => by simp [Fence.wide] at h, CallsIn.mono (callsIn_wide.2 h) ?_⟩
      intro e w'' hr
      cases e with
      | returned v => exact hK _ _ hr
      | panicked c => exact absurd hr (hp _ _ _)
      | outgrown => exact absurd hr hL
    | row row args =>
      refine ⟨fun h => by simp [Fence.wide] at h, rowsIn_plain (Rows.mono h ?_)⟩
      intro v w'' hr
      exact hK _ _ hr
    | _ => exact False.elim h
  | halt x w' =>
    cases x with
    | panic v => exact absurd h (hp _ _ _)
    | _ => exact False.elim h
theorem list_in {ops : Array Oper} {R : Exit → Act → World → Prop} {K : Env → Heap → Nat → Prop} {l2 : List Oper} : ∀ (l1 : List Oper) {a : Act} {w : World} {env : Env} {H : Heap} {m : Nat} {σ : Nat → Gh}, St w0 M0 σ0 H0 m0 nt ds a w env H m σ → (∀ o ∈ l1, ∀ x, o.dst = some x → x < nt) →
    l1.all (fun o => match o.op with | .defer _ => false | _ => true) = true → q0i P ops (fun ex env' H' m' => ex = .normal ∧ K env' H' m') l1 env H m →
    (∀ a' w' env' H' m' σ', K env' H' m' → St w0 M0 σ0 H0 m0 nt ds a' w' env' H' m' σ' → wpListIn Fence.wide 0 P ops R l2 a' w') → wpListIn Fence.wide 0 P ops R (l1 ++ l2) a w
  | [], a, w, env, H, m, σ, hS, _, _, h, k => k a w env H m σ h.2 hS
  | o :: l1, a, w, env, H, m, σ, hS, hd, hf, h, k => by
    rw [List.all_cons, Bool.and_eq_true] at hf
    have hod : ∀ c, o.op ≠ .defer c := by
      intro c hc
      have := hf.1
      rw [hc] at this
      simp at this
    have := q9f (P := P) hS (hd o (by simp)) (K' := wpListIn Fence.wide 0 P ops R (l1 ++ l2)) (fun a' w' env' H' m' σ' hk hS' => list_in l1 hS' (fun o' ho' => hd o' (by simp [ho'])) hf.2 hk k) h
    show wpListIn Fence.wide 0 P ops R (o :: (l1 ++ l2)) a w
    unfold wpListIn
    split
    · rename_i hw
      rw [if_pos hw] at this
      refine ⟨fun f _ => trivial, ?_⟩
      rw [Oper.semAt_eq _ _ _ hod]
      refine upon_plain (fun _ _ h => h) ?_ qq_outs this
      rintro ch a' w' ⟨ex, env', H', m', σ', ⟨rfl, _⟩, _, hF⟩
      exact hF.elim
    · rename_i hw
      rw [if_neg hw] at this
      exact ⟨fun f _ => trivial, this⟩
theorem yield_sem {o : Oper} {c : Call} {y : Operand} {l : Nat} {a : Act} {W : World} (ho : o.op = .call c) (hc : c.callee = .value y) (hy : a.eval y = .func (.yield l) #[] #[]) : (Oper.semAt none a.eval o).run P W = (Instr.yield l (c.args.map a.eval)).run P W := by
  obtain ⟨dst, op, ty, pos, after, guard⟩ := o
  simp only at ho
  subst ho
  simp [Oper.semAt_none, execOp, resolve, hc, Deferred.ofValue, hy, invoke]
theorem yield_in {ops : Array Oper} {R : Exit → Act → World → Prop} {l2 : List Oper} {o : Oper} {c : Call} {y : Operand} {l : Nat} {a : Act} {W : World} {R' : Ending → World → Prop} {vs : Array Value} (hw : Region.wanted o (yielded ops a.tmps) = true) (ho : o.op = .call c) (hc : c.callee = .value y)
    (hy : a.eval y = .func (.yield l) #[] #[]) (hvs : c.args.map a.eval = vs) (hY : YieldAt Fence.wide 0 P l vs W R') (k : ∀ e W', R' e W' → ∃ v, e = .returned v ∧ wpListIn Fence.wide 0 P ops R l2 (a.put o.dst v) W') : wpListIn Fence.wide 0 P ops R (o :: l2) a W := by
  unfold wpListIn
  rw [if_pos hw]
  refine ⟨fun f _ => trivial, ?_⟩
  show o.uponIn Fence.wide 0 P a _ R ((Oper.semAt none a.eval o).run P W)
  rw [yield_sem ho hc hy, hvs]
  exact q6c hY k
theorem loop_n_in {F : Fence} {k : Nat} {c : Code} {Q : Exit → Act → World → Prop} {a : Act} {w : World} (I : Nat → Act → World → Prop) (n : Nat) (h₀ : I n a w)
    (round : ∀ n a w, I n a w → c.wpIn F k P (Exit.then (fun a' w' => ∃ n', n' < n ∧ I n' a' w') Q) a w) : (Code.loop c).wpIn F k P Q a w := by
  intro b ks cs hro hb hr
  have key : ∀ n a w, I n a w → ∃ e a' w', Q e a' w' ∧ ArrivesIn (Machine.fenced P F) P (lone (b.atR a (.code c :: .inLoop c :: ks)) cs w) b ks cs e a' w' := by
    intro n
    induction n using Nat.strongRecOn with
    | _ n ih =>
      intro a w hI
      obtain ⟨e, a₁, w₁, hq, harr⟩ := round n a w hI b (.inLoop c :: ks) cs hro hb hr
      cases e with
      | normal =>
        obtain ⟨n', hlt, hI₁⟩ := hq
        obtain ⟨e₂, a₂, w₂, hq₂, harr₂⟩ := ih n' hlt a₁ w₁ hI₁
        exact ⟨e₂, a₂, w₂, hq₂, .of_steps (StepsIn.trans harr (.one (fenced_calm hb hr rfl) stepR_inLoop)) harr₂⟩
      | exit id => exact ⟨_, a₁, w₁, hq, .pass (x := .inLoop c) rfl (fun _ _ => .inl (by simp)) harr⟩
      | goto l => exact ⟨_, a₁, w₁, hq, .pass (x := .inLoop c) rfl (fun _ _ => .inl (by simp)) harr⟩
      | ret => exact ⟨_, a₁, w₁, hq, .pass (x := .inLoop c) rfl (fun _ _ => .inl (by simp)) harr⟩
      | panic ch => exact ⟨_, a₁, w₁, hq, .pass (x := .inLoop c) rfl (fun _ _ => .inl (by simp)) harr⟩
      | outgrown => exact ⟨_, a₁, w₁, hq, .pass (x := .inLoop c) rfl (fun _ _ => .inl (by simp)) harr⟩
  obtain ⟨e, a', w', hq, harr⟩ := key n a w h₀
  exact ⟨e, a', w', hq, .of_steps (.one (fenced_calm hb hr rfl) stepR_loop) harr⟩
theorem wk_keepK {m : Nat} {G : List (Nat × HE)} {env : Env} {H : Heap} {m1 : Nat} {E : List (Nat × PV)} (hG : ∀ i, m ≤ i → q1g G i = none) (hB : ∀ i l, q1g G i = some (.box l) → ∀ p ∈ l, Bd (LV (q1g G)) p) (hR : ∀ i e sz els, q1g G i ≠ some (.row e sz els)) (hk : q2s m G env H E) : Wk m env H m1 (envL E) (q1g G) m := by
  obtain ⟨h1, h2⟩ := hk
  refine ⟨Nat.le_refl _, fun i => ?_, hG, fun t => ?_, hB, fun i e sz els h => absurd h (hR i e sz els)⟩
  · by_cases hi : i < m
    · exact .inl (h1 i hi).symm
    · exact .inr ⟨Nat.le_of_not_lt hi, hG i (Nat.le_of_not_lt hi)⟩
  · unfold envL
    split
    · rename_i x hx
      have h4 := List.find?_some hx
      have h5 := List.mem_of_find?_eq_some hx
      have : x.1 = t := by simpa using h4
      subst this
      obtain ⟨h6, h7⟩ := h2 x h5
      exact .inr ⟨h6.symm, by rw [h6]; exact h7⟩
    · exact .inl rfl
/-- Behind a yield (or a piece of code): what is kept, in the world that there is now. -/
theorem st_yield {W W1 W' : World} {Mi : Nat → Nat → Prop} {C C' : Nat → Prop} {σ σ1 : Nat → Gh} {G : List (Nat × HE)} {m m1 : Nat} {a : Act} {env1 : Env} {H1 : Heap} {E : List (Nat × PV)} (hG : ∀ i, m ≤ i → q1g G i = none) (hB : ∀ i l, q1g G i = some (.box l) → ∀ p ∈ l, Bd (LV (q1g G)) p)
    (hR : ∀ i e sz els, q1g G i ≠ some (.row e sz els)) (hS : St W (fun b o => Mi b o ∨ C b) σ (q1g G) m nt ds a W1 env1 H1 m1 σ1) (hk : q2s m G env1 H1 E) (hy : Kept (fun b => ¬ C b) W1 W') (hC : ∀ b, C' b → C b ∨ W1.heap.size ≤ b) (hC' : ∀ b, C' b → b < W'.heap.size) :
    St W' (fun b o => Mi b o ∨ C' b) σ1 (q1g G) m nt ds a W' (envL E) (q1g G) m σ1 := by
  have hS2 := hS.weaken hG (wk_keepK (m1 := m1) hG hB hR hk)
  have he : EvB C W1 W' := ⟨hy.os, hy.tape, hy.output, hy.size, fun k hk hc => hy.block k hk hc⟩
  have hsepC : ∀ id, q1g G id ≠ none → ¬ C (σ1 id).blk := fun id hid hc => hS2.hr.sep id hid 0 (.inr hc)
  obtain ⟨h1, h2⟩ := hS2.hr.ev (M' := fun b o => Mi b o ∨ C' b) he
    (fun b o hb => by
      rcases hb with h | h
      · exact Nat.lt_of_lt_of_le (hS2.hr.m0 b o (.inl h)) hy.size
      · exact hC' b h)
    (fun b o v hc hx => .inr hx) hsepC
    (fun b o v hc hb => by
      rcases hb with h | h
      · exact .inl h
      · rcases hC b h with h | h
        · exact .inr h
        · have := q3j hc; omega)
    (fun id hid o hb => by
      rcases hb with h | h
      · exact hS2.hr.sep id hid o (.inl h)
      · rcases hC _ h with h | h
        · exact hsepC id hid h
        · have := hS2.hr.lt hid; omega)
  exact ⟨h1, hG, Nat.le_refl _, Fr.refl _ _ _ _, hS2.size, hS2.defers, fun t => (hS2.env t).mono h2⟩
/-- Boxes stay at their blocks. -/
theorem st_same {W W1 : World} {M : Nat → Nat → Prop} {σ σ1 : Nat → Gh} {H H1 : Heap} {m m1 : Nat} {a : Act} {env : Env} (h0 : HR W M σ H) (hR : ∀ i e sz els, H i ≠ some (.row e sz els)) (hS : St W M σ H m nt ds a W1 env H1 m1 σ1) (i : Nat) (hi : H i ≠ none) : σ1 i = σ i := by
  obtain ⟨_, h | ⟨h, _⟩⟩ := hS.fr.ext.gh i hi
  · exact h
  · exfalso
    cases he : H i with
    | none => exact hi he
    | some e =>
      cases e with
      | box l => have := (h0.box i l he).1; omega
      | row e sz els => exact hR i e sz els he
end
/-- A state within an iterator: where it began, and what is known now. -/
def ItS (Jk : World → Prop) (Mi : Nat → Nat → Prop) (C : Nat → Prop) (G : List (Nat × HE)) (m nt : Nat) (σ0 : Nat → Gh) (a : Act) (W1 : World) (env : Env) (H : Heap) (m1 : Nat) : Prop :=
  ∃ W σ σ1, Jk W ∧ HR W (fun b o => Mi b o ∨ C b) σ (q1g G) ∧ St W (fun b o => Mi b o ∨ C b) σ (q1g G) m nt [] a W1 env H m1 σ1 ∧ ∀ i, q1g G i ≠ none → σ i = σ0 i
section
variable {P : Program} {Jk : World → Prop} {own : Nat → Prop} {Mi : Nat → Nat → Prop} {C : Nat → Prop} {G : List (Nat × HE)} {m nt : Nat} {σ0 : Nat → Gh} {a : Act} {W1 : World} {env : Env} {H : Heap} {m1 : Nat}
structure ItG (G : List (Nat × HE)) (m : Nat) : Prop where
  g : ∀ i, m ≤ i → q1g G i = none
  b : ∀ i l, q1g G i = some (.box l) → ∀ p ∈ l, Bd (LV (q1g G)) p
  r : ∀ i e sz els, q1g G i ≠ some (.row e sz els)
theorem ItS.now (hst : ∀ A B, Jk A → EvB own A B → Jk B) (ho : ∀ i, q1g G i ≠ none → own (σ0 i).blk) (h : ItS Jk Mi C G m nt σ0 a W1 env H m1) : Jk W1 := by
  obtain ⟨W, σ, σ1, hj, hr, hS, hs⟩ := h
  exact hst _ _ hj (hS.fr.evB.imp (fun k _ ⟨i, h1, h2⟩ => by rw [← h2, hs i h1]; exact ho i h1))
theorem it_seg (hm : P.follows .mixedOrders = true) (hG : ItG G m) {R : Exit → Act → World → Prop} {K : Env → Heap → Nat → Prop} {c z : Code} (hd : q4n nt c = true) (hS : ItS Jk Mi C G m nt σ0 a W1 env H m1) (h : q0d P m c (fun ex env' H' m' => ex = .normal ∧ K env' H' m') env H m1)
    (k : ∀ a' W' env' H' m', K env' H' m' → ItS Jk Mi C G m nt σ0 a' W' env' H' m' → z.wpIn Fence.wide 0 P R a' W') : (c.seq z).wpIn Fence.wide 0 P R a W1 := by
  obtain ⟨W, σ, σ1, hj, hr, hS, hs⟩ := hS
  exact front_in hm hG.g .one hd hS h (fun a' w' env' H' m' σ' hk hS' => k a' w' env' H' m' hk ⟨W, σ, σ', hj, hr, hS', hs⟩)
theorem it_seg2 (hm : P.follows .mixedOrders = true) (hG : ItG G m) {R : Exit → Act → World → Prop} {K : Env → Heap → Nat → Prop} {c1 c2 z : Code} (hd : q4n nt (c1.seq c2) = true) (hS : ItS Jk Mi C G m nt σ0 a W1 env H m1) (h : q0d P m (c1.seq c2) (fun ex env' H' m' => ex = .normal ∧ K env' H' m') env H m1)
    (k : ∀ a' W' env' H' m', K env' H' m' → ItS Jk Mi C G m nt σ0 a' W' env' H' m' → z.wpIn Fence.wide 0 P R a' W') : (c1.seq (c2.seq z)).wpIn Fence.wide 0 P R a W1 := by
  obtain ⟨W, σ, σ1, hj, hr, hS, hs⟩ := hS
  exact front_in hm hG.g (.more .one) hd hS h (fun a' w' env' H' m' σ' hk hS' => k a' w' env' H' m' hk ⟨W, σ, σ', hj, hr, hS', hs⟩)
theorem ItS.defers (h : ItS Jk Mi C G m nt σ0 a W1 env H m1) : a.defers = [] := by
  obtain ⟨W, σ, σ1, hj, hr, hS, hs⟩ := h
  exact hS.defers
theorem it_last (hm : P.follows .mixedOrders = true) (hG : ItG G m) {R : Exit → Act → World → Prop} {K : Env → Heap → Nat → Prop} {c : Code} (hd : q4n nt c = true) (hS : ItS Jk Mi C G m nt σ0 a W1 env H m1) (h : q0d P m c (fun ex env' H' m' => ex = .normal ∧ K env' H' m') env H m1)
    (k : ∀ a' W' env' H' m', K env' H' m' → ItS Jk Mi C G m nt σ0 a' W' env' H' m' → R .normal a' W') : c.wpIn Fence.wide 0 P R a W1 := by
  obtain ⟨W, σ, σ1, hj, hr, hS, hs⟩ := hS
  refine wpIn_wide.2 (wp_mono (q3d hm hG.g _ _ a W1 env H m1 σ1 hd hS h) ?_)
  rintro e a' w' ⟨ex, env', H', m', σ', ⟨rfl, hq⟩, hS', hx⟩
  cases e <;> first | exact hx.elim | skip
  exact k _ _ _ _ _ hq ⟨W, σ, σ', hj, hr, hS', hs⟩
theorem it_list {ops : Array Oper} {R : Exit → Act → World → Prop} {K : Env → Heap → Nat → Prop} {l2 : List Oper} (l1 : List Oper) (hS : ItS Jk Mi C G m nt σ0 a W1 env H m1) (hd : ∀ o ∈ l1, ∀ x, o.dst = some x → x < nt) (hf : l1.all (fun o => match o.op with | .defer _ => false | _ => true) = true)
    (h : q0i P ops (fun ex env' H' m' => ex = .normal ∧ K env' H' m') l1 env H m1) (k : ∀ a' W' env' H' m', K env' H' m' → ItS Jk Mi C G m nt σ0 a' W' env' H' m' → wpListIn Fence.wide 0 P ops R l2 a' W') : wpListIn Fence.wide 0 P ops R (l1 ++ l2) a W1 := by
  obtain ⟨W, σ, σ1, hj, hr, hS, hs⟩ := hS
  exact list_in l1 hS hd hf h (fun a' w' env' H' m' σ' hk hS' => k a' w' env' H' m' hk ⟨W, σ, σ', hj, hr, hS', hs⟩)
theorem ItS.bl (h : ItS Jk Mi C G m nt σ0 a W1 env H m1) {t : Nat} {b : Bool} (ht : env t = .bool b) : a.eval (.tmp t) = .bool b := by
  obtain ⟨W, σ, σ1, hj, hr, hS, hs⟩ := h
  have hv := hS.eval (.tmp t)
  simp only [rho] at hv
  rw [ht] at hv
  generalize a.eval (.tmp t) = u at hv
  cases hv; rfl
theorem ItS.int (h : ItS Jk Mi C G m nt σ0 a W1 env H m1) {t : Nat} {k : IntKind} {n : Int} (ht : env t = .int k n) : a.eval (.tmp t) = .int k n := by
  obtain ⟨W, σ, σ1, hj, hr, hS, hs⟩ := h
  have hv := hS.eval (.tmp t)
  simp only [rho] at hv
  rw [ht] at hv
  generalize a.eval (.tmp t) = u at hv
  cases hv; rfl
theorem ItS.yld (h : ItS Jk Mi C G m nt σ0 a W1 env H m1) {t l : Nat} (ht : env t = .fn (.yield l) [] []) : a.eval (.tmp t) = .func (.yield l) #[] #[] := by
  obtain ⟨W, σ, σ1, hj, hr, hS, hs⟩ := h
  have hv := hS.eval (.tmp t)
  simp only [rho] at hv
  rw [ht] at hv
  generalize a.eval (.tmp t) = u at hv
  cases hv with
  | fn _ fs cs _ _ l1 l2 r1 r2 =>
    have h1 : fs = [] := List.eq_nil_of_length_eq_zero l1
    have h2 : cs = [] := List.eq_nil_of_length_eq_zero l2
    subst h1; subst h2; rfl
theorem ItS.want (h : ItS Jk Mi C G m nt σ0 a W1 env H m1) {ops : Array Oper} {o : Oper} {b : Bool} (hw : q5c ops env o = some b) : Region.wanted o (yielded ops a.tmps) = b := by
  obtain ⟨W, σ, σ1, hj, hr, hS, hs⟩ := h
  exact q6g hS.env hw
theorem it_cond {t : Nat} {b : Bool} {x y : Code} {Q : Exit → Act → World → Prop} (h : ItS Jk Mi C G m nt σ0 a W1 env H m1) (ht : env t = .bool b) (hq : (if b then x else y).wpIn Fence.wide 0 P Q a W1) : (Code.cond (.tmp t) x y).wpIn Fence.wide 0 P Q a W1 := wpIn_cond (h.bl ht) hq
/-- What is kept. -/
theorem it_keep (hG : ItG G m) (hst : ∀ A B, Jk A → EvB own A B → Jk B) (ho : ∀ i, q1g G i ≠ none → own (σ0 i).blk) (h : ItS Jk Mi C G m nt σ0 a W1 env H m1) (hC : ∀ b, C b → b < W1.heap.size) {E : List (Nat × PV)} (hk : q2s m G env H E) : ItS Jk Mi C G m nt σ0 a W1 (envL E) (q1g G) m := by
  have hj1 := h.now hst ho
  obtain ⟨W, σ, σ1, hj, hr, hS, hs⟩ := h
  have := st_yield hG.g hG.b hG.r hS hk (Kept.refl (fun b => ¬ C b) W1) (fun b hb => .inl hb) hC
  exact ⟨W1, σ1, σ1, hj1, this.hr, this, fun i hi => (st_same hr hG.r hS i hi).trans (hs i hi)⟩
/-- Behind a yield. -/
theorem it_next {Jk' : World → Prop} {C' : Nat → Prop} {W' : World} (hG : ItG G m) (h : ItS Jk Mi C G m nt σ0 a W1 env H m1) {E : List (Nat × PV)} (hk : q2s m G env H E) (hy : Kept (fun b => ¬ C b) W1 W') (hC : ∀ b, C' b → C b ∨ W1.heap.size ≤ b) (hC' : ∀ b, C' b → b < W'.heap.size) (hj' : Jk' W') :
    ItS Jk' Mi C' G m nt σ0 a W' (envL E) (q1g G) m := by
  obtain ⟨W, σ, σ1, hj, hr, hS, hs⟩ := h
  have := st_yield hG.g hG.b hG.r hS hk hy hC hC'
  exact ⟨W', σ1, σ1, hj', this.hr, this, fun i hi => (st_same hr hG.r hS i hi).trans (hs i hi)⟩
/-- Behind a yield that says no: nothing is known but truth values. -/
theorem it_stop {Jk' : World → Prop} {W' : World} (h : ItS Jk Mi C G m nt σ0 a W1 env H m1) {E : List (Nat × Bool)} (hk : ∀ x ∈ E, env x.1 = .bool x.2) (hj' : Jk' W') : ItS Jk' (fun _ _ => False) (fun _ => False) [] 0 nt σ0 a W' (envL (E.map fun x => (x.1, .bool x.2))) (q1g []) 0 := by
  obtain ⟨W, σ, σ1, hj, hr, hS, hs⟩ := h
  have h0 : HR W' (fun b o => (fun (_ _ : Nat) => False) b o ∨ (fun (_ : Nat) => False) b) σ1 (q1g []) := ⟨(fun b o h => (h.elim id id).elim), (fun i hi => absurd rfl hi), (fun i j hi => absurd rfl hi), (fun i l h => nomatch h), (fun i e sz els h => nomatch h)⟩
  refine ⟨W', σ1, σ1, hj', h0, ⟨h0, fun _ _ => rfl, Nat.le_refl _, Fr.refl _ _ _ _, hS.size, hS.defers, fun t => ?_⟩, fun i hi => absurd rfl hi⟩
  unfold envL
  split
  · rename_i x hx
    have h4 := List.find?_some hx
    obtain ⟨y, hy, rfl⟩ := List.mem_map.1 (List.mem_of_find?_eq_some hx)
    have : y.1 = t := by simpa using h4
    subst this
    have hv := hS.env y.1
    rw [hk y hy] at hv
    generalize a.tmps.getD y.1 undef = u at hv
    cases hv; exact .bool _
  · exact .any _
theorem ItS.put (h : ItS Jk Mi C G m nt σ0 a W1 env H m1) {d : Nat} (hd : d < nt) (b : Bool) : ItS Jk Mi C G m nt σ0 (a.put (some d) (.bool b)) W1 (upd env (some d) (.bool b)) H m1 := by
  obtain ⟨W, σ, σ1, hj, hr, hS, hs⟩ := h
  exact ⟨W, σ, σ1, hj, hr, hS.step hS.hr hS.free (Nat.le_refl _) (Fr.refl _ _ _ _) (fun z hz => by cases hz; exact hd) (.bool b), hs⟩
end
theorem keepK_e {m : Nat} {G : List (Nat × HE)} {env : Env} {H : Heap} {E : List (Nat × PV)} (h : q2s m G env H E) : ∀ x ∈ E, env x.1 = x.2 := fun x hx => (h.2 x hx).1
theorem keepK_h {m : Nat} {G : List (Nat × HE)} {env : Env} {H : Heap} {E : List (Nat × PV)} (h : q2s m G env H E) : ∀ i, i < m → H i = q1g G i := h.1
theorem it_split {P : Program} {ops : Array Oper} {R : Exit → Act → World → Prop} {a : Act} {W : World} (k : Nat) (l : List Oper) (h : wpListIn Fence.wide 0 P ops R (l.take k ++ l.drop k) a W) : wpListIn Fence.wide 0 P ops R l a W := by rwa [List.take_append_drop] at h
/-- An iterator's contract, by its code. -/
theorem iterI {α : Type} {P : Program} {gf : Nat} {fn : Func} {c : Code} {caps : List PV} {G : List (Nat × HE)} {m : Nat} {encs : α → Array Value} {xs : List α} (hf : P.funcs[gf]? = some fn) (hb : fn.body = some c) (hrs : fn.results = #[]) (hn : caps.length + 1 ≤ fn.ntmps) (hG : ItG G m)
    (h : ∀ (l : Nat) (own : Nat → Prop) (Mi : Nat → Nat → Prop) (σ0 : Nat → Gh) (J : Nat → (Nat → Prop) → World → Prop) (Jx : World → Prop) (C : Nat → Prop) (W : World) (a : Act), (∀ i, q1g G i ≠ none → own (σ0 i).blk) → (∀ k C A, J k C A → ∀ b, C b → b < A.heap.size) →
      (∀ k C A B, J k C A → EvB own A B → J k C B) → (∀ A B, Jx A → EvB own A B → Jx B) →
      (∀ k C (x : α) W1, xs[k]? = some x → J k C W1 → YieldAt Fence.wide 0 P l (encs x) W1 fun e W' =>
        (e = .returned (.bool true) ∧ Kept (fun b => ¬ C b) W1 W' ∧ ∃ C', (∀ b, C' b → C b ∨ W1.heap.size ≤ b) ∧ J (k + 1) C' W') ∨ (e = .returned (.bool false) ∧ Jx W')) →
      J 0 C W → ItS (J 0 C) Mi C G m fn.ntmps σ0 a W (q4x (.fn (.yield l) [] [] :: caps)) (q1g G) m →
      c.wpIn Fence.wide 0 P (fun e a' W' => (e = .normal ∨ e = .ret) ∧ a'.defers = [] ∧ ((∃ C, J xs.length C W') ∨ Jx W')) a W) : IterC P gf caps (q1g G) encs xs := by
  intro w M σ cs C0 hr hvl hC0 l J Jx C W hW hC hJC hJ hJx hY h0
  refine callsIn_of_wp hf hb trivial ?_
  have hcl := hJC 0 C W h0
  obtain ⟨h1, h2⟩ := hr.ev (M' := fun b o => M b o ∨ C b) (EvB.ofB (fun _ => False) hW)
    (fun b o hb => by
      rcases hb with h | h
      · exact Nat.lt_of_lt_of_le (hr.m0 b o h) hW.size
      · exact hcl b h)
    (fun _ _ _ _ hx => hx.elim) (fun _ _ hx => hx)
    (fun b o v hc hb => by
      rcases hb with h | h
      · exact h
      · rcases hC b h with h | h
        · exact hC0 b o h
        · have := q3j hc; omega)
    (fun id hid o hb => by
      rcases hb with h | h
      · exact hr.sep id hid o h
      · rcases hC _ h with h | h
        · exact hr.sep id hid o (hC0 _ o h)
        · have := hr.lt hid; omega)
  have hvl' : VL W (MU (fun b o => M b o ∨ C b) σ (q1g G)) σ (LV (q1g G)) (.func (.yield l) #[] #[] :: cs) (.fn (.yield l) [] [] :: caps) := by
    refine ⟨by simp [hvl.1], fun i v p hv hp => ?_⟩
    cases i with
    | zero => simp at hv hp; subst hv; subst hp; exact .fn _ [] [] [] [] rfl rfl (fun i v p hv => by simp at hv) (fun i v p hv => by simp at hv)
    | succ i => simp at hv hp; exact (hvl.2 i v p hv hp).mono h2
  have hS := st_init (nt := fn.ntmps) h1 hG.g hvl' (by simpa using hn)
  have ha : (#[Value.func (.yield l) #[] #[]] ++ cs.toArray : Array Value) = (Value.func (.yield l) #[] #[] :: cs).toArray := by simp
  rw [ha]
  refine wpIn_mono (h l _ M σ J Jx C W _ (fun i hi => ⟨i, hi, rfl⟩) hJC hJ hJx hY h0 ⟨W, σ, σ, h0, h1, hS, fun _ _ => rfl⟩) ?_
  rintro e a' W' ⟨he, hd, hq⟩
  have hres : (results fn a'.tmps).run P W' = .ok (.tuple #[]) W' := by simp [results, hrs]
  rcases he with rfl | rfl
  · exact ⟨hd, _, hres, ⟨_, rfl⟩, hq⟩
  · exact ⟨hd, _, hres, ⟨_, rfl⟩, hq⟩
end Go.Proofs.YtoibbedpaaeclaaGreat
end

section
namespace Go.Proofs.YtoibbedpaaeclaaGreat
open Go Go.RowKit
set_option linter.unusedVariables false
set_option linter.unusedSimpArgs false
set_option maxHeartbeats 16000000
set_option maxRecDepth 100000
attribute [go_sem] q1m
def hlG (w : Wd) (id : Int) : List (Nat × HE) := [(2, .box (Wd.enc w)), (3, .box [.int .u64 id])]
theorem wd_bdl (S : Nat → Prop) (w : Wd) : BdL S (Wd.enc w) := by simp only [go_sem]
theorem hlG_ok (w : Wd) (id : Int) : ItG (hlG w id) 4 := by
  refine ⟨fun i hi => ?_, fun i l h => ?_, fun i e sz els h => ?_⟩
  · unfold hlG; rw [q3e, if_neg (by omega), q3e, if_neg (by omega)]; rfl
  · unfold hlG at h
    rw [q3e] at h
    split at h
    · cases h; exact wd_bdl _ w
    · rw [q3e] at h
      split at h
      · cases h; intro p hp; simp at hp; subst hp; exact .int _ _
      · cases h
  · unfold hlG at h
    rw [q3e] at h
    split at h
    · cases h
    · rw [q3e] at h
      split at h <;> cases h
theorem hl_next {w : Wd} {id : Int} {n : Nat} {x : Ob} (hx : w.objects[n]? = some x) (h : x.links.any (· == id) = true) : (q2y w id)[(q7d w.objects id n).length]? = some x.id := by
  have e : q2y w id = q7d w.objects id (n + 1) ++ ((w.objects.drop (n + 1)).filter fun o => o.links.any (· == id)).map Ob.id := by
    unfold q2y q7d
    rw [← List.map_append, ← List.filter_append, List.take_append_drop]
  rw [e, hold_yes hx h, List.append_assoc, List.getElem?_append_right (Nat.le_refl _), Nat.sub_self]
  rfl
def hlE (l : Nat) (w : Wd) (n : Nat) : List (Nat × PV) := [(0, .fn (.yield l) [] []), (1, .ptr 2 0), (2, .ptr 3 0), (10, .sl (w.objects.map Ob.enc)), (11, .int .i64 w.objects.length), (12, .int .i64 n)]
@[go_sem] theorem view_build (w : Wd) : q3z Tryz.prog 291 [(0, .agg (Wd.enc w))] = some (.agg (Wd.enc w)) := by kernel_rfl
@[go_sem] theorem cut_idbox (n : Int) : cut Tryz.prog 22 [.int .u64 n] 0 = some (.int .u64 n) := by kernel_rfl
@[go_sem] theorem view_f0 : q1p Tryz.prog 291 0 = some (33, 0) := by kernel_rfl
attribute [local irreducible] q0i dr q0d Ex.then Ex.inBlock retQ q1n q2d q2c Pure CSat evOp q1i rdOf upd hset strip sp0 cut envL q1g q3i Keep BdL evBs q2n q2s
theorem holders_iter (w : Wd) (id : Int) (hl : w.objects.length ≤ 1000000) (hs : ∀ x ∈ w.objects, RisU x.links ∧ x.links.length ≤ 1000000) : IterC Tryz.prog 298 [.ptr 2 0, .ptr 3 0] (q1g (hlG w id)) (fun y : Int => #[.int .u64 y]) (q2y w id) := by
  have hm : Tryz.prog.follows .mixedOrders = true := by kernel_rfl
  have hG := hlG_ok w id
  refine iterI Tryz.func298 rfl Tryz.results298 (by simp [Tryz.ntmps298]) hG ?_
  intro l own Mi σ0 J Jx C W a ho hJC hJ hJx hY h0 hS
  refine it_seg hm hG (by kernel_rfl) (K := fun env' H' _ => q2s 4 (hlG w id) env' H' (hlE l w 0)) hS ?_ ?_
  · unfold hlG
    repeat' (first | (show q0i ..; first | refine q0c ?_ | refine q0e rfl ?_) | (show q0k ..; refine q0f rfl rfl ?_) | (show goOn ..; refine q0g ?_) | (show q0d ..; refine q0b ?_))
    refine ⟨rfl, q7w (fun i _ => rfl) ?_⟩
    unfold hlE
    (repeat' (first | exact q0v | refine q0p (by (try simp only [go_sem, *]); try rfl) (by simp only [go_sem, *]) ?_))
  intro a1 W1 env1 H1 m1 hk1 hS1
  have hS2 := it_keep hG (hJ 0 C) ho hS1 (fun b hb => Nat.lt_of_lt_of_le (hJC 0 C _ (hS1.now (hJ 0 C) ho) b hb) (Nat.le_refl _)) hk1
  refine wpIn_block (loop_n_in (fun n' a W => ∃ n C, n' = w.objects.length - n ∧ n ≤ w.objects.length ∧ ItS (J (q7d w.objects id n).length C) Mi C (hlG w id) 4 _ σ0 a W (envL (hlE l w n)) (q1g (hlG w id)) 4) _ ⟨0, C, rfl, Nat.zero_le _, hS2⟩ ?_)
  clear hS hk1 hS1 hS2 h0
  rintro _ a W ⟨n, C, rfl, hn, hS⟩
  have hCl : ∀ {nt a W env H m}, ItS (J (q7d w.objects id n).length C) Mi C (hlG w id) 4 nt σ0 a W env H m → ∀ b, C b → b < W.heap.size := fun h b hb => hJC _ C _ (h.now (hJ _ C) ho) b hb
  rcases Nat.lt_or_ge n w.objects.length with hlt | hge
  · obtain ⟨x, hx⟩ := q2b hlt
    have c0 := q2h hlt
    obtain ⟨hxs, hxl⟩ := hs x (sidx hx)
    refine it_seg hm hG (by kernel_rfl) (K := fun env' H' _ => q2s 4 (hlG w id) env' H' ((13, .bool true) :: hlE l w n)) hS ?_ ?_
    · unfold hlE hlG
      repeat' (first | (show q0i ..; first | refine q0c ?_ | refine q0e rfl ?_) | (show q0k ..; refine q0f rfl rfl ?_) | (show goOn ..; refine q0g ?_) | (show q0d ..; refine q0b ?_))
      refine ⟨rfl, q7w (fun i _ => rfl) ?_⟩
      (repeat' (first | exact q0v | refine q0p (by (try simp only [go_sem, *]); try rfl) (by simp only [go_sem, *]) ?_))
    intro a1 W1 env1 H1 m1 hk1 hS1
    have hS2 := it_keep hG (hJ _ C) ho hS1 (hCl hS1) hk1
    refine wpIn_seq (it_cond hS2 (b := true) (by simp only [go_sem]) (wpIn_skip ?_))
    clear hS hk1 hS1
    refine wpIn_seq (wpIn_block ?_)
    have hsr := search_u x.links id hxl hxs
    refine it_seg2 hm hG (by kernel_rfl) (K := fun env' H' _ => q2s 4 (hlG w id) env' H' (hlE l w n) ∧ env' 7 = .bool (x.links.any (· == id)) ∧ env' 5 = .ptr 4 0 ∧ H' 4 = some (.box (Ob.enc x)) ∧ env' 0 = .fn (.yield l) [] []) hS2 ?_ ?_
    · unfold hlE hlG
      repeat' (first | (show q0i ..; first | refine q0c ?_ | refine q0e rfl ?_) | (show q0k ..; first | refine q0f rfl rfl ?_ | refine q0l rfl ?_) | (show goOn ..; first | refine q0g ?_ | refine q1d ?_ | refine q1x ?_) | (show q2w ..; refine q1h ?_) | (show q1k ..; (refine q0r (r := ?_) ?_ ?_; rotate_left 1; (focus exact hsr))) | (show q0d ..; first | refine q0h ?_ | refine q0b ?_) | refine q0a ?_)
      refine ⟨rfl, q7w (fun i hi => ?_) ?_, ?_, ?_, ?_, ?_⟩
      · have h4 : ¬ i = 4 := by omega
        simp only [go_sem, h4, if_false]
      · (repeat' (first | exact q0v | refine q0p (by (try simp only [go_sem, *]); try rfl) (by simp only [go_sem, *]) ?_))
      all_goals simp only [go_sem]
    intro a2 W2 env2 H2 m2 ⟨hk2, e7, e5, e4, e0⟩ hS3
    clear hS2
    refine wpIn_seq_k ?_
    intro K hK
    have fin : ∀ {k : Nat} {C : Nat → Prop} {a W}, k = (q7d w.objects id (n + 1)).length → ItS (J k C) Mi C (hlG w id) 4 Tryz.f298.ntmps σ0 a W (envL ((30, .bool false) :: hlE l w n)) (q1g (hlG w id)) 4 → K a W := by
      rintro _ C a W rfl hS
      refine hK a W (it_cond hS (b := false) (by simp only [go_sem]) (wpIn_skip ?_))
      have hw4 := q2a n (by omega)
      refine it_last hm hG (by kernel_rfl) (K := fun env' H' _ => q2s 4 (hlG w id) env' H' (hlE l w (n + 1))) hS ?_ ?_
      · unfold hlE hlG
        repeat' (first | (show q0i ..; first | refine q0c ?_ | refine q0e rfl ?_) | (show q0k ..; refine q0f rfl rfl ?_) | (show goOn ..; refine q0g ?_) | (show q0d ..; refine q0b ?_))
        refine ⟨rfl, q7w (fun i _ => rfl) ?_⟩
        (repeat' (first | exact q0v | refine q0p (by (try simp only [go_sem, *]); try rfl) (by simp only [go_sem, *]) ?_))
      intro a1 W1 env1 H1 m1 hk1 hS1
      exact ⟨_, by omega, n + 1, C, rfl, hlt, it_keep hG (hJ _ C) ho hS1 (fun b hb => hJC _ C _ (hS1.now (hJ _ C) ho) b hb) hk1⟩
    have ke : ∀ y ∈ hlE l w n, env2 y.1 = y.2 := keepK_e hk2
    have k1 : env2 1 = .ptr 2 0 := ke (1, _) (by unfold hlE; simp)
    have k2 : env2 2 = .ptr 3 0 := ke (2, _) (by unfold hlE; simp)
    have k10 : env2 10 = .sl (w.objects.map Ob.enc) := ke (10, _) (by unfold hlE; simp)
    have k11 : env2 11 = .int .i64 w.objects.length := ke (11, _) (by unfold hlE; simp)
    have k12 : env2 12 = .int .i64 n := ke (12, _) (by unfold hlE; simp)
    clear ke
    cases hbv : x.links.any (· == id) with
    | false =>
      rw [hbv] at e7
      have hcnt : (q7d w.objects id n).length = (q7d w.objects id (n + 1)).length := by rw [hold_no hx hbv]
      refine it_last hm hG (by kernel_rfl) (K := fun env' H' _ => q2s 4 (hlG w id) env' H' ((30, .bool false) :: hlE l w n)) hS3 ?_ ?_
      · repeat' (first | (show q0i ..; first | refine q0c ?_ | refine q0e rfl ?_ | refine q1a rfl rfl ?_) | (show q0k ..; refine q0f rfl rfl ?_) | (show goOn ..; refine q0g ?_) | (show wGo ..; refine q3r ?_) | (show q0d ..; refine q0b ?_))
        refine ⟨rfl, q7w (keepK_h hk2) ?_⟩
        unfold hlE hlG
        (repeat' (first | exact q0v | refine q0p (by (try simp only [go_sem, *]); try rfl) (by simp only [go_sem, *]) ?_))
      intro a1 W1 env1 H1 m1 hk1 hS1
      exact fin hcnt (it_keep hG (hJ _ C) ho hS1 (hCl hS1) hk1)
    | true =>
      rw [hbv] at e7
      have hcnt : (q7d w.objects id n).length + 1 = (q7d w.objects id (n + 1)).length := by rw [hold_yes hx hbv]; simp
      refine wpIn_region_lit ?_
      refine it_split 5 _ ?_
      simp only [List.take_succ_cons, List.take_zero, List.drop_succ_cons, List.drop_zero]
      refine it_list _ hS3 (by simp [Tryz.ntmps298]) (by kernel_rfl) (K := fun env' H' _ => q2s 4 (hlG w id) env' H' ((24, .bool true) :: hlE l w n) ∧ env' 24 = .bool true ∧ env' 25 = .fn (.yield l) [] [] ∧ env' 27 = .int .u64 x.id) ?_ ?_
      · repeat' (first | (show q0i ..; first | refine q0c ?_ | refine q0e rfl ?_ | refine q1a rfl rfl ?_) | (show q0k ..; refine q0f rfl rfl ?_) | (show goOn ..; refine q0g ?_) | (show wGo ..; refine q3h ?_))
        refine ⟨rfl, q7w (keepK_h hk2) ?_, ?_, ?_, ?_⟩
        · unfold hlE hlG
          (repeat' (first | exact q0v | refine q0p (by (try simp only [go_sem, *]); try rfl) (by simp only [go_sem, *]) ?_))
        all_goals simp only [go_sem, *]
      intro a1 W1 env1 H1 m1 ⟨hk1, f24, f25, f27⟩ hS1
      clear hS3 hk2 k1 k2 k10 k11 k12 e7 e5 e4 e0
      refine yield_in (hS1.want (by simp [q5c, f24])) rfl rfl (hS1.yld f25) (by simp [hS1.int f27]) (hY _ C x.id W1 (hl_next hx hbv) (hS1.now (hJ _ C) ho)) ?_
      rintro e W' (⟨rfl, hkept, C', hC', hj'⟩ | ⟨rfl, hj'⟩)
      · refine ⟨_, rfl, ?_⟩
        have hS4 := it_next hG hS1 hk1 hkept hC' (hJC _ C' _ hj') hj'
        have hS5 := hS4.put (d := 28) (by simp [Tryz.ntmps298]) true
        refine it_list (l2 := []) [_, _] hS5 (by simp [Tryz.ntmps298]) (by kernel_rfl) (K := fun env' H' _ => q2s 4 (hlG w id) env' H' ((30, .bool false) :: hlE l w n)) ?_ ?_
        · unfold hlE hlG
          repeat' (first | (show q0i ..; first | refine q0c ?_ | refine q0e rfl ?_ | refine q1a rfl rfl ?_) | (show q0k ..; refine q0f rfl rfl ?_) | (show goOn ..; refine q0g ?_) | (show wGo ..; refine q3h ?_))
          refine ⟨rfl, q7w (fun i _ => rfl) ?_⟩
          (repeat' (first | exact q0v | refine q0p (by (try simp only [go_sem, *]); try rfl) (by simp only [go_sem, *]) ?_))
        intro a2 W2 env2 H2 m2 hk6 hS6
        exact fin hcnt (it_keep hG (hJ _ C') ho hS6 (fun b hb => hJC _ C' _ (hS6.now (hJ _ C') ho) b hb) hk6)
      · refine ⟨_, rfl, ?_⟩
        have hS4 := it_stop (Jk' := Jx) hS1 (E := [(24, true)]) (by simpa using f24) hj'
        have hS5 := hS4.put (d := 28) (by simp [Tryz.ntmps298]) false
        refine it_list (l2 := []) [_, _] hS5 (by simp [Tryz.ntmps298]) (by kernel_rfl) (K := fun env' H' _ => env' 30 = .bool true) ?_ ?_
        · repeat' (first | (show q0i ..; first | refine q0c ?_ | refine q0e rfl ?_ | refine q1a rfl rfl ?_) | (show q0k ..; refine q0f rfl rfl ?_) | (show goOn ..; refine q0g ?_) | (show wGo ..; refine q3h ?_))
          simp only [go_sem]
        intro a2 W2 env2 H2 m2 hk6 hS6
        refine hK a2 W2 (it_cond hS6 (b := true) hk6 (wpIn_ret ?_))
        exact ⟨.inr rfl, hS6.defers, .inr (hS6.now hJx (fun i hi => (hi (by simp only [go_sem])).elim))⟩
  · have c0 := q1q hge
    refine it_seg hm hG (by kernel_rfl) (K := fun env' H' _ => q2s 4 (hlG w id) env' H' ((13, .bool false) :: hlE l w n)) hS ?_ ?_
    · unfold hlE hlG
      repeat' (first | (show q0i ..; first | refine q0c ?_ | refine q0e rfl ?_) | (show q0k ..; refine q0f rfl rfl ?_) | (show goOn ..; refine q0g ?_) | (show q0d ..; refine q0b ?_))
      refine ⟨rfl, q7w (fun i _ => rfl) ?_⟩
      (repeat' (first | exact q0v | refine q0p (by (try simp only [go_sem, *]); try rfl) (by simp only [go_sem, *]) ?_))
    intro a1 W1 env1 H1 m1 hk1 hS1
    have hS2 := it_keep hG (hJ _ C) ho hS1 (hCl hS1) hk1
    refine wpIn_seq (it_cond hS2 (b := false) (by simp only [go_sem]) (wpIn_exit ?_))
    refine ⟨.inl rfl, hS2.defers, .inl ⟨C, ?_⟩⟩
    have := hS2.now (hJ _ C) ho
    rw [hold_all w id hge] at this
    exact this
end Go.Proofs.YtoibbedpaaeclaaGreat
end

section
namespace Go.Proofs.YtoibbedpaaeclaaGreat
open Go Go.RowKit
set_option linter.unusedVariables false
set_option linter.unusedSimpArgs false
set_option maxHeartbeats 16000000
set_option maxRecDepth 100000
@[go_sem] theorem nilz_U : nilz Tryz.prog 23 = true := by kernel_rfl
@[go_sem] theorem cells_view (w : Wd) : PV.cells? (.agg (Wd.enc w)) = some (Wd.enc w) := rfl
@[go_sem] theorem cut_onil : cut Tryz.prog 23 [.nilsl] 0 = some .nilsl := by kernel_rfl
@[go_sem] theorem cut_ogr (i k : Nat) : cut Tryz.prog 23 [.gr i k] 0 = some (.gr i k) := by kernel_rfl
theorem heap14 (a b r : HE) : hset (hset (q1g [(1, a)]) 4 (some r)) 1 (some b) = q1g [(1, b), (4, r)] := by
  funext i
  unfold hset
  rw [q3e, q3e, q3e]
  by_cases h1 : i = 1 <;> by_cases h4 : i = 4 <;> simp [h1, h4]
theorem heap14' (a b r r' : HE) : hset (hset (q1g [(1, a), (4, r)]) 4 (some r')) 1 (some b) = q1g [(1, b), (4, r')] := by
  funext i
  unfold hset
  rw [q3e, q3e, q3e, q3e]
  by_cases h1 : i = 1 <;> by_cases h4 : i = 4 <;> simp [h1, h4]
attribute [local irreducible] q0i dr q0d Ex.then Ex.inBlock retQ q1n q2d q2c Pure CSat evOp q1i rdOf upd hset strip sp0 cut envL q1g q3i Keep BdL evBs q2n q2s
theorem holders_make {H : Heap} {m : Nat} (w : Wd) (id : Int) : CSat Tryz.prog 269 [.agg (Wd.enc w), .int .u64 id] H m (fun out H' m' => out = .ret (.fn (.func 298) [] [.ptr m 0, .ptr (m + 1) 0]) ∧ m' = m + 2 ∧ H' = hset (hset H m (some (.box (Wd.enc w)))) (m + 1) (some (.box [.int .u64 id]))) := by
  refine q4s (by kernel_rfl) Tryz.func269 Tryz.results269 rfl (by simp [Tryz.ntmps269]) (by kernel_rfl) ?_
  repeat' (first | (show q0i ..; first | refine q0c ?_ | refine q0e rfl ?_) | (show q0k ..; refine q0f rfl rfl ?_) | (show goOn ..; first | refine q0g ?_ | refine q1d ?_) | (show q0d ..; first | refine q0h ?_ | refine q0b ?_ | refine q0t ?_) | refine q0a ?_ | (show retQ ..; refine q0u ?_) | refine q0n ?_)
  exact ⟨rfl, rfl, rfl⟩
theorem snd_links {o : Ob} (hs : sound o = true) (hk : (o.kind == 2) = false) : o.links = [] := by
  unfold sound q6j at hs
  have e : (q6p o).links = [] := by
    unfold q6p
    rw [hk]
    repeat' split
    all_goals first | rfl | (rename_i h; cases h)
  simp only [q8c, Bool.and_eq_true, decide_eq_true_eq] at hs
  rw [← hs.1.2.2.2.2.2.2.2.1, e]
theorem links_ris {w : Wd} (g : Good w) {x : Ob} (hx : x ∈ w.objects) : RisU x.links ∧ x.links.length ≤ 1000000 := by
  refine ⟨?_, by have := (g.few.ob x hx).2.1; omega⟩
  have hs := q5w (q7o g.fit) hx
  cases hk : (x.kind == 2) with
  | true => exact okay_links ⟨(g.few.ob x hx).1, .inl hs⟩ hk
  | false =>
    rw [snd_links hs hk]
    intro i j a b h
    simp at h
theorem tree_holders (w : Wd) (id : Int) (g : Good w) : Pure Tryz.prog 230 [.agg (Wd.enc w), .int .u64 id] (.sl ((q2y w id).map u64)) := by
  have hs : ∀ x ∈ w.objects, RisU x.links ∧ x.links.length ≤ 1000000 := fun x hx => links_ris g hx
  have hit := holders_iter w id (by have := g.few.n; omega) hs
  have hxl : (q2y w id).length ≤ 24 := Nat.le_trans (x0m w id) g.few.n
  have hres : (.sl ((q2y w id).map u64) : PV) = .sl (((q2y w id).take (q2y w id).length).map u64) := by rw [List.take_length]
  rw [hres]
  generalize q2y w id = xs at hit hxl ⊢
  refine pure_range (encs := fun y : Int => .int .u64 y) (pvs := fun y => .int .u64 y) (xs := xs) (gf := 298) (by kernel_rfl) (by simp only [go_sem]) Tryz.func230 Tryz.results230 rfl (.more (.more .l)) (enters_of Tryz.func298 (by kernel_rfl) rfl) (by simp [Tryz.ntmps230]) (by kernel_rfl) (by kernel_rfl) (by kernel_rfl) (by kernel_rfl) (by kernel_rfl) (by kernel_rfl) (by kernel_rfl) (by simp [Tryz.ntmps230]) (fun y w M σ L => .int _ _) ?_
  repeat' (first | (show q0i ..; first | refine q0c ?_ | refine q0e rfl ?_) | (show q0k ..; first | (refine run_gr rfl rfl rfl ?_; first | refine q1d ?_ | (refine q1x ?_; refine q1h ?_)) | refine q0f rfl rfl ?_ | refine q0l rfl ?_) | (show goOn ..; first | refine q0g ?_ | refine q1d ?_) | (show q0d ..; first | refine q0h ?_ | refine q0b ?_) | refine q0a ?_)
  (refine q0w (by kernel_rfl) (holders_make _ _) ?_ ?_)
  case refine_2 => rintro p H' m' ⟨h, _⟩; cases h
  rintro r H' m' ⟨h, rfl, rfl⟩
  cases h
  repeat' (first | (show q0i ..; refine q0c ?_))
  refine ⟨rfl, [.ptr 2 0, .ptr 3 0], q1g (hlG w id), q1g [(1, .box [.nilsl])], envL [(5, .ptr 1 0)], fun k H m => (k = 0 ∧ H = q1g [(1, .box [.nilsl])] ∧ m = 4) ∨ (0 < k ∧ H = q1g [(1, .box [.gr 4 k]), (4, .row 22 1 ((xs.take k).map u64))] ∧ m = 5), fun _ _ => False, ?_, hit, ?_, ?_, ?_, ?_, ?_, ?_, ?_⟩
  · simp only [go_sem]
  · refine parts_L (nr_box (nr_box (nr_box (nr_box nr_nil)))) ?_ ?_ ?_ (hlG_ok w id).b ?_
    · unfold hlG; intro x hx; simp only [List.mem_cons, List.not_mem_nil, or_false] at hx; rcases hx with rfl | rfl <;> simp only [go_sem]
    · intro x hx; simp only [List.mem_cons, List.not_mem_nil, or_false] at hx; subst hx; simp only [go_sem]
    · unfold hlG; intro x hx y hy; simp only [List.mem_cons, List.not_mem_nil, or_false] at hx hy; subst hy; rcases hx with rfl | rfl <;> simp
    · intro i l h
      rw [q3e] at h
      split at h
      · cases h; intro p hp; simp at hp; subst hp; exact .nilsl
      · simp only [go_sem, reduceCtorEq] at h
  · refine env_ke ?_
    (repeat' (first | exact q0v | refine q0p (by (try simp only [go_sem, *]); try rfl) (by simp only [go_sem, *]) ?_))
  · unfold hlG; simp only [go_sem]
  · exact .inl ⟨rfl, rfl, rfl⟩
  · rintro k y H m hy (⟨rfl, rfl, rfl⟩ | ⟨hk, rfl, rfl⟩)
    · have e1 : xs.take (0 + 1) = [y] := by rw [q4h hy]; rfl
      repeat' (first | (show q0i ..; first | refine q0c ?_ | refine q0e rfl ?_) | (show q0k ..; refine q0f rfl rfl ?_) | (show goOn ..; refine q0g ?_) | (show q0d ..; refine q0b ?_))
      refine ⟨rfl, ?_⟩
      repeat' (first | (show q0i ..; first | refine q0c ?_ | refine q0e rfl ?_) | (show q0k ..; first | (refine run_gr rfl rfl rfl ?_; first | refine q1d ?_ | (refine q1x ?_; refine q1h ?_)) | refine q0f rfl rfl ?_) | (show goOn ..; first | refine q0g ?_ | refine q7u ?_) | (show q0d ..; first | refine q0b ?_ | refine q0m ?_) | refine q0q ?_)
      refine .inl ⟨rfl, .inr ⟨by omega, ?_, rfl⟩⟩
      rw [e1]
      exact heap14 _ _ _
    · have e1 := q4h hy
      have hlt := q3w hy
      have l1 : (xs.take k).length = k := by rw [List.length_take]; omega
      have l2 : ((xs.take k).map u64).length = k := by rw [List.length_map]; exact l1
      have l3 : ((k + 1) * 8 ≤ 140737488355328) = True := q8d (by omega) (by decide)
      have l4 : (k + 1 ≤ maxLen) = True := q6o (by omega)
      have l5 : ((xs.take k ++ [y]).length = k + 1) = True := eq_true (by rw [List.length_append, l1]; rfl)
      repeat' (first | (show q0i ..; first | refine q0c ?_ | refine q0e rfl ?_) | (show q0k ..; refine q0f rfl rfl ?_) | (show goOn ..; refine q0g ?_) | (show q0d ..; refine q0b ?_))
      refine ⟨rfl, ?_⟩
      repeat' (first | (show q0i ..; first | refine q0c ?_ | refine q0e rfl ?_) | (show q0k ..; first | (refine run_gr rfl rfl rfl ?_; first | refine q1d ?_ | (refine q1x ?_; refine q1h ?_)) | refine q0f rfl rfl ?_) | (show goOn ..; first | refine q0g ?_ | refine q7a ?_) | (show q0d ..; first | refine q0b ?_ | refine q0m ?_) | refine q0q ?_)
      refine .inl ⟨rfl, .inr ⟨by omega, ?_, rfl⟩⟩
      rw [e1]
      exact heap14' _ _ _ _
  · rintro H m (⟨hk, rfl, rfl⟩ | ⟨hk, rfl, rfl⟩)
    · have : xs = [] := List.eq_nil_of_length_eq_zero hk
      subst this
      repeat' (first | (show q0i ..; first | refine q0c ?_ | refine q0e rfl ?_) | (show q0k ..; refine q0f rfl rfl ?_) | (show goOn ..; refine q0g ?_) | (show q0d ..; first | refine q0h ?_ | refine q0b ?_ | refine q0t ?_) | refine q0a ?_ | (show retQ ..; refine q0u ?_) | refine q0n ?_)
      exact fz_same (by simp only [go_sem])
    · have l1 : (xs.take xs.length).length = xs.length := by rw [List.take_length]
      have l2 : ((xs.take xs.length).map u64).length = xs.length := by rw [List.length_map]; exact l1
      repeat' (first | (show q0i ..; first | refine q0c ?_ | refine q0e rfl ?_) | (show q0k ..; refine q0f rfl rfl ?_) | (show goOn ..; refine q0g ?_) | (show q0d ..; first | refine q0h ?_ | refine q0b ?_ | refine q0t ?_) | refine q0a ?_ | (show retQ ..; refine q0u ?_) | refine q0n ?_)
      exact fz_same (by simp only [go_sem])
  · exact fun H m h => h.elim
end Go.Proofs.YtoibbedpaaeclaaGreat
end

section
namespace Go.Proofs.YtoibbedpaaeclaaGreat
open Go Go.RowKit
set_option linter.unusedVariables false
set_option linter.unusedSimpArgs false
theorem VR.bds {w : World} {M σ L} {v : Value} {p : PV} (h : VR w M σ L v p) : Bd L p := by
  have key : ∀ {cs : List Value} {l : List PV}, cs.length = l.length → (∀ (i : Nat) (v : Value) (p : PV), cs[i]? = some v → l[i]? = some p → Bd L p) → ∀ p ∈ l, Bd L p := fun {cs l} hl ih p hp => by
    obtain ⟨i, hi⟩ := List.getElem?_of_mem hp
    have hlt := (List.getElem?_eq_some_iff.1 hi).1
    exact ih i _ p (List.getElem?_eq_getElem (by omega)) hi
  induction h with
  | any v => exact .any
  | undef => exact .undef
  | nilif => exact .nilif
  | nilfn => exact .nilfn
  | nilsl A => exact .nilsl
  | bool b => exact .bool b
  | int k n => exact .int k n
  | str s => exact .str s
  | agg cs l hl h1 h ih => exact .agg l (key hl ih)
  | tup cs l hl h ih => exact .tup l (key hl ih)
  | sl0 A cap => exact .sl [] (fun e he => by cases he)
  | sl b o sz cap els hc hs f hcell h ih =>
    refine .sl els (fun e he p hp => ?_)
    have : p ∈ els.flatten := List.mem_flatten.2 ⟨e, he, hp⟩
    obtain ⟨q, hq⟩ := List.getElem?_of_mem this
    exact ih q p hq
  | gr id k v h0 hle hL hv => exact .gr id k hL
  | ref b o l f hcell h ih =>
    refine .ref l (fun p hp => ?_)
    obtain ⟨q, hq⟩ := List.getElem?_of_mem hp
    exact ih q p hq
  | ptr id off hL h0 => exact .ptr id off hL
  | fn f fs cs l1 l2 hl1 hl2 h1 h2 ih1 ih2 => exact .fn f l1 l2 (key hl1 ih1) (key hl2 ih2)
  | ifc t v p h ih => exact .ifc t p ih
  | bs id n e sz hL h0 hc hty hsz => exact .bs id n e sz hL
  | bz => exact .bz
  | c0 A => exact .c0
/-- What is known of boxes when a function begins. -/
structure HK (H : Heap) (m : Nat) : Prop where
  free : ∀ i, m ≤ i → H i = none
  box : ∀ i l, H i = some (.box l) → ∀ p ∈ l, Bd (LV H) p
  row : ∀ i e sz els, H i = some (.row e sz els) → ∀ x ∈ els, ∀ p ∈ x, Bd (LV H) p
theorem csat_known {P : Program} {f : FuncId} {args : List PV} {H : Heap} {m : Nat} {Q : Out → Heap → Nat → Prop} (h : HK H m → CSat P f args H m Q) : CSat P f args H m Q := fun w M0 σ vs h1 h2 h3 => by
  refine h ⟨h2, fun i l hl p hp => ?_, fun i e sz els hl x hx p hp => ?_⟩ w M0 σ vs h1 h2 h3
  · obtain ⟨_, c, t, _, _, h4⟩ := h1.box i l hl
    obtain ⟨j, hj⟩ := List.getElem?_of_mem hp
    have hlt := (List.getElem?_eq_some_iff.1 hj).1
    exact (h4.rel j _ p (List.getElem?_eq_getElem (by rw [h4.len]; exact hlt)) hj).bds
  · obtain ⟨_, _, _, xs, _, h4⟩ := h1.row i e sz els hl
    obtain ⟨j, hj⟩ := List.getElem?_of_mem (List.mem_flatten.2 ⟨x, hx, hp⟩ : p ∈ els.flatten)
    have hlt := (List.getElem?_eq_some_iff.1 hj).1
    exact (h4.rel j _ p (List.getElem?_eq_getElem (by rw [h4.len]; exact hlt)) hj).bds
def KeepH (m0 : Nat) (G : Heap) (env : Env) (H : Heap) (E : List (Nat × PV)) : Prop := (∀ i, i < m0 → H i = G i) ∧ KE (LV G) env E
def AgainH {S : Type} (m0 : Nat) (G : Heap) (μ : S → Nat) (Inv : S → Prop) (E : S → List (Nat × PV)) (s : S) (env : Env) (H : Heap) (m : Nat) : Prop := ∃ s', μ s' < μ s ∧ Inv s' ∧ m0 ≤ m ∧ KeepH m0 G env H (E s')
theorem pc_loopH {P : Program} {x : Code} {Q : Ex → Env → Heap → Nat → Prop} {env : Env} {H : Heap} {m m0 : Nat} {S : Type} (G : Heap) (hG : HK G m0)
    (μ : S → Nat) (Inv : S → Prop) (E : S → List (Nat × PV)) (s0 : S) (h0 : Inv s0) (hm : m0 ≤ m) (hk : KeepH m0 G env H (E s0)) (hr : ∀ s, Inv s → q0d P m0 x (Ex.then (AgainH m0 G μ Inv E s) Q) (envL (E s)) G m0) : q0d P m0 (.loop x) Q env H m := by
  have wk : ∀ {env : Env} {H : Heap} {m : Nat} {s : S}, m0 ≤ m → KeepH m0 G env H (E s) → Wk m0 env H m (envL (E s)) G m0 := by
    rintro env H m s hm ⟨h1, h2⟩
    refine ⟨Nat.le_refl _, fun i => ?_, hG.free, fun t => ?_, hG.box, hG.row⟩
    · by_cases hi : i < m0
      · exact .inl (h1 i hi).symm
      · exact .inr ⟨Nat.le_of_not_lt hi, hG.free i (Nat.le_of_not_lt hi)⟩
    · unfold envL
      split
      · rename_i x hx
        have h4 := List.find?_some hx
        have h5 := List.mem_of_find?_eq_some hx
        have : x.1 = t := by simpa using h4
        subst this
        obtain ⟨h6, h7⟩ := h2 x h5
        exact .inr ⟨h6.symm, by rw [h6]; exact h7⟩
      · exact .inl rfl
  refine ⟨fun n env H m => ∃ s, μ s = n ∧ Inv s ∧ env = envL (E s) ∧ H = G ∧ m = m0, μ s0, ⟨_, _, _, wk hm hk, s0, rfl, h0, rfl, rfl, rfl⟩, ?_⟩
  rintro n env H m ⟨s, rfl, hs, rfl, rfl, rfl⟩
  have := hr s hs
  refine x0e (fun ex env' H' m' hq => ?_) x this
  cases ex with
  | normal =>
    obtain ⟨s', h1, h2, h3, h4⟩ := hq
    exact ⟨μ s', h1, _, _, _, wk h3 h4, s', rfl, h2, rfl, rfl, rfl⟩
  | exit i => exact hq
  | ret => exact hq
  | pan v => exact hq
theorem againH {S : Type} {m0 : Nat} {G : Heap} {μ : S → Nat} {Inv : S → Prop} {E : S → List (Nat × PV)} {s : S} {env : Env} {H : Heap} {m : Nat} (s' : S) (h2 : Inv s') (h1 : μ s' < μ s) (h3 : m0 ≤ m) (h4 : ∀ i, i < m0 → H i = G i) (h5 : KE (LV G) env (E s')) : AgainH m0 G μ Inv E s env H m := ⟨s', h1, h2, h3, h4, h5⟩
theorem keepH {m0 : Nat} {G : Heap} {env : Env} {H : Heap} {E : List (Nat × PV)} (h1 : ∀ i, i < m0 → H i = G i) (h2 : KE (LV G) env E) : KeepH m0 G env H E := ⟨h1, h2⟩
end Go.Proofs.YtoibbedpaaeclaaGreat
end

section
namespace Go.Proofs.YtoibbedpaaeclaaGreat.kgate
open Go Go.RowKit Go.Proofs.YtoibbedpaaeclaaGreat
set_option linter.unusedVariables false
set_option linter.unusedSimpArgs false
set_option maxHeartbeats 16000000
set_option maxRecDepth 100000
@[go_sem] theorem spl_Clr_reg3 (x : Clr) (v : Int) : splice (Clr.enc x) 11 [.int .u64 v] = Clr.enc { x with ob := { x.ob with thread := { x.ob.thread with regs := fun i => if i = 3 then v else x.ob.thread.regs i } } } := by kernel_rfl
attribute [local irreducible] q0i dr q0d Ex.then Ex.inBlock retQ q1n q2d q2c Pure CSat evOp q1i rdOf upd hset strip sp0 cut envL q1g q3i Keep BdL evBs q2n q2s
theorem lab_yes {H : Heap} {m : Nat} (t : Ob) (w : Wd) (a : Nat → Int) (hb : H 7 = some (.box (Clr.enc ⟨t, w, a⟩))) (k : Nat) (hk : k = 2 ∨ k = 3) (h0 : 0 ≤ a k) (h1 : a k < 4) :
    CSat Tryz.prog 172 [.ptr 7 0, .int .i64 k] H m (fun out H' m' => out = .ret (.sl ((la t a k).map Pr.enc)) ∧ H' = H ∧ m' = m) := by
  have h4 : decide (a k < 4) = true := decide_eq_true h1
  have hv : a k = 0 ∨ a k = 1 ∨ a k = 2 ∨ a k = 3 := by omega
  unfold la
  rcases hk with rfl | rfl <;> rcases hv with hv | hv | hv | hv
  all_goals
    rw [hv] at h4
    refine q4s (by kernel_rfl) Tryz.func172 Tryz.results172 rfl (by simp [Tryz.ntmps172]) (by kernel_rfl) ?_
    repeat' (first | (show q0i ..; first | refine q0c ?_ | refine q0e rfl ?_) | (show q0k ..; first | refine q0f rfl rfl ?_ | refine q0l rfl ?_) | (show goOn ..; refine q0g ?_) | (show q0d ..; first | refine q0h ?_ | refine q0b ?_) | refine q0a ?_)
    (refine q0w (by kernel_rfl) (must_yes _ _ _) ?_ ?_)
    case refine_2 => rintro p H' m' ⟨⟨_, h⟩, _⟩; cases h
    rintro r H' m' ⟨⟨_, h⟩, rfl, rfl⟩
    clear h
    repeat' (first | (show q0i ..; refine q0c ?_) | (show dr ..; first | refine q1y ?_ | refine dr_n rfl ?_) | (show drGo ..; refine q2t rfl ?_) | (show drOn ..; refine q1z ?_) | (refine And.intro (by kernel_rfl : q1n _ = true) ?_) | (show q0d ..; first | refine q0h ?_ | refine q1o (by kernel_rfl) ?_ | refine q0t ?_) | refine q0a ?_ | (show retQ ..; refine q0u ?_) | refine q0n ?_)
    rw [hv]
    exact ⟨rfl, rfl, rfl⟩
theorem lab_no {H : Heap} {m : Nat} (t : Ob) (w : Wd) (a : Nat → Int) (hb : H 7 = some (.box (Clr.enc ⟨t, w, a⟩))) (k : Nat) (hk : k = 2 ∨ k = 3) (h1 : decide (a k < 4) = false) :
    CSat Tryz.prog 172 [.ptr 7 0, .int .i64 k] H m (fun out H' m' => out = .pan (thr 4) ∧ H' = H ∧ m' = m) := by
  rcases hk with rfl | rfl
  all_goals
    refine q4s (by kernel_rfl) Tryz.func172 Tryz.results172 rfl (by simp [Tryz.ntmps172]) (by kernel_rfl) ?_
    repeat' (first | (show q0i ..; first | refine q0c ?_ | refine q0e rfl ?_) | (show q0k ..; first | refine q0f rfl rfl ?_ | refine q0l rfl ?_) | (show goOn ..; refine q0g ?_) | (show q0d ..; first | refine q0h ?_ | refine q0b ?_) | refine q0a ?_)
    (refine q0w (by kernel_rfl) (must_no _ _ _) ?_ ?_)
    case refine_1 => rintro r H' m' ⟨h, _⟩; cases h
    rintro p H' m' ⟨h, rfl, rfl⟩
    cases h
    repeat' (first | refine q4l ?_ | refine q4w ?_ | refine q4u ?_)
    exact ⟨rfl, rfl, rfl⟩
theorem lies_csat {H : Heap} {m : Nat} (t : Ob) (w : Wd) (a : Nat → Int) (hb : H 7 = some (.box (Clr.enc ⟨t, w, a⟩))) (l : List Pr) (hm : 8 ≤ m) (g : Good w) (hl : q2x l = true) (hll : l.length ≤ 16) :
    CSat Tryz.prog 177 [.ptr 7 0, .sl (l.map Pr.enc)] H m (fun out H' m' => (liesR w t.id l = true → ∃ r, out = .ret r) ∧ (liesR w t.id l = false → out = .pan (thr 2)) ∧ m ≤ m' ∧ ∀ j, j < m → H' j = H j) := by
  have hwd := q7o g.fit
  have hh := tree_holders w t.id g
  have hlen : (q2y w t.id).length ≤ 24 := Nat.le_trans (x0m w t.id) g.few.n
  have n7 : (7 = m) = False := eq_false (by omega)
  have L7 : LV H 7 = True := eq_true (by unfold LV; rw [hb]; simp)
  have hpl := fun x => place_p g x hl hll
  refine csat_known (fun hK => ?_)
  refine q4s (by kernel_rfl) Tryz.func177 Tryz.results177 rfl (by simp [Tryz.ntmps177]) (by kernel_rfl) ?_
  repeat' (first | (show dr ..; first | refine q1y ?_ | refine dr_n rfl ?_) | (show drGo ..; first | refine q2t rfl ?_ | refine q2k rfl ?_) | (show drOn ..; refine q1z ?_) | (show q2e ..; (refine q1f (r := ?_) ?_ ?_; rotate_left 1; (focus exact hh))) | (refine And.intro (by kernel_rfl : q1n _ = true) ?_) | (show q0d ..; first | refine q0h ?_ | refine q1o (by kernel_rfl) ?_ | refine q0m ?_) | refine q0a ?_)
  refine pc_loopH H hK (S := Nat) (fun n => (q2y w t.id).length - n) (fun n => n ≤ (q2y w t.id).length ∧ ∀ j, j < n → liesAt w t.id l j = true) (fun n => [(0, .ptr 7 0), (1, .sl (l.map Pr.enc)), (17, .sl ((q2y w t.id).map u64)), (18, .int .i64 (q2y w t.id).length), (19, .int .i64 n)]) 0 ⟨Nat.zero_le _, fun j hj => absurd hj (Nat.not_lt_zero j)⟩ (Nat.le_refl _) (keepH (fun i _ => rfl) (by (repeat' (first | exact q0v | refine q0p (by (try simp only [go_sem, *]); try rfl) (by simp only [go_sem, *]) ?_)))) ?_
  rintro n ⟨hn, hs⟩
  rcases Nat.lt_or_ge n (q2y w t.id).length with hlt | hge
  · obtain ⟨x, hx⟩ := q2b hlt
    have h0 := q2h hlt
    have h4 := q2a n (by omega)
    have hfd := find_p g.few g.fit x
    have hpx := hpl x
    have e : liesAt w t.id l n = q7i (q2i w x).1.label l := by unfold liesAt; rw [hx]
    cases hv : q7i (q2i w x).1.label l with
    | true =>
      rw [hv] at hpx
      repeat' (first | (show q0i ..; first | refine q0c ?_ | refine q0e rfl ?_) | (show q0k ..; first | refine q0f rfl rfl ?_ | refine q0l rfl ?_) | (show goOn ..; first | refine q0g ?_ | refine q1d ?_ | refine q1x ?_) | (show q2w ..; refine q1h ?_) | (show q1k ..; (refine q0r (r := ?_) ?_ ?_; rotate_left 1; (focus first | exact hfd | exact hpx))) | (show q0d ..; first | refine q0h ?_ | refine q0b ?_ | refine q0s ?_ | refine q0m ?_ | refine q0j ?_) | (show q0o ..; refine cd_t ?_) | refine q0a ?_)
      (refine q0w (by kernel_rfl) (must_yes _ _ _) ?_ ?_)
      case refine_2 => rintro p H' m' ⟨⟨_, h⟩, _⟩; cases h
      rintro r H' m' ⟨⟨_, h⟩, rfl, rfl⟩
      clear h
      repeat' (first | (show q0i ..; first | refine q0c ?_ | refine q0e rfl ?_) | (show q0k ..; refine q0f rfl rfl ?_) | (show goOn ..; refine q0g ?_) | (show q0d ..; refine q0b ?_) | refine q0a ?_ | refine q0q ?_)
      exact againH (n + 1) ⟨by omega, q5d hs (by rw [e, hv])⟩ (by omega) (by omega) (fun i hi => by repeat rw [q1b _ _ (by omega)]) (by (repeat' (first | exact q0v | refine q0p (by (try simp only [go_sem, *]); try rfl) (by simp only [go_sem, *]) ?_)))
    | false =>
      rw [hv] at hpx
      repeat' (first | (show q0i ..; first | refine q0c ?_ | refine q0e rfl ?_) | (show q0k ..; first | refine q0f rfl rfl ?_ | refine q0l rfl ?_) | (show goOn ..; first | refine q0g ?_ | refine q1d ?_ | refine q1x ?_) | (show q2w ..; refine q1h ?_) | (show q1k ..; (refine q0r (r := ?_) ?_ ?_; rotate_left 1; (focus first | exact hfd | exact hpx))) | (show q0d ..; first | refine q0h ?_ | refine q0b ?_ | refine q0s ?_ | refine q0m ?_ | refine q0j ?_) | (show q0o ..; refine cd_t ?_) | refine q0a ?_)
      (refine q0w (by kernel_rfl) (must_no _ _ _) ?_ ?_)
      case refine_1 => rintro r H' m' ⟨h, _⟩; cases h
      rintro p H' m' ⟨h, rfl, rfl⟩
      cases h
      repeat' (first | refine q4l ?_ | refine q4w ?_ | refine q4u ?_)
      refine ⟨fun h => ?_, fun _ => rfl, by omega, fun j hj => by repeat rw [q1b _ _ (by omega)]⟩
      rw [show liesR w t.id l = false from q2o hlt (by rw [e, hv])] at h; cases h
  · have h0 := q1q hge
    repeat' (first | (show q0i ..; first | refine q0c ?_ | refine q0e rfl ?_) | (show q0k ..; refine q0f rfl rfl ?_) | (show goOn ..; refine q0g ?_) | (show q0d ..; first | refine q0h ?_ | refine q0b ?_ | refine q1s ?_ | refine q0j ?_) | (show q0o ..; refine cd_f ?_) | refine q0a ?_ | refine q1r ?_ | refine q1t ?_ | (show retQ ..; refine x0o ?_) | refine q0n ?_)
    refine ⟨fun _ => ⟨_, rfl⟩, fun h => ?_, Nat.le_refl _, fun j _ => rfl⟩
    rw [show liesR w t.id l = true from q2m fun j hj => hs j (by omega)] at h; cases h
theorem gate_ok {w : Wd} (g : Good w) {t : Ob} {a : Nat → Int} (h : ((q6b w t a).2 == 0) = true) : kept (q6b w t a).1.gate.grant = true ∧ kept (q6b w t a).1.gate.clear = true := by
  have h1 : (q6b w t a).1 ∈ w.objects := (see_in g.fit h).1
  have hk : ((q6b w t a).1.kind == 5) = true := by
    unfold q6b seeR at h ⊢
    split at h
    · rename_i h1
      rw [if_pos h1]
      split at h
      · rename_i h2
        rw [if_pos h2]
        split at h
        · rename_i h3; rw [if_pos h3]; simpa using h2
        · cases h
      · cases h
    · rename_i h1; exact absurd h h1
  have hs := q5w (q7o g.fit) h1
  have hk' : (q6b w t a).1.kind = 5 := by simpa using hk
  have e : inner (q6b w t a).1 = (kept (q6b w t a).1.gate.grant && (kept (q6b w t a).1.gate.clear && leqR (q6b w t a).1.gate.grant (q6b w t a).1.gate.clear)) := by
    unfold inner; rw [hk']; rfl
  unfold sound at hs
  rw [e] at hs
  simp only [Bool.and_eq_true] at hs
  exact ⟨hs.2.2.1, hs.2.2.2.1⟩
theorem enter_csat {H : Heap} (t : Ob) (w : Wd) (a : Nat → Int) (hb : H 7 = some (.box (Clr.enc ⟨t, w, a⟩))) (g : Good w) (ht : t ∈ w.objects) (hk : t.kind = 4) (ha : ∀ i, i < 7 → 0 ≤ a i) :
    CSat Tryz.prog 122 [.ptr 7 0] H 8 (fun out H' m' => (((q4f w t a).2.2.1 == 0) = true → out = .ret (.int .u64 (q4f w t a).2.1) ∧ ∃ t', H' 7 = some (.box (Clr.enc ⟨t', (q4f w t a).1, a⟩))) ∧ (((q4f w t a).2.2.1 == 0) = false → out = .pan (thr (q4f w t a).2.2.1)) ∧ 8 ≤ m' ∧ ∀ j, j < 7 → H' j = H j) := by
  have hwd := q7o g.fit
  have hT := thr_of (q5w hwd ht) hk
  have l1 := q5h hT.lab
  have f1 := q4z hT.lab
  have hcl := thr_clear hT.fit
  have f2 := q4z hcl.1
  have l2 := q5h hcl.1
  have hsee := reach_see w t ⟨a 0, a 1⟩ 5 g.few hwd f1 (by omega)
  have hput := fun o => put_c w o (q5q hwd).1 (by have := g.few.n; omega)
  have a2 := ha 2 (by decide)
  have a3 := ha 3 (by decide)
  have hgate := gate_ok (t := t) (a := a) g
  clear hk
  unfold q4f mayR
  unfold q6b at hgate ⊢
  cases h2 : decide (a 2 < 4) with
  | false =>
    simp only [Bool.false_and, Bool.false_eq_true, if_false]
    refine q4s (by kernel_rfl) Tryz.func122 Tryz.results122 rfl (by simp [Tryz.ntmps122]) (by kernel_rfl) ?_
    repeat' (first | (show q0i ..; first | refine q0c ?_ | refine q0e rfl ?_) | (show q0k ..; first | refine q0f rfl rfl ?_ | refine q0l rfl ?_) | (show goOn ..; refine q0g ?_) | (show q0d ..; first | refine q0h ?_ | refine q0b ?_) | refine q0a ?_)
    (refine q0w (by kernel_rfl) (lab_no t w a hb 2 (.inl rfl) h2) ?_ ?_)
    case refine_1 => rintro r H' m' ⟨h, _⟩; cases h
    rintro p H' m' ⟨h, rfl, rfl⟩
    cases h
    repeat' (first | refine q4l ?_ | refine q4w ?_ | refine q4u ?_)
    exact ⟨(fun h => by cases h), (fun _ => rfl), Nat.le_refl _, fun _ _ => rfl⟩
  | true =>
  cases h3 : decide (a 3 < 4) with
  | false =>
    simp only [Bool.and_false, Bool.false_eq_true, if_false]
    refine q4s (by kernel_rfl) Tryz.func122 Tryz.results122 rfl (by simp [Tryz.ntmps122]) (by kernel_rfl) ?_
    repeat' (first | (show q0i ..; first | refine q0c ?_ | refine q0e rfl ?_) | (show q0k ..; first | refine q0f rfl rfl ?_ | refine q0l rfl ?_) | (show goOn ..; refine q0g ?_) | (show q0d ..; first | refine q0h ?_ | refine q0b ?_) | refine q0a ?_)
    (refine q0w (by kernel_rfl) (lab_yes t w a hb 2 (.inl rfl) a2 (of_decide_eq_true h2)) ?_ ?_)
    case refine_2 => rintro p H' m' ⟨h, _⟩; cases h
    rintro r H' m' ⟨h, rfl, rfl⟩
    cases h
    repeat' (first | (show q0i ..; refine q0e rfl ?_) | (show q0k ..; first | refine q0f rfl rfl ?_ | refine q0l rfl ?_) | (show goOn ..; refine q0g ?_))
    (refine q0w (by kernel_rfl) (lab_no t w a hb 3 (.inr rfl) h3) ?_ ?_)
    case refine_1 => rintro r H' m' ⟨h, _⟩; cases h
    rintro p H' m' ⟨h, rfl, rfl⟩
    cases h
    repeat' (first | refine q4l ?_ | refine q4w ?_ | refine q4u ?_)
    exact ⟨(fun h => by cases h), (fun _ => rfl), Nat.le_refl _, fun _ _ => rfl⟩
  | true =>
  simp only [Bool.and_true, if_true]
  have k2 : kept (la t a 2) = true := q9b hT.fit (by have := of_decide_eq_true h2; omega)
  have k3 : kept (la t a 3) = true := q9b hT.fit (by have := of_decide_eq_true h3; omega)
  have lab2 := fun m => lab_yes (m := m) t w a hb 2 (.inl rfl) a2 (of_decide_eq_true h2)
  have lab3 := fun m => lab_yes (m := m) t w a hb 3 (.inr rfl) a3 (of_decide_eq_true h3)
  generalize la t a 2 = n at k2 lab2 ⊢
  generalize la t a 3 = m at k3 lab3 ⊢
  generalize seeR w t ⟨a 0, a 1⟩ 5 = D at hsee hgate ⊢
  obtain ⟨o, e⟩ := D
  simp only at hsee hgate ⊢
  cases he : (e == 0) with
  | false =>
    simp only [Bool.false_eq_true, if_false]
    refine q4s (by kernel_rfl) Tryz.func122 Tryz.results122 rfl (by simp [Tryz.ntmps122]) (by kernel_rfl) ?_
    repeat' (first | (show q0i ..; first | refine q0c ?_ | refine q0e rfl ?_) | (show q0k ..; first | refine q0f rfl rfl ?_ | refine q0l rfl ?_) | (show goOn ..; refine q0g ?_) | (show q0d ..; first | refine q0h ?_ | refine q0b ?_) | refine q0a ?_)
    (refine q0w (by kernel_rfl) (lab2 _) ?_ ?_)
    case refine_2 => rintro p H' m' ⟨h, _⟩; cases h
    rintro r H' m' ⟨h, rfl, rfl⟩
    cases h
    repeat' (first | (show q0i ..; refine q0e rfl ?_) | (show q0k ..; first | refine q0f rfl rfl ?_ | refine q0l rfl ?_) | (show goOn ..; refine q0g ?_))
    (refine q0w (by kernel_rfl) (lab3 _) ?_ ?_)
    case refine_2 => rintro p H' m' ⟨h, _⟩; cases h
    rintro r H' m' ⟨h, rfl, rfl⟩
    cases h
    repeat' (first | (show q0i ..; first | refine q0c ?_ | refine q0e rfl ?_) | (show q0k ..; first | refine q0f rfl rfl ?_ | refine q0l rfl ?_) | (show goOn ..; refine q0g ?_) | (show dr ..; first | refine q1y ?_ | refine dr_n rfl ?_) | (show drGo ..; first | refine q2t rfl ?_ | refine q2k rfl ?_) | (show drOn ..; first | refine q1z ?_ | refine dn_new ?_ | refine q8y ?_) | (show q6y ..; refine q5k ?_) | (show q2e ..; (refine q1f (r := ?_) ?_ ?_; rotate_left 1; (focus exact hsee))) | (refine And.intro (by kernel_rfl : q1n _ = true) ?_) | (show q0d ..; first | refine q0h ?_ | refine q0b ?_ | refine q1o (by kernel_rfl) ?_) | refine q0a ?_)
    (refine q0w (by kernel_rfl) (none_no _ _ _ he) ?_ ?_)
    case refine_1 => rintro r H' m' ⟨h, _⟩; cases h
    rintro p H1 m1 ⟨h, rfl, rfl⟩
    cases h
    repeat' (first | refine q4l ?_ | refine q4w ?_ | refine q4u ?_)
    exact ⟨(fun h => by rw [he] at h; cases h), (fun _ => rfl), by omega, (fun j hj => by repeat rw [q1b _ _ (by omega)])⟩
  | true =>
  obtain rfl : e = 0 := by simpa using he
  obtain ⟨kg, kc⟩ := hgate he
  simp only [if_true]
  have hent := chk_enter t.label t.thread.clear o.gate.grant o.gate.clear n m (by omega) (by omega) (by have := q5h kg; omega) (by have := q5h kc; omega) (by have := q5h k2; omega) (by have := q5h k3; omega)
  rw [enter_eq f1 f2 (q4z kg) (q4z kc) (q4z k2) (q4z k3)] at hent
  cases hE : enterR t.label t.thread.clear o.gate.grant o.gate.clear n m with
  | false =>
    rw [hE] at hent
    simp only [Bool.false_and, Bool.false_eq_true, if_false]
    refine q4s (by kernel_rfl) Tryz.func122 Tryz.results122 rfl (by simp [Tryz.ntmps122]) (by kernel_rfl) ?_
    repeat' (first | (show q0i ..; first | refine q0c ?_ | refine q0e rfl ?_) | (show q0k ..; first | refine q0f rfl rfl ?_ | refine q0l rfl ?_) | (show goOn ..; refine q0g ?_) | (show q0d ..; first | refine q0h ?_ | refine q0b ?_) | refine q0a ?_)
    (refine q0w (by kernel_rfl) (lab2 _) ?_ ?_)
    case refine_2 => rintro p H' m' ⟨h, _⟩; cases h
    rintro r H' m' ⟨h, rfl, rfl⟩
    cases h
    repeat' (first | (show q0i ..; refine q0e rfl ?_) | (show q0k ..; first | refine q0f rfl rfl ?_ | refine q0l rfl ?_) | (show goOn ..; refine q0g ?_))
    (refine q0w (by kernel_rfl) (lab3 _) ?_ ?_)
    case refine_2 => rintro p H' m' ⟨h, _⟩; cases h
    rintro r H' m' ⟨h, rfl, rfl⟩
    cases h
    repeat' (first | (show q0i ..; first | refine q0c ?_ | refine q0e rfl ?_) | (show q0k ..; first | refine q0f rfl rfl ?_ | refine q0l rfl ?_) | (show goOn ..; refine q0g ?_) | (show dr ..; first | refine q1y ?_ | refine dr_n rfl ?_) | (show drGo ..; first | refine q2t rfl ?_ | refine q2k rfl ?_) | (show drOn ..; first | refine q1z ?_ | refine dn_new ?_ | refine q8y ?_) | (show q6y ..; refine q5k ?_) | (show q2e ..; (refine q1f (r := ?_) ?_ ?_; rotate_left 1; (focus exact hsee))) | (refine And.intro (by kernel_rfl : q1n _ = true) ?_) | (show q0d ..; first | refine q0h ?_ | refine q0b ?_ | refine q1o (by kernel_rfl) ?_) | refine q0a ?_)
    (refine q0w (by kernel_rfl) (none_yes _ _) ?_ ?_)
    case refine_2 => rintro p H' m' ⟨⟨_, h⟩, _⟩; cases h
    rintro r H' m' ⟨⟨_, h⟩, rfl, rfl⟩
    clear h
    repeat' (first | (show q0i ..; first | refine q0c ?_ | refine q0e rfl ?_) | (show q0k ..; refine q0f rfl rfl ?_) | (show goOn ..; first | refine q0g ?_ | refine q1d ?_ | refine q1x ?_) | (show q2w ..; refine q1h ?_) | (show q0d ..; first | refine q0h ?_ | refine q0b ?_) | refine q0a ?_)
    refine pc_drawL 18 (by kernel_rfl) (by kernel_rfl) ?_
    repeat' (first | (show q0i ..; refine q0e rfl ?_) | (show q0k ..; refine q0l rfl ?_) | (show dr ..; first | refine q1y ?_ | refine dr_n rfl ?_) | (show drGo ..; first | refine q2t rfl ?_ | refine q2k rfl ?_) | (show drOn ..; refine q1z ?_) | (show q2e ..; (refine q1f (r := ?_) ?_ ?_; rotate_left 1; (focus exact hent))) | (refine And.intro (by kernel_rfl : q1n _ = true) ?_))
    (refine q0w (by kernel_rfl) (must_no _ _ _) ?_ ?_)
    case refine_1 => rintro r H' m' ⟨h, _⟩; cases h
    rintro p H' m' ⟨h, rfl, rfl⟩
    cases h
    repeat' (first | refine q4l ?_ | refine q4w ?_ | refine q4u ?_)
    exact ⟨(fun h => by cases h), (fun _ => rfl), by omega, (fun j hj => by repeat rw [q1b _ _ (by omega)])⟩
  | true =>
  rw [hE] at hent
  simp only [Bool.true_and]
  have hlies := fun H hb => lies_csat (H := H) (m := 10) t w a hb n (by decide) g (q4z k2) (q5h k2)
  cases hL : liesR w t.id n with
  | false =>
    rw [hL] at hlies
    simp only [Bool.false_eq_true, if_false]
    refine q4s (by kernel_rfl) Tryz.func122 Tryz.results122 rfl (by simp [Tryz.ntmps122]) (by kernel_rfl) ?_
    repeat' (first | (show q0i ..; first | refine q0c ?_ | refine q0e rfl ?_) | (show q0k ..; first | refine q0f rfl rfl ?_ | refine q0l rfl ?_) | (show goOn ..; refine q0g ?_) | (show q0d ..; first | refine q0h ?_ | refine q0b ?_) | refine q0a ?_)
    (refine q0w (by kernel_rfl) (lab2 _) ?_ ?_)
    case refine_2 => rintro p H' m' ⟨h, _⟩; cases h
    rintro r H' m' ⟨h, rfl, rfl⟩
    cases h
    repeat' (first | (show q0i ..; refine q0e rfl ?_) | (show q0k ..; first | refine q0f rfl rfl ?_ | refine q0l rfl ?_) | (show goOn ..; refine q0g ?_))
    (refine q0w (by kernel_rfl) (lab3 _) ?_ ?_)
    case refine_2 => rintro p H' m' ⟨h, _⟩; cases h
    rintro r H' m' ⟨h, rfl, rfl⟩
    cases h
    repeat' (first | (show q0i ..; first | refine q0c ?_ | refine q0e rfl ?_) | (show q0k ..; first | refine q0f rfl rfl ?_ | refine q0l rfl ?_) | (show goOn ..; refine q0g ?_) | (show dr ..; first | refine q1y ?_ | refine dr_n rfl ?_) | (show drGo ..; first | refine q2t rfl ?_ | refine q2k rfl ?_) | (show drOn ..; first | refine q1z ?_ | refine dn_new ?_ | refine q8y ?_) | (show q6y ..; refine q5k ?_) | (show q2e ..; (refine q1f (r := ?_) ?_ ?_; rotate_left 1; (focus exact hsee))) | (refine And.intro (by kernel_rfl : q1n _ = true) ?_) | (show q0d ..; first | refine q0h ?_ | refine q0b ?_ | refine q1o (by kernel_rfl) ?_) | refine q0a ?_)
    (refine q0w (by kernel_rfl) (none_yes _ _) ?_ ?_)
    case refine_2 => rintro p H' m' ⟨⟨_, h⟩, _⟩; cases h
    rintro r H' m' ⟨⟨_, h⟩, rfl, rfl⟩
    clear h
    repeat' (first | (show q0i ..; first | refine q0c ?_ | refine q0e rfl ?_) | (show q0k ..; refine q0f rfl rfl ?_) | (show goOn ..; first | refine q0g ?_ | refine q1d ?_ | refine q1x ?_) | (show q2w ..; refine q1h ?_) | (show q0d ..; first | refine q0h ?_ | refine q0b ?_) | refine q0a ?_)
    refine pc_drawL 18 (by kernel_rfl) (by kernel_rfl) ?_
    repeat' (first | (show q0i ..; refine q0e rfl ?_) | (show q0k ..; refine q0l rfl ?_) | (show dr ..; first | refine q1y ?_ | refine dr_n rfl ?_) | (show drGo ..; first | refine q2t rfl ?_ | refine q2k rfl ?_) | (show drOn ..; refine q1z ?_) | (show q2e ..; (refine q1f (r := ?_) ?_ ?_; rotate_left 1; (focus exact hent))) | (refine And.intro (by kernel_rfl : q1n _ = true) ?_))
    (refine q0w (by kernel_rfl) (must_yes _ _ _) ?_ ?_)
    case refine_2 => rintro p H' m' ⟨⟨_, h⟩, _⟩; cases h
    rintro r H' m' ⟨⟨_, h⟩, rfl, rfl⟩
    clear h
    repeat' (first | (show q0i ..; first | refine q0c ?_ | refine q0e rfl ?_) | (show q0k ..; first | refine q0f rfl rfl ?_ | refine q0l rfl ?_) | (show goOn ..; refine q0g ?_) | (show q0d ..; first | refine q0h ?_ | refine q0b ?_) | refine q0a ?_)
    (refine q0w (by kernel_rfl) (hlies _ (by simp only [go_sem, *])) ?_ ?_)
    case refine_1 => rintro r H' m' ⟨_, h, _⟩; have := h rfl; cases this
    rintro p H1 m1 ⟨_, h, L1, A1⟩
    have := h rfl
    cases this
    repeat' (first | refine q4l ?_ | refine q4w ?_ | refine q4u ?_)
    exact ⟨(fun h => by cases h), (fun _ => rfl), by omega, (fun j hj => by rw [A1 j (by omega)]; repeat rw [q1b _ _ (by omega)])⟩
  | true =>
    rw [hL] at hlies
    simp only [if_true]
    refine q4s (by kernel_rfl) Tryz.func122 Tryz.results122 rfl (by simp [Tryz.ntmps122]) (by kernel_rfl) ?_
    repeat' (first | (show q0i ..; first | refine q0c ?_ | refine q0e rfl ?_) | (show q0k ..; first | refine q0f rfl rfl ?_ | refine q0l rfl ?_) | (show goOn ..; refine q0g ?_) | (show q0d ..; first | refine q0h ?_ | refine q0b ?_) | refine q0a ?_)
    (refine q0w (by kernel_rfl) (lab2 _) ?_ ?_)
    case refine_2 => rintro p H' m' ⟨h, _⟩; cases h
    rintro r H' m' ⟨h, rfl, rfl⟩
    cases h
    repeat' (first | (show q0i ..; refine q0e rfl ?_) | (show q0k ..; first | refine q0f rfl rfl ?_ | refine q0l rfl ?_) | (show goOn ..; refine q0g ?_))
    (refine q0w (by kernel_rfl) (lab3 _) ?_ ?_)
    case refine_2 => rintro p H' m' ⟨h, _⟩; cases h
    rintro r H' m' ⟨h, rfl, rfl⟩
    cases h
    repeat' (first | (show q0i ..; first | refine q0c ?_ | refine q0e rfl ?_) | (show q0k ..; first | refine q0f rfl rfl ?_ | refine q0l rfl ?_) | (show goOn ..; refine q0g ?_) | (show dr ..; first | refine q1y ?_ | refine dr_n rfl ?_) | (show drGo ..; first | refine q2t rfl ?_ | refine q2k rfl ?_) | (show drOn ..; first | refine q1z ?_ | refine dn_new ?_ | refine q8y ?_) | (show q6y ..; refine q5k ?_) | (show q2e ..; (refine q1f (r := ?_) ?_ ?_; rotate_left 1; (focus exact hsee))) | (refine And.intro (by kernel_rfl : q1n _ = true) ?_) | (show q0d ..; first | refine q0h ?_ | refine q0b ?_ | refine q1o (by kernel_rfl) ?_) | refine q0a ?_)
    (refine q0w (by kernel_rfl) (none_yes _ _) ?_ ?_)
    case refine_2 => rintro p H' m' ⟨⟨_, h⟩, _⟩; cases h
    rintro r H' m' ⟨⟨_, h⟩, rfl, rfl⟩
    clear h
    repeat' (first | (show q0i ..; first | refine q0c ?_ | refine q0e rfl ?_) | (show q0k ..; refine q0f rfl rfl ?_) | (show goOn ..; first | refine q0g ?_ | refine q1d ?_ | refine q1x ?_) | (show q2w ..; refine q1h ?_) | (show q0d ..; first | refine q0h ?_ | refine q0b ?_) | refine q0a ?_)
    refine pc_drawL 18 (by kernel_rfl) (by kernel_rfl) ?_
    repeat' (first | (show q0i ..; refine q0e rfl ?_) | (show q0k ..; refine q0l rfl ?_) | (show dr ..; first | refine q1y ?_ | refine dr_n rfl ?_) | (show drGo ..; first | refine q2t rfl ?_ | refine q2k rfl ?_) | (show drOn ..; refine q1z ?_) | (show q2e ..; (refine q1f (r := ?_) ?_ ?_; rotate_left 1; (focus exact hent))) | (refine And.intro (by kernel_rfl : q1n _ = true) ?_))
    (refine q0w (by kernel_rfl) (must_yes _ _ _) ?_ ?_)
    case refine_2 => rintro p H' m' ⟨⟨_, h⟩, _⟩; cases h
    rintro r H' m' ⟨⟨_, h⟩, rfl, rfl⟩
    clear h
    repeat' (first | (show q0i ..; first | refine q0c ?_ | refine q0e rfl ?_) | (show q0k ..; first | refine q0f rfl rfl ?_ | refine q0l rfl ?_) | (show goOn ..; refine q0g ?_) | (show q0d ..; first | refine q0h ?_ | refine q0b ?_) | refine q0a ?_)
    (refine q0w (by kernel_rfl) (hlies _ (by simp only [go_sem, *])) ?_ ?_)
    case refine_2 => rintro p H' m' ⟨h, _⟩; obtain ⟨_, h⟩ := h rfl; cases h
    rintro r H1 m1 ⟨_, _, L1, A1⟩
    have c7 : H1 7 = some (.box (Clr.enc ⟨t, w, a⟩)) := by rw [A1 7 (by omega)]; simp only [go_sem, *]
    have c9 : H1 9 = some (.box (Gt.enc o.gate)) := by rw [A1 9 (by omega)]; simp only [go_sem, *]
    repeat' (first | (show q0i ..; first | refine q0c ?_ | refine q0e rfl ?_) | (show q0k ..; refine q0f rfl rfl ?_) | (show goOn ..; first | refine q0g ?_ | refine q1x ?_) | (show q2w ..; refine q1h ?_) | (show dr ..; first | refine q1y ?_ | refine dr_n rfl ?_) | (show drGo ..; first | refine q2t rfl ?_ | refine q2k rfl ?_) | (show drOn ..; first | refine q1z ?_ | refine q8y ?_) | (show q6y ..; refine q5k ?_) | (show q2e ..; (refine q1f (r := ?_) ?_ ?_; rotate_left 1; (focus exact hput _))) | (refine And.intro (by kernel_rfl : q2d _ _ _ = true) ?_) | (show q0d ..; first | refine q0h ?_ | refine q0b ?_ | refine q9h (by kernel_rfl) ?_ | refine q0t ?_) | refine q0a ?_ | (show retQ ..; refine q0u ?_) | refine q0n ?_)
    refine ⟨(fun _ => ⟨rfl, gone t n m o.gate (a 4), ?_⟩), (fun h => by cases h), by omega, (fun j hj => ?_)⟩
    · simp only [go_sem] <;> rfl
    · repeat rw [q1b _ _ (by omega)]
      rw [A1 j (by omega)]
      repeat rw [q1b _ _ (by omega)]
theorem do_doC (t : Ob) (w : Wd) (n : Int) (a : Nat → Int) (g : Good w) (ht : t ∈ w.objects) (hk : t.kind = 4) (ha : ∀ i, i < 7 → 0 ≤ a i) : DoC t w n a (q5u w t n a) := by
  intro H hb
  unfold q5u
  cases h : (n == 40) with
  | false =>
    have h' : (n != 40) = true := by simp [bne, h]
    simp only [Bool.false_eq_true, if_false]
    refine q4s (by kernel_rfl) Tryz.func62 Tryz.results62 rfl (by simp [Tryz.ntmps62]) (by kernel_rfl) ?_
    repeat' (first | (show q0i ..; first | refine q0c ?_ | refine q0e rfl ?_) | (show q0k ..; refine q0f rfl rfl ?_) | (show goOn ..; refine q0g ?_) | (show q0d ..; first | refine q0h ?_ | refine q0b ?_ | refine q0t ?_ | refine q0j ?_) | (show q0o ..; refine cd_t ?_) | refine q0a ?_ | refine q2j ?_ | (show retQ ..; refine q0u ?_) | refine q0n ?_)
    exact ⟨(fun _ => ⟨rfl, _, hb⟩), (fun h => by cases h), by omega, (fun j hj => rfl)⟩
  | true =>
    have h' : (n != 40) = false := by simp [bne, h]
    simp only [if_true]
    have hen := enter_csat t w a hb g ht hk ha
    have hkn := enter_k w t a
    generalize q4f w t a = R at hen hkn ⊢
    obtain ⟨x, v, e, k⟩ := R
    simp only at hen hkn ⊢
    subst hkn
    cases he : (e == 0) with
    | true =>
      refine q4s (by kernel_rfl) Tryz.func62 Tryz.results62 rfl (by simp [Tryz.ntmps62]) (by kernel_rfl) ?_
      repeat' (first | (show q0i ..; first | refine q0c ?_ | refine q0e rfl ?_) | (show q0k ..; first | refine q0f rfl rfl ?_ | refine q0l rfl ?_) | (show goOn ..; refine q0g ?_) | (show q0d ..; first | refine q0h ?_ | refine q0b ?_ | refine q0s ?_ | refine q0j ?_) | (show q0o ..; refine cd_f ?_) | refine q0a ?_)
      (refine q0w (by kernel_rfl) (hen) ?_ ?_)
      case refine_2 => rintro p H' m' ⟨h, _⟩; have := (h he).1; cases this
      rintro r H1 m1 ⟨h, _, L1, A1⟩
      obtain ⟨ho, t', c7⟩ := h he
      cases ho
      repeat' (first | (show q0i ..; first | refine q0c ?_ | refine q0e rfl ?_) | (show q0k ..; refine q0f rfl rfl ?_) | (show goOn ..; refine q0g ?_) | (show q0d ..; refine q0t ?_) | refine q0a ?_ | (show retQ ..; refine q0u ?_) | refine q0n ?_)
      exact ⟨(fun _ => ⟨rfl, t', c7⟩), (fun h => by first | cases h | (rw [he] at h; cases h)), L1, A1⟩
    | false =>
      refine q4s (by kernel_rfl) Tryz.func62 Tryz.results62 rfl (by simp [Tryz.ntmps62]) (by kernel_rfl) ?_
      repeat' (first | (show q0i ..; first | refine q0c ?_ | refine q0e rfl ?_) | (show q0k ..; first | refine q0f rfl rfl ?_ | refine q0l rfl ?_) | (show goOn ..; refine q0g ?_) | (show q0d ..; first | refine q0h ?_ | refine q0b ?_ | refine q0s ?_ | refine q0j ?_) | (show q0o ..; refine cd_f ?_) | refine q0a ?_)
      (refine q0w (by kernel_rfl) (hen) ?_ ?_)
      case refine_1 => rintro r H' m' ⟨_, h, _⟩; have := h he; cases this
      rintro p H1 m1 ⟨_, h, L1, A1⟩
      have ho := h he
      cases ho
      repeat' (first | refine q4l ?_ | refine q4w ?_ | refine q4u ?_)
      exact ⟨(fun h => by first | cases h | (rw [he] at h; cases h)), (fun _ => rfl), L1, A1⟩
end Go.Proofs.YtoibbedpaaeclaaGreat.kgate
end

section
namespace Go.Proofs.YtoibbedpaaeclaaGreat.kgate
open Go Go.RowKit Go.Proofs.YtoibbedpaaeclaaGreat
set_option linter.unusedVariables false
set_option linter.unusedSimpArgs false
set_option maxHeartbeats 16000000
set_option maxRecDepth 100000
attribute [local irreducible] q0i dr q0d Ex.then Ex.inBlock retQ q1n q2d q2c Pure CSat evOp q1i rdOf upd hset strip sp0 cut envL q1g q3i Keep BdL evBs q2n q2s
end Go.Proofs.YtoibbedpaaeclaaGreat.kgate
end

section
namespace Go.Proofs.YtoibbedpaaeclaaGreat
open Go Go.RowKit Go.ChangeShapes Go.WideShapes Go.Joins
set_option linter.unusedVariables false
set_option linter.unusedSimpArgs false
theorem opens_args : q4j Tryz.prog 48 args (fun f => ∀ i, i < 7 → U (f i)) := q3y (q8o (n := 7) Tryz.underlying48 (by kernel_rfl) (by kernel_rfl) (q1v (k := .u64) Tryz.underlying22)) (fun y => rfl) (fun y h => h)
theorem okWide_array {P : Program} {w : World} {r : Reach} {b0 : Nat} {t e : TypeId} {n : Nat} {v : Value} (ht : P.underlying t = some (.array n e)) (h : Value.okWide P w r b0 t v) : ∃ cs, v = .agg cs ∧ cs.size = P.cellsOf t := by
  simp only [Value.okWide, ht] at h
  obtain ⟨cs, h1, h2, _⟩ := h
  exact ⟨cs, h1, h2⟩
theorem openedR_array {P : Program} {t e : TypeId} {n : Nat} {α : Type} {en : α → List PV} {wf : α → Prop} {H : Type} {enc : TypeId × Value → H} {w : World} {spare : Nat → Bool} {held : Bool} {r : Reach} {b0 : Nat} {v : Value} {dt : DataW H} {p : List MemPlace}
    (ht : P.underlying t = some (.array n e)) (h : q4j P t en wf) (hv : Value.okWide P w r b0 t v) (hd : DataW.Trod enc P w 0 spare held t v dt p) : ∃ y : α, wf y ∧ ∀ σ L, VR w NoM σ L v (.agg (en y)) := by
  obtain ⟨cs, rfl, hsz⟩ := okWide_array ht hv
  obtain ⟨fuel, hf⟩ := hd
  obtain ⟨y, hw, hk⟩ := h H enc w 0 spare held fuel _ _ hf
  exact ⟨y, hw, fun σ L => vr_aggc (hk σ L)⟩
end Go.Proofs.YtoibbedpaaeclaaGreat
end
