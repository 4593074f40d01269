import Derived.Test.YtoibbedpaaeclaaGreatRzB
import Derived.Test.YtoibbedpaaeclaaGreatRz9
section
namespace Go.Proofs.YtoibbedpaaeclaaGreat.kgate
open Go Go.RowKit Go.Proofs.YtoibbedpaaeclaaGreat
set_option linter.unusedVariables false
set_option linter.unusedSimpArgs false
set_option maxHeartbeats 16000000
set_option maxRecDepth 100000
def arg4 (x y z u : Int) : Nat → Int := fun i => if i = 0 then x else if i = 1 then y else if i = 2 then z else if i = 3 then u else 0
@[go_sem] theorem args_build4 (x y z u : Int) : q3z Tryz.prog 48 [(0, .int .u64 x), (1, .int .u64 y), (2, .int .u64 z), (3, .int .u64 u)] = some (.agg (args (arg4 x y z u))) := by kernel_rfl
def exL : Nat → List Pr := fun i => if i = 2 then [⟨7, 4⟩] else if i = 1 then ownL else []
def exT : Ob := { Ob.zero with id := 1152921504606846977, kind := 4, quota := 1, thread := { Th.zero with labs := exL } }
def exG : Ob := { Ob.zero with id := 1152921504606846978, kind := 5, quota := 1, gate := ⟨ownL, [⟨7, 4⟩], Rf.zero, 5, 6⟩ }
def exC : Ob := { Ob.zero with id := 1152921504606846976, kind := 2, quota := 9, links := [1152921504606846977, 1152921504606846978] }
def exW : Wd := { Wd.zero with key := 3, root := 1152921504606846976, objects := [exC, exT, exG] }
theorem exW_few : FewW exW := ⟨by simp [exW], fun x hx => by simp only [exW, List.mem_cons, List.not_mem_nil, or_false] at hx; rcases hx with rfl | rfl | rfl <;> simp [exC, exT, exG, Ob.zero]⟩
theorem exW_L : exW.L := by
  refine ⟨by simp [exW], fun x hx => ?_⟩
  simp only [exW, List.mem_cons, List.not_mem_nil, or_false] at hx
  have hz : ([] : List Int).length ≤ 9223372036854775807 := by decide
  have hp : ([] : List Pr).length ≤ 9223372036854775807 := by decide
  have hm : ([] : List Mp).length ≤ 9223372036854775807 := by decide
  have hl : ∀ i, i < 4 → (exL i).length ≤ 9223372036854775807 := by
    intro i hi
    unfold exL
    repeat' split
    all_goals decide
  rcases hx with rfl | rfl | rfl
  · exact ⟨⟨hp, by decide, hz, hm, Th.zeroL, Gt.zeroL, hz, hz⟩, by decide⟩
  · exact ⟨⟨hp, hz, hz, hm, ⟨hp, hz, hl⟩, Gt.zeroL, hz, hz⟩, by decide⟩
  · exact ⟨⟨hp, hz, hz, hm, Th.zeroL, ⟨by decide, by decide⟩, hz, hz⟩, by decide⟩
theorem exW_fit : fitW exW = true := by
  have h : q6q exW = true := by decide +kernel
  have h1 : (q2i exW exW.root).2 = true := by rfl
  have h2 : allB exW.objects.length (q8j exW) = true := by rfl
  have hz : ∀ n, hasZ 3 Th.zero.span n = false := fun n => by
    unfold hasZ
    have : (decide (numF 3 n ≥ Th.zero.span.lo) && decide (numF 3 n < Th.zero.span.hi)) = false := by
      show (decide (numF 3 n ≥ 0) && decide (numF 3 n < 0)) = false
      rcases Int.lt_or_le (numF 3 n) 0 with h | h
      · rw [decide_eq_false (by omega : ¬ numF 3 n ≥ 0)]; rfl
      · rw [decide_eq_false (by omega : ¬ numF 3 n < 0), Bool.and_false]
    rw [this]; simp
  have h3 : q7f exW = true := by
    unfold q7f
    refine q2m fun j hj => ?_
    have hj' : j < 3 := hj
    rcases (by omega : j = 0 ∨ j = 1 ∨ j = 2) with rfl | rfl | rfl
    · rfl
    · show (if (exT.kind == 4) = true then allB 3 (q9v exW exT 1) else true) = true
      rw [if_pos (show (exT.kind == 4) = true from rfl)]
      refine q2m fun k hk => ?_
      have hzz : hasZ exW.key exT.thread.span = hasZ 3 Th.zero.span := rfl
      rcases (by omega : k = 0 ∨ k = 1 ∨ k = 2) with rfl | rfl | rfl
      · show (!(hasZ exW.key exT.thread.span exC.id || _)) = true
        rw [hzz, hz]; rfl
      · show (!(hasZ exW.key exT.thread.span exT.id || _)) = true
        rw [hzz, hz]; rfl
      · show (!(hasZ exW.key exT.thread.span exG.id || _)) = true
        rw [hzz, hz]; rfl
    · rfl
  unfold fitW
  rw [h, h1, h2, h3]; rfl
theorem exW_good : Good exW := ⟨exW_L, exW_few, exW_fit⟩
@[go_sem] theorem ex23_b0 (x y : Int) : q2r Tryz.prog 23 2 [(0, .int .u64 x), (1, .int .u64 y)] = some (.sl [u64 x, u64 y]) := by kernel_rfl
@[go_sem] theorem ex23_b1 (id kind quota : Int) (x y : Int) : q3z Tryz.prog 71 [(0, .int .u64 id), (1, .int .i64 kind), (3, .int .i64 quota), (5, .sl [u64 x, u64 y])] = some (.agg (Ob.enc ⟨id, kind, [], quota, false, [x, y], [], [], Th.zero, Gt.zero, [], []⟩)) := by kernel_rfl
@[go_sem] theorem ex23_b2 (p : List Pr) (q : Pr) (a b : Int) : q3z Tryz.prog 69 [(0, .sl (List.map Pr.enc p)), (1, .sl [Pr.enc q]), (3, .int .u64 a), (4, .int .u64 b)] = some (.agg (Gt.enc ⟨p, [q], Rf.zero, a, b⟩)) := by kernel_rfl
@[go_sem] theorem ex23_b3 (id kind quota : Int) (g : Gt) : q3z Tryz.prog 71 [(0, .int .u64 id), (1, .int .i64 kind), (3, .int .i64 quota), (9, .agg (Gt.enc g))] = some (.agg (Ob.enc { Ob.zero with id := id, kind := kind, quota := quota, gate := g })) := by kernel_rfl
@[go_sem] theorem ex23_b4 (x y z : Ob) : q2r Tryz.prog 31 3 [(0, .agg (Ob.enc x)), (1, .agg (Ob.enc y)), (2, .agg (Ob.enc z))] = some (.sl [Ob.enc x, Ob.enc y, Ob.enc z]) := by kernel_rfl
@[go_sem] theorem ex23_b5 (k r : Int) (x y z : Ob) : q3z Tryz.prog 33 [(1, .int .u64 k), (2, .int .u64 r), (3, .sl [Ob.enc x, Ob.enc y, Ob.enc z])] = some (.agg (Wd.enc ⟨0, k, r, [x, y, z]⟩)) := by kernel_rfl
@[go_sem] theorem spl_lab1 (x : Ob) (p : List Pr) : splice (Ob.enc x) 40 [.sl (List.map Pr.enc p)] = Ob.enc { x with thread := { x.thread with labs := fun i => if i = 1 then p else x.thread.labs i } } := by kernel_rfl
@[go_sem] theorem spl_lab2 (x : Ob) (p : Pr) : splice (Ob.enc x) 41 [.sl [Pr.enc p]] = Ob.enc { x with thread := { x.thread with labs := fun i => if i = 2 then [p] else x.thread.labs i } } := by kernel_rfl
theorem arg4_nat (x y z u : Int) (hx : 0 ≤ x) (hy : 0 ≤ y) (hz : 0 ≤ z) (hu : 0 ≤ u) : ∀ i, i < 7 → 0 ≤ arg4 x y z u i := by
  intro i _
  unfold arg4
  repeat' split
  all_goals omega
theorem kgate_do (w : Wd) (id n : Int) (a : Nat → Int) (g : Good w) (hi : isThr w id = true) (ha : ∀ i, i < 7 → 0 ≤ a i) :
    Pure Tryz.prog 26 [.agg (Wd.enc w), .int .u64 id, .int .i64 n, .agg (args a)] (.tup [.agg (Wd.enc (q5u w (q2i w id).1 n a).1), .int .u64 (q5u w (q2i w id).1 n a).2.1, .int .i64 (q5u w (q2i w id).1 n a).2.2.1, .bool (q5u w (q2i w id).1 n a).2.2.2]) :=
  do_pure w id n a _ _ _ (find_p g.few g.fit id) (do_doC _ w n a g (isThr_ok hi).1 (isThr_ok hi).2.2 ha) (kgate_err _ _ _ _)
attribute [local irreducible] q0i dr q0d Ex.then Ex.inBlock retQ q1n q2d q2c Pure CSat evOp q1i rdOf upd hset strip sp0 cut envL q1g q3i Keep BdL evBs q2n q2s
theorem law23_awake : Pure Tryz.prog 25 [] (.bool true) := by
  have h1 := kgate_do exW 1152921504606846977 40 (arg4 1152921504606846976 1152921504606846978 1 2) exW_good (by rfl) (arg4_nat _ _ _ _ (by decide) (by decide) (by decide) (by decide))
  have e1 : q5u exW (q2i exW 1152921504606846977).1 40 (arg4 1152921504606846976 1152921504606846978 1 2) = (exW.ins (gone exT ownL [⟨7, 4⟩] exG.gate 0), 6, 0, true) := by rfl
  rw [e1] at h1
  have h2 := kgate_do exW 1152921504606846977 40 (arg4 1152921504606846976 1152921504606846977 1 2) exW_good (by rfl) (arg4_nat _ _ _ _ (by decide) (by decide) (by decide) (by decide))
  have e2 : q5u exW (q2i exW 1152921504606846977).1 40 (arg4 1152921504606846976 1152921504606846977 1 2) = (exW, 0, 3, true) := by rfl
  rw [e2] at h2
  have h3 := q6u (exW.ins (gone exT ownL [⟨7, 4⟩] exG.gate 0)) 1152921504606846977 (by decide)
  have e3 : q2i (exW.ins (gone exT ownL [⟨7, 4⟩] exG.gate 0)) 1152921504606846977 = (gone exT ownL [⟨7, 4⟩] exG.gate 0, true) := by rfl
  rw [e3] at h3
  have h4 : Pure Tryz.prog 43 [.sl (List.map Pr.enc ownL), .sl (List.map Pr.enc ownL)] (.bool true) := by
    have := q7t ownL ownL (by decide)
    simpa using this
  clear e1 e2 e3
  generalize hX : exW.ins (gone exT ownL [⟨7, 4⟩] exG.gate 0) = X at h1 h3
  clear hX
  have t1 : (gone exT ownL [⟨7, 4⟩] exG.gate 0).label = ownL := rfl
  have t2 : (gone exT ownL [⟨7, 4⟩] exG.gate 0).thread.pc = 5 := rfl
  generalize gone exT ownL [⟨7, 4⟩] exG.gate 0 = T at h3 t1 t2
  simp only at h3
  unfold exW exC exT exG exL at h1 h2
  refine q2p (by kernel_rfl) (by simp only [go_sem, *]) (by simp only [go_sem, *]) Tryz.func25 Tryz.results25 rfl (by simp [Tryz.ntmps25]) (by kernel_rfl) ?_
  repeat' (first | (show q0i ..; first | refine q0c ?_ | refine q0e rfl ?_ | refine q1a rfl rfl ?_) | (show q0k ..; first | refine q0f rfl rfl ?_ | refine q0l rfl ?_) | (show goOn ..; first | refine q0g ?_ | refine q1d ?_ | refine q1x ?_) | (show q2w ..; refine q1h ?_) | (show q1k ..; (refine q0r (r := ?_) ?_ ?_; rotate_left 1; (focus first | exact h1 | exact h2 | exact h3 | exact h4))) | (show wGo ..; refine q3h ?_) | (show q0d ..; first | refine q0h ?_ | refine q0b ?_ | refine q0t ?_) | refine q0a ?_ | (show retQ ..; refine q0u ?_) | refine q0n ?_)
  all_goals rfl
end Go.Proofs.YtoibbedpaaeclaaGreat.kgate
end

section
namespace Go.Proofs.YtoibbedpaaeclaaGreat.kgate
open Go Go.RowKit Go.Proofs.YtoibbedpaaeclaaGreat
set_option linter.unusedVariables false
set_option linter.unusedSimpArgs false
set_option maxHeartbeats 16000000
set_option maxRecDepth 100000
/-- What the statement asks of the thread ahead (t) and behind (p), and of the gate. -/
structure Granted (w x : Wd) (id : Int) (t g p : Ob) (v : Int) (a : Nat → Int) : Prop where
  kind : g.kind = 5
  arg : v = g.gate.arg
  pc : p.thread.pc = g.gate.pc
  sp : p.thread.space = g.gate.space
  reg : p.thread.regs 3 = a 4
  own : ∀ c ∈ own p.label, q1j t.label c = 0 ∨ q1j g.gate.grant c = 0
  low : ∀ q ∈ t.label ++ p.label, q1j t.label q.cat = 0 ∨ q1j g.gate.grant q.cat = 0 ∨ q1j t.label q.cat ≤ q1j p.label q.cat
  obj : ∀ (i : Nat) (o : Ob), x.objects[i]? = some o → ∃ y, w.objects[i]? = some y ∧ (o.id = id ∨ o = y)
  len : x.objects.length = w.objects.length
theorem get_up {l : List Pr} (h : q2x l = true) (c : Int) : q1j (l.map upPr) c = if q1j l c = 0 then 5 else q1j l c := by
  rw [← q9e h, ← q4v]
  show getL (q2g (q4c l)) c = _
  rw [show q2g (q4c l) = q7h (q2g l) from of_of _, raise_get (q6x h), q4v]
theorem get_down {l : List Pr} (h : FitL (q2g l)) (c : Int) : q1j (l.map lowPr) c = if q1j l c = 5 then 0 else q1j l c := by
  rw [← q4v, ← lower_labOf h, lower_get h, q4v]
theorem kept_five {l : List Pr} (h : kept l = true) (c : Int) : q1j l c ≠ 5 := by
  unfold kept at h
  rw [Bool.and_eq_true] at h
  cases hf : l.find? (fun p => p.cat == c) with
  | none => rw [q6f hf]; decide
  | some p =>
    rw [(x0w hf).2]
    obtain ⟨k, hk⟩ := List.getElem?_of_mem (List.mem_of_find?_eq_some hf)
    have := allB_iff.1 h.1 k (q3w hk)
    unfold q7c at this
    rw [hk] at this
    simpa using this
theorem leqR_get {a b : List Pr} (ha : q2x a = true) (hb : q2x b = true) (h : leqR a b = true) (c : Int) : q1j a c ≤ q1j b c := by
  rw [← leq_eq ha hb] at h
  have := (leqB_iff (q6x ha) (q6x hb)).1 h c
  rwa [q4v, q4v] at this
theorem own_mem {l : List Pr} (h : FitL (q2g l)) {c : Int} (hc : c ∈ own l) : q1j l c = 0 := by
  unfold own at hc
  obtain ⟨x, hx, rfl⟩ := List.mem_map.1 hc
  have hx' := List.mem_filter.1 hx
  have : q1j l x.cat = x.lev := by rw [← q4v]; exact q9m h.sorted (p := (_, _)) (List.mem_map.2 ⟨_, hx'.1, rfl⟩)
  rw [this]; simpa using hx'.2
theorem least_get {t g : List Pr} (ht : q2x t = true) (hg : q2x g = true) (kt : ∀ c, q1j t c ≠ 5) (kg : ∀ c, q1j g c ≠ 5) (c : Int) (h1 : q1j t c ≠ 0) (h2 : q1j g c ≠ 0) :
    q1j t c ≤ q1j ((joinR (t.map upPr) (g.map upPr)).map lowPr) c := by
  rw [get_down (q7m (q6h ht)), joinR_get (q6h ht) (q6h hg), get_up ht, get_up hg, if_neg h1, if_neg h2]
  have := kt c; have := kg c
  have := q6n (q6x ht) c; have := q6n (q6x hg) c
  split <;> omega
theorem look_find {w : Wd} {t : Ob} {r : Rf} (h : ((q8r w t r).2 == 0) = true) : (q8r w t r).1 = (q2i w r.id).1 := by
  unfold q8r at h ⊢
  split at h
  · rename_i h1
    rw [if_pos h1]
    split at h
    · rename_i h2; rw [if_pos h2]
    · simp at h
  · rename_i h1; simp only at h; rw [h] at h1; exact absurd rfl h1
theorem see_find {w : Wd} {t : Ob} {r : Rf} {k : Int} (hw : fitW w = true) (h : ((seeR w t r k).2 == 0) = true) : (seeR w t r k).1 = (q2i w r.id).1 := by
  rw [(see_in hw h).2.2]
  refine look_find ?_
  unfold seeR at h
  split at h
  · rename_i h1; exact h1
  · rename_i h1; exact h
theorem gate_kind {w : Wd} {t : Ob} {a : Nat → Int} (h : ((q6b w t a).2 == 0) = true) : (q6b w t a).1.kind = 5 := by
  unfold q6b seeR at h ⊢
  split at h
  · rename_i h1
    rw [if_pos h1]
    split at h
    · rename_i h2
      rw [if_pos h2]
      split at h
      · rename_i h3; rw [if_pos h3]; simpa using h2
      · cases h
    · cases h
  · rename_i h1; exact absurd h h1
theorem granted {w : Wd} (gd : Good w) {t : Ob} (ht : t ∈ w.objects) (hk : t.kind = 4) (a : Nat → Int) (ha : ∀ i, i < 7 → 0 ≤ a i) (he : ((q4f w t a).2.2.1 == 0) = true) :
    Granted w (q4f w t a).1 t.id t (q2i w (a 1)).1 (q2i (q4f w t a).1 t.id).1 (q4f w t a).2.1 a ∧ (q2i (q4f w t a).1 t.id).1.label.length ≤ 16 := by
  have hwd := q7o gd.fit
  have hr := (q5q hwd).1
  have hs := q5w hwd ht
  have hT := thr_of hs hk
  unfold q4f at he ⊢
  by_cases c1 : (decide (a 2 < 4) && decide (a 3 < 4)) = true
  · rw [if_pos c1] at he ⊢
    by_cases c2 : ((q6b w t a).2 == 0) = true
    · rw [if_pos c2] at he ⊢
      by_cases c3 : mayR w t a = true
      · rw [if_pos c3]
        simp only [Bool.and_eq_true, decide_eq_true_eq] at c1
        have hg : (q6b w t a).1 = (q2i w (a 1)).1 := see_find gd.fit c2
        obtain ⟨kg, kc⟩ := gate_ok gd c2
        have gk := gate_kind c2
        rw [hg] at kg kc gk
        unfold mayR at c3
        rw [hg, Bool.and_eq_true] at c3
        rw [hg]
        have a2 := ha 2 (by decide)
        have a3 := ha 3 (by decide)
        have k2 : kept (la t a 2) = true := q9b hT.fit (by omega)
        have k3 : kept (la t a 3) = true := q9b hT.fit (by omega)
        generalize la t a 2 = n at c3 k2 ⊢
        generalize la t a 3 = m at c3 k3 ⊢
        generalize (q2i w (a 1)).1 = G at c3 kg kc gk ⊢
        have hE := c3.1
        unfold enterR at hE
        simp only [Bool.and_eq_true] at hE
        have fT := q4z hT.lab
        have fG := q4z kg
        have f2 := q4z k2
        have hle := leqR_get (fit_to (down_fit (q7m (q6h fT) (b := G.gate.grant.map upPr)))) f2 hE.2.2.2.1
        have key : ∀ c, q1j t.label c = 0 ∨ q1j G.gate.grant c = 0 ∨ q1j t.label c ≤ q1j n c := fun c => by
          by_cases h1 : q1j t.label c = 0
          · exact .inl h1
          by_cases h2 : q1j G.gate.grant c = 0
          · exact .inr (.inl h2)
          have := least_get fT fG (kept_five hT.lab) (kept_five kg) c h1 h2
          exact .inr (.inr (Int.le_trans this (hle c)))
        have hfnd : q2i (w.ins (gone t n m G.gate (a 4))) t.id = (gone t n m G.gate (a 4), true) := by
          have e : (gone t n m G.gate (a 4)).id = t.id := rfl
          rw [← e, findR_fnd]; unfold Wd.ins; simp only [insR_fnd hr, if_true]
        have hobj : (w.ins (gone t n m G.gate (a 4))).objects = w.objects.map fun y => if y.id = t.id then gone t n m G.gate (a 4) else y := x0v hr ht rfl
        simp only [hfnd]
        refine ⟨⟨gk, rfl, rfl, rfl, rfl, fun c hc => ?_, fun q _ => key q.cat, fun i o ho => ?_, by rw [hobj, List.length_map]⟩, q5h k2⟩
        · have h0 := own_mem (q6x f2) hc
          rcases key c with h | h | h
          · exact .inl h
          · exact .inr h
          · have := q6n (q6x fT) c
            exact .inl (by omega)
        · rw [hobj, List.getElem?_map] at ho
          cases hy : w.objects[i]? with
          | none => rw [hy] at ho; cases ho
          | some y =>
            rw [hy] at ho
            simp only [Option.map_some, Option.some.injEq] at ho
            refine ⟨y, rfl, ?_⟩
            split at ho
            · exact .inl (by rw [← ho]; rfl)
            · exact .inr ho.symm
      · rw [if_neg c3] at he; cases he
    · rw [if_neg c2] at he; exact absurd he c2
  · rw [if_neg c1] at he; cases he
@[go_sem] theorem all_pr (l : List Pr) : ((List.map Pr.enc l).all fun r => r.length == 2) = true := by rw [List.all_map, List.all_eq_true]; intro x _; rfl
attribute [local irreducible] q0i dr q0d Ex.then Ex.inBlock retQ q1n q2d q2c Pure CSat evOp q1i rdOf upd hset strip sp0 cut envL q1g q3i Keep BdL evBs q2n q2s
theorem grants_core (w x : Wd) (id v : Int) (a : Nat → Int) (t g p : Ob) (bt bg bp : Bool) (hG : Granted w x id t g p v a) (hwl : w.objects.length ≤ 24) (lt : t.label.length ≤ 20) (lp : p.label.length ≤ 20) (lg : g.gate.grant.length ≤ 9223372036854775807) (hxL : x.L) (hsym : ∀ y ∈ w.objects, q8c y y = true)
    (b1 : Pure Tryz.prog 23 [.agg (Wd.enc w)] (.bool true)) (b2 : Pure Tryz.prog 24 [.agg (Wd.enc w), .int .u64 id] (.bool true))
    (c1 : Pure Tryz.prog 26 [.agg (Wd.enc w), .int .u64 id, .int .i64 40, .agg (args a)] (.tup [.agg (Wd.enc x), .int .u64 v, .int .i64 0, .bool true]))
    (f1 : Pure Tryz.prog 29 [.agg (Wd.enc w), .int .u64 (a 1)] (.tup [.agg (Ob.enc g), .bool bg])) (f2 : Pure Tryz.prog 29 [.agg (Wd.enc w), .int .u64 id] (.tup [.agg (Ob.enc t), .bool bt]))
    (f3 : Pure Tryz.prog 29 [.agg (Wd.enc x), .int .u64 id] (.tup [.agg (Ob.enc p), .bool bp])) :
    Pure Tryz.prog 5 [.agg (Wd.enc w), .int .u64 id, .agg (args a)] (.bool true) := by
  have hk := law23_awake
  obtain ⟨g1, g2, g3, g4, g5, g6, g7, g8, g9⟩ := hG
  have h5 : (g.kind != 5) = false := by rw [g1]; rfl
  have hv : (v != g.gate.arg) = false := by rw [g2]; simp
  have hr : (p.thread.regs 3 != a 4) = false := by rw [g5]; simp
  have hpc : (p.thread.pc != g.gate.pc) = false := by rw [g3]; simp
  have own1 := r2_owned p.label (by omega)
  have ol : (own p.label).length ≤ 20 := Nat.le_trans (own_len _) lp
  have gt := fun c => r2_get t.label c (by omega)
  have gg := fun c => r2_get g.gate.grant c lg
  have gp := fun c => r2_get p.label c (by omega)
  have hle : ((x.objects.length : Int) == (w.objects.length : Int)) = true := by rw [g9]; simp
  have hxl : x.objects.length ≤ 24 := by rw [g9]; exact hwl
  clear g1 g2 g3 g5 g9
  refine q2p (by kernel_rfl) (by simp only [go_sem, *]) (by simp only [go_sem, *]) Tryz.func5 Tryz.results5 rfl (by simp [Tryz.ntmps5]) (by kernel_rfl) ?_
  repeat' (first | (show q0i ..; first | refine q0c ?_ | refine q0e rfl ?_ | refine q1a rfl rfl ?_) | (show q0k ..; first | refine q0f rfl rfl ?_ | refine q0l rfl ?_) | (show goOn ..; first | refine q0g ?_ | refine q1d ?_ | refine q1x ?_) | (show q2w ..; refine q1h ?_) | (show q1k ..; (refine q0r (r := ?_) ?_ ?_; rotate_left 1; (focus first | exact b1 | exact b2 | exact c1 | exact f1 | exact f2 | exact f3 | exact own1))) | (show wGo ..; refine q4b ?_) | (show q0d ..; first | refine q0h ?_ | refine q0b ?_ | refine q0s ?_ | refine q0m ?_ | refine q0j ?_) | (show q0o ..; refine cd_f ?_) | refine q0a ?_)
  refine q2l (S := Nat) (fun n => (own p.label).length - n) (fun n => n ≤ (own p.label).length) (fun n => [(1, .int .u64 id), (3, .ptr 0 0), (5, .ptr 1 0), (7, .ptr 2 0), (11, .ptr 3 0), (13, .ptr 4 0), (15, .ptr 5 0), (116, .sl ((own p.label).map u64)), (117, .int .i64 (own p.label).length), (118, .int .i64 n)]) (fun _ => [(0, .box (Wd.enc w)), (1, .box (args a)), (2, .box (Wd.enc x)), (3, .box (Ob.enc g)), (4, .box (Ob.enc t)), (5, .box (Ob.enc p))]) (fun _ => 6) 0 (Nat.zero_le _) (by (refine q1l ?_ ?_ <;> repeat' (first | exact q0v | exact q0y | refine q0p (by (try simp only [go_sem, *]); try rfl) (by simp only [go_sem, *]) ?_ | refine q0z (by (try simp only [go_sem, *]); try rfl) (by omega) (by simp only [go_sem, *]) ?_ | refine q0x (by (try simp only [go_sem, *]); try rfl) (by omega) (by simp only [go_sem, *]) ?_))) ?_
  intro n hn
  rcases Nat.lt_or_ge n (own p.label).length with hlt | hge
  · obtain ⟨c, hc⟩ := q2b hlt
    have h0 := q2h hlt
    have h4 := q2a n (by omega)
    have hor := g6 c (List.mem_of_getElem? hc)
    cases n1 : (q1j t.label c != 0) with
    | false =>
      repeat' (first | (show q0i ..; first | refine q0c ?_ | refine q0e rfl ?_ | refine q1a rfl rfl ?_) | (show q0k ..; first | refine q0f rfl rfl ?_ | refine q0l rfl ?_) | (show goOn ..; refine q0g ?_) | (show q1k ..; (refine q0r (r := ?_) ?_ ?_; rotate_left 1; (focus first | exact gt _ | exact gg _))) | (show wGo ..; refine q3r ?_) | (show q0d ..; first | refine q0h ?_ | refine q0b ?_ | refine q0s ?_ | refine q0m ?_ | refine q0j ?_) | (show q0o ..; first | refine cd_t ?_ | refine cd_f ?_) | refine q0a ?_ | refine q0q ?_)
      exact again (n + 1) (show n + 1 ≤ (own p.label).length from hlt) (show (own p.label).length - (n + 1) < (own p.label).length - n by omega) (by (refine q1l ?_ ?_ <;> repeat' (first | exact q0v | exact q0y | refine q0p (by (try simp only [go_sem, *]); try rfl) (by simp only [go_sem, *]) ?_ | refine q0z (by (try simp only [go_sem, *]); try rfl) (by omega) (by simp only [go_sem, *]) ?_ | refine q0x (by (try simp only [go_sem, *]); try rfl) (by omega) (by simp only [go_sem, *]) ?_)))
    | true =>
      have n2 : (q1j g.gate.grant c != 0) = false := by
        rcases hor with h | h
        · rw [h] at n1; cases n1
        · rw [h]; rfl
      repeat' (first | (show q0i ..; first | refine q0c ?_ | refine q0e rfl ?_ | refine q1a rfl rfl ?_) | (show q0k ..; first | refine q0f rfl rfl ?_ | refine q0l rfl ?_) | (show goOn ..; refine q0g ?_) | (show q1k ..; (refine q0r (r := ?_) ?_ ?_; rotate_left 1; (focus first | exact gt _ | exact gg _))) | (show wGo ..; refine q3h ?_) | (show q0d ..; first | refine q0h ?_ | refine q0b ?_ | refine q0s ?_ | refine q0m ?_ | refine q0j ?_) | (show q0o ..; first | refine cd_t ?_ | refine cd_f ?_) | refine q0a ?_ | refine q0q ?_)
      exact again (n + 1) (show n + 1 ≤ (own p.label).length from hlt) (show (own p.label).length - (n + 1) < (own p.label).length - n by omega) (by (refine q1l ?_ ?_ <;> repeat' (first | exact q0v | exact q0y | refine q0p (by (try simp only [go_sem, *]); try rfl) (by simp only [go_sem, *]) ?_ | refine q0z (by (try simp only [go_sem, *]); try rfl) (by omega) (by simp only [go_sem, *]) ?_ | refine q0x (by (try simp only [go_sem, *]); try rfl) (by omega) (by simp only [go_sem, *]) ?_)))
  have h0 := q1q hge
  repeat' (first | (show q0i ..; first | refine q0c ?_ | refine q0e rfl ?_) | (show q0k ..; refine q0f rfl rfl ?_) | (show goOn ..; refine q0g ?_) | (show q0d ..; first | refine q0h ?_ | refine q0b ?_ | refine q1s ?_ | refine q0j ?_) | (show q0o ..; refine cd_f ?_) | refine q0a ?_ | refine q1r ?_ | refine q1t ?_)
  clear own1 g6 h0
  cases ht : t.label with
  | nil =>
    cases hp : p.label with
    | nil =>
      repeat' (first | (show dr ..; first | refine q1y ?_ | refine dr_n rfl ?_) | (show drGo ..; refine q2t rfl ?_) | (show drOn ..; refine q1z ?_) | (refine And.intro (by kernel_rfl : q2d _ _ _ = true) ?_) | (show q0d ..; first | refine q9h (by kernel_rfl) ?_ | refine q0m ?_) | refine q0a ?_)
      obtain ⟨L, hL⟩ : ∃ L : List Pr, L = [] := ⟨_, rfl⟩
      have hlen : L.length = 0 := by rw [hL]; rfl
      have hlz : (L.length : Int) = ((0 : Nat) : Int) := by rw [hlen]
      have hmem : ∀ y ∈ L, y ∈ t.label ++ p.label := fun y hy => by rw [hL] at hy; cases hy
      have hll : L.length ≤ 40 := by rw [hL]; decide
      clear hL
      refine q2l (S := Nat) (fun n => L.length - n) (fun n => n ≤ L.length) (fun n => [(1, .int .u64 id), (3, .ptr 0 0), (5, .ptr 1 0), (7, .ptr 2 0), (11, .ptr 3 0), (13, .ptr 4 0), (15, .ptr 5 0), (142, .nilsl), (143, .int .i64 L.length), (144, .int .i64 n)]) (fun _ => [(0, .box (Wd.enc w)), (1, .box (args a)), (2, .box (Wd.enc x)), (3, .box (Ob.enc g)), (4, .box (Ob.enc t)), (5, .box (Ob.enc p))]) (fun _ => 6) 0 (Nat.zero_le _) (by (refine q1l ?_ ?_ <;> repeat' (first | exact q0v | exact q0y | refine q0p (by (try simp only [go_sem, *]); try rfl) (by simp only [go_sem, *]) ?_ | refine q0z (by (try simp only [go_sem, *]); try rfl) (by omega) (by simp only [go_sem, *]) ?_ | refine q0x (by (try simp only [go_sem, *]); try rfl) (by omega) (by simp only [go_sem, *]) ?_))) ?_
      clear ht hp hlz
      intro n hn
      rcases Nat.lt_or_ge n L.length with hlt | hge
      · exfalso; omega
      have h0 := q1q hge
      repeat' (first | (show q0i ..; first | refine q0c ?_ | refine q0e rfl ?_) | (show q0k ..; refine q0f rfl rfl ?_) | (show goOn ..; refine q0g ?_) | (show q0d ..; first | refine q0h ?_ | refine q0b ?_ | refine q0m ?_ | refine q1s ?_ | refine q0j ?_) | (show q0o ..; refine cd_f ?_) | refine q0a ?_ | refine q1r ?_ | refine q1t ?_)
      refine q2l (S := Nat) (fun n => x.objects.length - n) (fun n => n ≤ x.objects.length) (fun n => [(1, .int .u64 id), (3, .ptr 0 0), (5, .ptr 1 0), (7, .ptr 2 0), (11, .ptr 3 0), (13, .ptr 4 0), (15, .ptr 5 0), (180, .sl (x.objects.map Ob.enc)), (181, .int .i64 x.objects.length), (182, .int .i64 n)]) (fun _ => [(0, .box (Wd.enc w)), (1, .box (args a)), (2, .box (Wd.enc x)), (3, .box (Ob.enc g)), (4, .box (Ob.enc t)), (5, .box (Ob.enc p))]) (fun _ => 6) 0 (Nat.zero_le _) (by (refine q1l ?_ ?_ <;> repeat' (first | exact q0v | exact q0y | refine q0p (by (try simp only [go_sem, *]); try rfl) (by simp only [go_sem, *]) ?_ | refine q0z (by (try simp only [go_sem, *]); try rfl) (by omega) (by simp only [go_sem, *]) ?_ | refine q0x (by (try simp only [go_sem, *]); try rfl) (by omega) (by simp only [go_sem, *]) ?_))) ?_
      clear h0 hge hmem hn hll
      intro n hn
      rcases Nat.lt_or_ge n x.objects.length with hlt | hge
      · obtain ⟨o, ho⟩ := q2b hlt
        have h0 := q2h hlt
        have h4 := q2a n (by omega)
        obtain ⟨y, hy, hoy⟩ := g8 n o ho
        have hnn : ((n : Int)).toNat = n := Int.toNat_natCast n
        cases n1 : (o.id != id) with
        | false =>
          repeat' (first | (show q0i ..; first | refine q0c ?_ | refine q0e rfl ?_) | (show q0k ..; refine q0f rfl rfl ?_) | (show goOn ..; first | refine q0g ?_ | refine q1d ?_ | refine q1x ?_) | (show q2w ..; refine q1h ?_) | (show wGo ..; refine q3r ?_) | (show dr ..; first | refine q1y ?_ | refine dr_n rfl ?_ | refine q5j rfl rfl ?_) | (show drGo ..; refine q2t rfl ?_) | (show drOn ..; refine q1z ?_) | (refine And.intro (by kernel_rfl : q1n _ = true) ?_) | (show q0d ..; first | refine q0h ?_ | refine q0b ?_ | refine q1o (by kernel_rfl) ?_ | refine q0s ?_ | refine q0m ?_ | refine q0j ?_) | (show q0o ..; first | refine cd_t ?_ | refine cd_f ?_) | refine q0a ?_ | refine q0q ?_)
          exact again (n + 1) (show n + 1 ≤ x.objects.length from hlt) (show x.objects.length - (n + 1) < x.objects.length - n by omega) (by (refine q1l ?_ ?_ <;> repeat' (first | exact q0v | exact q0y | refine q0p (by (try simp only [go_sem, *]); try rfl) (by simp only [go_sem, *]) ?_ | refine q0z (by (try simp only [go_sem, *]); try rfl) (by omega) (by simp only [go_sem, *]) ?_ | refine q0x (by (try simp only [go_sem, *]); try rfl) (by omega) (by simp only [go_sem, *]) ?_)))
        | true =>
          obtain rfl : o = y := by
            rcases hoy with h | h
            · rw [h] at n1; simp at n1
            · exact h
          have hso := q5m o o (hxL.2 o (List.mem_of_getElem? ho)).1
          rw [q5l] at hso
          repeat' (first | (show q0i ..; first | refine q0c ?_ | refine q0e rfl ?_) | (show q0k ..; refine q0f rfl rfl ?_) | (show goOn ..; first | refine q0g ?_ | refine q1d ?_ | refine q1x ?_) | (show q2w ..; refine q1h ?_) | (show wGo ..; refine q3h ?_) | (show dr ..; first | refine q1y ?_ | refine dr_n rfl ?_ | refine q5j rfl rfl ?_) | (show drGo ..; first | refine q2t rfl ?_ | refine q2k rfl ?_) | (show drOn ..; refine q1z ?_) | (show q2e ..; (refine q1f (r := ?_) ?_ ?_; rotate_left 1; (focus exact hso))) | (refine And.intro (by kernel_rfl : q1n _ = true) ?_) | (show q0d ..; first | refine q0h ?_ | refine q0b ?_ | refine q1o (by kernel_rfl) ?_ | refine q0s ?_ | refine q0m ?_ | refine q0j ?_) | (show q0o ..; first | refine cd_t ?_ | refine cd_f ?_) | refine q0a ?_ | refine q0q ?_)
          exact again (n + 1) (show n + 1 ≤ x.objects.length from hlt) (show x.objects.length - (n + 1) < x.objects.length - n by omega) (by (refine q1l ?_ ?_ <;> repeat' (first | exact q0v | exact q0y | refine q0p (by (try simp only [go_sem, *]); try rfl) (by simp only [go_sem, *]) ?_ | refine q0z (by (try simp only [go_sem, *]); try rfl) (by omega) (by simp only [go_sem, *]) ?_ | refine q0x (by (try simp only [go_sem, *]); try rfl) (by omega) (by simp only [go_sem, *]) ?_)))
      have h0 := q1q hge
      repeat' (first | (show q0i ..; first | refine q0c ?_ | refine q0e rfl ?_ | refine q1a rfl rfl ?_) | (show q0k ..; first | refine q0f rfl rfl ?_ | refine q0l rfl ?_) | (show goOn ..; refine q0g ?_) | (show q1k ..; (refine q0r (r := ?_) ?_ ?_; rotate_left 1; (focus exact hk))) | (show wGo ..; refine q3h ?_) | (show q0d ..; first | refine q0h ?_ | refine q0b ?_ | refine q0t ?_ | refine q1s ?_ | refine q0j ?_) | (show q0o ..; refine cd_f ?_) | refine q0a ?_ | refine q1r ?_ | refine q1t ?_ | (show retQ ..; refine q0u ?_) | refine q0n ?_)
      all_goals rfl
    | cons r k =>
      have m3 : ((k.length + 1) * 16 ≤ 140737488355328) = True := q8d (by rw [hp] at lp; simp at lp; omega) (by decide)
      have m4 : (k.length + 1 ≤ maxLen) = True := q6o (by rw [hp] at lp; simp at lp; omega)
      repeat' (first | (show dr ..; first | refine q1y ?_ | refine dr_n rfl ?_) | (show drGo ..; refine q2t rfl ?_) | (show drOn ..; first | refine q1z ?_ | refine dn_born ?_) | (refine And.intro (by kernel_rfl : q2d _ _ _ = true) ?_) | (show q0d ..; first | refine q9h (by kernel_rfl) ?_ | refine q0m ?_) | refine q0a ?_)
      obtain ⟨L, hL⟩ : ∃ L : List Pr, L = r :: k := ⟨_, rfl⟩
      have hlen : L.length = k.length + 1 := by rw [hL]; rfl
      have hrow : List.map Pr.enc L = Pr.enc r :: List.map Pr.enc k := by rw [hL]; rfl
      have hmem : ∀ y ∈ L, y ∈ t.label ++ p.label := fun y hy => by rw [ht, hp]; rw [hL] at hy; simpa using hy
      have hll : L.length ≤ 40 := by rw [hL]; rw [ht] at lt; rw [hp] at lp; simp at lt lp ⊢; omega
      clear hL
      refine q2l (S := Nat) (fun n => L.length - n) (fun n => n ≤ L.length) (fun n => [(1, .int .u64 id), (3, .ptr 0 0), (5, .ptr 1 0), (7, .ptr 2 0), (11, .ptr 3 0), (13, .ptr 4 0), (15, .ptr 5 0), (142, .gr 6 L.length), (143, .int .i64 L.length), (144, .int .i64 n)]) (fun _ => [(0, .box (Wd.enc w)), (1, .box (args a)), (2, .box (Wd.enc x)), (3, .box (Ob.enc g)), (4, .box (Ob.enc t)), (5, .box (Ob.enc p)), (6, .row 76 2 (List.map Pr.enc L))]) (fun _ => 7) 0 (Nat.zero_le _) (by (refine q1l ?_ ?_ <;> repeat' (first | exact q0v | exact q0y | refine q0p (by (try simp only [go_sem, *]); try rfl) (by simp only [go_sem, *]) ?_ | refine q0z (by (try simp only [go_sem, *]); try rfl) (by omega) (by simp only [go_sem, *]) ?_ | refine q0x (by (try simp only [go_sem, *]); try rfl) (by omega) (by simp only [go_sem, *]) ?_))) ?_
      clear ht hp hlen hrow
      intro n hn
      rcases Nat.lt_or_ge n L.length with hlt | hge
      · obtain ⟨q0, hq⟩ := q2b hlt
        have h0 := q2h hlt
        have h4 := q2a n (by omega)
        have lm : (List.map Pr.enc L).length = L.length := List.length_map _
        have hlow := g7 q0 (hmem q0 (List.mem_of_getElem? hq))
        cases n1 : (q1j t.label q0.cat == 0) with
        | true =>
          repeat' (first | (show q0i ..; first | refine q0c ?_ | refine q0e rfl ?_ | refine q1a rfl rfl ?_) | (show q0k ..; first | refine q0f rfl rfl ?_ | refine q0l rfl ?_) | (show goOn ..; first | refine q0g ?_ | refine q1d ?_ | refine q1x ?_) | (show q2w ..; refine q1h ?_) | (show q1k ..; (refine q0r (r := ?_) ?_ ?_; rotate_left 1; (focus first | exact gt _ | exact gg _ | exact gp _))) | (show wGo ..; first | refine q3r ?_ | refine q4y ?_) | (show dr ..; first | refine q1y ?_ | refine dr_n rfl ?_ | refine q5j rfl rfl ?_) | (show drGo ..; refine q2t rfl ?_) | (show drOn ..; refine q1z ?_) | (refine And.intro (by kernel_rfl : q1n _ = true) ?_) | (show q0d ..; first | refine q0h ?_ | refine q0b ?_ | refine q1o (by kernel_rfl) ?_ | refine q0s ?_ | refine q0m ?_ | refine q0j ?_) | (show q0o ..; first | refine cd_t ?_ | refine cd_f ?_) | refine q0a ?_ | refine q0q ?_)
          exact again (n + 1) (show n + 1 ≤ L.length from hlt) (show L.length - (n + 1) < L.length - n by omega) (by (refine q1l ?_ ?_ <;> repeat' (first | exact q0v | exact q0y | refine q0p (by (try simp only [go_sem, *]); try rfl) (by simp only [go_sem, *]) ?_ | refine q0z (by (try simp only [go_sem, *]); try rfl) (by omega) (by simp only [go_sem, *]) ?_ | refine q0x (by (try simp only [go_sem, *]); try rfl) (by omega) (by simp only [go_sem, *]) ?_)))
        | false =>
          cases n2 : (q1j g.gate.grant q0.cat == 0) with
          | true =>
            repeat' (first | (show q0i ..; first | refine q0c ?_ | refine q0e rfl ?_ | refine q1a rfl rfl ?_) | (show q0k ..; first | refine q0f rfl rfl ?_ | refine q0l rfl ?_) | (show goOn ..; first | refine q0g ?_ | refine q1d ?_ | refine q1x ?_) | (show q2w ..; refine q1h ?_) | (show q1k ..; (refine q0r (r := ?_) ?_ ?_; rotate_left 1; (focus first | exact gt _ | exact gg _ | exact gp _))) | (show wGo ..; first | refine q4b ?_ | refine q3r ?_) | (show dr ..; first | refine q1y ?_ | refine dr_n rfl ?_ | refine q5j rfl rfl ?_) | (show drGo ..; refine q2t rfl ?_) | (show drOn ..; refine q1z ?_) | (refine And.intro (by kernel_rfl : q1n _ = true) ?_) | (show q0d ..; first | refine q0h ?_ | refine q0b ?_ | refine q1o (by kernel_rfl) ?_ | refine q0s ?_ | refine q0m ?_ | refine q0j ?_) | (show q0o ..; first | refine cd_t ?_ | refine cd_f ?_) | refine q0a ?_ | refine q0q ?_)
            exact again (n + 1) (show n + 1 ≤ L.length from hlt) (show L.length - (n + 1) < L.length - n by omega) (by (refine q1l ?_ ?_ <;> repeat' (first | exact q0v | exact q0y | refine q0p (by (try simp only [go_sem, *]); try rfl) (by simp only [go_sem, *]) ?_ | refine q0z (by (try simp only [go_sem, *]); try rfl) (by omega) (by simp only [go_sem, *]) ?_ | refine q0x (by (try simp only [go_sem, *]); try rfl) (by omega) (by simp only [go_sem, *]) ?_)))
          | false =>
            have n3 : decide (q1j p.label q0.cat < q1j t.label q0.cat) = false := by
              refine decide_eq_false ?_
              rcases hlow with h | h | h
              · rw [h] at n1; cases n1
              · rw [h] at n2; cases n2
              · omega
            repeat' (first | (show q0i ..; first | refine q0c ?_ | refine q0e rfl ?_ | refine q1a rfl rfl ?_) | (show q0k ..; first | refine q0f rfl rfl ?_ | refine q0l rfl ?_) | (show goOn ..; first | refine q0g ?_ | refine q1d ?_ | refine q1x ?_) | (show q2w ..; refine q1h ?_) | (show q1k ..; (refine q0r (r := ?_) ?_ ?_; rotate_left 1; (focus first | exact gt _ | exact gg _ | exact gp _))) | (show wGo ..; first | refine q3h ?_ | refine q4b ?_) | (show dr ..; first | refine q1y ?_ | refine dr_n rfl ?_ | refine q5j rfl rfl ?_) | (show drGo ..; first | refine q2t rfl ?_ | refine q2k rfl ?_) | (show drOn ..; refine q1z ?_) | (show q2e ..; (refine q1f (r := ?_) ?_ ?_; rotate_left 1; (focus first | exact gt _ | exact gg _ | exact gp _))) | (refine And.intro (by kernel_rfl : q1n _ = true) ?_) | (show q0d ..; first | refine q0h ?_ | refine q0b ?_ | refine q1o (by kernel_rfl) ?_ | refine q0s ?_ | refine q0m ?_ | refine q0j ?_) | (show q0o ..; first | refine cd_t ?_ | refine cd_f ?_) | refine q0a ?_ | refine q0q ?_)
            exact again (n + 1) (show n + 1 ≤ L.length from hlt) (show L.length - (n + 1) < L.length - n by omega) (by (refine q1l ?_ ?_ <;> repeat' (first | exact q0v | exact q0y | refine q0p (by (try simp only [go_sem, *]); try rfl) (by simp only [go_sem, *]) ?_ | refine q0z (by (try simp only [go_sem, *]); try rfl) (by omega) (by simp only [go_sem, *]) ?_ | refine q0x (by (try simp only [go_sem, *]); try rfl) (by omega) (by simp only [go_sem, *]) ?_)))
      have h0 := q1q hge
      repeat' (first | (show q0i ..; first | refine q0c ?_ | refine q0e rfl ?_) | (show q0k ..; refine q0f rfl rfl ?_) | (show goOn ..; refine q0g ?_) | (show q0d ..; first | refine q0h ?_ | refine q0b ?_ | refine q0m ?_ | refine q1s ?_ | refine q0j ?_) | (show q0o ..; refine cd_f ?_) | refine q0a ?_ | refine q1r ?_ | refine q1t ?_)
      refine q2l (S := Nat) (fun n => x.objects.length - n) (fun n => n ≤ x.objects.length) (fun n => [(1, .int .u64 id), (3, .ptr 0 0), (5, .ptr 1 0), (7, .ptr 2 0), (11, .ptr 3 0), (13, .ptr 4 0), (15, .ptr 5 0), (180, .sl (x.objects.map Ob.enc)), (181, .int .i64 x.objects.length), (182, .int .i64 n)]) (fun _ => [(0, .box (Wd.enc w)), (1, .box (args a)), (2, .box (Wd.enc x)), (3, .box (Ob.enc g)), (4, .box (Ob.enc t)), (5, .box (Ob.enc p))]) (fun _ => 6) 0 (Nat.zero_le _) (by (refine q1l ?_ ?_ <;> repeat' (first | exact q0v | exact q0y | refine q0p (by (try simp only [go_sem, *]); try rfl) (by simp only [go_sem, *]) ?_ | refine q0z (by (try simp only [go_sem, *]); try rfl) (by omega) (by simp only [go_sem, *]) ?_ | refine q0x (by (try simp only [go_sem, *]); try rfl) (by omega) (by simp only [go_sem, *]) ?_))) ?_
      clear h0 hge hmem hn hll
      intro n hn
      rcases Nat.lt_or_ge n x.objects.length with hlt | hge
      · obtain ⟨o, ho⟩ := q2b hlt
        have h0 := q2h hlt
        have h4 := q2a n (by omega)
        obtain ⟨y, hy, hoy⟩ := g8 n o ho
        have hnn : ((n : Int)).toNat = n := Int.toNat_natCast n
        cases n1 : (o.id != id) with
        | false =>
          repeat' (first | (show q0i ..; first | refine q0c ?_ | refine q0e rfl ?_) | (show q0k ..; refine q0f rfl rfl ?_) | (show goOn ..; first | refine q0g ?_ | refine q1d ?_ | refine q1x ?_) | (show q2w ..; refine q1h ?_) | (show wGo ..; refine q3r ?_) | (show dr ..; first | refine q1y ?_ | refine dr_n rfl ?_ | refine q5j rfl rfl ?_) | (show drGo ..; refine q2t rfl ?_) | (show drOn ..; refine q1z ?_) | (refine And.intro (by kernel_rfl : q1n _ = true) ?_) | (show q0d ..; first | refine q0h ?_ | refine q0b ?_ | refine q1o (by kernel_rfl) ?_ | refine q0s ?_ | refine q0m ?_ | refine q0j ?_) | (show q0o ..; first | refine cd_t ?_ | refine cd_f ?_) | refine q0a ?_ | refine q0q ?_)
          exact again (n + 1) (show n + 1 ≤ x.objects.length from hlt) (show x.objects.length - (n + 1) < x.objects.length - n by omega) (by (refine q1l ?_ ?_ <;> repeat' (first | exact q0v | exact q0y | refine q0p (by (try simp only [go_sem, *]); try rfl) (by simp only [go_sem, *]) ?_ | refine q0z (by (try simp only [go_sem, *]); try rfl) (by omega) (by simp only [go_sem, *]) ?_ | refine q0x (by (try simp only [go_sem, *]); try rfl) (by omega) (by simp only [go_sem, *]) ?_)))
        | true =>
          obtain rfl : o = y := by
            rcases hoy with h | h
            · rw [h] at n1; simp at n1
            · exact h
          have hso := q5m o o (hxL.2 o (List.mem_of_getElem? ho)).1
          rw [q5l] at hso
          repeat' (first | (show q0i ..; first | refine q0c ?_ | refine q0e rfl ?_) | (show q0k ..; refine q0f rfl rfl ?_) | (show goOn ..; first | refine q0g ?_ | refine q1d ?_ | refine q1x ?_) | (show q2w ..; refine q1h ?_) | (show wGo ..; refine q3h ?_) | (show dr ..; first | refine q1y ?_ | refine dr_n rfl ?_ | refine q5j rfl rfl ?_) | (show drGo ..; first | refine q2t rfl ?_ | refine q2k rfl ?_) | (show drOn ..; refine q1z ?_) | (show q2e ..; (refine q1f (r := ?_) ?_ ?_; rotate_left 1; (focus exact hso))) | (refine And.intro (by kernel_rfl : q1n _ = true) ?_) | (show q0d ..; first | refine q0h ?_ | refine q0b ?_ | refine q1o (by kernel_rfl) ?_ | refine q0s ?_ | refine q0m ?_ | refine q0j ?_) | (show q0o ..; first | refine cd_t ?_ | refine cd_f ?_) | refine q0a ?_ | refine q0q ?_)
          exact again (n + 1) (show n + 1 ≤ x.objects.length from hlt) (show x.objects.length - (n + 1) < x.objects.length - n by omega) (by (refine q1l ?_ ?_ <;> repeat' (first | exact q0v | exact q0y | refine q0p (by (try simp only [go_sem, *]); try rfl) (by simp only [go_sem, *]) ?_ | refine q0z (by (try simp only [go_sem, *]); try rfl) (by omega) (by simp only [go_sem, *]) ?_ | refine q0x (by (try simp only [go_sem, *]); try rfl) (by omega) (by simp only [go_sem, *]) ?_)))
      have h0 := q1q hge
      repeat' (first | (show q0i ..; first | refine q0c ?_ | refine q0e rfl ?_ | refine q1a rfl rfl ?_) | (show q0k ..; first | refine q0f rfl rfl ?_ | refine q0l rfl ?_) | (show goOn ..; refine q0g ?_) | (show q1k ..; (refine q0r (r := ?_) ?_ ?_; rotate_left 1; (focus exact hk))) | (show wGo ..; refine q3h ?_) | (show q0d ..; first | refine q0h ?_ | refine q0b ?_ | refine q0t ?_ | refine q1s ?_ | refine q0j ?_) | (show q0o ..; refine cd_f ?_) | refine q0a ?_ | refine q1r ?_ | refine q1t ?_ | (show retQ ..; refine q0u ?_) | refine q0n ?_)
      all_goals rfl
  | cons q l =>
    have m1 : ((l.length + 1) * 16 ≤ 140737488355328) = True := q8d (by rw [ht] at lt; simp at lt; omega) (by decide)
    have m2 : (l.length + 1 ≤ maxLen) = True := q6o (by rw [ht] at lt; simp at lt; omega)
    cases hp : p.label with
    | nil =>
      repeat' (first | (show dr ..; first | refine q1y ?_ | refine dr_n rfl ?_) | (show drGo ..; refine q2t rfl ?_) | (show drOn ..; first | refine q1z ?_ | refine dn_born ?_) | (refine And.intro (by kernel_rfl : q2d _ _ _ = true) ?_) | (show q0d ..; first | refine q9h (by kernel_rfl) ?_ | refine q0m ?_) | refine q0a ?_)
      obtain ⟨L, hL⟩ : ∃ L : List Pr, L = q :: l := ⟨_, rfl⟩
      have hlen : L.length = l.length + 1 := by rw [hL]; rfl
      have hrow : List.map Pr.enc L = Pr.enc q :: List.map Pr.enc l := by rw [hL]; rfl
      have hmem : ∀ y ∈ L, y ∈ t.label ++ p.label := fun y hy => by rw [ht, hp]; rw [hL] at hy; simpa using hy
      have hll : L.length ≤ 40 := by rw [hL]; rw [ht] at lt; rw [hp] at lp; simp at lt lp ⊢; omega
      clear hL
      refine q2l (S := Nat) (fun n => L.length - n) (fun n => n ≤ L.length) (fun n => [(1, .int .u64 id), (3, .ptr 0 0), (5, .ptr 1 0), (7, .ptr 2 0), (11, .ptr 3 0), (13, .ptr 4 0), (15, .ptr 5 0), (142, .gr 6 L.length), (143, .int .i64 L.length), (144, .int .i64 n)]) (fun _ => [(0, .box (Wd.enc w)), (1, .box (args a)), (2, .box (Wd.enc x)), (3, .box (Ob.enc g)), (4, .box (Ob.enc t)), (5, .box (Ob.enc p)), (6, .row 76 2 (List.map Pr.enc L))]) (fun _ => 7) 0 (Nat.zero_le _) (by (refine q1l ?_ ?_ <;> repeat' (first | exact q0v | exact q0y | refine q0p (by (try simp only [go_sem, *]); try rfl) (by simp only [go_sem, *]) ?_ | refine q0z (by (try simp only [go_sem, *]); try rfl) (by omega) (by simp only [go_sem, *]) ?_ | refine q0x (by (try simp only [go_sem, *]); try rfl) (by omega) (by simp only [go_sem, *]) ?_))) ?_
      clear ht hp hlen hrow
      intro n hn
      rcases Nat.lt_or_ge n L.length with hlt | hge
      · obtain ⟨q0, hq⟩ := q2b hlt
        have h0 := q2h hlt
        have h4 := q2a n (by omega)
        have lm : (List.map Pr.enc L).length = L.length := List.length_map _
        have hlow := g7 q0 (hmem q0 (List.mem_of_getElem? hq))
        cases n1 : (q1j t.label q0.cat == 0) with
        | true =>
          repeat' (first | (show q0i ..; first | refine q0c ?_ | refine q0e rfl ?_ | refine q1a rfl rfl ?_) | (show q0k ..; first | refine q0f rfl rfl ?_ | refine q0l rfl ?_) | (show goOn ..; first | refine q0g ?_ | refine q1d ?_ | refine q1x ?_) | (show q2w ..; refine q1h ?_) | (show q1k ..; (refine q0r (r := ?_) ?_ ?_; rotate_left 1; (focus first | exact gt _ | exact gg _ | exact gp _))) | (show wGo ..; first | refine q3r ?_ | refine q4y ?_) | (show dr ..; first | refine q1y ?_ | refine dr_n rfl ?_ | refine q5j rfl rfl ?_) | (show drGo ..; refine q2t rfl ?_) | (show drOn ..; refine q1z ?_) | (refine And.intro (by kernel_rfl : q1n _ = true) ?_) | (show q0d ..; first | refine q0h ?_ | refine q0b ?_ | refine q1o (by kernel_rfl) ?_ | refine q0s ?_ | refine q0m ?_ | refine q0j ?_) | (show q0o ..; first | refine cd_t ?_ | refine cd_f ?_) | refine q0a ?_ | refine q0q ?_)
          exact again (n + 1) (show n + 1 ≤ L.length from hlt) (show L.length - (n + 1) < L.length - n by omega) (by (refine q1l ?_ ?_ <;> repeat' (first | exact q0v | exact q0y | refine q0p (by (try simp only [go_sem, *]); try rfl) (by simp only [go_sem, *]) ?_ | refine q0z (by (try simp only [go_sem, *]); try rfl) (by omega) (by simp only [go_sem, *]) ?_ | refine q0x (by (try simp only [go_sem, *]); try rfl) (by omega) (by simp only [go_sem, *]) ?_)))
        | false =>
          cases n2 : (q1j g.gate.grant q0.cat == 0) with
          | true =>
            repeat' (first | (show q0i ..; first | refine q0c ?_ | refine q0e rfl ?_ | refine q1a rfl rfl ?_) | (show q0k ..; first | refine q0f rfl rfl ?_ | refine q0l rfl ?_) | (show goOn ..; first | refine q0g ?_ | refine q1d ?_ | refine q1x ?_) | (show q2w ..; refine q1h ?_) | (show q1k ..; (refine q0r (r := ?_) ?_ ?_; rotate_left 1; (focus first | exact gt _ | exact gg _ | exact gp _))) | (show wGo ..; first | refine q4b ?_ | refine q3r ?_) | (show dr ..; first | refine q1y ?_ | refine dr_n rfl ?_ | refine q5j rfl rfl ?_) | (show drGo ..; refine q2t rfl ?_) | (show drOn ..; refine q1z ?_) | (refine And.intro (by kernel_rfl : q1n _ = true) ?_) | (show q0d ..; first | refine q0h ?_ | refine q0b ?_ | refine q1o (by kernel_rfl) ?_ | refine q0s ?_ | refine q0m ?_ | refine q0j ?_) | (show q0o ..; first | refine cd_t ?_ | refine cd_f ?_) | refine q0a ?_ | refine q0q ?_)
            exact again (n + 1) (show n + 1 ≤ L.length from hlt) (show L.length - (n + 1) < L.length - n by omega) (by (refine q1l ?_ ?_ <;> repeat' (first | exact q0v | exact q0y | refine q0p (by (try simp only [go_sem, *]); try rfl) (by simp only [go_sem, *]) ?_ | refine q0z (by (try simp only [go_sem, *]); try rfl) (by omega) (by simp only [go_sem, *]) ?_ | refine q0x (by (try simp only [go_sem, *]); try rfl) (by omega) (by simp only [go_sem, *]) ?_)))
          | false =>
            have n3 : decide (q1j p.label q0.cat < q1j t.label q0.cat) = false := by
              refine decide_eq_false ?_
              rcases hlow with h | h | h
              · rw [h] at n1; cases n1
              · rw [h] at n2; cases n2
              · omega
            repeat' (first | (show q0i ..; first | refine q0c ?_ | refine q0e rfl ?_ | refine q1a rfl rfl ?_) | (show q0k ..; first | refine q0f rfl rfl ?_ | refine q0l rfl ?_) | (show goOn ..; first | refine q0g ?_ | refine q1d ?_ | refine q1x ?_) | (show q2w ..; refine q1h ?_) | (show q1k ..; (refine q0r (r := ?_) ?_ ?_; rotate_left 1; (focus first | exact gt _ | exact gg _ | exact gp _))) | (show wGo ..; first | refine q3h ?_ | refine q4b ?_) | (show dr ..; first | refine q1y ?_ | refine dr_n rfl ?_ | refine q5j rfl rfl ?_) | (show drGo ..; first | refine q2t rfl ?_ | refine q2k rfl ?_) | (show drOn ..; refine q1z ?_) | (show q2e ..; (refine q1f (r := ?_) ?_ ?_; rotate_left 1; (focus first | exact gt _ | exact gg _ | exact gp _))) | (refine And.intro (by kernel_rfl : q1n _ = true) ?_) | (show q0d ..; first | refine q0h ?_ | refine q0b ?_ | refine q1o (by kernel_rfl) ?_ | refine q0s ?_ | refine q0m ?_ | refine q0j ?_) | (show q0o ..; first | refine cd_t ?_ | refine cd_f ?_) | refine q0a ?_ | refine q0q ?_)
            exact again (n + 1) (show n + 1 ≤ L.length from hlt) (show L.length - (n + 1) < L.length - n by omega) (by (refine q1l ?_ ?_ <;> repeat' (first | exact q0v | exact q0y | refine q0p (by (try simp only [go_sem, *]); try rfl) (by simp only [go_sem, *]) ?_ | refine q0z (by (try simp only [go_sem, *]); try rfl) (by omega) (by simp only [go_sem, *]) ?_ | refine q0x (by (try simp only [go_sem, *]); try rfl) (by omega) (by simp only [go_sem, *]) ?_)))
      have h0 := q1q hge
      repeat' (first | (show q0i ..; first | refine q0c ?_ | refine q0e rfl ?_) | (show q0k ..; refine q0f rfl rfl ?_) | (show goOn ..; refine q0g ?_) | (show q0d ..; first | refine q0h ?_ | refine q0b ?_ | refine q0m ?_ | refine q1s ?_ | refine q0j ?_) | (show q0o ..; refine cd_f ?_) | refine q0a ?_ | refine q1r ?_ | refine q1t ?_)
      refine q2l (S := Nat) (fun n => x.objects.length - n) (fun n => n ≤ x.objects.length) (fun n => [(1, .int .u64 id), (3, .ptr 0 0), (5, .ptr 1 0), (7, .ptr 2 0), (11, .ptr 3 0), (13, .ptr 4 0), (15, .ptr 5 0), (180, .sl (x.objects.map Ob.enc)), (181, .int .i64 x.objects.length), (182, .int .i64 n)]) (fun _ => [(0, .box (Wd.enc w)), (1, .box (args a)), (2, .box (Wd.enc x)), (3, .box (Ob.enc g)), (4, .box (Ob.enc t)), (5, .box (Ob.enc p))]) (fun _ => 6) 0 (Nat.zero_le _) (by (refine q1l ?_ ?_ <;> repeat' (first | exact q0v | exact q0y | refine q0p (by (try simp only [go_sem, *]); try rfl) (by simp only [go_sem, *]) ?_ | refine q0z (by (try simp only [go_sem, *]); try rfl) (by omega) (by simp only [go_sem, *]) ?_ | refine q0x (by (try simp only [go_sem, *]); try rfl) (by omega) (by simp only [go_sem, *]) ?_))) ?_
      clear h0 hge hmem hn hll
      intro n hn
      rcases Nat.lt_or_ge n x.objects.length with hlt | hge
      · obtain ⟨o, ho⟩ := q2b hlt
        have h0 := q2h hlt
        have h4 := q2a n (by omega)
        obtain ⟨y, hy, hoy⟩ := g8 n o ho
        have hnn : ((n : Int)).toNat = n := Int.toNat_natCast n
        cases n1 : (o.id != id) with
        | false =>
          repeat' (first | (show q0i ..; first | refine q0c ?_ | refine q0e rfl ?_) | (show q0k ..; refine q0f rfl rfl ?_) | (show goOn ..; first | refine q0g ?_ | refine q1d ?_ | refine q1x ?_) | (show q2w ..; refine q1h ?_) | (show wGo ..; refine q3r ?_) | (show dr ..; first | refine q1y ?_ | refine dr_n rfl ?_ | refine q5j rfl rfl ?_) | (show drGo ..; refine q2t rfl ?_) | (show drOn ..; refine q1z ?_) | (refine And.intro (by kernel_rfl : q1n _ = true) ?_) | (show q0d ..; first | refine q0h ?_ | refine q0b ?_ | refine q1o (by kernel_rfl) ?_ | refine q0s ?_ | refine q0m ?_ | refine q0j ?_) | (show q0o ..; first | refine cd_t ?_ | refine cd_f ?_) | refine q0a ?_ | refine q0q ?_)
          exact again (n + 1) (show n + 1 ≤ x.objects.length from hlt) (show x.objects.length - (n + 1) < x.objects.length - n by omega) (by (refine q1l ?_ ?_ <;> repeat' (first | exact q0v | exact q0y | refine q0p (by (try simp only [go_sem, *]); try rfl) (by simp only [go_sem, *]) ?_ | refine q0z (by (try simp only [go_sem, *]); try rfl) (by omega) (by simp only [go_sem, *]) ?_ | refine q0x (by (try simp only [go_sem, *]); try rfl) (by omega) (by simp only [go_sem, *]) ?_)))
        | true =>
          obtain rfl : o = y := by
            rcases hoy with h | h
            · rw [h] at n1; simp at n1
            · exact h
          have hso := q5m o o (hxL.2 o (List.mem_of_getElem? ho)).1
          rw [q5l] at hso
          repeat' (first | (show q0i ..; first | refine q0c ?_ | refine q0e rfl ?_) | (show q0k ..; refine q0f rfl rfl ?_) | (show goOn ..; first | refine q0g ?_ | refine q1d ?_ | refine q1x ?_) | (show q2w ..; refine q1h ?_) | (show wGo ..; refine q3h ?_) | (show dr ..; first | refine q1y ?_ | refine dr_n rfl ?_ | refine q5j rfl rfl ?_) | (show drGo ..; first | refine q2t rfl ?_ | refine q2k rfl ?_) | (show drOn ..; refine q1z ?_) | (show q2e ..; (refine q1f (r := ?_) ?_ ?_; rotate_left 1; (focus exact hso))) | (refine And.intro (by kernel_rfl : q1n _ = true) ?_) | (show q0d ..; first | refine q0h ?_ | refine q0b ?_ | refine q1o (by kernel_rfl) ?_ | refine q0s ?_ | refine q0m ?_ | refine q0j ?_) | (show q0o ..; first | refine cd_t ?_ | refine cd_f ?_) | refine q0a ?_ | refine q0q ?_)
          exact again (n + 1) (show n + 1 ≤ x.objects.length from hlt) (show x.objects.length - (n + 1) < x.objects.length - n by omega) (by (refine q1l ?_ ?_ <;> repeat' (first | exact q0v | exact q0y | refine q0p (by (try simp only [go_sem, *]); try rfl) (by simp only [go_sem, *]) ?_ | refine q0z (by (try simp only [go_sem, *]); try rfl) (by omega) (by simp only [go_sem, *]) ?_ | refine q0x (by (try simp only [go_sem, *]); try rfl) (by omega) (by simp only [go_sem, *]) ?_)))
      have h0 := q1q hge
      repeat' (first | (show q0i ..; first | refine q0c ?_ | refine q0e rfl ?_ | refine q1a rfl rfl ?_) | (show q0k ..; first | refine q0f rfl rfl ?_ | refine q0l rfl ?_) | (show goOn ..; refine q0g ?_) | (show q1k ..; (refine q0r (r := ?_) ?_ ?_; rotate_left 1; (focus exact hk))) | (show wGo ..; refine q3h ?_) | (show q0d ..; first | refine q0h ?_ | refine q0b ?_ | refine q0t ?_ | refine q1s ?_ | refine q0j ?_) | (show q0o ..; refine cd_f ?_) | refine q0a ?_ | refine q1r ?_ | refine q1t ?_ | (show retQ ..; refine q0u ?_) | refine q0n ?_)
      all_goals rfl
    | cons r k =>
      have m3 : ((l.length + 1 + (k.length + 1)) * 16 ≤ 140737488355328) = True := q8d (k := l.length + 1 + k.length) (by rw [ht] at lt; rw [hp] at lp; simp at lt lp; omega) (by decide)
      have m4 : (l.length + 1 + (k.length + 1) ≤ maxLen) = True := q6o (k := l.length + 1 + k.length) (by rw [ht] at lt; rw [hp] at lp; simp at lt lp; omega)
      have m5 : ((List.map Pr.enc l ++ Pr.enc r :: List.map Pr.enc k).length + 1 = l.length + 1 + (k.length + 1)) = True := eq_true (by simp; omega)
      repeat' (first | (show dr ..; first | refine q1y ?_ | refine dr_n rfl ?_) | (show drGo ..; refine q2t rfl ?_) | (show drOn ..; first | refine q1z ?_ | refine dn_born ?_ | refine dn_grow ?_) | (refine And.intro (by kernel_rfl : q2d _ _ _ = true) ?_) | (show q0d ..; first | refine q9h (by kernel_rfl) ?_ | refine q0m ?_) | refine q0a ?_)
      obtain ⟨L, hL⟩ : ∃ L : List Pr, L = q :: (l ++ r :: k) := ⟨_, rfl⟩
      have hlen : L.length = l.length + 1 + (k.length + 1) := by rw [hL]; simp; omega
      have hrow : List.map Pr.enc L = Pr.enc q :: (List.map Pr.enc l ++ Pr.enc r :: List.map Pr.enc k) := by rw [hL]; simp
      have hlq : (List.map Pr.enc l ++ Pr.enc r :: List.map Pr.enc k).length + 1 = l.length + 1 + (k.length + 1) := by simp; omega
      have hmem : ∀ y ∈ L, y ∈ t.label ++ p.label := fun y hy => by rw [ht, hp]; rw [hL] at hy; simpa using hy
      have hll : L.length ≤ 40 := by rw [hL]; rw [ht] at lt; rw [hp] at lp; simp at lt lp ⊢; omega
      clear hL
      refine q2l (S := Nat) (fun n => L.length - n) (fun n => n ≤ L.length) (fun n => [(1, .int .u64 id), (3, .ptr 0 0), (5, .ptr 1 0), (7, .ptr 2 0), (11, .ptr 3 0), (13, .ptr 4 0), (15, .ptr 5 0), (142, .gr 6 L.length), (143, .int .i64 L.length), (144, .int .i64 n)]) (fun _ => [(0, .box (Wd.enc w)), (1, .box (args a)), (2, .box (Wd.enc x)), (3, .box (Ob.enc g)), (4, .box (Ob.enc t)), (5, .box (Ob.enc p)), (6, .row 76 2 (List.map Pr.enc L))]) (fun _ => 7) 0 (Nat.zero_le _) (by (refine q1l ?_ ?_ <;> repeat' (first | exact q0v | exact q0y | refine q0p (by (try simp only [go_sem, *]); try rfl) (by simp only [go_sem, *]) ?_ | refine q0z (by (try simp only [go_sem, *]); try rfl) (by omega) (by simp only [go_sem, *]) ?_ | refine q0x (by (try simp only [go_sem, *]); try rfl) (by omega) (by simp only [go_sem, *]) ?_))) ?_
      clear ht hp hlen hrow hlq
      intro n hn
      rcases Nat.lt_or_ge n L.length with hlt | hge
      · obtain ⟨q0, hq⟩ := q2b hlt
        have h0 := q2h hlt
        have h4 := q2a n (by omega)
        have lm : (List.map Pr.enc L).length = L.length := List.length_map _
        have hlow := g7 q0 (hmem q0 (List.mem_of_getElem? hq))
        cases n1 : (q1j t.label q0.cat == 0) with
        | true =>
          repeat' (first | (show q0i ..; first | refine q0c ?_ | refine q0e rfl ?_ | refine q1a rfl rfl ?_) | (show q0k ..; first | refine q0f rfl rfl ?_ | refine q0l rfl ?_) | (show goOn ..; first | refine q0g ?_ | refine q1d ?_ | refine q1x ?_) | (show q2w ..; refine q1h ?_) | (show q1k ..; (refine q0r (r := ?_) ?_ ?_; rotate_left 1; (focus first | exact gt _ | exact gg _ | exact gp _))) | (show wGo ..; first | refine q3r ?_ | refine q4y ?_) | (show dr ..; first | refine q1y ?_ | refine dr_n rfl ?_ | refine q5j rfl rfl ?_) | (show drGo ..; refine q2t rfl ?_) | (show drOn ..; refine q1z ?_) | (refine And.intro (by kernel_rfl : q1n _ = true) ?_) | (show q0d ..; first | refine q0h ?_ | refine q0b ?_ | refine q1o (by kernel_rfl) ?_ | refine q0s ?_ | refine q0m ?_ | refine q0j ?_) | (show q0o ..; first | refine cd_t ?_ | refine cd_f ?_) | refine q0a ?_ | refine q0q ?_)
          exact again (n + 1) (show n + 1 ≤ L.length from hlt) (show L.length - (n + 1) < L.length - n by omega) (by (refine q1l ?_ ?_ <;> repeat' (first | exact q0v | exact q0y | refine q0p (by (try simp only [go_sem, *]); try rfl) (by simp only [go_sem, *]) ?_ | refine q0z (by (try simp only [go_sem, *]); try rfl) (by omega) (by simp only [go_sem, *]) ?_ | refine q0x (by (try simp only [go_sem, *]); try rfl) (by omega) (by simp only [go_sem, *]) ?_)))
        | false =>
          cases n2 : (q1j g.gate.grant q0.cat == 0) with
          | true =>
            repeat' (first | (show q0i ..; first | refine q0c ?_ | refine q0e rfl ?_ | refine q1a rfl rfl ?_) | (show q0k ..; first | refine q0f rfl rfl ?_ | refine q0l rfl ?_) | (show goOn ..; first | refine q0g ?_ | refine q1d ?_ | refine q1x ?_) | (show q2w ..; refine q1h ?_) | (show q1k ..; (refine q0r (r := ?_) ?_ ?_; rotate_left 1; (focus first | exact gt _ | exact gg _ | exact gp _))) | (show wGo ..; first | refine q4b ?_ | refine q3r ?_) | (show dr ..; first | refine q1y ?_ | refine dr_n rfl ?_ | refine q5j rfl rfl ?_) | (show drGo ..; refine q2t rfl ?_) | (show drOn ..; refine q1z ?_) | (refine And.intro (by kernel_rfl : q1n _ = true) ?_) | (show q0d ..; first | refine q0h ?_ | refine q0b ?_ | refine q1o (by kernel_rfl) ?_ | refine q0s ?_ | refine q0m ?_ | refine q0j ?_) | (show q0o ..; first | refine cd_t ?_ | refine cd_f ?_) | refine q0a ?_ | refine q0q ?_)
            exact again (n + 1) (show n + 1 ≤ L.length from hlt) (show L.length - (n + 1) < L.length - n by omega) (by (refine q1l ?_ ?_ <;> repeat' (first | exact q0v | exact q0y | refine q0p (by (try simp only [go_sem, *]); try rfl) (by simp only [go_sem, *]) ?_ | refine q0z (by (try simp only [go_sem, *]); try rfl) (by omega) (by simp only [go_sem, *]) ?_ | refine q0x (by (try simp only [go_sem, *]); try rfl) (by omega) (by simp only [go_sem, *]) ?_)))
          | false =>
            have n3 : decide (q1j p.label q0.cat < q1j t.label q0.cat) = false := by
              refine decide_eq_false ?_
              rcases hlow with h | h | h
              · rw [h] at n1; cases n1
              · rw [h] at n2; cases n2
              · omega
            repeat' (first | (show q0i ..; first | refine q0c ?_ | refine q0e rfl ?_ | refine q1a rfl rfl ?_) | (show q0k ..; first | refine q0f rfl rfl ?_ | refine q0l rfl ?_) | (show goOn ..; first | refine q0g ?_ | refine q1d ?_ | refine q1x ?_) | (show q2w ..; refine q1h ?_) | (show q1k ..; (refine q0r (r := ?_) ?_ ?_; rotate_left 1; (focus first | exact gt _ | exact gg _ | exact gp _))) | (show wGo ..; first | refine q3h ?_ | refine q4b ?_) | (show dr ..; first | refine q1y ?_ | refine dr_n rfl ?_ | refine q5j rfl rfl ?_) | (show drGo ..; first | refine q2t rfl ?_ | refine q2k rfl ?_) | (show drOn ..; refine q1z ?_) | (show q2e ..; (refine q1f (r := ?_) ?_ ?_; rotate_left 1; (focus first | exact gt _ | exact gg _ | exact gp _))) | (refine And.intro (by kernel_rfl : q1n _ = true) ?_) | (show q0d ..; first | refine q0h ?_ | refine q0b ?_ | refine q1o (by kernel_rfl) ?_ | refine q0s ?_ | refine q0m ?_ | refine q0j ?_) | (show q0o ..; first | refine cd_t ?_ | refine cd_f ?_) | refine q0a ?_ | refine q0q ?_)
            exact again (n + 1) (show n + 1 ≤ L.length from hlt) (show L.length - (n + 1) < L.length - n by omega) (by (refine q1l ?_ ?_ <;> repeat' (first | exact q0v | exact q0y | refine q0p (by (try simp only [go_sem, *]); try rfl) (by simp only [go_sem, *]) ?_ | refine q0z (by (try simp only [go_sem, *]); try rfl) (by omega) (by simp only [go_sem, *]) ?_ | refine q0x (by (try simp only [go_sem, *]); try rfl) (by omega) (by simp only [go_sem, *]) ?_)))
      have h0 := q1q hge
      repeat' (first | (show q0i ..; first | refine q0c ?_ | refine q0e rfl ?_) | (show q0k ..; refine q0f rfl rfl ?_) | (show goOn ..; refine q0g ?_) | (show q0d ..; first | refine q0h ?_ | refine q0b ?_ | refine q0m ?_ | refine q1s ?_ | refine q0j ?_) | (show q0o ..; refine cd_f ?_) | refine q0a ?_ | refine q1r ?_ | refine q1t ?_)
      refine q2l (S := Nat) (fun n => x.objects.length - n) (fun n => n ≤ x.objects.length) (fun n => [(1, .int .u64 id), (3, .ptr 0 0), (5, .ptr 1 0), (7, .ptr 2 0), (11, .ptr 3 0), (13, .ptr 4 0), (15, .ptr 5 0), (180, .sl (x.objects.map Ob.enc)), (181, .int .i64 x.objects.length), (182, .int .i64 n)]) (fun _ => [(0, .box (Wd.enc w)), (1, .box (args a)), (2, .box (Wd.enc x)), (3, .box (Ob.enc g)), (4, .box (Ob.enc t)), (5, .box (Ob.enc p))]) (fun _ => 6) 0 (Nat.zero_le _) (by (refine q1l ?_ ?_ <;> repeat' (first | exact q0v | exact q0y | refine q0p (by (try simp only [go_sem, *]); try rfl) (by simp only [go_sem, *]) ?_ | refine q0z (by (try simp only [go_sem, *]); try rfl) (by omega) (by simp only [go_sem, *]) ?_ | refine q0x (by (try simp only [go_sem, *]); try rfl) (by omega) (by simp only [go_sem, *]) ?_))) ?_
      clear h0 hge hmem hn hll
      intro n hn
      rcases Nat.lt_or_ge n x.objects.length with hlt | hge
      · obtain ⟨o, ho⟩ := q2b hlt
        have h0 := q2h hlt
        have h4 := q2a n (by omega)
        obtain ⟨y, hy, hoy⟩ := g8 n o ho
        have hnn : ((n : Int)).toNat = n := Int.toNat_natCast n
        cases n1 : (o.id != id) with
        | false =>
          repeat' (first | (show q0i ..; first | refine q0c ?_ | refine q0e rfl ?_) | (show q0k ..; refine q0f rfl rfl ?_) | (show goOn ..; first | refine q0g ?_ | refine q1d ?_ | refine q1x ?_) | (show q2w ..; refine q1h ?_) | (show wGo ..; refine q3r ?_) | (show dr ..; first | refine q1y ?_ | refine dr_n rfl ?_ | refine q5j rfl rfl ?_) | (show drGo ..; refine q2t rfl ?_) | (show drOn ..; refine q1z ?_) | (refine And.intro (by kernel_rfl : q1n _ = true) ?_) | (show q0d ..; first | refine q0h ?_ | refine q0b ?_ | refine q1o (by kernel_rfl) ?_ | refine q0s ?_ | refine q0m ?_ | refine q0j ?_) | (show q0o ..; first | refine cd_t ?_ | refine cd_f ?_) | refine q0a ?_ | refine q0q ?_)
          exact again (n + 1) (show n + 1 ≤ x.objects.length from hlt) (show x.objects.length - (n + 1) < x.objects.length - n by omega) (by (refine q1l ?_ ?_ <;> repeat' (first | exact q0v | exact q0y | refine q0p (by (try simp only [go_sem, *]); try rfl) (by simp only [go_sem, *]) ?_ | refine q0z (by (try simp only [go_sem, *]); try rfl) (by omega) (by simp only [go_sem, *]) ?_ | refine q0x (by (try simp only [go_sem, *]); try rfl) (by omega) (by simp only [go_sem, *]) ?_)))
        | true =>
          obtain rfl : o = y := by
            rcases hoy with h | h
            · rw [h] at n1; simp at n1
            · exact h
          have hso := q5m o o (hxL.2 o (List.mem_of_getElem? ho)).1
          rw [q5l] at hso
          repeat' (first | (show q0i ..; first | refine q0c ?_ | refine q0e rfl ?_) | (show q0k ..; refine q0f rfl rfl ?_) | (show goOn ..; first | refine q0g ?_ | refine q1d ?_ | refine q1x ?_) | (show q2w ..; refine q1h ?_) | (show wGo ..; refine q3h ?_) | (show dr ..; first | refine q1y ?_ | refine dr_n rfl ?_ | refine q5j rfl rfl ?_) | (show drGo ..; first | refine q2t rfl ?_ | refine q2k rfl ?_) | (show drOn ..; refine q1z ?_) | (show q2e ..; (refine q1f (r := ?_) ?_ ?_; rotate_left 1; (focus exact hso))) | (refine And.intro (by kernel_rfl : q1n _ = true) ?_) | (show q0d ..; first | refine q0h ?_ | refine q0b ?_ | refine q1o (by kernel_rfl) ?_ | refine q0s ?_ | refine q0m ?_ | refine q0j ?_) | (show q0o ..; first | refine cd_t ?_ | refine cd_f ?_) | refine q0a ?_ | refine q0q ?_)
          exact again (n + 1) (show n + 1 ≤ x.objects.length from hlt) (show x.objects.length - (n + 1) < x.objects.length - n by omega) (by (refine q1l ?_ ?_ <;> repeat' (first | exact q0v | exact q0y | refine q0p (by (try simp only [go_sem, *]); try rfl) (by simp only [go_sem, *]) ?_ | refine q0z (by (try simp only [go_sem, *]); try rfl) (by omega) (by simp only [go_sem, *]) ?_ | refine q0x (by (try simp only [go_sem, *]); try rfl) (by omega) (by simp only [go_sem, *]) ?_)))
      have h0 := q1q hge
      repeat' (first | (show q0i ..; first | refine q0c ?_ | refine q0e rfl ?_ | refine q1a rfl rfl ?_) | (show q0k ..; first | refine q0f rfl rfl ?_ | refine q0l rfl ?_) | (show goOn ..; refine q0g ?_) | (show q1k ..; (refine q0r (r := ?_) ?_ ?_; rotate_left 1; (focus exact hk))) | (show wGo ..; refine q3h ?_) | (show q0d ..; first | refine q0h ?_ | refine q0b ?_ | refine q0t ?_ | refine q1s ?_ | refine q0j ?_) | (show q0o ..; refine cd_f ?_) | refine q0a ?_ | refine q1r ?_ | refine q1t ?_ | (show retQ ..; refine q0u ?_) | refine q0n ?_)
      all_goals rfl
theorem law23_grants (w : Wd) (id : Int) (a : Nat → Int) (xw : w.wf) (xi : U id) (xa : ∀ i, i < 7 → U (a i)) :
    Pure Tryz.prog 5 [.agg (Wd.enc w), .int .u64 id, .agg (args a)] (.bool true) := by
  have hk := law23_awake
  have lo : ∀ x ∈ w.objects, x.L := fun x hx => Ob.lens (xw.2.2.2.1 x hx)
  have b1 := law23_few w xw.2.2.2.2 lo
  cases h1 : fewS w with
  | false =>
    rw [h1] at b1
    refine q2p (by kernel_rfl) (by simp only [go_sem, *]) (by simp only [go_sem, *]) Tryz.func5 Tryz.results5 rfl (by simp [Tryz.ntmps5]) (by kernel_rfl) ?_
    repeat' (first | (show q0i ..; first | refine q0c ?_ | refine q0e rfl ?_ | refine q1a rfl rfl ?_) | (show q0k ..; first | refine q0f rfl rfl ?_ | refine q0l rfl ?_) | (show goOn ..; first | refine q0g ?_ | refine q1d ?_) | (show q1k ..; (refine q0r (r := ?_) ?_ ?_; rotate_left 1; (focus first | exact b1 | exact hk))) | (show wGo ..; refine q4y ?_) | (show q0d ..; first | refine q0h ?_ | refine q0b ?_ | refine q0t ?_ | refine q0j ?_) | (show q0o ..; refine cd_t ?_) | refine q0a ?_ | refine q2j ?_ | (show retQ ..; refine q0u ?_) | refine q0n ?_)
    all_goals rfl
  | true =>
  obtain ⟨hf, hw⟩ := fewS_of h1
  have b2 := law23_thread w id (by have := hf.n; omega)
  cases h2 : isThr w id with
  | false =>
    rw [h1] at b1
    rw [h2] at b2
    refine q2p (by kernel_rfl) (by simp only [go_sem, *]) (by simp only [go_sem, *]) Tryz.func5 Tryz.results5 rfl (by simp [Tryz.ntmps5]) (by kernel_rfl) ?_
    repeat' (first | (show q0i ..; first | refine q0c ?_ | refine q0e rfl ?_ | refine q1a rfl rfl ?_) | (show q0k ..; first | refine q0f rfl rfl ?_ | refine q0l rfl ?_) | (show goOn ..; first | refine q0g ?_ | refine q1d ?_) | (show q1k ..; (refine q0r (r := ?_) ?_ ?_; rotate_left 1; (focus first | exact b1 | exact b2 | exact hk))) | (show wGo ..; refine q4b ?_) | (show q0d ..; first | refine q0h ?_ | refine q0b ?_ | refine q0t ?_ | refine q0j ?_) | (show q0o ..; refine cd_t ?_) | refine q0a ?_ | refine q2j ?_ | (show retQ ..; refine q0u ?_) | refine q0n ?_)
    all_goals rfl
  | true =>
  rw [h1] at b1
  rw [h2] at b2
  have lw : w.L := ⟨xw.2.2.2.2, fun x hx => ⟨lo x hx, by have := (hf.ob x hx).1; omega⟩⟩
  have g : Good w := ⟨lw, hf, hw⟩
  have ha : ∀ i, i < 7 → 0 ≤ a i := fun i hi => by obtain ⟨k, _, hk⟩ := U_nat (xa i hi); omega
  obtain ⟨ht, hid, hkd⟩ := isThr_ok h2
  clear h1 lo
  have c1 := kgate_do w id 40 a g h2 ha
  have e40 : q5u w (q2i w id).1 40 a = q4f w (q2i w id).1 a := by unfold q5u; simp
  have gx := kgate_good g ht hkd 40 a ha
  rw [e40] at c1 gx
  have hnk := enter_k w (q2i w id).1 a
  have herr := enter_err w (q2i w id).1 a
  cases he : ((q4f w (q2i w id).1 a).2.2.1 == 0) with
  | false =>
    obtain ⟨e1, e2, _⟩ := herr he
    rw [hnk] at c1
    rw [e1, e2] at c1
    generalize (q4f w (q2i w id).1 a).2.2.1 = e at he c1
    have he' : (e != 0) = true := by simp [bne, he]
    have s1 := same_c lw (rfl : w = _)
    clear gx hnk herr e1 e2 e40 ha
    refine q2p (by kernel_rfl) (by simp only [go_sem, *]) (by simp only [go_sem, *]) Tryz.func5 Tryz.results5 rfl (by simp [Tryz.ntmps5]) (by kernel_rfl) ?_
    repeat' (first | (show q0i ..; first | refine q0c ?_ | refine q0e rfl ?_ | refine q1a rfl rfl ?_) | (show q0k ..; first | refine q0f rfl rfl ?_ | refine q0l rfl ?_) | (show goOn ..; first | refine q0g ?_ | refine q1d ?_ | refine q1x ?_) | (show q2w ..; refine q1h ?_) | (show q1k ..; (refine q0r (r := ?_) ?_ ?_; rotate_left 1; (focus first | exact b1 | exact b2 | exact c1 | exact s1 | exact hk))) | (show wGo ..; first | refine q3h ?_ | refine q4b ?_) | (show q0d ..; first | refine q0h ?_ | refine q0b ?_ | refine q0t ?_ | refine q0s ?_ | refine q0j ?_) | (show q0o ..; first | refine cd_t ?_ | refine cd_f ?_) | refine q0a ?_ | refine q2j ?_ | (show retQ ..; refine q0u ?_) | refine q0n ?_)
    all_goals rfl
  | true =>
    obtain ⟨hG, hpl⟩ := granted g ht hkd a ha he
    rw [hnk] at c1
    have he0 : (q4f w (q2i w id).1 a).2.2.1 = 0 := by simpa using he
    rw [he0] at c1
    rw [hid] at hG hpl
    have hl := thr_of (q5w (q7o g.fit) ht) hkd
    have f1 := q6u w (a 1) (by have := hf.n; omega)
    have f2 := q6u w id (by have := hf.n; omega)
    have f3 := q6u (q4f w (q2i w id).1 a).1 id (by have := hG.len; have := hf.n; omega)
    exact grants_core w _ id _ a _ _ _ _ _ _ hG hf.n (by have := q5h hl.lab; omega) (by omega) (findR_Lw lw (a 1)).2.2.2.2.2.1.1 gx.L (fun y _ => q5l y) b1 b2 c1 f1 f2 f3
end Go.Proofs.YtoibbedpaaeclaaGreat.kgate
end
