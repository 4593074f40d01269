import Derived.Test.YteibeoipnjhicaaEvj
namespace Go.Proofs.Yteibeoipnjhicaa
open Go Go.RowKit
set_option linter.unusedVariables false
set_option linter.unusedSimpArgs false
/-! Calls, and operations one behind the other. -/
inductive Out where
  | ret (v : PV)
  | pan (v : PV)
inductive Ex where
  | normal
  | exit (id : Nat)
  | ret
  | pan (v : PV)
def OutR (w : World) (M0 : Nat → Nat → Prop) (σ : Nat → Gh) (H : Heap) : Ending → Out → Prop
  | .returned v, .ret p => VV w M0 σ H v p
  | .panicked ch, .pan p => ∃ v, ch = [{ v, recovered := false }] ∧ VV w M0 σ H v p
  | _, _ => False
def VL (w : World) (M : Nat → Nat → Prop) (σ : Nat → Gh) (L : Nat → Prop) (vs : List Value) (ps : List PV) : Prop :=
  vs.length = ps.length ∧ ∀ (i : Nat) (v : Value) (p : PV), vs[i]? = some v → ps[i]? = some p → VR w M σ L v p
/-- A call's contract, over own boxes. -/
def CSat (P : Program) (f : FuncId) (args : List PV) (H : Heap) (m : Nat) (Q : Out → Heap → Nat → Prop) : Prop :=
  ∀ (w : World) (M0 : Nat → Nat → Prop) (σ : Nat → Gh) (vs : List Value), HR w M0 σ H → (∀ i, m ≤ i → H i = none) → VL w (MU M0 σ H) σ (LV H) vs args →
    Calls P f vs.toArray w fun e w' => ∃ out H' m' σ', Q out H' m' ∧ HR w' M0 σ' H' ∧ (∀ i, m' ≤ i → H' i = none) ∧ m ≤ m' ∧ Fr w M0 σ H w' σ' H' ∧ OutR w' M0 σ' H' e out
theorem CSat.mono {P f args H m Q Q'} (h : CSat P f args H m Q) (hq : ∀ out H' m', Q out H' m' → Q' out H' m') : CSat P f args H m Q' := fun w M0 σ vs h1 h2 h3 =>
  (h w M0 σ vs h1 h2 h3).mono fun e w' ⟨out, H', m', σ', q, r⟩ => ⟨out, H', m', σ', hq _ _ _ q, r⟩
def wantP (ops : Array Oper) (env : Env) (o : Oper) : Option Bool :=
  match o.guard with
  | none => some true
  | some (j, want) => match (ops[j]?).bind (·.dst) with
    | some d => match env d with
      | .bool b => some (b == want)
      | .undef => some false
      | _ => none
    | none => none
def entersP (P : Program) (g : FuncId) : Bool := match P.funcs[g]? with
  | some fn => fn.body.isSome && !(fn.name == "runtime.NumGoroutine")
  | none => false
/-- Whom an operation calls, and with what. -/
def calleeP (ρ : Operand → PV) (s : PV → PV) : Op → Option (FuncId × List PV)
  | .call c => match c.callee with
    | .value f => match ρ f with
      | .fn (.func g) first cap => some (g, first ++ c.args.toList.map (fun x => s (ρ x)) ++ cap)
      | _ => none
    | _ => none
  | _ => none
def isCall : Op → Bool
  | .call c => match c.callee with
    | .value _ => true
    | _ => false
  | _ => false
def panicP (ρ : Operand → PV) (s : PV → PV) : Op → Option PV
  | .panic x => match ρ x with
    | .ifc t p => some (.ifc t p)
    | _ => none
  | _ => none
def isPanic : Op → Bool
  | .panic _ => true
  | _ => false
def pwOp (P : Program) (ops : Array Oper) (o : Oper) (Q : Ex → Env → Heap → Nat → Prop) (K : Env → Heap → Nat → Prop) (env : Env) (H : Heap) (m : Nat) : Prop :=
  match wantP ops env o with
  | some true =>
    if isCall o.op = true then
      match calleeP (rho env) (strip H) o.op with
      | some (g, args) => entersP P g = true ∧ CSat P g args H m fun out H' m' => match out with
        | .ret v => K (upd env o.dst v) H' m'
        | .pan v => Q (.pan v) env H' m'
      | none => False
    else if isPanic o.op = true then
      match panicP (rho env) (strip H) o.op with
      | some p => Q (.pan p) env H m
      | none => False
    else (match evOp P (rho env) (strip H) H m o.op with
      | some (r, e) => K (upd env o.dst r) (e.app m H) (m + e.cnt)
      | none => False) ∨ (match evBs P (rho env) (strip H) H m o.op with
      | some (r, e) => K (upd env o.dst r) (e.app m H) (m + e.cnt)
      | none => False)
  | some false => K (upd env o.dst .undef) H m
  | none => False
def pwOps (P : Program) (ops : Array Oper) (Q : Ex → Env → Heap → Nat → Prop) : List Oper → Env → Heap → Nat → Prop
  | [] => Q .normal
  | o :: rest => pwOp P ops o Q (pwOps P ops Q rest)
/-- The state in which a function stands, and that in which it began. -/
structure St (w0 : World) (M0 : Nat → Nat → Prop) (σ0 : Nat → Gh) (H0 : Heap) (m0 nt : Nat) (ds : List Deferred) (a : Act) (w : World) (env : Env) (H : Heap) (m : Nat) (σ : Nat → Gh) : Prop where
  hr : HR w M0 σ H
  free : ∀ i, m ≤ i → H i = none
  le : m0 ≤ m
  fr : Fr w0 M0 σ0 H0 w σ H
  size : a.tmps.size = nt
  defers : a.defers = ds
  env : ∀ t, VV w M0 σ H (a.tmps.getD t undef) (env t)
def ExR (w : World) (M0 : Nat → Nat → Prop) (σ : Nat → Gh) (H : Heap) : Exit → Ex → Prop
  | .normal, .normal => True
  | .exit i, .exit j => i = j
  | .ret, .ret => True
  | .panic ch, .pan p => ∃ v, ch = [{ v, recovered := false }] ∧ VV w M0 σ H v p
  | _, _ => False
section
variable {P : Program} {w0 : World} {M0 : Nat → Nat → Prop} {σ0 : Nat → Gh} {H0 : Heap} {m0 nt : Nat} {ds : List Deferred}
def QQ (w0 : World) (M0 : Nat → Nat → Prop) (σ0 : Nat → Gh) (H0 : Heap) (m0 nt : Nat) (ds : List Deferred) (Q : Ex → Env → Heap → Nat → Prop) : Exit → Act → World → Prop := fun e a w =>
  ∃ ex env H m σ, Q ex env H m ∧ St w0 M0 σ0 H0 m0 nt ds a w env H m σ ∧ ExR w M0 σ H e ex
theorem put_size (a : Act) (d : Option Tmp) (v : Value) : (a.put d v).tmps.size = a.tmps.size := by cases d <;> simp [Act.put]
theorem put_defers' (a : Act) (d : Option Tmp) (v : Value) : (a.put d v).defers = a.defers := by cases d <;> rfl
theorem put_get (a : Act) (d : Option Tmp) (v : Value) (hd : ∀ x, d = some x → x < a.tmps.size) (t : Nat) : (a.put d v).tmps.getD t undef = if d = some t then v else a.tmps.getD t undef := by
  cases d with
  | none => simp [Act.put]
  | some x =>
    have hx := hd x rfl
    simp only [Act.put, Array.getD_eq_getD_getElem?, Array.getElem?_setIfInBounds, Option.some.injEq]
    by_cases e : x = t
    · subst e; simp [hx]
    · simp [e]
theorem upd_get (env : Env) (d : Option Tmp) (p : PV) (t : Nat) : upd env d p t = if d = some t then p else env t := by
  cases d with
  | none => simp [upd]
  | some x => simp only [upd, Option.some.injEq]; by_cases e : t = x
              · simp [e]
              · rw [if_neg e, if_neg (Ne.symm e)]
theorem app_none {H : Heap} {m : Nat} (hn : ∀ i, m ≤ i → H i = none) (e : Eff) (he : ∀ id e' sz els, e = .grow id e' sz els → H id ≠ none) : ∀ i, m + e.cnt ≤ i → e.app m H i = none := by
  intro i hi
  cases e with
  | nop => exact hn i hi
  | new l => simp only [Eff.cnt] at hi; simp only [Eff.app]; rw [hset_ne _ _ (by omega)]; exact hn i (by omega)
  | put id off x =>
    simp only [Eff.cnt] at hi
    simp only [Eff.app]
    cases hid : H id with
    | none => exact hn i (by omega)
    | some he =>
      have : id < m := Nat.lt_of_not_le fun hle => by rw [hn id hle] at hid; cases hid
      cases he with
      | box l => simp only; rw [hset_ne _ _ (by omega)]; exact hn i (by omega)
      | row _ _ _ => exact hn i (by omega)
  | born e' sz els => simp only [Eff.cnt] at hi; simp only [Eff.app]; rw [hset_ne _ _ (by omega)]; exact hn i (by omega)
  | grow id e' sz els =>
    simp only [Eff.cnt] at hi
    have : id < m := Nat.lt_of_not_le fun hle => he id e' sz els rfl (hn id hle)
    simp only [Eff.app]; rw [hset_ne _ _ (by omega)]; exact hn i (by omega)
theorem evOp_grow {ρ : Operand → PV} {s : PV → PV} {H : Heap} {m : Nat} {op : Op} {r : PV} {e : Eff} (he : evOp P ρ s H m op = some (r, e)) : ∀ id e' sz els, e = .grow id e' sz els → H id ≠ none := by
  intro id e' sz els hg
  subst hg
  unfold evOp at he
  split at he
  all_goals (try (simp at he; done))
  all_goals (try (split at he <;> (try (simp at he; done))))
  all_goals (try (split at he <;> (try (simp at he; done))))
  all_goals (try (split at he <;> (try (simp at he; done))))
  all_goals (try (split at he <;> (try (simp at he; done))))
  unfold evAppend at he
  split at he <;> (try (simp at he; done))
  split at he <;> (try (simp at he; done))
  split at he <;> (try (simp at he; done))
  split at he <;> (try (simp at he; done))
  split at he <;> (try (simp at he; done))
  split at he
  · split at he <;> (try (simp at he; done))
  · split at he <;> (try (simp at he; done))
    rename_i hid
    split at he <;> (try (simp at he; done))
    split at he <;> (try (simp at he; done))
    split at he <;> (try (simp at he; done))
    simp only [Option.some.injEq, Prod.mk.injEq, Eff.grow.injEq] at he
    rw [← he.2.1, hid]; simp
  · simp at he
theorem St.step {a : Act} {w : World} {env : Env} {H : Heap} {m : Nat} {σ : Nat → Gh} (h : St w0 M0 σ0 H0 m0 nt ds a w env H m σ) {w' : World} {H' : Heap} {m' : Nat} {σ' : Nat → Gh} (hr : HR w' M0 σ' H') (hn : ∀ i, m' ≤ i → H' i = none) (hm : m ≤ m') (hf : Fr w M0 σ H w' σ' H')
    {d : Option Tmp} (hd : ∀ x, d = some x → x < nt) {v : Value} {p : PV} (hv : VV w' M0 σ' H' v p) : St w0 M0 σ0 H0 m0 nt ds (a.put d v) w' (upd env d p) H' m' σ' := by
  refine ⟨hr, hn, Nat.le_trans h.le hm, h.fr.trans hf, by rw [put_size]; exact h.size, by rw [put_defers']; exact h.defers, fun t => ?_⟩
  rw [put_get _ _ _ (by rw [h.size]; exact hd), upd_get]
  split
  · exact hv
  · exact (h.env t).mono hf.ext
theorem St.eval {a : Act} {w : World} {env : Env} {H : Heap} {m : Nat} {σ : Nat → Gh} (h : St w0 M0 σ0 H0 m0 nt ds a w env H m σ) (x : Operand) : VV w M0 σ H (a.eval x) (rho env x) := by
  cases x with
  | tmp t => exact h.env t
  | const v => exact vr_cv v
  | global g => exact .any _
  | func f => exact .fn _ [] [] [] [] rfl rfl (fun i v p hv => by simp at hv) (fun i v p hv => by simp at hv)
theorem wanted_of {ops : Array Oper} {a : Act} {w : World} {env : Env} {H : Heap} {σ : Nat → Gh} (henv : ∀ t, VV w M0 σ H (a.tmps.getD t undef) (env t)) {o : Oper} {b : Bool} (hw : wantP ops env o = some b) : Region.wanted o (yielded ops a.tmps) = b := by
  unfold wantP at hw
  unfold Region.wanted
  split at hw
  · rename_i hg; rw [hg]; simp only; exact Option.some.inj hw
  · rename_i j want hg
    rw [hg]
    simp only
    split at hw
    · rename_i d hd
      split at hw
      · rename_i c hc
        have hv := henv d
        rw [hc] at hv
        have : a.tmps[d]? = some (.bool c) := by
          rw [Array.getD_eq_getD_getElem?] at hv
          cases ht : a.tmps[d]? with
          | none => rw [ht] at hv; simp only [Option.getD_none, undef] at hv; cases hv
          | some u => rw [ht] at hv; simp only [Option.getD_some] at hv; cases hv; rfl
        have hy : yielded ops a.tmps j = some c := by unfold yielded; rw [hd]; simp only [Option.bind_some, this]
        rw [hy]
        rw [← Option.some.inj hw]
        cases c <;> cases want <;> rfl
      · rename_i hc
        have hv := henv d
        rw [hc] at hv
        have hy : yielded ops a.tmps j = none := by
          unfold yielded
          rw [hd]
          simp only [Option.bind_some]
          rw [Array.getD_eq_getD_getElem?] at hv
          cases ht : a.tmps[d]? with
          | none => rfl
          | some u => rw [ht] at hv; simp only [Option.getD_some] at hv; cases hv; rfl
        rw [hy]
        rw [← Option.some.inj hw]
        rfl
      · cases hw
    · cases hw
theorem vl_app {w : World} {M σ L} {a b : List Value} {p q : List PV} (h : VL w M σ L a p) (k : VL w M σ L b q) : VL w M σ L (a ++ b) (p ++ q) := by
  refine ⟨by rw [List.length_append, List.length_append, h.1, k.1], fun i v x hv hx => ?_⟩
  by_cases hi : i < a.length
  · rw [List.getElem?_append_left hi] at hv; rw [List.getElem?_append_left (by rw [← h.1]; exact hi)] at hx; exact h.2 i v x hv hx
  · rw [List.getElem?_append_right (by omega)] at hv; rw [List.getElem?_append_right (by rw [← h.1]; omega)] at hx; rw [h.1] at hv; exact k.2 _ v x hv hx
/-- What an operation that calls enters. -/
theorem call_enter {ev : Operand → Value} {ρ : Operand → PV} {s : PV → PV} {w : World} {M σ L} {o : Oper} (hρ : ∀ x ∈ o.op.operands, VR w M σ L (ev x) (ρ x)) (hs : ∀ x ∈ o.op.operands, VR w M σ L (ev x) (s (ρ x))) {g : FuncId} {args : List PV} (hc : calleeP ρ s o.op = some (g, args)) (he : entersP P g = true) :
    ∃ vs : List Value, (execOp ev o).run P w = .ok (.enter g vs.toArray) w ∧ VL w M σ L vs args := by
  obtain ⟨dst, op, ty, pos, after, guard⟩ := o
  simp only at hρ hs hc
  unfold calleeP at hc
  split at hc
  · rename_i c
    split at hc
    · rename_i f hcal
      split at hc
      · rename_i g' first cap hf
        cases hc
        have hfv := hρ f (by simp [Op.operands, Call.operands, hcal])
        rw [hf] at hfv
        generalize hev : ev f = fv at hfv
        cases hfv with
        | fn _ fs cs _ _ l1 l2 r1 r2 =>
          have hargs : VL w M σ L (c.args.toList.map ev) (c.args.toList.map fun x => s (ρ x)) := by
            refine ⟨by simp, fun i v p hv hp => ?_⟩
            rw [List.getElem?_map] at hv hp
            cases hx : c.args.toList[i]? with
            | none => rw [hx] at hp; cases hp
            | some q =>
              rw [hx] at hv hp
              simp only [Option.map_some, Option.some.injEq] at hv hp
              subst hv; subst hp
              exact hs q (by
                have : q ∈ c.args := Array.mem_toList_iff.1 (List.mem_of_getElem? hx)
                simp [Op.operands, Call.operands, hcal, this])
          refine ⟨fs ++ c.args.toList.map ev ++ cs, ?_, vl_app (vl_app ⟨l1, r1⟩ hargs) ⟨l2, r2⟩⟩
          unfold entersP at he
          split at he
          · rename_i fn hfn
            simp only [Bool.and_eq_true, Bool.not_eq_true'] at he
            have hb : fn.body.isNone = false := by cases hbb : fn.body <;> simp_all
            simp only [execOp, resolve, hcal, hev, Deferred.ofValue, pure_bind, invoke, callFunc, Sem.run_bind, run_program, Result.andThen_ok, hfn, he.2, hb, Bool.false_eq_true, if_false, Sem.run_pure]
            congr 2
            apply Array.ext'
            simp
          · cases he
      · cases hc
    · cases hc
  · cases hc
theorem panic_spec {ρ : Operand → PV} {s : PV → PV} {op : Op} {p : PV} (h : panicP ρ s op = some p) : ∃ x t q, op = .panic x ∧ ρ x = .ifc t q ∧ p = .ifc t q := by
  cases op <;> simp only [panicP, reduceCtorEq] at h
  rename_i x
  split at h
  · rename_i t q hx; cases h; exact ⟨x, t, q, rfl, hx, rfl⟩
  · cases h
theorem pwOp_sound {ops : Array Oper} {o : Oper} {Q : Ex → Env → Heap → Nat → Prop} {K : Env → Heap → Nat → Prop} {K' : Act → World → Prop} {a : Act} {w : World} {env : Env} {H : Heap} {m : Nat} {σ : Nat → Gh} (hS : St w0 M0 σ0 H0 m0 nt ds a w env H m σ)
    (hd : ∀ x, o.dst = some x → x < nt) (hK : ∀ a' w' env' H' m' σ', K env' H' m' → St w0 M0 σ0 H0 m0 nt ds a' w' env' H' m' σ' → K' a' w') (h : pwOp P ops o Q K env H m) :
    if Region.wanted o (yielded ops a.tmps) then o.wp P a w K' (QQ w0 M0 σ0 H0 m0 nt ds Q) else K' (a.put o.dst undef) w := by
  have hρ : ∀ x ∈ o.op.operands, VV w M0 σ H (a.eval x) (rho env x) := fun x _ => hS.eval x
  have hs : ∀ x ∈ o.op.operands, VV w M0 σ H (a.eval x) (strip H (rho env x)) := fun x _ => vr_strip hS.hr (hS.eval x)
  unfold pwOp at h
  split at h
  · rename_i hw
    rw [if_pos (wanted_of hS.env hw)]
    split at h
    · split at h
      · rename_i g args hc
        obtain ⟨he, hcs⟩ := h
        obtain ⟨vs, hrun, hvl⟩ := call_enter (P := P) hρ hs hc he
        unfold Oper.wp
        rw [hrun]
        simp only [Oper.upon]
        refine (hcs w M0 σ vs hS.hr hS.free hvl).mono ?_
        rintro e w' ⟨out, H', m', σ', hq, hr', hn', hm', hf', ho⟩
        cases e with
        | returned v =>
          cases out with
          | ret p => exact hK _ _ _ _ _ _ hq (hS.step hr' hn' hm' hf' hd ho)
          | pan p => exact ho.elim
        | panicked ch =>
          cases out with
          | ret p => exact ho.elim
          | pan p =>
            refine ⟨.pan p, env, H', m', σ', hq, ?_, ho⟩
            exact ⟨hr', hn', Nat.le_trans hS.le hm', hS.fr.trans hf', hS.size, hS.defers, fun t => (hS.env t).mono hf'.ext⟩
        | outgrown => cases out <;> exact ho.elim
      · exact h.elim
    · split at h
      · split at h
        · rename_i p hp
          obtain ⟨dst, op, ty, pos, after, guard⟩ := o
          simp only at hρ hs hp
          obtain ⟨x, t, q, rfl, hx, rfl⟩ := panic_spec hp
          have hxv := hρ x (by simp [Op.operands])
          rw [hx] at hxv
          generalize hev : a.eval x = u at hxv
          have hxv' := hxv
          cases hxv with
          | ifc _ v _ hv =>
            unfold Oper.wp
            have hrun : (execOp a.eval { dst := dst, op := .panic x, type := ty, pos := pos, after := after, guard := guard }).run P w = .halt (.panic (.iface t v)) w := by
              simp [execOp, hev, Instr.panic, goPanic, Sem.run]
            rw [hrun]
            simp only [Oper.upon]
            exact ⟨.pan (.ifc t q), env, H, m, σ, h, hS, _, rfl, hxv'⟩
        · exact h.elim
      · have fin : ∀ r e, OpOk P w M0 σ H m (execOp a.eval o) r e → (∀ id e' sz els, e = .grow id e' sz els → H id ≠ none) → K (upd env o.dst r) (e.app m H) (m + e.cnt) → o.wp P a w K' (QQ w0 M0 σ0 H0 m0 nt ds Q) := by
          rintro r e ⟨n, v, w', σ', hrun, hg, hv, hr', hf', _⟩ hgr h
          have hn' := app_none hS.free e hgr
          unfold Oper.wp
          rw [hrun]
          rcases hg with rfl | ⟨rfl, rfl⟩
          · simp only [Oper.upon]
            exact hK _ _ _ _ _ _ h (hS.step hr' hn' (by omega) hf' hd hv)
          · simp only [Oper.upon]
            exact hK _ _ _ _ _ _ h (hS.step hr' hn' (by omega) hf' hd hv)
        rcases h with h | h
        · split at h
          · rename_i r e he
            exact fin r e (op_sound (P := P) hS.hr (hS.free m (Nat.le_refl _)) hρ hs he) (evOp_grow he) h
          · exact h.elim
        · split at h
          · rename_i r e he
            exact fin r e (bs_sound (P := P) hS.hr (hS.free m (Nat.le_refl _)) hρ hs he) (evBs_grow he) h
          · exact h.elim
  · rename_i hw
    rw [if_neg (by rw [wanted_of hS.env hw]; simp)]
    exact hK _ _ _ _ _ _ h (hS.step hS.hr hS.free (Nat.le_refl _) (Fr.refl _ _ _ _) hd .undef)
  · exact h.elim
theorem pwOps_sound {ops : Array Oper} {Q : Ex → Env → Heap → Nat → Prop} : ∀ (l : List Oper) (a : Act) (w : World) (env : Env) (H : Heap) (m : Nat) (σ : Nat → Gh), St w0 M0 σ0 H0 m0 nt ds a w env H m σ → (∀ o ∈ l, ∀ x, o.dst = some x → x < nt) →
    pwOps P ops Q l env H m → wpList P ops (QQ w0 M0 σ0 H0 m0 nt ds Q) l a w
  | [], a, w, env, H, m, σ, hS, _, h => ⟨.normal, env, H, m, σ, h, hS, trivial⟩
  | o :: l, a, w, env, H, m, σ, hS, hd, h => by
    have := pwOp_sound (P := P) hS (hd o (by simp)) (K' := wpList P ops (QQ w0 M0 σ0 H0 m0 nt ds Q) l) (fun a' w' env' H' m' σ' hk hS' => pwOps_sound l a' w' env' H' m' σ' hS' (fun o' ho' => hd o' (by simp [ho'])) hk) h
    unfold wpList
    split
    · rename_i hw; rw [if_pos hw] at this; exact .inl this
    · rename_i hw; rw [if_neg hw] at this; exact this
end
end Go.Proofs.Yteibeoipnjhicaa
