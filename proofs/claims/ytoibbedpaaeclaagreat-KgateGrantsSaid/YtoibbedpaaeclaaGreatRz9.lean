import Derived.Test.YtoibbedpaaeclaaGreatRz2
import Derived.Recover
import Derived.Test.YtoibbedpaaeclaaGreatRz8
import Derived.Test.YtoibbedpaaeclaaGreatProg
import Derived.Lib.Hide
import Derived.Test.YtoibbedpaaeclaaGreatRz6
import Derived.Test.YtoibbedpaaeclaaGreatRz3
section
namespace Go.Proofs.YtoibbedpaaeclaaGreat
open Go Go.RowKit
set_option linter.unusedVariables false
set_option linter.unusedSimpArgs false
def modeOf : Option Value → FrameMode
  | none => .returning
  | some v => .panicking [{ v, recovered := false }]
def PanR (w : World) (M0 : Nat → Nat → Prop) (σ : Nat → Gh) (H : Heap) : Option Value → Option PV → Prop
  | none, none => True
  | some v, some q => VV w M0 σ H v q
  | _, _ => False
/-- What a deferred closure does, in a frame that returns, or that panics. -/
def DSat (P : Program) (g : FuncId) (args : List PV) (H : Heap) (m : Nat) (p : Option PV) (Q : Heap → Nat → Prop) : Prop :=
  ∀ (w : World) (M0 : Nat → Nat → Prop) (σ : Nat → Gh) (vs : List Value) (pv : Option Value), HR w M0 σ H → (∀ i, m ≤ i → H i = none) → VL w (MU M0 σ H) σ (LV H) vs args → PanR w M0 σ H pv p →
    CallsD P g vs.toArray (modeOf pv) w fun e u' w' => (∃ x, e = .returned x) ∧ settle u' = .returning ∧ ∃ H' m' σ', Q H' m' ∧ HR w' M0 σ' H' ∧ (∀ i, m' ≤ i → H' i = none) ∧ m ≤ m' ∧ Fr w M0 σ H w' σ' H'
section
variable {P : Program}
theorem st_init {w : World} {M0 : Nat → Nat → Prop} {σ : Nat → Gh} {H : Heap} {m nt : Nat} {args : List PV} {vs : List Value} (hr : HR w M0 σ H) (hfree : ∀ i, m ≤ i → H i = none) (hvl : VL w (MU M0 σ H) σ (LV H) vs args) (hn : args.length ≤ nt) :
    St w M0 σ H m nt [] { tmps := vs.toArray ++ Array.replicate (nt - vs.toArray.size) undef, defers := [] } w (q4x args) H m σ := by
  have hsz : (vs.toArray ++ Array.replicate (nt - vs.toArray.size) undef).size = nt := by
    have := hvl.1
    simp only [Array.size_append, List.size_toArray, Array.size_replicate]; omega
  refine ⟨hr, hfree, Nat.le_refl _, Fr.refl _ _ _ _, hsz, rfl, fun t => ?_⟩
  unfold q4x
  simp only [Array.getD_eq_getD_getElem?, List.getD_eq_getElem?_getD]
  by_cases ht : t < vs.length
  · rw [Array.getElem?_append_left (by simpa using ht)]
    have ht' : t < args.length := by rw [← hvl.1]; exact ht
    rw [List.getElem?_toArray, List.getElem?_eq_getElem ht, List.getElem?_eq_getElem ht']
    exact hvl.2 t _ _ (List.getElem?_eq_getElem ht) (List.getElem?_eq_getElem ht')
  · have ht' : args.length ≤ t := by rw [← hvl.1]; omega
    rw [List.getElem?_eq_none ht', Array.getElem?_append_right (by simpa using Nat.le_of_not_lt ht), Array.getElem?_replicate]
    split <;> exact .undef
theorem dsat_recover (hm : P.follows .mixedOrders = true) {g : FuncId} {fn : Func} {rid d1 d2 : Nat} {y : Code} {o1 o2 : Oper} {args : List PV} {H : Heap} {m : Nat} {p : Option PV} {Q : Heap → Nat → Prop} (hf : P.funcs[g]? = some fn) (hrs : fn.results = #[]) (hb : fn.body = some (.seq (.region rid #[o1, o2] false) y))
    (h1 : o1.op = .call { callee := .builtin .recover, args := #[], argTypes := #[] } ∧ o1.guard = none ∧ o1.dst = some d1) (h2 : o2.op = .assign (.tmp d1) ∧ o2.guard = none ∧ o2.dst = some d2) (hn : args.length ≤ fn.ntmps) (hd1 : d1 < fn.ntmps) (hd2 : d2 < fn.ntmps) (hd : q4n fn.ntmps y = true)
    (h : q0d P m y (fun ex env H' m' => (ex = .normal ∨ ex = .ret) ∧ Q H' m') (upd (upd (q4x args) (some d1) (p.getD .nilif)) (some d2) (p.getD .nilif)) H m) : DSat P g args H m p Q := by
  obtain ⟨h1a, h1b, h1c⟩ := h1
  obtain ⟨h2a, h2b, h2c⟩ := h2
  intro w M0 σ vs pv hr hfree hvl hpan
  refine callsD_of_wpS hf hb fun c₀ cs hu => ?_
  have hS0 := st_init (nt := fn.ntmps) hr hfree hvl hn
  generalize ({ tmps := vs.toArray ++ Array.replicate (fn.ntmps - vs.toArray.size) undef, defers := [] } : Act) = a0 at hS0 ⊢
  -- what recover hands back
  obtain ⟨x, hx⟩ : ∃ x, x = pv.getD .nilIface := ⟨_, rfl⟩
  have hxv : VV w M0 σ H x (p.getD .nilif) := by
    subst hx
    cases pv <;> cases p <;> first | exact hpan.elim | exact .nilif | exact hpan
  have hS1 : St w M0 σ H m fn.ntmps [] (a0.put (some d1) x) w (upd (q4x args) (some d1) (p.getD .nilif)) H m σ := hS0.step hr hfree (Nat.le_refl _) (Fr.refl _ _ _ _) (fun z hz => by cases hz; exact hd1) hxv
  have he1 : (a0.put (some d1) x).eval (.tmp d1) = x := by
    have := put_get a0 (some d1) x (fun z hz => by cases hz; rw [hS0.size]; exact hd1) d1
    rw [if_pos rfl] at this
    exact this
  have hS2 : St w M0 σ H m fn.ntmps [] ((a0.put (some d1) x).put (some d2) x) w (upd (upd (q4x args) (some d1) (p.getD .nilif)) (some d2) (p.getD .nilif)) H m σ := hS1.step hr hfree (Nat.le_refl _) (Fr.refl _ _ _ _) (fun z hz => by cases hz; exact hd2) hxv
  have hafter : ∀ (u' : FrameMode), settle u' = .returning → (y.wpS P (bodyPostS P fn c₀ cs fun e u' w' => (∃ x, e = .returned x) ∧ settle u' = .returning ∧ ∃ H' m' σ', Q H' m' ∧ HR w' M0 σ' H' ∧ (∀ i, m' ≤ i → H' i = none) ∧ m ≤ m' ∧ Fr w M0 σ H w' σ' H') ((a0.put (some d1) x).put (some d2) x) ({ c₀ with mode := u' } :: cs) w) := fun u' hset => by
    refine wpS_of_wp (wp_mono (q3d hm hfree y _ _ w _ H m σ hd hS2 h) ?_)
    rintro e a w' ⟨ex, env, H', m', σ', ⟨hex, hq⟩, hS', hexr⟩
    have hres : (results fn a.tmps).run P w' = .ok (.tuple #[]) w' := by simp [results, hrs]
    rcases hex with rfl | rfl
    · cases e <;> first | exact hexr.elim | skip
      exact ⟨hS'.defers, u', rfl, _, hres, ⟨_, rfl⟩, hset, H', m', σ', hq, hS'.hr, hS'.free, hS'.le, hS'.fr⟩
    · cases e <;> first | exact hexr.elim | skip
      exact ⟨hS'.defers, u', rfl, _, hres, ⟨_, rfl⟩, hset, H', m', σ', hq, hS'.hr, hS'.free, hS'.le, hS'.fr⟩
  have hw1 : ∀ a : Act, Region.wanted o1 (yielded #[o1, o2] a.tmps) = true := fun a => by unfold Region.wanted; rw [h1b]
  have hw2 : ∀ a : Act, Region.wanted o2 (yielded #[o1, o2] a.tmps) = true := fun a => by unfold Region.wanted; rw [h2b]
  have hr1 : ∀ a : Act, (execOp a.eval o1).run P w = .ok .recover w := fun a => by
    obtain ⟨dst, op, ty, pos, after, guard⟩ := o1
    simp only at h1a
    subst h1a
    rfl
  have hr2 : ∀ a : Act, (execOp a.eval o2).run P w = .ok (.value (a.eval (.tmp d1))) w := fun a => by
    obtain ⟨dst, op, ty, pos, after, guard⟩ := o2
    simp only at h2a
    subst h2a
    rfl
  refine wpS_seq (wpS_region ?_)
  show wpOpsS P #[o1, o2] _ [0, 1] a0 (c₀ :: cs) w
  simp only [wpOpsS, List.getElem?_toArray, List.getElem?_cons_zero, List.getElem?_cons_succ, hw1, hw2, if_true, hr1]
  cases pv with
  | none =>
    have hrec : recoverD (c₀ :: cs) = none := by simp [recoverD, hu, modeOf]
    have hc : ({ c₀ with mode := .returning } : Frame) = c₀ := by have : c₀.mode = .returning := hu; cases c₀; simp_all
    have := hafter .returning rfl
    rw [hc] at this
    have hx' : x = .nilIface := hx
    subst hx'
    rw [hrec]
    simp only [h1c, hr2, he1, Oper.upon, h2c, Exit.thenS]
    exact this
  | some v =>
    have hrec : recoverD (c₀ :: cs) = some (v, { c₀ with mode := .panicking [{ v, recovered := true }] } :: cs) := by simp [recoverD, hu, modeOf]
    have := hafter (.panicking [{ v, recovered := true }]) rfl
    have hx' : x = v := hx
    subst hx'
    rw [hrec]
    simp only [h1c, hr2, he1, Oper.upon, h2c, Exit.thenS]
    exact this
/-- A frame that returns: recover hands back nil, and the closure goes on behind its question. -/
theorem dsat_nil (hm : P.follows .mixedOrders = true) {g : FuncId} {fn : Func} {rid rid2 d1 d2 d6 d7 : Nat} {A B : Code} {o1 o2 o3 o4 : Oper} {ty : TypeId} {args : List PV} {H : Heap} {m : Nat} {Q : Heap → Nat → Prop} (hf : P.funcs[g]? = some fn) (hrs : fn.results = #[]) (hb : fn.body = some (.seq (.region rid #[o1, o2] false) (.seq (.region rid2 #[o3, o4] false) (.cond (.tmp d7) A B))))
    (h1 : o1.op = .call { callee := .builtin .recover, args := #[], argTypes := #[] } ∧ o1.guard = none ∧ o1.dst = some d1) (h2 : o2.op = .assign (.tmp d1) ∧ o2.guard = none ∧ o2.dst = some d2) (h3 : o3.op = .move (.tmp d2) ∧ o3.guard = none ∧ o3.dst = some d6) (h4 : (∃ rt, o4.op = .binOp .neq ty (.tmp d6) (.const .nilIface) rt) ∧ o4.guard = none ∧ o4.dst = some d7) (hty : ifcT P ty = some true)
    (hn : args.length ≤ fn.ntmps) (hd1 : d1 < fn.ntmps) (hd2 : d2 < fn.ntmps) (hd6 : d6 < fn.ntmps) (hd7 : d7 < fn.ntmps) (hd : q4n fn.ntmps B = true)
    (h : ∀ env, q0d P m B (fun ex env H' m' => (ex = .normal ∨ ex = .ret) ∧ Q H' m') env H m) : DSat P g args H m none Q := by
  obtain ⟨h1a, h1b, h1c⟩ := h1
  obtain ⟨h2a, h2b, h2c⟩ := h2
  obtain ⟨h3a, h3b, h3c⟩ := h3
  obtain ⟨⟨rt, h4a⟩, h4b, h4c⟩ := h4
  intro w M0 σ vs pv hr hfree hvl hpan
  cases pv with
  | some v => exact hpan.elim
  | none =>
  refine callsD_of_wpS hf hb fun c₀ cs hu => ?_
  have hS0 := st_init (nt := fn.ntmps) hr hfree hvl hn
  generalize ({ tmps := vs.toArray ++ Array.replicate (fn.ntmps - vs.toArray.size) undef, defers := [] } : Act) = a0 at hS0 ⊢
  have put1 : ∀ {a : Act} {env : Env} (d : Nat) (x : Value) (p : PV), St w M0 σ H m fn.ntmps [] a w env H m σ → d < fn.ntmps → VV w M0 σ H x p → St w M0 σ H m fn.ntmps [] (a.put (some d) x) w (upd env (some d) p) H m σ ∧ (a.put (some d) x).eval (.tmp d) = x := fun d x p hS hdn hv =>
    ⟨hS.step hr hfree (Nat.le_refl _) (Fr.refl _ _ _ _) (fun z hz => by cases hz; exact hdn) hv, by
      have := put_get _ (some d) x (fun z hz => by cases hz; rw [hS.size]; exact hdn) d
      rw [if_pos rfl] at this
      exact this⟩
  obtain ⟨hS1, he1⟩ := put1 d1 .nilIface .nilif hS0 hd1 .nilif
  obtain ⟨hS2, he2⟩ := put1 d2 .nilIface .nilif hS1 hd2 .nilif
  obtain ⟨hS6, he6⟩ := put1 d6 .nilIface .nilif hS2 hd6 .nilif
  obtain ⟨hS7, he7⟩ := put1 d7 (.bool false) (.bool false) hS6 hd7 (.bool false)
  have hw1 : ∀ a : Act, Region.wanted o1 (yielded #[o1, o2] a.tmps) = true := fun a => by unfold Region.wanted; rw [h1b]
  have hw2 : ∀ a : Act, Region.wanted o2 (yielded #[o1, o2] a.tmps) = true := fun a => by unfold Region.wanted; rw [h2b]
  have hw3 : ∀ a : Act, Region.wanted o3 (yielded #[o3, o4] a.tmps) = true := fun a => by unfold Region.wanted; rw [h3b]
  have hw4 : ∀ a : Act, Region.wanted o4 (yielded #[o3, o4] a.tmps) = true := fun a => by unfold Region.wanted; rw [h4b]
  have hr1 : ∀ a : Act, (execOp a.eval o1).run P w = .ok .recover w := fun a => by
    obtain ⟨dst, op, ty, pos, after, guard⟩ := o1
    simp only at h1a
    subst h1a
    rfl
  have hr2 : ∀ a : Act, (execOp a.eval o2).run P w = .ok (.value (a.eval (.tmp d1))) w := fun a => by
    obtain ⟨dst, op, ty, pos, after, guard⟩ := o2
    simp only at h2a
    subst h2a
    rfl
  have hr3 : ∀ a : Act, (execOp a.eval o3).run P w = .ok (.value (a.eval (.tmp d2))) w := fun a => by
    obtain ⟨dst, op, ty, pos, after, guard⟩ := o3
    simp only at h3a
    subst h3a
    rfl
  have hr4 : ∀ a : Act, a.eval (.tmp d6) = .nilIface → (execOp a.eval o4).run P w = .ok (.value (.bool false)) w := fun a ha => by
    obtain ⟨dst, op, ty', pos, after, guard⟩ := o4
    simp only at h4a
    subst h4a
    obtain ⟨ms, hu⟩ : ∃ ms, P.underlying ty = some (.interface ms) := by
      unfold ifcT at hty
      cases hu : P.underlying ty with
      | none => rw [hu] at hty; cases hty
      | some d =>
        rw [hu] at hty
        cases d <;> first | exact ⟨_, rfl⟩ | (simp at hty)
    have hq : ∀ d, (Op.equalIn (d + 1) ty .nilIface .nilIface).run P w = .ok true w := fun d => by simp [Op.equalIn, run_underlying hu]
    have hq : (Op.equal ty .nilIface .nilIface).run P w = .ok true w := hq 9999
    have hc : a.eval (.const .nilIface) = .nilIface := rfl
    simp [execOp, ha, hc, eqGuard, binOp, hq]
  refine wpS_seq (wpS_region ?_)
  show wpOpsS P #[o1, o2] _ [0, 1] a0 (c₀ :: cs) w
  simp only [wpOpsS, List.getElem?_toArray, List.getElem?_cons_zero, List.getElem?_cons_succ, hw1, hw2, if_true, hr1]
  have hrec : recoverD (c₀ :: cs) = none := by simp [recoverD, hu, modeOf]
  rw [hrec]
  simp only [h1c, hr2, he1, Oper.upon, h2c, Exit.thenS]
  refine wpS_of_wp (wp_seq (wp_region_list ?_))
  show wpList P #[o3, o4] _ [o3, o4] _ w
  unfold wpList
  rw [if_pos (hw3 _)]
  refine .inl ?_
  unfold Oper.wp
  rw [hr3, he2]
  simp only [Oper.upon, h3c]
  unfold wpList
  rw [if_pos (hw4 _)]
  refine .inl ?_
  unfold Oper.wp
  rw [hr4 _ he6]
  simp only [Oper.upon, h4c, wpList, Exit.then]
  refine wp_cond (t := false) he7 ?_
  refine wp_mono (q3d hm hfree B _ _ w _ H m σ hd hS7 (h _)) ?_
  have hc : ({ c₀ with mode := .returning } : Frame) = c₀ := by have : c₀.mode = .returning := hu; cases c₀; simp_all
  rintro e a w' ⟨ex, env, H', m', σ', ⟨hex, hq⟩, hS', hexr⟩
  have hres : (results fn a.tmps).run P w' = .ok (.tuple #[]) w' := by simp [results, hrs]
  rcases hex with rfl | rfl
  · cases e <;> first | exact hexr.elim | skip
    exact ⟨hS'.defers, .returning, by rw [hc], _, hres, ⟨_, rfl⟩, rfl, H', m', σ', hq, hS'.hr, hS'.free, hS'.le, hS'.fr⟩
  · cases e <;> first | exact hexr.elim | skip
    exact ⟨hS'.defers, .returning, by rw [hc], _, hres, ⟨_, rfl⟩, rfl, H', m', σ', hq, hS'.hr, hS'.free, hS'.le, hS'.fr⟩
/-- The rest of the body, behind the deferring: what it ends in, and what the closure makes of that. -/
def KY (P : Program) (rs : List ResultVar) (g : FuncId) (caps : List PV) (Q : Out → Heap → Nat → Prop) : Ex → Env → Heap → Nat → Prop
  | .normal, env, H, m => DSat P g caps H m none fun H' m' => ∃ r, q8g P rs env H' = some r ∧ Q (.ret r) H' m'
  | .ret, env, H, m => DSat P g caps H m none fun H' m' => ∃ r, q8g P rs env H' = some r ∧ Q (.ret r) H' m'
  | .pan p, env, H, m => DSat P g caps H m (some p) fun H' m' => ∃ r, q8g P rs env H' = some r ∧ Q (.ret r) H' m'
  | .exit _, _, _, _ => False
theorem wp_q {o : Oper} {a : Act} {w : World} {K : Act → World → Prop} {Q Q' : Exit → Act → World → Prop} (h : o.wp P a w K Q) (hq : ∀ ch a w, Q (.panic ch) a w → Q' (.panic ch) a w) (ho : ∀ a w, Q .outgrown a w → Q' .outgrown a w) : o.wp P a w K Q' := by
  unfold Oper.wp at *
  generalize (execOp a.eval o).run P w = r at *
  cases r with
  | ok n w' =>
    cases n <;> simp only [Oper.upon] at h ⊢ <;>
      first
        | exact h
        | exact Calls.mono h (fun e w'' he => by
            cases e <;> first
              | exact he
              | exact hq _ _ _ he
              | (obtain ⟨a, w, k⟩ := he; exact ⟨a, w, ho _ _ k⟩))
  | halt x w' => cases x <;> simp only [Oper.upon] at h ⊢ <;> first | exact h | exact hq _ _ _ h
/-- What stands ahead of a code's rest. -/
inductive Front : Code → Code → Code → Prop
  | one {x z : Code} : Front x z (.seq x z)
  | more {c x z b : Code} (h : Front x z b) : Front (.seq c x) z (.seq c b)
theorem front_wp (hm : P.follows .mixedOrders = true) {w0 : World} {M0 : Nat → Nat → Prop} {σ0 : Nat → Gh} {H0 : Heap} {m0 nt : Nat} {ds : List Deferred} (hfree : ∀ i, m0 ≤ i → H0 i = none) {R : Exit → Act → World → Prop} {x z b : Code} (hF : Front x z b) :
    ∀ {K : Env → Heap → Nat → Prop} {a : Act} {w : World} {env : Env} {H : Heap} {m : Nat} {σ : Nat → Gh}, q4n nt x = true → St w0 M0 σ0 H0 m0 nt ds a w env H m σ → q0d P m0 x (fun ex env H' m' => ex = .normal ∧ K env H' m') env H m →
      (∀ a' w' env' H' m' σ', K env' H' m' → St w0 M0 σ0 H0 m0 nt ds a' w' env' H' m' σ' → z.wp P R a' w') → b.wp P R a w := by
  induction hF with
  | one =>
    intro K a w env H m σ hd hS h hz
    refine wp_seq (wp_mono (q3d hm hfree _ _ a w env H m σ hd hS h) ?_)
    rintro e a' w' ⟨ex, env', H', m', σ', ⟨rfl, hq⟩, hS', hx⟩
    cases e <;> first | exact hx.elim | skip
    exact hz _ _ _ _ _ _ hq hS'
  | more hF ih =>
    intro K a w env H m σ hd hS h hz
    simp only [q4n, Bool.and_eq_true] at hd
    refine wp_seq (wp_mono (q3d hm hfree _ _ a w env H m σ hd.1 hS h) ?_)
    rintro e a' w' ⟨ex, env', H', m', σ', hq, hS', hx⟩
    cases ex <;> first | exact absurd hq.1 (by intro h; cases h) | skip
    cases e <;> first | exact hx.elim | skip
    exact ih hd.2 hS' hq hz
theorem q9y (hm : P.follows .mixedOrders = true) {f g : FuncId} {fn : Func} {rid d8 : Nat} {x y b : Code} {o1 o2 : Oper} {args : List PV} {H : Heap} {m : Nat} {Q : Out → Heap → Nat → Prop} (hf : P.funcs[f]? = some fn) (hb : fn.body = some b) (hF : Front x (.seq (.region rid #[o1, o2] false) y) b) (hent : q3s P g = true)
    (h1d : ∀ z, o1.dst = some z → z < fn.ntmps) (h2 : o2.op = .defer { callee := .value (.tmp d8), args := #[], argTypes := #[] } ∧ o2.guard = none ∧ o2.dst = none) (hn : args.length ≤ fn.ntmps) (hdx : q4n fn.ntmps x = true) (hdy : q4n fn.ntmps y = true)
    (h : q0d P m x (fun ex env H' m' => ex = .normal ∧ q0i P #[o1, o2] (fun ex env' H2 m2 => ex = .normal ∧ ∃ caps, env' d8 = .fn (.func g) [] caps ∧ q0d P m2 y (KY P fn.results.toList g caps Q) env' H2 m2) [o1] env H' m') (q4x args) H m) : CSat P f args H m Q := by
  obtain ⟨h2a, h2b, h2c⟩ := h2
  intro w M0 σ vs hr hfree hvl
  refine calls_of_wp_defers hf hb ?_
  have hS0 := st_init (nt := fn.ntmps) hr hfree hvl hn
  refine front_wp hm hfree hF hdx hS0 h ?_
  intro a w1 env H1 m1 σ1 hq hS1
  refine wp_seq (wp_region_list ?_)
  have hw2 : ∀ a : Act, Region.wanted o2 (yielded #[o1, o2] a.tmps) = true := fun a => by unfold Region.wanted; rw [h2b]
  have fin : ∀ (a' : Act) (w' : World) (env' : Env) (H2 : Heap) (m2 : Nat) (σ2 : Nat → Gh), (∃ caps, env' d8 = .fn (.func g) [] caps ∧ q0d P m2 y (KY P fn.results.toList g caps Q) env' H2 m2) → St w M0 σ H m fn.ntmps [] a' w' env' H2 m2 σ2 →
      wpList P #[o1, o2] (Exit.then (y.wp P (bodyPostD P fn fun e w' => ∃ out H' m' σ', Q out H' m' ∧ HR w' M0 σ' H' ∧ (∀ i, m' ≤ i → H' i = none) ∧ m ≤ m' ∧ Fr w M0 σ H w' σ' H' ∧ OutR w' M0 σ' H' e out)) (bodyPostD P fn fun e w' => ∃ out H' m' σ', Q out H' m' ∧ HR w' M0 σ' H' ∧ (∀ i, m' ≤ i → H' i = none) ∧ m ≤ m' ∧ Fr w M0 σ H w' σ' H' ∧ OutR w' M0 σ' H' e out)) [o2] a' w' := by
    rintro a' w2 env' H2 m2 σ2 ⟨caps, hd8, hy⟩ hS2
    have hv := hS2.eval (.tmp d8)
    simp only [rho] at hv
    rw [hd8] at hv
    generalize hev : a'.eval (.tmp d8) = fv at hv
    cases hv with
    | fn _ fs cs _ _ l1 l2 r1 r2 =>
      have hfs : fs = [] := List.eq_nil_of_length_eq_zero l1
      subst hfs
      have hrun : (execOp a'.eval o2).run P w2 = .ok (.defer { target := .fn (.func g) cs.toArray, args := #[] }) w2 := by
        obtain ⟨dst, op, ty, pos, after, guard⟩ := o2
        simp only at h2a
        subst h2a
        simp [execOp, resolve, hev, Deferred.ofValue]
      have hinv : ∀ w3 : World, (invoke (.fn (.func g) cs.toArray) #[]).run P w3 = .ok (.enter g cs.toArray) w3 := fun w3 => by
        unfold q3s at hent
        split at hent
        · rename_i fn' hfn
          simp only [Bool.and_eq_true, Bool.not_eq_true'] at hent
          have hbn : fn'.body.isNone = false := by cases hbb : fn'.body <;> simp_all
          simp only [invoke, callFunc, Sem.run_bind, run_program, Result.andThen_ok, hfn, hent.2, hbn, Bool.false_eq_true, if_false, Sem.run_pure]
          simp
        · cases hent
      unfold wpList
      rw [if_pos (hw2 a')]
      refine .inl ?_
      unfold Oper.wp
      rw [hrun]
      simp only [Oper.upon, wpList, Exit.then, h2c, Act.put]
      have hS3 : St w2 M0 σ2 H2 m2 fn.ntmps [{ target := .fn (.func g) cs.toArray, args := #[] }] { a' with defers := { target := .fn (.func g) cs.toArray, args := #[] } :: a'.defers } w2 env' H2 m2 σ2 := ⟨hS2.hr, hS2.free, Nat.le_refl _, Fr.refl _ _ _ _, hS2.size, by rw [hS2.defers], hS2.env⟩
      refine wp_mono (q3d hm hS2.free y _ _ w2 _ H2 m2 σ2 hdy hS3 hy) ?_
      rintro e a3 w3 ⟨ex, env3, H3, m3, σ3, hq3, hS4, hx3⟩
      have hcaps : VL w3 (MU M0 σ3 H3) σ3 (LV H3) cs caps := ⟨l2, fun i v p hv hp => (r2 i v p hv hp).mono hS4.fr.ext⟩
      have key : ∀ (pv : Option Value) (p : Option PV), PanR w3 M0 σ3 H3 pv p → modeOf pv ≠ .run → DSat P g caps H3 m3 p (fun H' m' => ∃ r, q8g P fn.results.toList env3 H' = some r ∧ Q (.ret r) H' m') →
          Leaves P fn a3.tmps (fun e w' => ∃ out H' m' σ', Q out H' m' ∧ HR w' M0 σ' H' ∧ (∀ i, m' ≤ i → H' i = none) ∧ m ≤ m' ∧ Fr w M0 σ H w' σ' H' ∧ OutR w' M0 σ' H' e out) a3.defers (modeOf pv) w3 := fun pv p hpan hmode hds => by
        rw [hS4.defers]
        refine leaves_cons hmode (hinv w3) ((hds w3 M0 σ3 cs pv hS4.hr hS4.free hcaps hpan).mono ?_)
        rintro e u' w4 ⟨⟨x, rfl⟩, hset, H4, m4, σ4, ⟨r, hres, hQ⟩, hr4, hf4, hm4, hfr4⟩
        simp only
        rw [hset]
        obtain ⟨v, hv1, hv2⟩ := x0b (P := P) (a := a3) hr4 (fun t => (hS4.env t).mono hfr4.ext) hres
        exact ⟨v, hv1, .ret r, H4, m4, σ4, hQ, hr4, hf4, by have := hS2.le; have := hS4.le; omega, (hS2.fr.trans hS4.fr).trans hfr4, hv2⟩
      cases e with
      | normal =>
        cases ex <;> first | exact hx3.elim | skip
        exact key none none trivial (by intro h; cases h) hq3
      | ret =>
        cases ex <;> first | exact hx3.elim | skip
        exact key none none trivial (by intro h; cases h) hq3
      | panic ch =>
        cases ex <;> first | exact hx3.elim | skip
        obtain ⟨v, rfl, hv⟩ := hx3
        exact key (some v) (some _) hv (by intro h; cases h) hq3
      | exit id => cases ex <;> first | exact hx3.elim | exact hq3.elim
      | goto l => cases ex <;> exact hx3.elim
      | outgrown => cases ex <;> exact hx3.elim
  have hop := q9f (P := P) (ops := #[o1, o2]) hS1 h1d (K' := wpList P #[o1, o2] (Exit.then (y.wp P (bodyPostD P fn fun e w' => ∃ out H' m' σ', Q out H' m' ∧ HR w' M0 σ' H' ∧ (∀ i, m' ≤ i → H' i = none) ∧ m ≤ m' ∧ Fr w M0 σ H w' σ' H' ∧ OutR w' M0 σ' H' e out)) (bodyPostD P fn fun e w' => ∃ out H' m' σ', Q out H' m' ∧ HR w' M0 σ' H' ∧ (∀ i, m' ≤ i → H' i = none) ∧ m ≤ m' ∧ Fr w M0 σ H w' σ' H' ∧ OutR w' M0 σ' H' e out)) [o2]) (fun a' w' env' H2 m2 σ2 hk hS => fin a' w' env' H2 m2 σ2 hk.2 hS) hq
  show wpList P #[o1, o2] _ (o1 :: [o2]) a w1
  unfold wpList
  split
  · rename_i hw
    rw [if_pos hw] at hop
    refine .inl (wp_q hop ?_ ?_)
    · rintro ch a' w' ⟨ex, env', H', m', σ', ⟨rfl, _⟩, _, hF⟩
      exact hF.elim
    · rintro a' w' ⟨ex, env', H', m', σ', ⟨rfl, _⟩, _, hF⟩
      exact hF.elim
  · rename_i hw
    rw [if_neg hw] at hop
    exact hop
theorem csat_deferred (hm : P.follows .mixedOrders = true) {f g : FuncId} {fn : Func} {rid d8 : Nat} {x y : Code} {o1 o2 : Oper} {args : List PV} {H : Heap} {m : Nat} {Q : Out → Heap → Nat → Prop} (hf : P.funcs[f]? = some fn) (hb : fn.body = some (.seq x (.seq (.region rid #[o1, o2] false) y))) (hent : q3s P g = true)
    (h1d : ∀ z, o1.dst = some z → z < fn.ntmps) (h2 : o2.op = .defer { callee := .value (.tmp d8), args := #[], argTypes := #[] } ∧ o2.guard = none ∧ o2.dst = none) (hn : args.length ≤ fn.ntmps) (hdx : q4n fn.ntmps x = true) (hdy : q4n fn.ntmps y = true)
    (h : q0d P m x (fun ex env H' m' => ex = .normal ∧ q0i P #[o1, o2] (fun ex env' H2 m2 => ex = .normal ∧ ∃ caps, env' d8 = .fn (.func g) [] caps ∧ q0d P m2 y (KY P fn.results.toList g caps Q) env' H2 m2) [o1] env H' m') (q4x args) H m) : CSat P f args H m Q :=
  q9y hm hf hb .one hent h1d h2 hn hdx hdy h
end
end Go.Proofs.YtoibbedpaaeclaaGreat
end

section
namespace Go.Proofs.YtoibbedpaaeclaaGreat
open Go Go.RowKit
set_option linter.unusedVariables false
set_option linter.unusedSimpArgs false
set_option maxHeartbeats 16000000
set_option maxRecDepth 100000
attribute [go_sem] q1m
theorem dir_ris {w : Wd} {t : Ob} {id : Int} {b : Bool} (hf : FewW w) (hw : q6q w = true) : RisZ (dirR w t id b).1.links := by
  unfold dirR
  split
  · rename_i hc
    simp only [Bool.and_eq_true] at hc
    split
    · exact okay_links (x0r hf hw id) hc.2.1
    · exact fun i j x y hx => by simp [Ob.zero] at hx
  · exact fun i j x y hx => by simp [Ob.zero] at hx
theorem look_okay {w : Wd} {t : Ob} {r : Rf} (hf : FewW w) (hw : q6q w = true) : Okay (q8r w t r).1 := by
  have hz : Okay Ob.zero := ⟨Nat.zero_le _, .inr rfl⟩
  unfold q8r
  split
  · split
    · exact x0r hf hw _
    · exact hz
  · exact hz
@[go_sem] theorem cut1_int (v : PV) : cut Tryz.prog 3 [v] 0 = some v := by kernel_rfl
@[go_sem] theorem cut1_u64 (v : PV) : cut Tryz.prog 22 [v] 0 = some v := by kernel_rfl
@[go_sem] theorem cut1_bool (v : PV) : cut Tryz.prog 4 [v] 0 = some v := by kernel_rfl
@[go_sem] theorem cut1_err (v : PV) : cut Tryz.prog 50 [v] 0 = some v := by kernel_rfl
attribute [local irreducible] q0i dr q0d Ex.then Ex.inBlock retQ q1n q2d q2c Pure CSat evOp q1i rdOf upd hset strip sp0 cut envL q1g q3i Keep BdL evBs q2n q2s
theorem named_csat {H : Heap} {m i : Nat} (t : Ob) (w : Wd) (r : Rf) (hb : H i = some (.box (q6s t w))) (hi : i < m) (ht : q2x t.label = true) (htl : t.label.length ≤ 20) (hf : FewW w) (hw : q6q w = true) :
    CSat Tryz.prog 258 [.ptr i 0, .agg (Rf.enc r)] H m (fun out H' m' => out = outE (q8r w t r) ∧ m ≤ m' ∧ ∀ j, j < m → H' j = H j) := by
  have hn := hf.n
  have h2 := obj_find w r.id (by omega) (q5q hw).1
  rw [findO_eq (q5q hw).1] at h2
  have hl := (dirR_few hf t r.cont false).2
  have hris := dir_ris (t := t) (id := r.cont) (b := false) hf hw
  have dirC := fun (H : Heap) (m : Nat) (hb : H i = some (.box (q6s t w))) (hi : i < m) => dir_csat (H := H) (m := m) t w r.cont false hb hi ht htl hf hw
  have n0 : (i = m) = False := eq_false (by omega)
  have n1 : (i = m + 1) = False := eq_false (by omega)
  unfold q8r
  generalize dirR w t r.cont false = D at dirC hl hris ⊢
  obtain ⟨d, e⟩ := D
  simp only at hl hris ⊢
  have h3 := bin_search d.links r.id (by omega) hris
  cases he : (e == 0) with
  | false =>
    have hoe : outE (d, e) = .pan (thr e) := by unfold outE; rw [if_neg (by rw [he]; simp)]
    have hoz : outE (Ob.zero, e) = .pan (thr e) := by unfold outE; rw [if_neg (by rw [he]; simp)]
    rw [hoe] at dirC
    simp only [Bool.false_eq_true, if_false]
    rw [hoz]
    refine q4s (by kernel_rfl) Tryz.func258 Tryz.results258 rfl (by simp [Tryz.ntmps258]) (by kernel_rfl) ?_
    repeat' (first | (show q0i ..; first | refine q0c ?_ | refine q0e rfl ?_) | (show q0k ..; first | refine q0f rfl rfl ?_ | refine q0l rfl ?_) | (show goOn ..; first | refine q0g ?_ | refine q1d ?_) | (show q0d ..; first | refine q0h ?_ | refine q0b ?_) | refine q0a ?_)
    (refine q0w (by kernel_rfl) (dirC _ _ (by simp only [go_sem, *]) (by omega)) ?_ ?_)
    case refine_1 => rintro r H' m' ⟨h, _⟩; cases h
    rintro p H1 m1 ⟨h, L1, A1⟩
    cases h
    repeat' (first | refine q4l ?_ | refine q4w ?_ | refine q4u ?_)
    exact ⟨rfl, by omega, (fun j hj => by rw [A1 j (by omega)]; repeat rw [q1b _ _ (by omega)])⟩
  | true =>
    have hoe : outE (d, e) = .ret (.agg (Ob.enc d)) := by unfold outE; rw [if_pos he]
    rw [hoe] at dirC
    simp only [if_true]
    generalize d.links.any (· == r.id) = b at h3 ⊢
    refine q4s (by kernel_rfl) Tryz.func258 Tryz.results258 rfl (by simp [Tryz.ntmps258]) (by kernel_rfl) ?_
    repeat' (first | (show q0i ..; first | refine q0c ?_ | refine q0e rfl ?_) | (show q0k ..; first | refine q0f rfl rfl ?_ | refine q0l rfl ?_) | (show goOn ..; first | refine q0g ?_ | refine q1d ?_) | (show q0d ..; first | refine q0h ?_ | refine q0b ?_) | refine q0a ?_)
    (refine q0w (by kernel_rfl) (dirC _ _ (by simp only [go_sem, *]) (by omega)) ?_ ?_)
    case refine_2 => rintro p H' m' ⟨h, _⟩; cases h
    rintro r H1 m1 ⟨h, L1, A1⟩
    cases h
    have low : ∀ j, j < m → H1 j = H j := fun j hj => by rw [A1 j (by omega)]; repeat rw [q1b _ _ (by omega)]
    have c0 : H1 i = some (.box (q6s t w)) := by rw [A1 i (by omega)]; simp only [go_sem, *]
    have c1 : H1 (m + 1) = some (.box (Ob.enc Ob.zero)) := by rw [A1 (m + 1) (by omega)]; simp only [go_sem, *]
    have c2 : H1 m = some (.box (Rf.enc r)) := by rw [A1 m (by omega)]; simp only [go_sem, *]
    clear A1 dirC
    have k0 : (i = m1) = False := eq_false (by omega)
    have k1 : (m = m1) = False := eq_false (by omega)
    have k2 : (m + 1 = m1) = False := eq_false (by omega)
    have k3 : (i = m1 + 1) = False := eq_false (by omega)
    have k4 : (m = m1 + 1) = False := eq_false (by omega)
    have k5 : (m + 1 = m1 + 1) = False := eq_false (by omega)
    have k6 : (m1 = m) = False := eq_false (by omega)
    have k7 : (m1 = m + 1) = False := eq_false (by omega)
    cases b with
    | false =>
      repeat' (first | (show q0i ..; first | refine q0c ?_ | refine q0e rfl ?_) | (show q0k ..; first | refine q0f rfl rfl ?_ | refine q0l rfl ?_) | (show goOn ..; first | refine q0g ?_ | refine q1d ?_ | refine q1x ?_) | (show q2w ..; refine q1h ?_) | (show q1k ..; (refine q0r (r := ?_) ?_ ?_; rotate_left 1; (focus exact h3))) | (show q0d ..; first | refine q0h ?_ | refine q0b ?_) | refine q0a ?_)
      (refine q0w (by kernel_rfl) (must_no _ _ _ _) ?_ ?_)
      case refine_1 => rintro r H' m' ⟨h, _⟩; cases h
      rintro p H' m' ⟨h, rfl, rfl⟩
      cases h
      repeat' (first | refine q4l ?_ | refine q4w ?_ | refine q4u ?_)
      exact ⟨rfl, by omega, (fun j hj => by (repeat rw [q1b _ _ (by omega)]); exact low j hj)⟩
    | true =>
      repeat' (first | (show q0i ..; first | refine q0c ?_ | refine q0e rfl ?_) | (show q0k ..; first | refine q0f rfl rfl ?_ | refine q0l rfl ?_) | (show goOn ..; first | refine q0g ?_ | refine q1d ?_ | refine q1x ?_) | (show q2w ..; refine q1h ?_) | (show q1k ..; (refine q0r (r := ?_) ?_ ?_; rotate_left 1; (focus exact h3))) | (show q0d ..; first | refine q0h ?_ | refine q0b ?_) | refine q0a ?_)
      (refine q0w (by kernel_rfl) (must_yes _ _ _ _) ?_ ?_)
      case refine_2 => rintro p H' m' ⟨⟨_, h⟩, _⟩; cases h
      rintro r H' m' ⟨⟨_, h⟩, rfl, rfl⟩
      clear h
      have b0 : (i == m1 + 1) = false := by simp; omega
      have b1 : (m == m1 + 1) = false := by simp; omega
      have b2 : (m1 + 1 == i) = false := by simp; omega
      have b3 : (m1 + 1 == m) = false := by simp; omega
      repeat' (first | (show q0i ..; refine q0c ?_) | (show dr ..; first | refine q1y ?_ | refine dr_n rfl ?_) | (show drGo ..; first | refine q2t rfl ?_ | refine q2k rfl ?_) | (show drOn ..; first | refine q1z ?_ | refine dn_new ?_ | refine q8y ?_) | (show q6y ..; refine q5k ?_) | (show q2e ..; (refine q1f (r := ?_) ?_ ?_; rotate_left 1; (focus exact h2))) | (show q0d ..; first | refine q0h ?_ | refine q1o (by kernel_rfl) ?_) | refine q0a ?_)
      refine And.intro (by simp [q1n, okPair, q6z, Eff.wr, Rg.meets, rdOf, go_sem, b0, b1, b2, b3]) ?_
      repeat' (first | (show q0i ..; first | refine q0c ?_ | refine q0e rfl ?_) | (show q0k ..; refine q0f rfl rfl ?_) | (show goOn ..; first | refine q0g ?_ | refine q1x ?_) | (show q2w ..; refine q1h ?_) | (show q0d ..; first | refine q0h ?_ | refine q0b ?_ | refine q0t ?_) | refine q0a ?_ | (show retQ ..; refine q0u ?_) | refine q0n ?_)
      exact ⟨rfl, by omega, fun j hj => by (repeat rw [q1b _ _ (by omega)]); exact low j hj⟩
theorem seen_csat {H : Heap} {m i : Nat} (t : Ob) (w : Wd) (r : Rf) (kind : Int) (hb : H i = some (.box (q6s t w))) (hi : i < m) (ht : q2x t.label = true) (htl : t.label.length ≤ 20) (hf : FewW w) (hw : q6q w = true) :
    CSat Tryz.prog 223 [.ptr i 0, .agg (Rf.enc r), .int .i64 kind] H m (fun out H' m' => out = outE (seeR w t r kind) ∧ m ≤ m' ∧ ∀ j, j < m → H' j = H j) := by
  have hok := look_okay (t := t) (r := r) hf hw
  have namC := fun (H : Heap) (m : Nat) (hb : H i = some (.box (q6s t w))) (hi : i < m) => named_csat (H := H) (m := m) t w r hb hi ht htl hf hw
  have n0 : (i = m) = False := eq_false (by omega)
  have n1 : (i = m + 1) = False := eq_false (by omega)
  unfold seeR
  generalize q8r w t r = D at namC hok ⊢
  obtain ⟨o, e⟩ := D
  simp only at hok ⊢
  have seesC := fun (H : Heap) (m : Nat) (hb : H i = some (.box (q6s t w))) (hi : i < m) => sees_csat (H := H) (m := m) t w o hb hi ht htl hok
  generalize seesR t o = b2 at seesC ⊢
  cases he : (e == 0) with
  | false =>
    have hoe : outE (o, e) = .pan (thr e) := by unfold outE; rw [if_neg (by rw [he]; simp)]
    have hoz : outE (Ob.zero, e) = .pan (thr e) := by unfold outE; rw [if_neg (by rw [he]; simp)]
    rw [hoe] at namC
    simp only [Bool.false_eq_true, if_false]
    rw [hoz]
    refine q4s (by kernel_rfl) Tryz.func223 Tryz.results223 rfl (by simp [Tryz.ntmps223]) (by kernel_rfl) ?_
    repeat' (first | (show q0i ..; first | refine q0c ?_ | refine q0e rfl ?_) | (show q0k ..; first | refine q0f rfl rfl ?_ | refine q0l rfl ?_) | (show goOn ..; first | refine q0g ?_ | refine q1d ?_) | (show q0d ..; first | refine q0h ?_ | refine q0b ?_) | refine q0a ?_)
    (refine q0w (by kernel_rfl) (namC _ _ (by simp only [go_sem, *]) (by omega)) ?_ ?_)
    case refine_1 => rintro r H' m' ⟨h, _⟩; cases h
    rintro p H1 m1 ⟨h, L1, A1⟩
    cases h
    repeat' (first | refine q4l ?_ | refine q4w ?_ | refine q4u ?_)
    exact ⟨rfl, by omega, (fun j hj => by rw [A1 j (by omega)]; repeat rw [q1b _ _ (by omega)])⟩
  | true =>
    have hoe : outE (o, e) = .ret (.agg (Ob.enc o)) := by unfold outE; rw [if_pos he]
    rw [hoe] at namC
    simp only [if_true]
    refine q4s (by kernel_rfl) Tryz.func223 Tryz.results223 rfl (by simp [Tryz.ntmps223]) (by kernel_rfl) ?_
    repeat' (first | (show q0i ..; first | refine q0c ?_ | refine q0e rfl ?_) | (show q0k ..; first | refine q0f rfl rfl ?_ | refine q0l rfl ?_) | (show goOn ..; first | refine q0g ?_ | refine q1d ?_) | (show q0d ..; first | refine q0h ?_ | refine q0b ?_) | refine q0a ?_)
    (refine q0w (by kernel_rfl) (namC _ _ (by simp only [go_sem, *]) (by omega)) ?_ ?_)
    case refine_2 => rintro p H' m' ⟨h, _⟩; cases h
    rintro r H1 m1 ⟨h, L1, A1⟩
    cases h
    have low : ∀ j, j < m → H1 j = H j := fun j hj => by rw [A1 j (by omega)]; repeat rw [q1b _ _ (by omega)]
    have c0 : H1 i = some (.box (q6s t w)) := by rw [A1 i (by omega)]; simp only [go_sem, *]
    have c1 : H1 (m + 1) = some (.box (Ob.enc Ob.zero)) := by rw [A1 (m + 1) (by omega)]; simp only [go_sem, *]
    clear A1 namC
    have k0 : (i = m1) = False := eq_false (by omega)
    have k2 : (m + 1 = m1) = False := eq_false (by omega)
    have k7 : (m1 = m + 1) = False := eq_false (by omega)
    cases hb3 : ((kind == 0) || (o.kind == kind)) with
    | false =>
      rw [Bool.or_eq_false_iff] at hb3
      obtain ⟨g1, g2⟩ := hb3
      repeat' (first | (show q0i ..; first | refine q0c ?_ | refine q0e rfl ?_ | refine q1a rfl rfl ?_) | (show q0k ..; first | refine q0f rfl rfl ?_ | refine q0l rfl ?_) | (show goOn ..; first | refine q0g ?_ | refine q1d ?_ | refine q1x ?_) | (show q2w ..; refine q1h ?_) | (show wGo ..; refine q4b ?_) | (show q0d ..; first | refine q0h ?_ | refine q0b ?_) | refine q0a ?_)
      (refine q0w (by kernel_rfl) (must_no _ _ _ _) ?_ ?_)
      case refine_1 => rintro r H' m' ⟨h, _⟩; cases h
      rintro p H' m' ⟨h, rfl, rfl⟩
      cases h
      repeat' (first | refine q4l ?_ | refine q4w ?_ | refine q4u ?_)
      exact ⟨rfl, by omega, (fun j hj => by (repeat rw [q1b _ _ (by omega)]); exact low j hj)⟩
    | true =>
      simp only [if_true]
      have fin : ∀ (E2 : Heap) (M2 : Nat), True := fun _ _ => trivial
      cases hg1 : (kind == 0) with
      | true =>
        repeat' (first | (show q0i ..; first | refine q0c ?_ | refine q0e rfl ?_ | refine q1a rfl rfl ?_) | (show q0k ..; first | refine q0f rfl rfl ?_ | refine q0l rfl ?_) | (show goOn ..; first | refine q0g ?_ | refine q1d ?_ | refine q1x ?_) | (show q2w ..; refine q1h ?_) | (show wGo ..; refine q4y ?_) | (show q0d ..; first | refine q0h ?_ | refine q0b ?_) | refine q0a ?_)
        (refine q0w (by kernel_rfl) (must_yes _ _ _ _) ?_ ?_)
        case refine_2 => rintro p H' m' ⟨⟨_, h⟩, _⟩; cases h
        rintro r H' m' ⟨⟨_, h⟩, rfl, rfl⟩
        clear h
        repeat' (first | (show q0i ..; first | refine q0c ?_ | refine q0e rfl ?_) | (show q0k ..; first | refine q0f rfl rfl ?_ | refine q0l rfl ?_) | (show goOn ..; refine q0g ?_) | (show q0d ..; first | refine q0h ?_ | refine q0b ?_) | refine q0a ?_)
        (refine q0w (by kernel_rfl) (seesC _ _ (by simp only [go_sem, *]) (by omega)) ?_ ?_)
        case refine_2 => rintro p H' m' ⟨h, _⟩; cases h
        rintro r H2 m2 ⟨h, L2, A2⟩
        cases h
        have low2 : ∀ j, j < m → H2 j = H j := fun j hj => by rw [A2 j (by omega)]; (repeat rw [q1b _ _ (by omega)]); exact low j hj
        have e1 : H2 (m + 1) = some (.box (Ob.enc Ob.zero)) := by rw [A2 (m + 1) (by omega)]; simp only [go_sem, *]
        have e2 : H2 m1 = some (.box (Ob.enc o)) := by rw [A2 m1 (by omega)]; simp only [go_sem, *]
        clear A2 seesC
        cases b2 with
        | false =>
          repeat' (first | (show q0i ..; refine q0e rfl ?_) | (show q0k ..; refine q0l rfl ?_))
          (refine q0w (by kernel_rfl) (must_no _ _ _ _) ?_ ?_)
          case refine_1 => rintro r H' m' ⟨h, _⟩; cases h
          rintro p H' m' ⟨h, rfl, rfl⟩
          cases h
          repeat' (first | refine q4l ?_ | refine q4w ?_ | refine q4u ?_)
          exact ⟨rfl, by omega, low2⟩
        | true =>
          repeat' (first | (show q0i ..; refine q0e rfl ?_) | (show q0k ..; refine q0l rfl ?_))
          (refine q0w (by kernel_rfl) (must_yes _ _ _ _) ?_ ?_)
          case refine_2 => rintro p H' m' ⟨⟨_, h⟩, _⟩; cases h
          rintro r H' m' ⟨⟨_, h⟩, rfl, rfl⟩
          clear h
          repeat' (first | (show q0i ..; first | refine q0c ?_ | refine q0e rfl ?_) | (show q0k ..; refine q0f rfl rfl ?_) | (show goOn ..; first | refine q0g ?_ | refine q1x ?_) | (show q2w ..; refine q1h ?_) | (show q0d ..; first | refine q0h ?_ | refine q0b ?_ | refine q0t ?_) | refine q0a ?_ | (show retQ ..; refine q0u ?_) | refine q0n ?_)
          exact ⟨rfl, by omega, fun j hj => by (repeat rw [q1b _ _ (by omega)]); exact low2 j hj⟩
      | false =>
        rw [hg1, Bool.false_or] at hb3
        repeat' (first | (show q0i ..; first | refine q0c ?_ | refine q0e rfl ?_ | refine q1a rfl rfl ?_) | (show q0k ..; first | refine q0f rfl rfl ?_ | refine q0l rfl ?_) | (show goOn ..; first | refine q0g ?_ | refine q1d ?_ | refine q1x ?_) | (show q2w ..; refine q1h ?_) | (show wGo ..; refine q4b ?_) | (show q0d ..; first | refine q0h ?_ | refine q0b ?_) | refine q0a ?_)
        (refine q0w (by kernel_rfl) (must_yes _ _ _ _) ?_ ?_)
        case refine_2 => rintro p H' m' ⟨⟨_, h⟩, _⟩; cases h
        rintro r H' m' ⟨⟨_, h⟩, rfl, rfl⟩
        clear h
        repeat' (first | (show q0i ..; first | refine q0c ?_ | refine q0e rfl ?_) | (show q0k ..; first | refine q0f rfl rfl ?_ | refine q0l rfl ?_) | (show goOn ..; refine q0g ?_) | (show q0d ..; first | refine q0h ?_ | refine q0b ?_) | refine q0a ?_)
        (refine q0w (by kernel_rfl) (seesC _ _ (by simp only [go_sem, *]) (by omega)) ?_ ?_)
        case refine_2 => rintro p H' m' ⟨h, _⟩; cases h
        rintro r H2 m2 ⟨h, L2, A2⟩
        cases h
        have low2 : ∀ j, j < m → H2 j = H j := fun j hj => by rw [A2 j (by omega)]; (repeat rw [q1b _ _ (by omega)]); exact low j hj
        have e1 : H2 (m + 1) = some (.box (Ob.enc Ob.zero)) := by rw [A2 (m + 1) (by omega)]; simp only [go_sem, *]
        have e2 : H2 m1 = some (.box (Ob.enc o)) := by rw [A2 m1 (by omega)]; simp only [go_sem, *]
        clear A2 seesC
        cases b2 with
        | false =>
          repeat' (first | (show q0i ..; refine q0e rfl ?_) | (show q0k ..; refine q0l rfl ?_))
          (refine q0w (by kernel_rfl) (must_no _ _ _ _) ?_ ?_)
          case refine_1 => rintro r H' m' ⟨h, _⟩; cases h
          rintro p H' m' ⟨h, rfl, rfl⟩
          cases h
          repeat' (first | refine q4l ?_ | refine q4w ?_ | refine q4u ?_)
          exact ⟨rfl, by omega, low2⟩
        | true =>
          repeat' (first | (show q0i ..; refine q0e rfl ?_) | (show q0k ..; refine q0l rfl ?_))
          (refine q0w (by kernel_rfl) (must_yes _ _ _ _) ?_ ?_)
          case refine_2 => rintro p H' m' ⟨⟨_, h⟩, _⟩; cases h
          rintro r H' m' ⟨⟨_, h⟩, rfl, rfl⟩
          clear h
          repeat' (first | (show q0i ..; first | refine q0c ?_ | refine q0e rfl ?_) | (show q0k ..; refine q0f rfl rfl ?_) | (show goOn ..; first | refine q0g ?_ | refine q1x ?_) | (show q2w ..; refine q1h ?_) | (show q0d ..; first | refine q0h ?_ | refine q0b ?_ | refine q0t ?_) | refine q0a ?_ | (show retQ ..; refine q0u ?_) | refine q0n ?_)
          exact ⟨rfl, by omega, fun j hj => by (repeat rw [q1b _ _ (by omega)]); exact low2 j hj⟩
/-- What a closure is given: a finder in a box of its own. -/
def ClC (g : FuncId) (cap : List PV) (t : Ob) (w : Wd) (H0 : Heap) (m0 : Nat) (R : Ob × Int) : Prop :=
  ∀ (H : Heap) (m i : Nat), m0 ≤ i → i < m → (∀ j, j < m0 → H j = H0 j) → H i = some (.box (q6s t w)) → CSat Tryz.prog g ([.ptr i 0] ++ cap) H m (fun out H' m' => out = outE R ∧ m ≤ m' ∧ ∀ j, j < m → H' j = H j)
theorem see1 {H0 : Heap} {m0 c k : Nat} (t : Ob) (w : Wd) (r : Rf) (kind : Int) (hc : H0 c = some (.box (Rf.enc r))) (hcm : c < m0) (hk : H0 k = some (.box [.int .i64 kind])) (hkm : k < m0) (ht : q2x t.label = true) (htl : t.label.length ≤ 20) (hf : FewW w) (hw : q6q w = true) : ClC 222 [.ptr c 0, .ptr k 0] t w H0 m0 (seeR w t r kind) := by
  intro H m i hi him hH hb
  have hcc : H c = some (.box (Rf.enc r)) := by rw [hH c hcm]; exact hc
  have hkk : H k = some (.box [.int .i64 kind]) := by rw [hH k hkm]; exact hk
  have n0 : (i = m) = False := eq_false (by omega)
  have n1 : (c = m) = False := eq_false (by omega)
  have n2 : (k = m) = False := eq_false (by omega)
  have namC := fun (H : Heap) (m : Nat) (hb : H i = some (.box (q6s t w))) (hi : i < m) => seen_csat (H := H) (m := m) t w r kind hb hi ht htl hf hw
  generalize seeR w t r kind = D at namC ⊢
  obtain ⟨o, e⟩ := D
  simp only [List.cons_append, List.nil_append]
  cases he : (e == 0) with
  | false =>
    have hoe : outE (o, e) = .pan (thr e) := by unfold outE; rw [if_neg (by rw [he]; simp)]
    rw [hoe] at namC ⊢
    refine q4s (by kernel_rfl) Tryz.func222 Tryz.results222 rfl (by simp [Tryz.ntmps222]) (by kernel_rfl) ?_
    repeat' (first | (show q0i ..; first | refine q0c ?_ | refine q0e rfl ?_) | (show q0k ..; first | refine q0f rfl rfl ?_ | refine q0l rfl ?_) | (show goOn ..; first | refine q0g ?_ | refine q1d ?_) | (show q0d ..; first | refine q0h ?_ | refine q0b ?_) | refine q0a ?_)
    (refine q0w (by kernel_rfl) (namC (hset H m (some (.box (Ob.enc Ob.zero)))) (m + 1) (by simp only [go_sem, *]) (by omega)) ?_ ?_)
    case refine_1 => rintro r H' m' ⟨h, _⟩; cases h
    rintro p H1 m1 ⟨h, L1, A1⟩
    cases h
    repeat' (first | refine q4l ?_ | refine q4w ?_ | refine q4u ?_)
    exact ⟨rfl, by omega, (fun j hj => by rw [A1 j (by omega)]; repeat rw [q1b _ _ (by omega)])⟩
  | true =>
    have hoe : outE (o, e) = .ret (.agg (Ob.enc o)) := by unfold outE; rw [if_pos he]
    rw [hoe] at namC ⊢
    refine q4s (by kernel_rfl) Tryz.func222 Tryz.results222 rfl (by simp [Tryz.ntmps222]) (by kernel_rfl) ?_
    repeat' (first | (show q0i ..; first | refine q0c ?_ | refine q0e rfl ?_) | (show q0k ..; first | refine q0f rfl rfl ?_ | refine q0l rfl ?_) | (show goOn ..; first | refine q0g ?_ | refine q1d ?_) | (show q0d ..; first | refine q0h ?_ | refine q0b ?_) | refine q0a ?_)
    (refine q0w (by kernel_rfl) (namC (hset H m (some (.box (Ob.enc Ob.zero)))) (m + 1) (by simp only [go_sem, *]) (by omega)) ?_ ?_)
    case refine_2 => rintro p H' m' ⟨h, _⟩; cases h
    rintro r H1 m1 ⟨h, L1, A1⟩
    cases h
    have low : ∀ j, j < m → H1 j = H j := fun j hj => by rw [A1 j (by omega)]; repeat rw [q1b _ _ (by omega)]
    have c1 : H1 m = some (.box (Ob.enc Ob.zero)) := by rw [A1 m (by omega)]; simp only [go_sem, *]
    clear A1
    repeat' (first | (show q0i ..; first | refine q0c ?_ | refine q0e rfl ?_) | (show q0k ..; refine q0f rfl rfl ?_) | (show goOn ..; refine q1x ?_) | (show q2w ..; refine q1h ?_) | (show q0d ..; refine q0t ?_) | refine q0a ?_ | (show retQ ..; refine q0u ?_) | refine q0n ?_)
    exact ⟨rfl, by omega, fun j hj => by (repeat rw [q1b _ _ (by omega)]); exact low j hj⟩
end Go.Proofs.YtoibbedpaaeclaaGreat
end

section
namespace Go.Proofs.YtoibbedpaaeclaaGreat
open Go Go.RowKit
set_option linter.unusedVariables false
set_option linter.unusedSimpArgs false
set_option maxHeartbeats 16000000
set_option maxRecDepth 100000
attribute [go_sem] q1m
@[go_sem] theorem ifc_any : ifcT Tryz.prog 20 = some true := by kernel_rfl
@[go_sem] theorem ifc_thr : ifcT Tryz.prog 283 = some false := by kernel_rfl
@[go_sem] theorem thr_zeros : zeros Tryz.prog 283 = some [.int .i64 0] := by kernel_rfl
@[go_sem] theorem err_zeros : zeros Tryz.prog 50 = some [.int .i64 0] := by kernel_rfl
@[go_sem] theorem thr_f0 : q1p Tryz.prog 283 0 = some (50, 0) := by kernel_rfl
@[go_sem] theorem spl_one (a b : PV) : splice [a] 0 [b] = [b] := rfl
@[go_sem] theorem thr_cells (e : Int) : PV.cells? (.agg [.int .i64 e]) = some [.int .i64 e] := rfl
attribute [local irreducible] q0i dr q0d Ex.then Ex.inBlock retQ q1n q2d q2c Pure CSat evOp q1i rdOf upd hset strip sp0 cut envL q1g q3i Keep BdL evBs q2n q2s
theorem rec_nil {a b : Nat} (H : Heap) (m : Nat) : DSat Tryz.prog 257 [.ptr a 0, .ptr b 0] H m none (fun H' m' => H' = H ∧ m' = m) := by
  refine dsat_nil (by kernel_rfl) Tryz.func257 Tryz.results257 rfl ⟨rfl, rfl, rfl⟩ ⟨rfl, rfl, rfl⟩ ⟨rfl, rfl, rfl⟩ ⟨⟨_, rfl⟩, rfl, rfl⟩ ifc_any (by simp [Tryz.ntmps257]) (by simp [Tryz.ntmps257]) (by simp [Tryz.ntmps257]) (by simp [Tryz.ntmps257]) (by simp [Tryz.ntmps257]) (by kernel_rfl) ?_
  intro env
  repeat' (first | (show q0d ..; refine q0s ?_))
  exact ⟨.inl rfl, rfl, rfl⟩
theorem rec_some {a b : Nat} {H : Heap} {m : Nat} (e : Int) (x : Int) (o : Ob) (ha : H a = some (.box (Ob.enc o))) (hb : H b = some (.box [.int .i64 x])) (hab : a ≠ b) (ham : a < m) (hbm : b < m) : DSat Tryz.prog 257 [.ptr a 0, .ptr b 0] H m (some (thr e)) (fun H' m' => H' a = some (.box (Ob.enc Ob.zero)) ∧ H' b = some (.box [.int .i64 e]) ∧ m ≤ m' ∧ ∀ j, j < m → j ≠ a → j ≠ b → H' j = H j) := by
  have n0 : (a = m) = False := eq_false (by omega)
  have n1 : (b = m) = False := eq_false (by omega)
  have n2 : (a = b) = False := eq_false hab
  have n3 : (b = a) = False := eq_false (fun h => hab h.symm)
  refine dsat_recover (by kernel_rfl) Tryz.func257 Tryz.results257 rfl ⟨rfl, rfl, rfl⟩ ⟨rfl, rfl, rfl⟩ (by simp [Tryz.ntmps257]) (by simp [Tryz.ntmps257]) (by simp [Tryz.ntmps257]) (by kernel_rfl) ?_
  unfold thr
  simp only [Option.getD_some]
  have m0 : (m == a) = false := by simp; omega
  have m1 : (m == b) = false := by simp; omega
  have m2 : (a == m) = false := by simp; omega
  have m3 : (b == m) = false := by simp; omega
  have m4 : (a == b) = false := by simpa using hab
  have m5 : (b == a) = false := by simpa using fun h : b = a => hab h.symm
  repeat' (first | (show q0i ..; first | refine q0c ?_ | refine q0e rfl ?_) | (show q0k ..; refine q0f rfl rfl ?_) | (show goOn ..; first | refine q0g ?_ | refine q1d ?_ | refine q1x ?_) | (show q2w ..; refine q1h ?_) | (show dr ..; first | refine q1y ?_ | refine dr_n rfl ?_) | (show drGo ..; refine q2t rfl ?_) | (show drOn ..; first | refine q1z ?_ | refine q8y ?_) | (show q6y ..; refine q5k ?_) | (show q0d ..; first | refine q0h ?_ | refine q0b ?_ | refine q1o (by kernel_rfl) ?_ | refine q0s ?_ | refine q0j ?_) | (show q0o ..; first | refine cd_t ?_ | refine cd_f ?_) | refine q0a ?_)
  refine And.intro (by simp [q1n, okPair, q6z, Eff.wr, Rg.meets, rdOf, go_sem, m0, m1, m2, m3, m4, m5]) ⟨.inl rfl, ?_, ?_, by omega, fun j hj h1 h2 => ?_⟩
  · rw [q1b _ _ hab, q1m]
  · rw [q1m]
  · rw [q1b _ _ h2, q1b _ _ h1, q1b _ _ (by omega), q1b _ _ (by omega)]
theorem DSat.mono {P : Program} {g : FuncId} {args : List PV} {H : Heap} {m : Nat} {p : Option PV} {Q Q' : Heap → Nat → Prop} (h : DSat P g args H m p Q) (hq : ∀ H' m', Q H' m' → Q' H' m') : DSat P g args H m p Q' := fun w M0 σ vs pv hr hf hv hp =>
  (h w M0 σ vs pv hr hf hv hp).mono fun e u' w' ⟨h1, h2, H', m', σ', h3, h4⟩ => ⟨h1, h2, H', m', σ', hq _ _ h3, h4⟩
theorem found_csat {H : Heap} {m : Nat} (t : Ob) (w : Wd) (g : FuncId) (cap : List PV) (R : Ob × Int) (hent : q3s Tryz.prog g = true) (hcl : ClC g cap t w H m R) (hR : (R.2 == 0) = false → R.1 = Ob.zero) :
    CSat Tryz.prog 221 [.agg (Wd.enc w), .agg (Ob.enc t), .fn (.func g) [] cap] H m (fun out H' m' => out = .ret (.tup [.agg (Ob.enc R.1), .int .i64 R.2]) ∧ m ≤ m' ∧ ∀ j, j < m → H' j = H j) := by
  refine csat_deferred (d8 := 8) (g := 257) (by kernel_rfl) Tryz.func221 rfl (by kernel_rfl) (fun z hz => by cases hz; simp [Tryz.ntmps221]) ⟨rfl, rfl, rfl⟩ (by simp [Tryz.ntmps221]) (by kernel_rfl) (by kernel_rfl) ?_
  repeat' (first | (show q0i ..; first | refine q0c ?_ | refine q0e rfl ?_) | (show q0k ..; refine q0f rfl rfl ?_) | (show goOn ..; refine q1d ?_) | (show q0d ..; refine q0b ?_))
  refine ⟨rfl, ?_⟩
  repeat' (first | (show q0i ..; first | refine q0c ?_ | refine q0e rfl ?_) | (show q0k ..; refine q0f rfl rfl ?_) | (show goOn ..; refine q0g ?_))
  refine ⟨rfl, [.ptr (m + 1 + 1) 0, .ptr (m + 1 + 1 + 1) 0], (by (try simp only [go_sem]); try rfl), ?_⟩
  repeat' (first | (show q0i ..; refine q0e rfl ?_) | (show q0k ..; first | refine q0f rfl rfl ?_ | refine q0l rfl ?_) | (show goOn ..; first | refine q0g ?_ | refine q1d ?_) | (show q0d ..; first | refine q0h ?_ | refine q0b ?_))
  have A0 : ∀ j, j < m → hset (hset (hset (hset (hset H m (some (.box (Wd.enc w)))) (m + 1) (some (.box (Ob.enc t)))) (m + 1 + 1) (some (.box (Ob.enc Ob.zero)))) (m + 1 + 1 + 1) (some (.box [.int .i64 0]))) (m + 1 + 1 + 1 + 1) (some (.box (q6s t w))) j = H j := fun j hj => by repeat rw [q1b _ _ (by omega)]
  cases he : (R.2 == 0) with
  | false =>
    have hoe : outE R = .pan (thr R.2) := by unfold outE; rw [if_neg (by rw [he]; simp)]
    unfold ClC at hcl
    rw [hoe] at hcl
    refine q0w hent (hcl _ (m + 1 + 1 + 1 + 1 + 1) (m + 1 + 1 + 1 + 1) (by omega) (by omega) A0 (q1m _ _ _)) ?_ ?_
    · rintro r H' m' ⟨h, _⟩; cases h
    rintro p H1 m1 ⟨h, L1, A1⟩
    cases h
    refine q4l ?_
    have c2 : H1 (m + 1 + 1) = some (.box (Ob.enc Ob.zero)) := by rw [A1 _ (by omega)]; simp only [go_sem]
    have c3 : H1 (m + 1 + 1 + 1) = some (.box [.int .i64 0]) := by rw [A1 _ (by omega)]; simp only [go_sem]
    have low : ∀ j, j < m → H1 j = H j := fun j hj => by rw [A1 j (by omega)]; exact A0 j hj
    unfold KY
    refine (rec_some R.2 0 Ob.zero c2 c3 (by omega) (by omega) (by omega)).mono ?_
    rintro H2 m2 ⟨d2, d3, L2, A2⟩
    have hz := hR he
    obtain ⟨o, e⟩ := R
    simp only at hz d3
    subst hz
    refine ⟨.tup [.agg (Ob.enc Ob.zero), .int .i64 e], ?_, rfl, by omega, fun j hj => by rw [A2 j (by omega) (by omega) (by omega)]; exact low j hj⟩
    simp only [q8g, q8m, Tryz.results221, go_sem, d2, d3]
    try rfl
  | true =>
    have hoe : outE R = .ret (.agg (Ob.enc R.1)) := by unfold outE; rw [if_pos he]
    unfold ClC at hcl
    rw [hoe] at hcl
    refine q0w hent (hcl _ (m + 1 + 1 + 1 + 1 + 1) (m + 1 + 1 + 1 + 1) (by omega) (by omega) A0 (q1m _ _ _)) ?_ ?_
    case refine_2 => rintro r H' m' ⟨h, _⟩; cases h
    rintro r H1 m1 ⟨h, L1, A1⟩
    cases h
    have c2 : H1 (m + 1 + 1) = some (.box (Ob.enc Ob.zero)) := by rw [A1 _ (by omega)]; simp only [go_sem]
    have c3 : H1 (m + 1 + 1 + 1) = some (.box [.int .i64 0]) := by rw [A1 _ (by omega)]; simp only [go_sem]
    have low : ∀ j, j < m → H1 j = H j := fun j hj => by rw [A1 j (by omega)]; exact A0 j hj
    have he' : R.2 = 0 := by simpa using he
    repeat' (first | (show q0i ..; first | refine q0c ?_ | refine q0e rfl ?_) | (show q0k ..; refine q0f rfl rfl ?_) | (show goOn ..; refine q1x ?_) | (show q2w ..; refine q1h ?_) | (show q0d ..; refine q0t ?_) | refine q0a ?_)
    unfold KY
    refine (rec_nil _ _).mono ?_
    rintro H2 m2 ⟨rfl, rfl⟩
    refine ⟨.tup [.agg (Ob.enc R.1), .int .i64 R.2], ?_, rfl, by omega, fun j hj => by (repeat rw [q1b _ _ (by omega)]); exact low j hj⟩
    rw [he']
    simp only [q8g, q8m, Tryz.results221, go_sem]
    try rfl
theorem see_zero {w : Wd} {t : Ob} {r : Rf} {k : Int} : ((seeR w t r k).2 == 0) = false → (seeR w t r k).1 = Ob.zero := by
  unfold seeR
  split
  · split
    · split
      · intro h; simp at h
      · intro _; rfl
    · intro _; rfl
  · intro _; rfl
theorem reach_see (w : Wd) (t : Ob) (r : Rf) (kind : Int) (hf : FewW w) (hw : q6q w = true) (ht : q2x t.label = true) (htl : t.label.length ≤ 20) : Pure Tryz.prog 173 [.agg (Wd.enc w), .agg (Ob.enc t), .agg (Rf.enc r), .int .i64 kind] (.tup [.agg (Ob.enc (seeR w t r kind).1), .int .i64 (seeR w t r kind).2]) := by
  have hR : ((seeR w t r kind).2 == 0) = false → (seeR w t r kind).1 = Ob.zero := see_zero 
  have hcl : ∀ (H : Heap) (m : Nat), H 2 = some (.box (Rf.enc r)) → 2 < m → H 3 = some (.box [.int .i64 kind]) → 3 < m → ClC 222 [.ptr 2 0, .ptr 3 0] t w H m (seeR w t r kind) := fun H m h1 h2 h3 h4 => see1 t w r kind h1 h2 h3 h4 ht htl hf hw
  generalize seeR w t r kind = D at hR hcl ⊢
  obtain ⟨o, e⟩ := D
  simp only at hR hcl ⊢
  refine q2p (by kernel_rfl) (by simp only [go_sem, *]) (by simp only [go_sem, *]) Tryz.func173 Tryz.results173 rfl (by simp [Tryz.ntmps173]) (by kernel_rfl) ?_
  repeat' (first | (show q0i ..; first | refine q0c ?_ | refine q0e rfl ?_) | (show q0k ..; first | refine q0f rfl rfl ?_ | refine q0l rfl ?_) | (show goOn ..; first | refine q0g ?_ | refine q1d ?_) | (show q0d ..; first | refine q0h ?_ | refine q0b ?_) | refine q0a ?_)
  (refine q0w (by kernel_rfl) (found_csat t w _ _ (o, e) (by kernel_rfl) (hcl _ _ (by simp only [go_sem]) (by omega) (by simp only [go_sem]) (by omega)) hR) ?_ ?_)
  case refine_2 => rintro p H' m' ⟨h, _⟩; cases h
  rintro r H1 m1 ⟨h, L1, A1⟩
  cases h
  have c1 : H1 4 = some (.box (Ob.enc Ob.zero)) := by rw [A1 4 (by omega)]; simp only [go_sem]
  repeat' (first | (show q0i ..; first | refine q0c ?_ | refine q0e rfl ?_) | (show q0k ..; refine q0f rfl rfl ?_) | (show goOn ..; first | refine q0g ?_ | refine q1x ?_) | (show q2w ..; refine q1h ?_) | (show q0d ..; refine q0t ?_) | refine q0a ?_ | (show retQ ..; refine q0u ?_) | refine q0n ?_)
  all_goals rfl
end Go.Proofs.YtoibbedpaaeclaaGreat
end

section
namespace Go.Proofs.YtoibbedpaaeclaaGreat
open Go Go.RowKit
set_option linter.unusedVariables false
set_option linter.unusedSimpArgs false
def args (a : Nat → Int) : List PV := arr 7 (fun i => [.int .u64 (a i)])
@[go_sem] theorem args_cells (a : Nat → Int) : PV.cells? (.agg (args a)) = some (args a) := rfl
theorem args_bdl (S : Nat → Prop) (a : Nat → Int) : ∀ p ∈ args a, Bd S p := by
  unfold args arr
  simp only [List.mem_flatMap, forall_exists_index, and_imp]
  intro p i _ hp
  simp only [List.mem_cons, List.not_mem_nil, or_false] at hp; subst hp; exact Bd.int _ _
@[go_sem] theorem args_bdL (S : Nat → Prop) (a : Nat → Int) : BdL S (args a) = True := eq_true (args_bdl S a)
@[go_sem] theorem cut_args (a : Nat → Int) : cut Tryz.prog 48 (args a) 0 = some (.agg (args a)) := by kernel_rfl
@[go_sem] theorem cut_args_at1 (a : Nat → Int) : cut Tryz.prog 22 (args a) 1 = some (.int .u64 (a 1)) := by kernel_rfl
@[go_sem] theorem cut_args_at4 (a : Nat → Int) : cut Tryz.prog 22 (args a) 4 = some (.int .u64 (a 4)) := by kernel_rfl
structure Clr where
  ob : Ob
  w : Wd
  a : Nat → Int
  deriving Inhabited
def Clr.enc (x : Clr) : List PV := Ob.enc x.ob ++ Wd.enc x.w ++ args x.a
@[go_sem] theorem Clr.len (x : Clr) : (Clr.enc x).length = 62 := by kernel_rfl
@[go_sem] theorem Clr.cells (x : Clr) : PV.cells? (.agg (Clr.enc x)) = some (Clr.enc x) := rfl
@[go_sem] theorem field_Clr_1_0 : q1p Tryz.prog 111 0 = some (71, 0) := by kernel_rfl
@[go_sem] theorem field_Clr_1_1 : q1p Tryz.prog 111 1 = some (33, 51) := by kernel_rfl
@[go_sem] theorem field_Clr_1_2 : q1p Tryz.prog 111 2 = some (48, 55) := by kernel_rfl
@[go_sem] theorem cut_Clr_ob_id_0 (x : Clr) : cut Tryz.prog 22 (Clr.enc x) 0 = some (.int .u64 x.ob.id) := by kernel_rfl
@[go_sem] theorem cut_Clr_ob_label_0 (x : Clr) : cut Tryz.prog 26 (Clr.enc x) 2 = some (.sl (List.map Pr.enc x.ob.label)) := by kernel_rfl
@[go_sem] theorem spl_Clr_ob_label (x : Clr) (v : List Pr) : splice (Clr.enc x) 2 ([.sl (List.map Pr.enc v)]) = Clr.enc { x with ob := { x.ob with label := v } } := by kernel_rfl
@[go_sem] theorem spl_Clr_ob_thread_pc (x : Clr) (v : Int) : splice (Clr.enc x) 24 ([.int .u64 v]) = Clr.enc { x with ob := { x.ob with thread := { x.ob.thread with pc := v } } } := by kernel_rfl
@[go_sem] theorem cut_Clr_ob_thread_clear_0 (x : Clr) : cut Tryz.prog 26 (Clr.enc x) 25 = some (.sl (List.map Pr.enc x.ob.thread.clear)) := by kernel_rfl
@[go_sem] theorem spl_Clr_ob_thread_clear (x : Clr) (v : List Pr) : splice (Clr.enc x) 25 ([.sl (List.map Pr.enc v)]) = Clr.enc { x with ob := { x.ob with thread := { x.ob.thread with clear := v } } } := by kernel_rfl
@[go_sem] theorem spl_Clr_ob_thread_space (x : Clr) (v : Rf) : splice (Clr.enc x) 26 (Rf.enc v) = Clr.enc { x with ob := { x.ob with thread := { x.ob.thread with space := v } } } := by kernel_rfl
@[go_sem] theorem cut_Clr_ob_thread_labs_at0 (x : Clr) : cut Tryz.prog 26 (Clr.enc x) 39 = some (.sl (List.map Pr.enc (x.ob.thread.labs 0))) := by kernel_rfl
@[go_sem] theorem cut_Clr_ob_thread_labs_at1 (x : Clr) : cut Tryz.prog 26 (Clr.enc x) 40 = some (.sl (List.map Pr.enc (x.ob.thread.labs 1))) := by kernel_rfl
@[go_sem] theorem cut_Clr_ob_thread_labs_at2 (x : Clr) : cut Tryz.prog 26 (Clr.enc x) 41 = some (.sl (List.map Pr.enc (x.ob.thread.labs 2))) := by kernel_rfl
@[go_sem] theorem cut_Clr_ob_thread_labs_at3 (x : Clr) : cut Tryz.prog 26 (Clr.enc x) 42 = some (.sl (List.map Pr.enc (x.ob.thread.labs 3))) := by kernel_rfl
@[go_sem] theorem cut_Clr_w_0 (x : Clr) : cut Tryz.prog 33 (Clr.enc x) 51 = some (.agg (Wd.enc x.w)) := by kernel_rfl
@[go_sem] theorem spl_Clr_w (x : Clr) (v : Wd) : splice (Clr.enc x) 51 (Wd.enc v) = Clr.enc { x with w := v } := by kernel_rfl
@[go_sem] theorem cut_Clr_a_at0 (x : Clr) : cut Tryz.prog 22 (Clr.enc x) 55 = some (.int .u64 (x.a 0)) := by kernel_rfl
@[go_sem] theorem cut_Clr_a_at1 (x : Clr) : cut Tryz.prog 22 (Clr.enc x) 56 = some (.int .u64 (x.a 1)) := by kernel_rfl
@[go_sem] theorem cut_Clr_a_at2 (x : Clr) : cut Tryz.prog 22 (Clr.enc x) 57 = some (.int .u64 (x.a 2)) := by kernel_rfl
@[go_sem] theorem cut_Clr_a_at3 (x : Clr) : cut Tryz.prog 22 (Clr.enc x) 58 = some (.int .u64 (x.a 3)) := by kernel_rfl
@[go_sem] theorem cut_Clr_a_at4 (x : Clr) : cut Tryz.prog 22 (Clr.enc x) 59 = some (.int .u64 (x.a 4)) := by kernel_rfl
attribute [go_sem] Tryz.underlying48
@[go_sem] theorem cut_Clr_ob0 (x : Clr) : cut Tryz.prog 71 (Clr.enc x) 0 = some (.agg (Ob.enc x.ob)) := by kernel_rfl
end Go.Proofs.YtoibbedpaaeclaaGreat
end

section
namespace Go.Proofs.YtoibbedpaaeclaaGreat
open Go Go.RowKit
set_option linter.unusedVariables false
set_option linter.unusedSimpArgs false
set_option maxHeartbeats 16000000
set_option maxRecDepth 100000
theorem q7o {w : Wd} (h : fitW w = true) : q6q w = true := by
  unfold fitW at h
  simp only [Bool.and_eq_true] at h
  exact h.1.1
theorem zeroObL : Ob.zero.L := ⟨by decide, by decide, by decide, by decide, Th.zeroL, Gt.zeroL, by decide, by decide⟩
theorem findR_Lw {w : Wd} (h : w.L) (id : Int) : (q2i w id).1.L := by
  unfold q2i
  split
  · rename_i x hx; exact (h.2 x (List.mem_of_find?_eq_some hx)).1
  · exact zeroObL
@[go_sem] theorem ex17_b4 (a b : Int) : q3z Tryz.prog 60 [(0, .int .u64 a), (1, .int .u64 b)] = some (.agg (Rf.enc ⟨a, b⟩)) := by kernel_rfl
attribute [local irreducible] q0i dr q0d Ex.then Ex.inBlock retQ q1n q2d q2c Pure CSat evOp q1i rdOf upd hset strip sp0 cut envL q1g q3i Keep BdL evBs q2n q2s
theorem find_id {w : Wd} {id : Int} (h : (q2i w id).2 = true) : (q2i w id).1.id = id ∧ (q2i w id).1 ∈ w.objects := by
  unfold q2i at h ⊢
  split
  · rename_i x hx
    exact ⟨by have := List.find?_some hx; simpa using this, List.mem_of_find?_eq_some hx⟩
  · rename_i hx; rw [hx] at h; cases h
theorem links_found {w : Wd} (hw : fitW w = true) {d : Ob} (hd : d ∈ w.objects) {id : Int} (hi : id ∈ d.links) : (q2i w id).2 = true := by
  unfold fitW at hw
  simp only [Bool.and_eq_true] at hw
  obtain ⟨k, hk⟩ := List.getElem?_of_mem hd
  have h1 := allB_iff.1 hw.2.1 k (q3w hk)
  unfold q8j at h1
  rw [hk] at h1
  simp only [Bool.and_eq_true] at h1
  have h2 := h1.1
  unfold q9x at h2
  simp only [Bool.and_eq_true] at h2
  obtain ⟨n, hn⟩ := List.getElem?_of_mem hi
  have h3 := allB_iff.1 h2.1 n (q3w hn)
  unfold q7v at h3
  rw [hn] at h3
  simp only [Bool.and_eq_true] at h3
  exact h3.1
theorem dir_found {w : Wd} {t : Ob} {id : Int} {b : Bool} (h : ((dirR w t id b).2 == 0) = true) : (dirR w t id b).1 = (q2i w id).1 ∧ (q2i w id).2 = true ∧ seesR t (q2i w id).1 = true := by
  unfold dirR at h ⊢
  split at h
  · rename_i h1
    rw [if_pos h1]
    simp only [Bool.and_eq_true] at h1
    split at h
    · rename_i h2; rw [if_pos h2]; exact ⟨rfl, h1.1, h1.2.2⟩
    · simp at h
  · simp at h
end Go.Proofs.YtoibbedpaaeclaaGreat
end

section
namespace Go.Proofs.YtoibbedpaaeclaaGreat.kgate
open Go Go.RowKit Go.Proofs.YtoibbedpaaeclaaGreat
set_option linter.unusedVariables false
set_option linter.unusedSimpArgs false
set_option maxHeartbeats 16000000
set_option maxRecDepth 100000
attribute [go_sem] q1m
@[go_sem] theorem ifc_thr : ifcT Tryz.prog 113 = some false := by kernel_rfl
@[go_sem] theorem thr_zeros : zeros Tryz.prog 113 = some [.int .i64 0] := by kernel_rfl
@[go_sem] theorem thr_f0 : q1p Tryz.prog 113 0 = some (50, 0) := by kernel_rfl
@[go_sem] theorem thr_build (e : Int) : q3z Tryz.prog 113 [(0, .int .i64 e)] = some (.agg [.int .i64 e]) := by kernel_rfl
@[go_sem] theorem cl_build (t : Ob) (w : Wd) (a : Nat → Int) : q3z Tryz.prog 111 [(0, .agg (Ob.enc t)), (1, .agg (Wd.enc w)), (2, .agg (args a))] = some (.agg (Clr.enc ⟨t, w, a⟩)) := by kernel_rfl
theorem noidL {l : List PV} (h : BdL (fun _ => False) l) : ∀ p ∈ l, NoId p := h
def thr (e : Int) : PV := .ifc 113 (.agg [.int .i64 e])
attribute [local irreducible] q0i dr q0d Ex.then Ex.inBlock retQ q1n q2d q2c Pure CSat evOp q1i rdOf upd hset strip sp0 cut envL q1g q3i Keep BdL evBs q2n q2s
theorem must_yes (H : Heap) (m : Nat) (e : Int) : CSat Tryz.prog 175 [.bool true, .int .i64 e] H m (fun out H' m' => (∃ r, out = .ret r) ∧ H' = H ∧ m' = m) := by
  refine q4s (by kernel_rfl) Tryz.func175 Tryz.results175 rfl (by simp [Tryz.ntmps175]) (by kernel_rfl) ?_
  repeat' (first | (show q0i ..; first | refine q0c ?_ | refine q0e rfl ?_) | (show q0k ..; refine q0f rfl rfl ?_) | (show goOn ..; refine q0g ?_) | (show q0d ..; first | refine q0h ?_ | refine q0b ?_ | refine q0s ?_ | refine q0j ?_) | (show q0o ..; refine cd_f ?_) | refine q0a ?_ | (show retQ ..; refine x0o ?_) | refine q0n ?_)
  exact ⟨⟨_, rfl⟩, rfl, rfl⟩
theorem must_no (H : Heap) (m : Nat) (e : Int) : CSat Tryz.prog 175 [.bool false, .int .i64 e] H m (fun out H' m' => out = .pan (thr e) ∧ H' = H ∧ m' = m) := by
  refine q4s (by kernel_rfl) Tryz.func175 Tryz.results175 rfl (by simp [Tryz.ntmps175]) (by kernel_rfl) ?_
  repeat' (first | (show q0i ..; first | refine q0c ?_ | refine q0e rfl ?_) | (show q0k ..; refine q0f rfl rfl ?_) | (show goOn ..; refine q0g ?_) | (show q0d ..; first | refine q0h ?_ | refine q0b ?_ | refine q0j ?_) | (show q0o ..; refine cd_t ?_) | refine q0a ?_)
  refine run_panic rfl rfl (by (try simp only [go_sem]); exact nm) (pan_some ?_)
  repeat' (first | refine q4l ?_ | refine q4w ?_ | refine q4u ?_)
  exact ⟨rfl, rfl, rfl⟩
theorem none_yes (H : Heap) (m : Nat) : CSat Tryz.prog 174 [.int .i64 0] H m (fun out H' m' => (∃ r, out = .ret r) ∧ H' = H ∧ m' = m) := by
  refine q4s (by kernel_rfl) Tryz.func174 Tryz.results174 rfl (by simp [Tryz.ntmps174]) (by kernel_rfl) ?_
  repeat' (first | (show q0i ..; refine q0e rfl ?_) | (show q0k ..; first | refine q0f rfl rfl ?_ | refine q0l rfl ?_) | (show goOn ..; refine q0g ?_) | (show q0d ..; refine q0b ?_))
  (refine q0w (by kernel_rfl) (must_yes _ _ _) ?_ ?_)
  case refine_2 => rintro p H' m' ⟨⟨_, h⟩, _⟩; cases h
  rintro r H' m' ⟨⟨_, h⟩, rfl, rfl⟩
  clear h
  repeat' (first | (show q0i ..; refine q0c ?_) | (show retQ ..; refine x0o ?_) | refine q0n ?_)
  exact ⟨⟨_, rfl⟩, rfl, rfl⟩
theorem none_no (H : Heap) (m : Nat) (e : Int) (he : (e == 0) = false) : CSat Tryz.prog 174 [.int .i64 e] H m (fun out H' m' => out = .pan (thr e) ∧ H' = H ∧ m' = m) := by
  refine q4s (by kernel_rfl) Tryz.func174 Tryz.results174 rfl (by simp [Tryz.ntmps174]) (by kernel_rfl) ?_
  repeat' (first | (show q0i ..; refine q0e rfl ?_) | (show q0k ..; first | refine q0f rfl rfl ?_ | refine q0l rfl ?_) | (show goOn ..; refine q0g ?_) | (show q0d ..; refine q0b ?_))
  (refine q0w (by kernel_rfl) (must_no _ _ _) ?_ ?_)
  case refine_1 => rintro r H' m' ⟨h, _⟩; cases h
  rintro p H' m' ⟨h, rfl, rfl⟩
  cases h
  repeat' (first | refine q4l ?_ | refine q4w ?_ | refine q4u ?_)
  exact ⟨rfl, rfl, rfl⟩
theorem rec_nil (H : Heap) (m : Nat) : DSat Tryz.prog 61 [.ptr 0 0, .ptr 2 0, .ptr 3 0, .ptr 4 0, .ptr 5 0] H m none (fun H' m' => H' = H ∧ m' = m) := by
  refine dsat_nil (by kernel_rfl) Tryz.func61 Tryz.results61 rfl ⟨rfl, rfl, rfl⟩ ⟨rfl, rfl, rfl⟩ ⟨rfl, rfl, rfl⟩ ⟨⟨_, rfl⟩, rfl, rfl⟩ ifc_any (by simp [Tryz.ntmps61]) (by simp [Tryz.ntmps61]) (by simp [Tryz.ntmps61]) (by simp [Tryz.ntmps61]) (by simp [Tryz.ntmps61]) (by kernel_rfl) ?_
  intro env
  repeat' (first | (show q0d ..; refine q0s ?_))
  exact ⟨.inl rfl, rfl, rfl⟩
theorem rec_some {H : Heap} {m : Nat} (w x0 : Wd) (e v0 e0 : Int) (k0 : Bool) (h0 : H 0 = some (.box (Wd.enc w))) (h2 : H 2 = some (.box (Wd.enc x0))) (h3 : H 3 = some (.box [.int .u64 v0])) (h4 : H 4 = some (.box [.int .i64 e0])) (h5 : H 5 = some (.box [.bool k0])) (hm : 6 ≤ m) :
    DSat Tryz.prog 61 [.ptr 0 0, .ptr 2 0, .ptr 3 0, .ptr 4 0, .ptr 5 0] H m (some (thr e)) (fun H' m' => H' 2 = some (.box (Wd.enc w)) ∧ H' 3 = some (.box [.int .u64 0]) ∧ H' 4 = some (.box [.int .i64 e]) ∧ H' 5 = some (.box [.bool true])) := by
  have n0 : (0 = m) = False := eq_false (by omega)
  have n2 : (2 = m) = False := eq_false (by omega)
  have n3 : (3 = m) = False := eq_false (by omega)
  have n4 : (4 = m) = False := eq_false (by omega)
  have n5 : (5 = m) = False := eq_false (by omega)
  refine dsat_recover (by kernel_rfl) Tryz.func61 Tryz.results61 rfl ⟨rfl, rfl, rfl⟩ ⟨rfl, rfl, rfl⟩ (by simp [Tryz.ntmps61]) (by simp [Tryz.ntmps61]) (by simp [Tryz.ntmps61]) (by kernel_rfl) ?_
  unfold thr
  simp only [Option.getD_some]
  have m0 : (m == 0) = false := by simp; omega
  have m2 : (m == 2) = false := by simp; omega
  have m3 : (m == 3) = false := by simp; omega
  have m4 : (m == 4) = false := by simp; omega
  have m5 : (m == 5) = false := by simp; omega
  have o0 : (0 == m) = false := by simp; omega
  have o2 : (2 == m) = false := by simp; omega
  have o3 : (3 == m) = false := by simp; omega
  have o4 : (4 == m) = false := by simp; omega
  have o5 : (5 == m) = false := by simp; omega
  repeat' (first | (show q0i ..; first | refine q0c ?_ | refine q0e rfl ?_) | (show q0k ..; refine q0f rfl rfl ?_) | (show goOn ..; first | refine q0g ?_ | refine q1d ?_ | refine q1x ?_) | (show q2w ..; refine q1h ?_) | (show dr ..; first | refine q1y ?_ | refine dr_n rfl ?_) | (show drGo ..; refine q2t rfl ?_) | (show drOn ..; first | refine q1z ?_ | refine q8y ?_) | (show q6y ..; refine q5k ?_) | (show q0d ..; first | refine q0h ?_ | refine q0b ?_ | refine q1o (by kernel_rfl) ?_ | refine q0s ?_ | refine q0j ?_) | (show q0o ..; first | refine cd_t ?_ | refine cd_f ?_) | refine q0a ?_)
  refine And.intro (by simp [q1n, okPair, q6z, Eff.wr, Rg.meets, rdOf, go_sem, m0, m2, m3, m4, m5, o0, o2, o3, o4, o5]) ⟨.inl rfl, ?_, ?_, ?_, ?_⟩
  all_goals (repeat (first | rw [q1m] | rw [q1b _ _ (by omega)]))
/-- What a call does with the caller's box: R is the world, the value, the error, and whether it is such a call. -/
def DoC (t : Ob) (w : Wd) (n : Int) (a : Nat → Int) (R : Wd × Int × Int × Bool) : Prop :=
  ∀ (H : Heap), H 7 = some (.box (Clr.enc ⟨t, w, a⟩)) → CSat Tryz.prog 62 [.ptr 7 0, .int .i64 n] H 8 (fun out H' m' => ((R.2.2.1 == 0) = true → out = .ret (.tup [.int .u64 R.2.1, .bool R.2.2.2]) ∧ ∃ t', H' 7 = some (.box (Clr.enc ⟨t', R.1, a⟩))) ∧ ((R.2.2.1 == 0) = false → out = .pan (thr R.2.2.1)) ∧ 8 ≤ m' ∧ ∀ j, j < 7 → H' j = H j)
theorem do_pure (w : Wd) (id n : Int) (a : Nat → Int) (t : Ob) (b : Bool) (R : Wd × Int × Int × Bool) (hfind : Pure Tryz.prog 60 [.agg (Wd.enc w), .int .u64 id] (.tup [.agg (Ob.enc t), .bool b])) (hdo : DoC t w n a R) (hR : (R.2.2.1 == 0) = false → R.1 = w ∧ R.2.1 = 0 ∧ R.2.2.2 = true) :
    Pure Tryz.prog 26 [.agg (Wd.enc w), .int .u64 id, .int .i64 n, .agg (args a)] (.tup [.agg (Wd.enc R.1), .int .u64 R.2.1, .int .i64 R.2.2.1, .bool R.2.2.2]) := by
  obtain ⟨x, v, e, k⟩ := R
  simp only at hR ⊢
  unfold DoC at hdo
  simp only at hdo
  refine pure_of_csat (noidL (by simp only [go_sem])) (by have h : Bd (fun _ => False) (.tup [.agg (Wd.enc x), .int .u64 v, .int .i64 e, .bool k]) := (by simp only [go_sem]); exact h) ?_
  refine q9y (d8 := 26) (g := 61) (by kernel_rfl) Tryz.func26 rfl (.more (.more .one)) (by kernel_rfl) (fun z hz => by cases hz; simp [Tryz.ntmps26]) ⟨rfl, rfl, rfl⟩ (by simp [Tryz.ntmps26]) (by kernel_rfl) (by kernel_rfl) ?_
  repeat' (first | (show q0i ..; first | refine q0c ?_ | refine q0e rfl ?_) | (show q0k ..; first | refine q0f rfl rfl ?_ | refine q0l rfl ?_) | (show goOn ..; first | refine q0g ?_ | refine q1d ?_ | refine q1x ?_) | (show q2w ..; refine q1h ?_) | (show q1k ..; (refine q0r (r := ?_) ?_ ?_; rotate_left 1; (focus exact hfind))) | (show q0d ..; first | refine q0h ?_ | refine q0b ?_) | refine q0a ?_)
  refine ⟨rfl, ?_⟩
  repeat' (first | (show q0i ..; first | refine q0c ?_ | refine q0e rfl ?_) | (show q0k ..; refine q0f rfl rfl ?_) | (show goOn ..; refine q0g ?_))
  refine ⟨rfl, [.ptr 0 0, .ptr 2 0, .ptr 3 0, .ptr 4 0, .ptr 5 0], (by (try simp only [go_sem]); try rfl), ?_⟩
  repeat' (first | (show q0i ..; refine q0e rfl ?_) | (show q0k ..; first | refine q0f rfl rfl ?_ | refine q0l rfl ?_) | (show goOn ..; refine q0g ?_) | (show q0d ..; first | refine q0h ?_ | refine q0b ?_))
  cases he : (e == 0) with
  | true =>
    obtain rfl : e = 0 := by simpa using he
    (refine q0w (by kernel_rfl) (hdo _ (by simp only [go_sem])) ?_ ?_)
    case refine_2 => rintro p H' m' ⟨h1, _⟩; have := (h1 rfl).1; cases this
    rintro r H1 m1 ⟨h1, _, L1, A1⟩
    obtain ⟨ho, t', c7⟩ := h1 rfl
    cases ho
    have c2 : H1 2 = some (.box (Wd.enc Wd.zero)) := by rw [A1 2 (by omega)]; simp only [go_sem] <;> rfl
    have c3 : H1 3 = some (.box [.int .u64 0]) := by rw [A1 3 (by omega)]; simp only [go_sem] <;> rfl
    have c4 : H1 4 = some (.box [.int .i64 0]) := by rw [A1 4 (by omega)]; simp only [go_sem] <;> rfl
    have c5 : H1 5 = some (.box [.bool false]) := by rw [A1 5 (by omega)]; simp only [go_sem] <;> rfl
    clear A1 h1 hdo
    repeat' (first | (show q0i ..; first | refine q0c ?_ | refine q0e rfl ?_) | (show q0k ..; refine q0f rfl rfl ?_) | (show goOn ..; first | refine q0g ?_ | refine q1x ?_) | (show q2w ..; refine q1h ?_) | (show dr ..; first | refine q1y ?_ | refine dr_n rfl ?_) | (show drGo ..; refine q2t rfl ?_) | (show drOn ..; first | refine q1z ?_ | refine q8y ?_) | (show q6y ..; refine q5k ?_) | (refine And.intro (by kernel_rfl : q2d _ _ _ = true) ?_) | (show q0d ..; first | refine q0h ?_ | refine q9h (by kernel_rfl) ?_ | refine q0t ?_) | refine q0a ?_)
    unfold KY
    refine (rec_nil _ _).mono ?_
    rintro H2 m2 ⟨rfl, rfl⟩
    refine ⟨.tup [.agg (Wd.enc x), .int .u64 v, .int .i64 0, .bool k], ?_, rfl⟩
    simp only [q8g, q8m, Tryz.results26, go_sem]
    try rfl
  | false =>
    obtain ⟨rfl, rfl, rfl⟩ := hR he
    (refine q0w (by kernel_rfl) (hdo _ (by simp only [go_sem])) ?_ ?_)
    case refine_1 => rintro r H' m' ⟨_, h2, _⟩; have := h2 he; cases this
    rintro p H1 m1 ⟨_, h2, L1, A1⟩
    have ho := h2 he
    cases ho
    have c0 : H1 0 = some (.box (Wd.enc x)) := by rw [A1 0 (by omega)]; simp only [go_sem] <;> rfl
    have c2 : H1 2 = some (.box (Wd.enc Wd.zero)) := by rw [A1 2 (by omega)]; simp only [go_sem] <;> rfl
    have c3 : H1 3 = some (.box [.int .u64 0]) := by rw [A1 3 (by omega)]; simp only [go_sem] <;> rfl
    have c4 : H1 4 = some (.box [.int .i64 0]) := by rw [A1 4 (by omega)]; simp only [go_sem] <;> rfl
    have c5 : H1 5 = some (.box [.bool false]) := by rw [A1 5 (by omega)]; simp only [go_sem] <;> rfl
    clear A1 hdo
    refine q4l ?_
    unfold KY
    refine (rec_some x Wd.zero e 0 0 false c0 c2 c3 c4 c5 (by omega)).mono ?_
    rintro H2 m2 ⟨d2, d3, d4, d5⟩
    refine ⟨.tup [.agg (Wd.enc x), .int .u64 0, .int .i64 e, .bool true], ?_, rfl⟩
    simp only [q8g, q8m, Tryz.results26, go_sem, d2, d3, d4, d5]
    try rfl
end Go.Proofs.YtoibbedpaaeclaaGreat.kgate
end

section
namespace Go.Proofs.YtoibbedpaaeclaaGreat
open Go Go.RowKit Go.Shelf
set_option linter.unusedVariables false
set_option linter.unusedSimpArgs false
def szOb : Nat := 51
theorem infoSlOb : (Tryz.prog.info? 71).map (fun i => (i.zero, i.size, i.bytes)) = some (some (.agg #[.int .u64 0, .int .i64 0, .slice none 0 0, .int .i64 0, .bool false, .slice none 0 0, .slice none 0 0, .slice none 0 0, .int .u64 0, .int .u64 0, .int .u64 0, .int .u64 0, .int .u64 0, .int .u64 0, .int .u64 0, .int .u64 0, .int .u64 0, .int .u64 0, .int .u64 0, .int .u64 0, .int .u64 0, .int .u64 0, .int .u64 0, .int .u64 0, .int .u64 0, .slice none 0 0, .int .u64 0, .int .u64 0, .int .u64 0, .int .u64 0, .int .i64 0, .int .u64 0, .int .u64 0, .int .u64 0, .int .u64 0, .bool false, .slice none 0 0, .int .u64 0, .int .u64 0, .slice none 0 0, .slice none 0 0, .slice none 0 0, .slice none 0 0, .slice none 0 0, .slice none 0 0, .int .u64 0, .int .u64 0, .int .u64 0, .int .u64 0, .slice none 0 0, .slice none 0 0]), 51, 632) := by kernel_rfl
theorem sizeOb : (Tryz.prog.info? 71).map (·.size) = some 51 := by kernel_rfl
set_option maxRecDepth 100000 in
theorem cloneOb_calls (l : List (Cl szOb)) (A : Option Addr) (c : Nat) (w : World) (hC : RdC w A l) (hc : l.length ≤ c) (hlen : l.length ≤ 1000000) :
    Calls Tryz.prog 189 #[.slice A l.length c] w fun e w' => ∃ v, e = .returned v ∧ RowC 71 w' w.heap.size v l ∧ Below w.heap.size w w' := by
  have HC := Lib.hid hC
  obtain ⟨n, hn⟩ : ∃ n, n = l.length := ⟨_, rfl⟩
  have HN := Lib.hid hn
  rw [← hn] at hc hlen ⊢
  clear hC hn
  have q22 : ∀ (W : World) (a : Option Addr) (n c : Nat), (binOp .eql 31 (.slice a n c) (.slice none 0 0)).run Tryz.prog W = .ok (.bool a.isNone) W := fun W a n c => Lib.run_eql_slice_nil W _ _ a n c 0 0 Tryz.underlying31
  cases A with
  | none =>
    have h0 : n = 0 := by
      have := HC.out
      by_cases h : 0 < l.length
      · obtain ⟨ad, e, _⟩ := this h
        cases e
      · have := HN.out; omega
    have hl : l = [] := List.eq_nil_of_length_eq_zero (by have := HN.out; omega)
    subst hl
    have H0 := Lib.hid h0
    clear h0
    go_enter Tryz.func189, Tryz.ntmps189
    go_wp2
    go_ret
    exact ⟨_, rfl, ⟨rfl, .inl ⟨rfl, rfl⟩⟩, Below.refl _ _⟩
  | some ad =>
    obtain ⟨w0, hw0⟩ : ∃ w0, w0 = w.alloc (.cells #[] 71) := ⟨_, rfl⟩
    have B0 : Below w.heap.size w w0 := by rw [hw0]; exact x1c w _
    obtain ⟨i, hi, hzz⟩ := Option.map_eq_some_iff.1 infoSlOb
    simp only [Prod.mk.injEq] at hzz
    have hC0 := RdC.below HC.out B0
    have hsrc := C_flat hC0 ad rfl
    have hfl := q5i l
    have hone := flat_one l
    obtain ⟨v1, w1, hrun, hown, hg, _, _⟩ := Go.run_append_own_at (P := Tryz.prog) w0 w.heap.size 31 31 71 i (.agg #[.int .u64 0, .int .i64 0, .slice none 0 0, .int .i64 0, .bool false, .slice none 0 0, .slice none 0 0, .slice none 0 0, .int .u64 0, .int .u64 0, .int .u64 0, .int .u64 0, .int .u64 0, .int .u64 0, .int .u64 0, .int .u64 0, .int .u64 0, .int .u64 0, .int .u64 0, .int .u64 0, .int .u64 0, .int .u64 0, .int .u64 0, .int .u64 0, .int .u64 0, .slice none 0 0, .int .u64 0, .int .u64 0, .int .u64 0, .int .u64 0, .int .i64 0, .int .u64 0, .int .u64 0, .int .u64 0, .int .u64 0, .bool false, .slice none 0 0, .int .u64 0, .int .u64 0, .slice none 0 0, .slice none 0 0, .slice none 0 0, .slice none 0 0, .slice none 0 0, .slice none 0 0, .int .u64 0, .int .u64 0, .int .u64 0, .int .u64 0, .slice none 0 0, .slice none 0 0]) 51 632 Tryz.underlying31 hi hzz.1 hzz.2.1 hzz.2.2 rfl (by decide)
      (.slice (some ⟨w.heap.size, 0, none⟩) 0 0) 0 [] (by rw [hw0]; exact World.ownsRow_made w #[] 0 (Nat.le_refl _) (Nat.zero_le _) rfl)
      ad n c (flat l) (by rw [hfl, HN.out]; rfl) hsrc hone (by simp only [maxLen]; omega) (by omega) (by rw [hw0]; simp)
    have B1 : Below w.heap.size w w1 := B0.grown hg (by rw [hw0]; simp) (fun k hk => by simp [Value.ownBlock] at hk; omega)
    have HR : Hid (RowC 71 w1 w.heap.size v1 l) := Lib.hid (by have := hown; rw [Nat.zero_add, HN.out, List.nil_append] at this; exact this)
    have HB := Lib.hid B1
    rw [hw0] at hrun
    clear hown hg B1 hsrc hfl hone hC0 B0 hw0 hzz
    go_enter Tryz.func189, Tryz.ntmps189
    go_wp2_with (at_builtin; refine Lib.wpList_append_run _ rfl _ _ _ _ rfl _ _ rfl rfl _ _ hrun ?_)
    go_ret
    exact ⟨_, rfl, HR.out, HB.out⟩
set_option maxRecDepth 100000 in
set_option maxHeartbeats 4000000 in
theorem insertEndOb_calls (l : List (Cl szOb)) (v : Value) (x : (Cl szOb)) (vb cv base : Nat) (w : World) (HR : RowC 71 w base v l) {cx : Array Value} {tx : TypeId} (hvb : w.heap[vb]? = some (.cells cx tx (0, 0))) (hcx : ∀ (j : Nat) (u : Value), x.1[j]? = some u → cx[j]? = some u) (hbase : base ≤ w.heap.size) (hlen : l.length ≤ 1000000) :
    Calls Tryz.prog 190 #[v, .int .i64 (l.length : Nat), .slice (some ⟨vb, 0, none⟩) 1 cv] w fun e w' => ∃ v', e = .returned v' ∧ RowC 71 w' base v' (l ++ [x]) ∧ Mv w w' v v' := by
  obtain ⟨i, hi, hzz⟩ := Option.map_eq_some_iff.1 infoSlOb
  simp only [Prod.mk.injEq] at hzz
  have hO := HR
  obtain ⟨n, hn⟩ : ∃ n, n = l.length := ⟨_, rfl⟩
  obtain ⟨v1, w1, hrun, hown, hblk⟩ := append_own2 (P := Tryz.prog) w base 31 71 i _ 31 Tryz.underlying31 hi hzz.1 (by rw [hzz.2.1]; rfl) (by rw [hzz.2.1]; decide) v l.length (flat l) (by rw [hzz.2.1]; exact hO) hbase vb cv x.1 (by rw [hzz.2.1]; exact x.2.1) x.2.2 (fun j u hu => by rw [Addr.add_lit, Nat.zero_add, cell_of_row _ vb _ _ _ _ hvb]; exact hcx j u hu) (by rw [hzz.2.2]; omega) (by simp only [maxLen]; omega)
  rw [hzz.2.1] at hown
  have hfin : Hid (RowC 71 w1 base v1 (l ++ [x])) := Lib.hid ((by
    have e : flat (l ++ [x]) = flat l ++ x.1 := by rw [q5p]; simp [flat]
    show w1.ownsRow base 71 51 v1 (l ++ [x]).length (flat (l ++ [x]))
    rw [e, List.length_append]; exact hown))
  rw [← hn] at hlen ⊢
  obtain ⟨A, c, hv⟩ := own_slice HR
  have hnc : n ≤ c := by
    rcases hO.2 with ⟨e, h0⟩ | ⟨g', c', cur, e, _, _, h, _⟩
    · omega
    · rw [hv] at e
      injection e with _ _ e3
      omega
  rw [← hn] at hv
  have hbk : Hid (∀ c', c' = c → Mv w w1 (.slice A n c') v1) := Lib.hid (fun c' e => by subst e; rw [hv] at hblk; exact hblk)
  subst hv
  clear HR hO hown hblk hvb hcx hbase hzz hi hn
  have hle : (n : Int) ≤ (n : Int) := Int.le_refl _
  have heq : ((n : Int) == (n : Int)) = true := by simp
  rw [← append_types (P := Tryz.prog) 31 31 71 71 31 Tryz.underlying31 Tryz.underlying31] at hrun
  go_enter Tryz.func190, Tryz.ntmps190
  go_wp2_with (at_builtin; refine Lib.wpList_append_run _ rfl _ _ _ _ rfl _ _ rfl rfl _ _ hrun ?_)
  all_goals (go_ret; exact ⟨_, rfl, hfin.out, hbk.out _ (by first | rfl | omega)⟩)
set_option maxRecDepth 100000 in
set_option maxHeartbeats 4000000 in
theorem x0t (l : List (Cl szOb)) (g c k : Nat) (x : (Cl szOb)) (vb cv base : Nat) (w : World) (HR : RowC 71 w base (.slice (some ⟨g, 0, none⟩) l.length c) l) (hk : k < l.length) (hroom : l.length + 1 ≤ c) {cx : Array Value} {tx : TypeId} (hvb : w.heap[vb]? = some (.cells cx tx (0, 0))) (hcx : ∀ (j : Nat) (u : Value), x.1[j]? = some u → cx[j]? = some u) (hne : vb ≠ g) (hlen : l.length ≤ 1000000) :
    Calls Tryz.prog 190 #[.slice (some ⟨g, 0, none⟩) l.length c, .int .i64 k, .slice (some ⟨vb, 0, none⟩) 1 cv] w fun e w' => ∃ v', e = .returned v' ∧ RowC 71 w' base v' (l.take k ++ x :: l.drop k) ∧ Mv w w' (.slice (some ⟨g, 0, none⟩) l.length c) v' := by
  have HR0 := HR
  obtain ⟨_, hcase⟩ := HR0
  rcases hcase with ⟨h0, _⟩ | ⟨g', c', cur, e, hb, hg, hnc, hcm, hcs, htake⟩
  · cases h0
  injection e with ea _ ec
  injection ea with ea
  injection ea with ea
  subst ea; subst ec
  obtain ⟨n, hn⟩ : ∃ n, n = l.length := ⟨_, rfl⟩
  have hsz : szOb = 51 := rfl
  have hdr : (flat (l.drop k)).length = (n - k) * 51 := by rw [q5i, List.length_drop, ← hn, hsz]
  obtain ⟨cur1, h1⟩ : ∃ cur1, cur1 = cur.toList.take ((k + 1) * szOb) ++ flat (l.drop k) ++ cur.toList.drop ((k + 1) * szOb + (flat (l.drop k)).length) := ⟨_, rfl⟩
  obtain ⟨cur2, h2⟩ : ∃ cur2, cur2 = cur1.take (k * szOb) ++ x.1 ++ cur1.drop (k * szOb + x.1.length) := ⟨_, rfl⟩
  have hD := insert_cells (cur := cur.toList) (l := l) (cap := c) (k := k) (by rw [Array.length_toList]; exact hcs) hroom htake hk h1 h2
  have hgd : w.drew.heap[g]? = some (.cells cur 71 (0, 0)) := hg
  have hg1 : (w.drew.setRow g cur1.toArray).heap[g]? = some (.cells cur1.toArray 71 (0, 0)) := q9c _ g cur _ _ _ hgd
  have hv1 : (w.drew.setRow g cur1.toArray).heap[vb]? = some (.cells cx tx (0, 0)) := (setRow_other _ g vb _ hne).trans hvb
  have hcp1 : ∀ ty dc sc, (Builtin.copy_ #[31, 31] ty #[.slice (some ⟨g, (k + 1) * 51, none⟩) (n - k) dc, .slice (some ⟨g, k * 51, none⟩) (n + 1 - k) sc]).run Tryz.prog w.drew = .ok (goInt (n - k : Nat)) (w.drew.setRow g cur1.toArray) := fun ty dc sc => by
    have hmin : Nat.min (n + 1 - k) (n - k) = n - k := Nat.min_eq_right (by omega)
    have := copy_row (P := Tryz.prog) w.drew 31 31 ty 71 51 g ((k + 1) * 51) (n - k) dc ⟨g, k * 51, none⟩ (n + 1 - k) sc cur 71 (flat (l.drop k)) Tryz.underlying31 sizeOb hgd (by rw [hdr, hmin]) (fun j u hj => by
      rw [Addr.add_lit, cell_of_row _ g _ cur _ _ hgd]
      rw [← flat_drop l k (by omega), ← htake, List.getElem?_drop, List.getElem?_take] at hj
      split at hj
      · rw [Array.getElem?_toList, hsz] at hj
        exact hj
      · cases hj) (by have := hD.1; rw [Array.length_toList] at this; exact this) (flat_one _)
    rw [hmin] at this
    rw [this, h1]; rfl
  have hcp2 : ∀ ty dc, (Builtin.copy_ #[31, 31] ty #[.slice (some ⟨g, k * 51, none⟩) (n + 1 - k) dc, .slice (some ⟨vb, 0, none⟩) 1 cv]).run Tryz.prog (w.drew.setRow g cur1.toArray) = .ok (goInt (1 : Nat)) ((w.drew.setRow g cur1.toArray).setRow g cur2.toArray) := fun ty dc => by
    have hmin : Nat.min 1 (n + 1 - k) = 1 := Nat.min_eq_left (by omega)
    have := copy_row (P := Tryz.prog) (w.drew.setRow g cur1.toArray) 31 31 ty 71 51 g (k * 51) (n + 1 - k) dc ⟨vb, 0, none⟩ 1 cv cur1.toArray 71 x.1 Tryz.underlying31 sizeOb hg1 (by rw [hmin, Nat.one_mul]; exact x.2.1) (fun j u hj => by
      rw [Addr.add_lit, Nat.zero_add, cell_of_row _ vb _ _ _ _ hv1]
      exact hcx j u hj) (by have : k * 51 + x.1.length ≤ cur1.length := hD.2.2.1; simpa using this) (x.2.2)
    rw [hmin] at this
    rw [this, h2]; rfl
  have hov : ∀ lb cb, (callFunc 237 #[.slice (some ⟨vb, 0, none⟩) 1 cv, .slice (some ⟨g, (k + 1) * 51, none⟩) lb cb]).run Tryz.prog w = .ok (.value (.bool false)) w := fun lb cb => by
    rw [run_callFunc_extern Tryz.func237 (by kernel_rfl) (by kernel_rfl) (by kernel_rfl) (e := Extern.SlicesOverlaps.overlaps #[31, 31] #[4]) (by kernel_rfl),
      Lib.run_overlaps_apart w 31 4 71 Tryz.underlying31 51 (fun w => by kernel_rfl) ⟨vb, 0, none⟩ ⟨g, (k + 1) * 51, none⟩ 1 cv lb cb hne tx 71 cx.size cur.size (by simp [World.shape?, hvb]) (by simp [World.shape?, hg]) (by rw [hcs]; exact Nat.mul_ne_zero (by omega) (by decide)) (by simp [World.frozen?, hvb]) (by simp [World.frozen?, hvb])]
    rfl
  have hfin : Hid (RowC 71 ((w.drew.setRow g cur1.toArray).setRow g cur2.toArray) base (.slice (some ⟨g, 0, none⟩) (n + 1) c) (l.take k ++ x :: l.drop k)) := Lib.hid (by
    have hle : (l.take k ++ x :: l.drop k).length = n + 1 := by rw [List.length_append, List.length_cons, List.length_take, List.length_drop]; omega
    have := flat_block (xs := l.take k ++ x :: l.drop k) (cap := c) hb (q9c _ g _ cur2.toArray _ _ hg1) (by omega) hcm (by simpa using hD.2.2.2.1) (by have := hD.2.2.2.2; rw [← hn] at this; rw [hle]; simpa using this)
    have e2 : Value.slice (some ⟨g, 0, none⟩) (l.take k ++ x :: l.drop k).length c = .slice (some ⟨g, 0, none⟩) (n + 1) c := by rw [hle]
    rw [e2] at this
    exact this)
  have hbel : Hid (w.grownBy ((w.drew.setRow g cur1.toArray).setRow g cur2.toArray) (some g)) := Lib.hid (gb_setRow (gb_setRow (gb_drew (gb_refl _ _)) g _ (.inl rfl)) g _ (.inl rfl))
  have mixed : Tryz.prog.follows Departure.mixedOrders = true := by kernel_rfl
  rw [← hn] at hk hroom hlen ⊢
  have hz2 : ¬ ((k : Int) = (n : Int)) := by omega
  have hzb : ((k : Int) == (n : Int)) = false := beq_eq_false_iff_ne.2 hz2
  have hx1 : (k : Int) ≤ (n : Int) := by omega
  have hx2 : (k : Int) ≤ (n : Int) + 1 := by omega
  have hx3 : (k : Int) + 1 ≤ (n : Int) + 1 := by omega
  have hx4 : (0 : Int) ≤ (k : Int) + 1 := by omega
  have hx5 : (0 : Int) ≤ (n : Int) + 1 := by omega
  have hx6 : (n : Int) + 1 ≤ (c : Int) := by omega
  have hx7 : ¬ (c < n + 1) := by omega
  have hw1 : IntKind.i64.wrap ((k : Int) + 1) = (k : Int) + 1 := by rw [IntKind.wrap_i64]; omega
  have htn : ((k : Int) + 1).toNat = k + 1 := by omega
  have hw2 : IntKind.i64.wrap ((n : Int) + 1) = (n : Int) + 1 := by rw [IntKind.wrap_i64]; omega
  have hx8 : ¬ ((c : Int) < (n : Int) + 1) := by omega
  have hc1 : ¬ (c = k) := by omega
  have hc2 : ¬ (c = k + 1) := by omega
  have hcm' : c ≤ 9223372036854775807 := by simp only [maxLen] at hcm; omega
  clear HR hb hg hcm hcs htake hD h1 h2 hdr hgd hg1 hv1 hn hvb hcx hnc
  go_enter Tryz.func190, Tryz.ntmps190
  go_wp2_with (simp only [hov])
  go_region_law_o (refine step_copy rfl _ _ 31 31 rfl _ _ (by simp [Act.eval, Act.put]; done) (by simp [Act.eval, Act.put]; done) (hcp1 _ (c - (k + 1)) (c - k)) ?_)
  go_wp2_with (at_builtin; refine wpl_copy _ rfl _ _ 31 31 rfl _ _ rfl rfl (hcp2 _ _) ?_)
  go_ret
  exact ⟨_, rfl, hfin.out, .inl ⟨⟨_, _, _, _, rfl, rfl⟩, hbel.out⟩⟩
set_option maxRecDepth 100000 in
set_option maxHeartbeats 4000000 in
theorem x0u (l : List (Cl szOb)) (g c k : Nat) (x : (Cl szOb)) (vb cv base : Nat) (w : World) (HR : RowC 71 w base (.slice (some ⟨g, 0, none⟩) l.length c) l) (hk : k < l.length) (hroom : ¬ (l.length + 1 ≤ c)) {cx : Array Value} {tx : TypeId} (hvb : w.heap[vb]? = some (.cells cx tx (0, 0))) (hcx : ∀ (j : Nat) (u : Value), x.1[j]? = some u → cx[j]? = some u) (hbase : base ≤ w.heap.size) (hlen : l.length ≤ 1000000) :
    Calls Tryz.prog 190 #[.slice (some ⟨g, 0, none⟩) l.length c, .int .i64 k, .slice (some ⟨vb, 0, none⟩) 1 cv] w fun e w' => ∃ v', e = .returned v' ∧ RowC 71 w' base v' (l.take k ++ x :: l.drop k) ∧ Mv w w' (.slice (some ⟨g, 0, none⟩) l.length c) v' := by
  have HR0 := HR
  obtain ⟨_, hcase⟩ := HR0
  rcases hcase with ⟨h0, _⟩ | ⟨g', c', cur, e, hb, hg, hnc, hcm, hcs, htake⟩
  · cases h0
  injection e with ea _ ec
  injection ea with ea
  injection ea with ea
  subst ea; subst ec
  obtain ⟨i, hi, hzz⟩ := Option.map_eq_some_iff.1 infoSlOb
  simp only [Prod.mk.injEq] at hzz
  obtain ⟨n, hn⟩ : ∃ n, n = l.length := ⟨_, rfl⟩
  obtain rfl : c = n := by omega
  have hsz : szOb = 51 := rfl
  have hdr : (flat (l.drop k)).length = (c - k) * 51 := by rw [q5i, List.length_drop, ← hn, hsz]
  have htk : (flat (l.take k)).length = k * 51 := by rw [q5i, List.length_take, Nat.min_eq_left (by omega)]; rfl
  have hgl : g < w.heap.size := blk_lt hg
  have hvl : vb < w.heap.size := blk_lt hvb
  obtain ⟨G, hG⟩ : ∃ G, G = grownCap w (c + 1) c 71 := ⟨_, rfl⟩
  have hGn : c + 1 ≤ G := by rw [hG]; exact grownCap_ge w _ _ _
  have hGm : G ≤ maxLen := by rw [hG]; exact grownCap_le_maxLen w (c + 1) c 71 (by unfold maxLen; omega)
  obtain ⟨ROW, hROW⟩ : ∃ ROW : Array Value, ROW = (flat (l.take k)).toArray ++ Builtin.zeroCells (.agg #[.int .u64 0, .int .i64 0, .slice none 0 0, .int .i64 0, .bool false, .slice none 0 0, .slice none 0 0, .slice none 0 0, .int .u64 0, .int .u64 0, .int .u64 0, .int .u64 0, .int .u64 0, .int .u64 0, .int .u64 0, .int .u64 0, .int .u64 0, .int .u64 0, .int .u64 0, .int .u64 0, .int .u64 0, .int .u64 0, .int .u64 0, .int .u64 0, .int .u64 0, .slice none 0 0, .int .u64 0, .int .u64 0, .int .u64 0, .int .u64 0, .int .i64 0, .int .u64 0, .int .u64 0, .int .u64 0, .int .u64 0, .bool false, .slice none 0 0, .int .u64 0, .int .u64 0, .slice none 0 0, .slice none 0 0, .slice none 0 0, .slice none 0 0, .slice none 0 0, .slice none 0 0, .int .u64 0, .int .u64 0, .int .u64 0, .int .u64 0, .slice none 0 0, .slice none 0 0] : Value).cells (c + 1 - k) ++ Builtin.zeroCells (.agg #[.int .u64 0, .int .i64 0, .slice none 0 0, .int .i64 0, .bool false, .slice none 0 0, .slice none 0 0, .slice none 0 0, .int .u64 0, .int .u64 0, .int .u64 0, .int .u64 0, .int .u64 0, .int .u64 0, .int .u64 0, .int .u64 0, .int .u64 0, .int .u64 0, .int .u64 0, .int .u64 0, .int .u64 0, .int .u64 0, .int .u64 0, .int .u64 0, .int .u64 0, .slice none 0 0, .int .u64 0, .int .u64 0, .int .u64 0, .int .u64 0, .int .i64 0, .int .u64 0, .int .u64 0, .int .u64 0, .int .u64 0, .bool false, .slice none 0 0, .int .u64 0, .int .u64 0, .slice none 0 0, .slice none 0 0, .slice none 0 0, .slice none 0 0, .slice none 0 0, .slice none 0 0, .int .u64 0, .int .u64 0, .int .u64 0, .int .u64 0, .slice none 0 0, .slice none 0 0] : Value).cells (G - (c + 1)) := ⟨_, rfl⟩
  have hzsz : (.agg #[.int .u64 0, .int .i64 0, .slice none 0 0, .int .i64 0, .bool false, .slice none 0 0, .slice none 0 0, .slice none 0 0, .int .u64 0, .int .u64 0, .int .u64 0, .int .u64 0, .int .u64 0, .int .u64 0, .int .u64 0, .int .u64 0, .int .u64 0, .int .u64 0, .int .u64 0, .int .u64 0, .int .u64 0, .int .u64 0, .int .u64 0, .int .u64 0, .int .u64 0, .slice none 0 0, .int .u64 0, .int .u64 0, .int .u64 0, .int .u64 0, .int .i64 0, .int .u64 0, .int .u64 0, .int .u64 0, .int .u64 0, .bool false, .slice none 0 0, .int .u64 0, .int .u64 0, .slice none 0 0, .slice none 0 0, .slice none 0 0, .slice none 0 0, .slice none 0 0, .slice none 0 0, .int .u64 0, .int .u64 0, .int .u64 0, .int .u64 0, .slice none 0 0, .slice none 0 0] : Value).cells.size = 51 := rfl
  have hRs : ROW.toList.length = G * szOb := by
    rw [hROW, Array.length_toList]
    simp only [Array.size_append, List.size_toArray, size_zeroCells, htk, hzsz, ← Nat.add_mul, hsz]
    congr 1; omega
  have hRt : ROW.toList.take (k * szOb) = flat (l.take k) := by
    show ROW.toList.take (k * 51) = flat (l.take k)
    rw [hROW]
    simp only [Array.toList_append, List.append_assoc]
    exact List.take_left' htk
  have hrz : ∀ ty, (Builtin.append_ #[31, 3] ty #[.slice (some ⟨g, 0, none⟩) k c, .int .i64 ((c : Int) + 1 - (k : Int))]).run Tryz.prog w =
      .ok (.slice (some ⟨w.heap.size, 0, none⟩) (c + 1) G) (w.drew.alloc (.cells ROW 71)) := fun ty => by
    have hold : (Builtin.firstCells i.size k (.slice (some ⟨g, 0, none⟩) k c)).run Tryz.prog w.drew = .ok (flat (l.take k)).toArray w.drew := by
      rw [hzz.2.1]
      exact run_firstCells_some w.drew 51 k ⟨g, 0, none⟩ k c (flat (l.take k)) htk (fun j u hj => by
        rw [Addr.add_lit, Nat.zero_add, cell_of_row _ g _ cur _ _ (show w.drew.heap[g]? = some (.cells cur 71 (0, 0)) from hg)]
        rw [← flat_take l k (by omega), ← htake, List.take_take, List.getElem?_take] at hj
        split at hj
        · rw [Array.getElem?_toList] at hj
          exact hj
        · cases hj)
    have hkk : (c : Int) + 1 - (k : Int) = ((c + 1 - k : Nat) : Int) := by omega
    have hik : k + (c + 1 - k) = c + 1 := by omega
    have h := Lib.run_append_grow_zeros w 31 3 ty 71 i _ .i64 .i64 Tryz.underlying31 Tryz.underlying3 hi hzz.1 (some ⟨g, 0, none⟩) k c (flat (l.take k)) hold (c + 1 - k) (by omega) (by rw [hzz.2.1]; decide) (by omega) (by omega) (by rw [hzz.2.2]; omega) (by rw [hzz.2.2, hik]; exact growslice_fits (by omega) (by omega))
    rw [hik, ← hG, ← hROW] at h
    rw [hkk]
    exact h
  obtain ⟨cur1, h1⟩ : ∃ cur1, cur1 = ROW.toList.take (k * szOb) ++ x.1 ++ ROW.toList.drop (k * szOb + x.1.length) := ⟨_, rfl⟩
  obtain ⟨cur2, h2⟩ : ∃ cur2, cur2 = cur1.take ((k + 1) * szOb) ++ flat (l.drop k) ++ cur1.drop ((k + 1) * szOb + (flat (l.drop k)).length) := ⟨_, rfl⟩
  have hD := grown_cells (row := ROW.toList) (l := l) (cap := G) (k := k) hRs (by omega) hk hRt h1 h2
  obtain ⟨W1, hW1⟩ : ∃ W1, W1 = w.drew.alloc (.cells ROW 71) := ⟨_, rfl⟩
  have hgW : W1.heap[w.heap.size]? = some (.cells ROW 71 (0, 0)) := by rw [hW1]; exact heap_alloc_new w.drew _
  have hgg : W1.heap[g]? = some (.cells cur 71 (0, 0)) := by rw [hW1]; exact blk_alloc (show w.drew.heap[g]? = some (.cells cur 71 (0, 0)) from hg) _
  have hgv : W1.heap[vb]? = some (.cells cx tx (0, 0)) := by rw [hW1]; exact blk_alloc (show w.drew.heap[vb]? = some (.cells cx tx (0, 0)) from hvb) _
  have hg1 : ∀ W : World, W.heap = W1.heap → (W.setRow w.heap.size cur1.toArray).heap[w.heap.size]? = some (.cells cur1.toArray 71 (0, 0)) := fun W hW => q9c _ _ ROW _ _ _ (by rw [hW]; exact hgW)
  have hcpA : ∀ W : World, W.heap = W1.heap → ∀ ty dc, (Builtin.copy_ #[31, 31] ty #[.slice (some ⟨w.heap.size, k * 51, none⟩) (c + 1 - k) dc, .slice (some ⟨vb, 0, none⟩) 1 cv]).run Tryz.prog W = .ok (goInt (1 : Nat)) (W.setRow w.heap.size cur1.toArray) := fun W hW ty dc => by
    have hmin : Nat.min 1 (c + 1 - k) = 1 := Nat.min_eq_left (by omega)
    have := copy_row (P := Tryz.prog) W 31 31 ty 71 51 w.heap.size (k * 51) (c + 1 - k) dc ⟨vb, 0, none⟩ 1 cv ROW 71 x.1 Tryz.underlying31 sizeOb (by rw [hW]; exact hgW) (by rw [hmin, Nat.one_mul]; exact x.2.1) (fun j u hj => by
      rw [Addr.add_lit, Nat.zero_add, cell_of_row _ vb _ _ _ _ (by rw [hW]; exact hgv)]
      exact hcx j u hj) (by have : k * 51 + x.1.length ≤ ROW.toList.length := hD.1; rw [Array.length_toList] at this; exact this) (x.2.2)
    rw [hmin] at this
    rw [this, h1]; rfl
  have hcpB : ∀ W : World, W.heap = (W1.setRow w.heap.size cur1.toArray).heap → ∀ ty dc sc, (Builtin.copy_ #[31, 31] ty #[.slice (some ⟨w.heap.size, (k + 1) * 51, none⟩) (c - k) dc, .slice (some ⟨g, k * 51, none⟩) (c - k) sc]).run Tryz.prog W = .ok (goInt (c - k : Nat)) (W.setRow w.heap.size cur2.toArray) := fun W hW ty dc sc => by
    have hmin : Nat.min (c - k) (c - k) = c - k := Nat.min_self _
    have hgB : W.heap[g]? = some (.cells cur 71 (0, 0)) := by rw [hW]; exact (setRow_other _ _ g _ (by omega)).trans hgg
    have := copy_row (P := Tryz.prog) W 31 31 ty 71 51 w.heap.size ((k + 1) * 51) (c - k) dc ⟨g, k * 51, none⟩ (c - k) sc cur1.toArray 71 (flat (l.drop k)) Tryz.underlying31 sizeOb (by rw [hW]; exact hg1 W1 rfl) (by rw [hdr, hmin]) (fun j u hj => by
      rw [Addr.add_lit, cell_of_row _ g _ cur _ _ hgB]
      rw [← flat_drop l k (by omega), ← htake, List.getElem?_drop, List.getElem?_take] at hj
      split at hj
      · rw [Array.getElem?_toList, hsz] at hj
        exact hj
      · cases hj) (by have : (k + 1) * 51 + (flat (l.drop k)).length ≤ cur1.length := hD.2.2.1; simpa using this) (flat_one _)
    rw [hmin] at this
    rw [this, h2]; rfl
  have hfin : Hid (∀ W : World, W.heap = ((W1.setRow w.heap.size cur1.toArray).setRow w.heap.size cur2.toArray).heap → RowC 71 W base (.slice (some ⟨w.heap.size, 0, none⟩) (c + 1) G) (l.take k ++ x :: l.drop k)) := Lib.hid (fun W hW => by
    have hle : (l.take k ++ x :: l.drop k).length = c + 1 := by rw [List.length_append, List.length_cons, List.length_take, List.length_drop]; omega
    have hgF : W.heap[w.heap.size]? = some (.cells cur2.toArray 71 (0, 0)) := by rw [hW]; exact q9c _ _ cur1.toArray _ _ _ (hg1 W1 rfl)
    have := flat_block (xs := l.take k ++ x :: l.drop k) (cap := G) hbase hgF (by omega) hGm (by simpa using hD.2.2.2.1) (by have := hD.2.2.2.2; rw [← hn] at this; rw [hle]; simpa using this)
    have e2 : Value.slice (some ⟨w.heap.size, 0, none⟩) (l.take k ++ x :: l.drop k).length G = .slice (some ⟨w.heap.size, 0, none⟩) (c + 1) G := by rw [hle]
    rw [e2] at this
    exact this)
  have hbel : Hid (Below w.heap.size w ((W1.setRow w.heap.size cur1.toArray).setRow w.heap.size cur2.toArray)) := Lib.hid (by
    rw [hW1]
    have hbA : Below w.heap.size w (w.drew.alloc (.cells ROW 71)) := (Below.refl _ _).drew.alloc (by simp) _
    exact below_setRow (below_setRow hbA _ _ (Nat.le_refl _)) _ _ (Nat.le_refl _))
  have mixed : Tryz.prog.follows Departure.mixedOrders = true := by kernel_rfl
  rw [← hn] at hk hlen ⊢
  have hz2 : ¬ ((k : Int) = (c : Int)) := by omega
  have hzb : ((k : Int) == (c : Int)) = false := beq_eq_false_iff_ne.2 hz2
  have hx1 : (k : Int) ≤ (c : Int) := by omega
  have hx2 : (k : Int) ≤ (c : Int) + 1 := by omega
  have hx3 : (k : Int) + 1 ≤ (c : Int) + 1 := by omega
  have hx4 : (0 : Int) ≤ (k : Int) + 1 := by omega
  have hx5 : (0 : Int) ≤ (c : Int) + 1 := by omega
  have hx8 : (c : Int) < (c : Int) + 1 := by omega
  have hw1 : IntKind.i64.wrap ((k : Int) + 1) = (k : Int) + 1 := by rw [IntKind.wrap_i64]; omega
  have htn : ((k : Int) + 1).toNat = k + 1 := by omega
  have hw2 : IntKind.i64.wrap ((c : Int) + 1) = (c : Int) + 1 := by rw [IntKind.wrap_i64]; omega
  have hw3 : IntKind.i64.wrap ((c : Int) + 1 - (k : Int)) = (c : Int) + 1 - (k : Int) := by rw [IntKind.wrap_i64]; omega
  have hc1 : ¬ (c = k) := by omega
  have hG1 : ¬ (G = k) := by omega
  have hG2 : ¬ (G = k + 1) := by omega
  have hG63 : G ≤ 9223372036854775807 := by simp only [maxLen] at hGm; omega
  subst hW1
  clear HR hb hg hcm hcs htake hD h1 h2 hdr hn hvb hcx hnc hRs hRt hgW hgg hgv hg1 htk hGm hG hROW hzz hi hgl hvl
  have hA : ∀ ty, (Builtin.copy_ #[31, 31] ty #[.slice (some ⟨w.heap.size, k * 51, none⟩) (c + 1 - k) (G - k), .slice (some ⟨vb, 0, none⟩) 1 cv]).run Tryz.prog ((w.alloc (.cells ROW 71)).drew) = .ok (goInt (1 : Nat)) (((w.alloc (.cells ROW 71)).drew).setRow w.heap.size cur1.toArray) := fun ty => hcpA ((w.alloc (.cells ROW 71)).drew) rfl ty (G - k)
  have hB : ∀ ty, (Builtin.copy_ #[31, 31] ty #[.slice (some ⟨w.heap.size, (k + 1) * 51, none⟩) (c - k) (G - (k + 1)), .slice (some ⟨g, k * 51, none⟩) (c - k) (c - k)]).run Tryz.prog (((w.alloc (.cells ROW 71)).drew.setRow w.heap.size cur1.toArray).drew) = .ok (goInt (c - k : Nat)) ((((w.alloc (.cells ROW 71)).drew.setRow w.heap.size cur1.toArray).drew).setRow w.heap.size cur2.toArray) := fun ty => hcpB (((w.alloc (.cells ROW 71)).drew.setRow w.heap.size cur1.toArray).drew) rfl ty (G - (k + 1)) (c - k)
  clear hcpA hcpB
  go_enter Tryz.func190, Tryz.ntmps190
  go_wp2_with (first
    | (at_builtin; refine Lib.wpList_append_run _ rfl _ _ _ _ rfl _ _ rfl rfl _ _ (hrz _) ?_)
    | (at_builtin; refine wpl_copy _ rfl _ _ 31 31 rfl _ _ rfl rfl (hA _) ?_))
  go_region_law_o (refine step_copy rfl _ _ 31 31 rfl _ _ (by simp [Act.eval, Act.put]; done) (by simp [Act.eval, Act.put]; done) (hB _) ?_)
  go_wp2
  go_ret
  exact ⟨_, rfl, hfin.out _ (by rfl), .inr ⟨rfl, hbel.out.os, hbel.out.tape, hbel.out.output, hbel.out.size, hbel.out.block⟩⟩
theorem insertOb_calls (l : List (Cl szOb)) (v : Value) (k : Nat) (x : (Cl szOb)) (vb cv base : Nat) (w : World) (HR : RowC 71 w base v l) (hk : k ≤ l.length) {cx : Array Value} {tx : TypeId} (hvb : w.heap[vb]? = some (.cells cx tx (0, 0))) (hcx : ∀ (j : Nat) (u : Value), x.1[j]? = some u → cx[j]? = some u) (hne : v.ownBlock ≠ some vb) (hbase : base ≤ w.heap.size) (hlen : l.length ≤ 1000000) :
    Calls Tryz.prog 190 #[v, .int .i64 k, .slice (some ⟨vb, 0, none⟩) 1 cv] w fun e w' => ∃ v', e = .returned v' ∧ RowC 71 w' base v' (l.take k ++ x :: l.drop k) ∧ Mv w w' v v' := by
  by_cases he : k = l.length
  · subst he
    rw [List.take_length, List.drop_length]
    exact insertEndOb_calls l v x vb cv base w HR hvb hcx hbase hlen
  · have hk' : k < l.length := by omega
    have HR0 := HR
    obtain ⟨_, hcase⟩ := HR0
    rcases hcase with ⟨_, h0⟩ | ⟨g, c, cur, rfl, _⟩
    · omega
    have hg : vb ≠ g := fun e => hne (by simp [Value.ownBlock, e])
    by_cases hroom : l.length + 1 ≤ c
    · exact x0t l g c k x vb cv base w HR hk' hroom hvb hcx hg hlen
    · exact x0u l g c k x vb cv base w HR hk' hroom hvb hcx hbase hlen
end Go.Proofs.YtoibbedpaaeclaaGreat
end

section
namespace Go.Proofs.YtoibbedpaaeclaaGreat
open Go Go.RowKit
set_option linter.unusedVariables false
set_option linter.unusedSimpArgs false
set_option maxHeartbeats 16000000
set_option maxRecDepth 100000
attribute [go_sem] q1m
attribute [local irreducible] q0i dr q0d Ex.then Ex.inBlock retQ q1n q2d q2c Pure CSat evOp q1i rdOf upd hset strip sp0 cut envL q1g q3i Keep BdL evBs q2n q2s
theorem q7r (l : List Ob) : ∀ e ∈ l.map Ob.enc, e.length = szOb := fun e he => by obtain ⟨y, _, rfl⟩ := List.mem_map.1 he; exact Ob.len y
theorem flat_mlen (l : List Ob) : (l.map Ob.enc).flatten.length = l.length * 51 := by rw [q1w (q7r l), List.length_map]; rfl
theorem flat_mset (l : List Ob) (k : Nat) (x : Ob) (hk : k < l.length) : ((l.set k x).map Ob.enc).flatten = splice (l.map Ob.enc).flatten (k * 51) (Ob.enc x) := by
  induction l generalizing k with
  | nil => simp at hk
  | cons a l ih =>
    cases k with
    | zero =>
      simp only [List.set_cons_zero, List.map_cons, List.flatten_cons, Nat.zero_mul, splice, List.take_zero, List.nil_append, Nat.zero_add]
      rw [List.drop_left' (by rw [Ob.len, Ob.len])]
    | succ k =>
      have := ih k (by simpa using hk)
      simp only [List.set_cons_succ, List.map_cons, List.flatten_cons, this]
      have e : (Ob.enc a).length = 51 := Ob.len a
      have h1 : ∀ (R : List PV), (Ob.enc a ++ R).take ((k + 1) * 51) = Ob.enc a ++ R.take (k * 51) := fun R => by
        rw [List.take_append, List.take_of_length_le (by rw [e]; omega), e, show (k + 1) * 51 - 51 = k * 51 by omega]
      have h2 : ∀ (R : List PV), (Ob.enc a ++ R).drop ((k + 1) * 51 + (Ob.enc x).length) = R.drop (k * 51 + (Ob.enc x).length) := fun R => by
        rw [List.drop_append, List.drop_eq_nil_of_le (by rw [e]; omega), e, show (k + 1) * 51 + (Ob.enc x).length - 51 = k * 51 + (Ob.enc x).length by omega, List.nil_append]
      unfold splice
      rw [h1, h2]
      simp only [List.append_assoc]
theorem ins_ob {fn : FuncId} (hins : InsertC Tryz.prog fn 71 szOb) {l : List Ob} {k : Nat} (hk : k ≤ l.length) (x : Ob) (hl : l.length ≤ 1000000) {H : Heap} {m id ix e1 z1 : Nat} (hid : H id = some (.box (l.map Ob.enc).flatten)) (hix : H ix = some (.box [Ob.enc x].flatten)) (hne : ix ≠ id) :
    CSat Tryz.prog fn [.bs id l.length 71 szOb, .int .i64 k, .bs ix 1 e1 z1] H m (fun out H' m' =>
      (out = .ret (.bs id ((l.take k ++ x :: l.drop k).length) 71 szOb) ∧ H' = hset H id (some (.box ((l.take k ++ x :: l.drop k).map Ob.enc).flatten)) ∧ m' = m) ∨
      (out = .ret (.bs m ((l.take k ++ x :: l.drop k).length) 71 szOb) ∧ H' = hset H m (some (.box ((l.take k ++ x :: l.drop k).map Ob.enc).flatten)) ∧ m' = m + 1)) := by
  have := insert_csat hins (els := l.map Ob.enc) (q7r l) (by simpa using hl) (k := k) (by simpa using hk) (xe := [Ob.enc x].flatten) (by simp only [List.flatten_cons, List.flatten_nil, List.append_nil]; exact Ob.len x) (m := m) (e1 := e1) (z1 := z1) hid hix hne
  have e : (l.map Ob.enc).take k ++ [Ob.enc x].flatten :: (l.map Ob.enc).drop k = (l.take k ++ x :: l.drop k).map Ob.enc := by simp
  rw [e, List.length_map, List.length_map] at this
  exact this
theorem obj_with (l : List Ob) (x : Ob) (hl : l.length ≤ 1000000) (hs : RisO l) : Pure Tryz.prog 131 [.agg (Ls.enc (LsO l)), .agg (Ob.enc x)] (.sl ((withL l x).map Ob.enc)) := by
  have hat := obj_at l x.id hl hs
  have hcl : CloneC Tryz.prog 189 71 szOb := cloneOb_calls
  have hins : InsertC Tryz.prog 190 71 szOb := fun l v k x vb cv base w h1 h2 {cx tx} h3 h4 h5 h6 h7 => insertOb_calls l v k x vb cv base w h1 h2 h3 h4 h5 h6 h7
  have hpl := pos_le l x.id
  cases hh : hitO l x.id with
  | true =>
    rw [hh] at hat
    obtain ⟨y, hy, hyid, hk⟩ := hit_lt hh
    have hw : withL l x = l.set (posO l x.id) x := by unfold withL; rw [if_pos hh]
    rw [hw]
    clear hh hw
    refine pureF (by kernel_rfl) (by simp only [go_sem, *]) Tryz.func131 Tryz.results131 rfl (by simp [Tryz.ntmps131]) (by kernel_rfl) ?_
    repeat' (first | (show q0i ..; first | refine q0c ?_ | refine q0e rfl ?_) | (show q0k ..; first | refine q0f rfl rfl ?_ | refine q0l rfl ?_) | (show goOn ..; first | refine q0g ?_ | refine q1d ?_) | (show dr ..; first | refine q1y ?_ | refine dr_n rfl ?_) | (show drGo ..; first | refine q2t rfl ?_ | refine q2k rfl ?_) | (show drOn ..; refine q1z ?_) | (show q2e ..; (refine q1f (r := ?_) ?_ ?_; rotate_left 1; (focus first | exact obj_idOf _ | exact hat))) | (refine And.intro (by kernel_rfl : q1n _ = true) ?_) | (show q0d ..; first | refine q0h ?_ | refine q0b ?_ | refine q1o (by kernel_rfl) ?_) | refine q0a ?_)
    (refine q0w (by kernel_rfl) (clone_csat hcl (els := l.map Ob.enc) (q7r l) (by simpa using hl) _ _) ?_ ?_)
    case refine_2 => rintro p H' m' (⟨_, h, _⟩ | ⟨h, _⟩) <;> cases h
    rintro r H' m' (⟨hnil, _⟩ | ⟨h, rfl, rfl⟩)
    · have : l = [] := by simpa using hnil
      subst this; simp at hk
    · cases h
      have h1 : ((posO l x.id : Int) < (l.length : Int)) = True := eq_true (by omega)
      have h2 : (posO l x.id * 51 + 51 ≤ ((l.map Ob.enc).flatten).length) = True := eq_true (by rw [flat_mlen]; omega)
      repeat' (first | (show q0i ..; first | refine q0c ?_ | refine q0e rfl ?_) | (show q0k ..; refine q0f rfl rfl ?_) | (show goOn ..; first | refine q0g ?_ | refine q1x ?_) | (show q2w ..; refine q1h ?_) | (show q0d ..; first | refine q0h ?_ | refine q0b ?_ | refine q0t ?_ | refine q0j ?_) | (show q0o ..; refine cd_t ?_) | refine q0a ?_ | refine q2j ?_ | (show retQ ..; refine q0u ?_) | refine q0n ?_)
      refine ⟨_, rfl, fz_bs szOb (by (try simp only [go_sem]); try rfl) (by rw [List.length_map, List.length_set]) (q7r _) (flat_mset _ _ _ hk) (by simp only [go_sem])⟩
  | false =>
    rw [hh] at hat
    have hw : withL l x = l.take (posO l x.id) ++ x :: l.drop (posO l x.id) := by unfold withL; rw [if_neg (by rw [hh]; simp)]
    rw [hw]
    clear hh hw
    refine pureF (by kernel_rfl) (by simp only [go_sem, *]) Tryz.func131 Tryz.results131 rfl (by simp [Tryz.ntmps131]) (by kernel_rfl) ?_
    repeat' (first | (show q0i ..; first | refine q0c ?_ | refine q0e rfl ?_) | (show q0k ..; first | refine q0f rfl rfl ?_ | refine q0l rfl ?_) | (show goOn ..; first | refine q0g ?_ | refine q1d ?_) | (show dr ..; first | refine q1y ?_ | refine dr_n rfl ?_) | (show drGo ..; first | refine q2t rfl ?_ | refine q2k rfl ?_) | (show drOn ..; refine q1z ?_) | (show q2e ..; (refine q1f (r := ?_) ?_ ?_; rotate_left 1; (focus first | exact obj_idOf _ | exact hat))) | (refine And.intro (by kernel_rfl : q1n _ = true) ?_) | (show q0d ..; first | refine q0h ?_ | refine q0b ?_ | refine q1o (by kernel_rfl) ?_) | refine q0a ?_)
    (refine q0w (by kernel_rfl) (clone_csat hcl (els := l.map Ob.enc) (q7r l) (by simpa using hl) _ _) ?_ ?_)
    case refine_2 => rintro p H' m' (⟨_, h, _⟩ | ⟨h, _⟩) <;> cases h
    rintro r H' m' (⟨hnil, h, rfl, rfl⟩ | ⟨h, rfl, rfl⟩)
    · cases h
      have : l = [] := by simpa using hnil
      subst this
      have hp0 : posO ([] : List Ob) x.id = 0 := rfl
      repeat' (first | (show q0i ..; first | refine q0c ?_ | refine q0e rfl ?_) | (show q0k ..; first | (refine run_bs rfl rfl ?_; first | refine q1d ?_ | (refine q1x ?_; refine q1h ?_)) | refine q0f rfl rfl ?_ | refine q0l rfl ?_) | (show goOn ..; refine q0g ?_) | (show q0d ..; first | refine q0h ?_ | refine q0b ?_ | refine q0s ?_ | refine q0j ?_) | (show q0o ..; refine cd_f ?_) | refine q0a ?_)
      (refine q0w (by kernel_rfl) (insert0_csat hins (xe := [Ob.enc x].flatten) (by simp only [List.flatten_cons, List.flatten_nil, List.append_nil]; exact Ob.len x) (by simp only [go_sem])) ?_ ?_)
      case refine_2 => rintro p H' m' ⟨h, _⟩; cases h
      rintro r H' m' ⟨h, rfl, rfl⟩
      cases h
      repeat' (first | (show q0i ..; first | refine q0c ?_ | refine q0e rfl ?_) | (show q0k ..; refine q0f rfl rfl ?_) | (show goOn ..; refine q0g ?_) | (show q0d ..; refine q0t ?_) | refine q0a ?_ | (show retQ ..; refine q0u ?_) | refine q0n ?_)
      refine ⟨_, rfl, fz_bs szOb (by (try simp only [go_sem]); try rfl) (by simp) (q7r _) (by simp) (by simp only [go_sem])⟩
    · cases h
      repeat' (first | (show q0i ..; first | refine q0c ?_ | refine q0e rfl ?_) | (show q0k ..; first | (refine run_bs rfl rfl ?_; first | refine q1d ?_ | (refine q1x ?_; refine q1h ?_)) | refine q0f rfl rfl ?_ | refine q0l rfl ?_) | (show goOn ..; refine q0g ?_) | (show q0d ..; first | refine q0h ?_ | refine q0b ?_ | refine q0s ?_ | refine q0j ?_) | (show q0o ..; refine cd_f ?_) | refine q0a ?_)
      (refine q0w (by kernel_rfl) (ins_ob hins hpl x hl (id := 2) (ix := 3) (by simp only [go_sem]) (by simp only [go_sem]) (by decide)) ?_ ?_)
      case refine_2 => rintro p H' m' (⟨h, _⟩ | ⟨h, _⟩) <;> cases h
      rintro r H' m' (⟨h, rfl, rfl⟩ | ⟨h, rfl, rfl⟩)
      all_goals cases h
      all_goals repeat' (first | (show q0i ..; first | refine q0c ?_ | refine q0e rfl ?_) | (show q0k ..; refine q0f rfl rfl ?_) | (show goOn ..; refine q0g ?_) | (show q0d ..; refine q0t ?_) | refine q0a ?_ | (show retQ ..; refine q0u ?_) | refine q0n ?_)
      all_goals (refine ⟨_, rfl, fz_bs szOb (by (try simp only [go_sem]); try rfl) (by simp) (q7r _) (by simp) (by simp only [go_sem])⟩)
theorem obj_put (w : Wd) (o : Ob) (hl : w.objects.length ≤ 1000000) (hs : RisO w.objects) : Pure Tryz.prog 75 [.agg (Wd.enc w), .agg (Ob.enc o)] (.agg (Wd.enc (putW w o))) := by
  have hw := obj_with w.objects o hl hs
  refine q2p (by kernel_rfl) (by simp only [go_sem, *]) (by simp only [go_sem, *]) Tryz.func75 Tryz.results75 rfl (by simp [Tryz.ntmps75]) (by kernel_rfl) ?_
  repeat' (first | (show q0i ..; first | refine q0c ?_ | refine q0e rfl ?_) | (show q0k ..; refine q0f rfl rfl ?_) | (show goOn ..; first | refine q0g ?_ | refine q1d ?_ | refine q1x ?_) | (show q2w ..; refine q1h ?_) | (show dr ..; first | refine q1y ?_ | refine dr_n rfl ?_) | (show drGo ..; first | refine q2t rfl ?_ | refine q2k rfl ?_) | (show drOn ..; refine q1z ?_) | (show q2e ..; (refine q1f (r := ?_) ?_ ?_; rotate_left 1; (focus first | exact x0h _ | exact hw))) | (refine And.intro (by kernel_rfl : q1n _ = true) ?_) | (show q0d ..; first | refine q0h ?_ | refine q0b ?_ | refine q1o (by kernel_rfl) ?_ | refine q0t ?_ | refine q0s ?_ | refine q0j ?_) | (show q0o ..; refine cd_b (fun _ => ?_) (fun _ => ?_)) | refine q0a ?_ | (show retQ ..; refine q0u ?_) | refine q0n ?_)
  all_goals (rename_i hc; unfold putW; rw [hc]; rfl)
end Go.Proofs.YtoibbedpaaeclaaGreat
end

section
namespace Go.Proofs.YtoibbedpaaeclaaGreat
open Go Go.RowKit
set_option linter.unusedVariables false
set_option linter.unusedSimpArgs false
set_option maxHeartbeats 16000000
set_option maxRecDepth 100000
def ownL : List Pr := [⟨7, 0⟩]
@[go_sem high] theorem bs_own : q2r Tryz.prog 26 1 [(0, .agg (Pr.enc ⟨7, 0⟩))] = some (.sl (List.map Pr.enc ownL)) := by kernel_rfl
attribute [local irreducible] q0i dr q0d Ex.then Ex.inBlock retQ q1n q2d q2c Pure CSat evOp q1i rdOf upd hset strip sp0 cut envL q1g q3i Keep BdL evBs q2n q2s
end Go.Proofs.YtoibbedpaaeclaaGreat
end

section
namespace Go.Proofs.YtoibbedpaaeclaaGreat
open Go Go.RowKit
set_option linter.unusedVariables false
set_option linter.unusedSimpArgs false
set_option maxHeartbeats 16000000
set_option maxRecDepth 100000
attribute [local irreducible] q0i dr q0d Ex.then Ex.inBlock retQ q1n q2d q2c Pure CSat evOp q1i rdOf upd hset strip sp0 cut envL q1g q3i Keep BdL evBs q2n q2s
end Go.Proofs.YtoibbedpaaeclaaGreat
end

section
namespace Go.Proofs.YtoibbedpaaeclaaGreat
open Go Go.RowKit
set_option linter.unusedVariables false
set_option linter.unusedSimpArgs false
set_option maxHeartbeats 16000000
set_option maxRecDepth 100000
def Wd.ins (w : Wd) (o : Ob) : Wd := { w with objects := insR o w.objects }
theorem ins_ris {w : Wd} (h : RisO w.objects) (o : Ob) : RisO (w.ins o).objects := insR_ris h
theorem ins_len (w : Wd) (o : Ob) : (w.ins o).objects.length ≤ w.objects.length + 1 := insR_len o _
theorem ins_L {w : Wd} (h : w.L) {o : Ob} (ho : o.L) (hl : o.label.length ≤ 900000) (hn : w.objects.length ≤ 100000) : (w.ins o).L := by
  refine ⟨by have := ins_len w o; omega, fun x hx => ?_⟩
  rcases insR_mem hx with rfl | hx
  · exact ⟨ho, hl⟩
  · exact h.2 x hx
theorem put_c (w : Wd) (o : Ob) (hr : RisO w.objects) (hl : w.objects.length ≤ 1000) : Pure Tryz.prog 75 [.agg (Wd.enc w), .agg (Ob.enc o)] (.agg (Wd.enc (w.ins o))) := by
  have := obj_put w o (by omega) hr
  rw [(putW_eq hr hl).1] at this; exact this
theorem same_c {a b : Wd} (ha : a.L) (h : a = b) : Pure Tryz.prog 28 [.agg (Wd.enc a), .agg (Wd.enc b)] (.bool true) := by
  subst h
  have := r13_sameW a a ha
  rw [sameWd_refl] at this; exact this
attribute [local irreducible] q0i dr q0d Ex.then Ex.inBlock retQ q1n q2d q2c Pure CSat evOp q1i rdOf upd hset strip sp0 cut envL q1g q3i Keep BdL evBs q2n q2s
end Go.Proofs.YtoibbedpaaeclaaGreat
end

section
namespace Go.Proofs.YtoibbedpaaeclaaGreat
open Go Go.RowKit
set_option linter.unusedVariables false
set_option linter.unusedSimpArgs false
def hd (x : Ob) : Ob := { Ob.zero with id := x.id, kind := x.kind, label := x.label, quota := x.quota, fixed := x.fixed, links := x.links, data := List.replicate x.data.length 0, thread := { Th.zero with span := x.thread.span } }
theorem allB_congr {n : Nat} {f g : Nat → Bool} (h : ∀ k, f k = g k) : allB n f = allB n g := by
  have : f = g := funext h
  rw [this]
noncomputable def treeR (w : Wd) : Bool := (q2i w w.root).2 && (allB w.objects.length (q8j w) && q7f w)
theorem fitW_eq (w : Wd) : fitW w = (q6q w && treeR w) := by
  unfold fitW treeR
  rw [Bool.and_assoc]
theorem q5w {w : Wd} (hw : q6q w = true) {o : Ob} (ho : o ∈ w.objects) : sound o = true := (q5q hw).2.1 o ho
theorem fnd_mem : ∀ {l : List Ob} {x : Ob}, RisO l → x ∈ l → fnd l x.id = some x
  | [], _, _, h => by cases h
  | y :: l, x, hr, h => by
    rw [q6w]
    rcases List.mem_cons.1 h with rfl | h
    · rw [if_pos rfl]
    · have := hr.head x h
      rw [if_neg (by omega), fnd_mem hr.tail h]
theorem x0v {o p : Ob} : ∀ {l : List Ob}, RisO l → o ∈ l → p.id = o.id → insR p l = l.map fun x => if x.id = o.id then p else x
  | [], _, h, _ => by cases h
  | x :: l, hr, ho, hp => by
    have same : ∀ k : List Ob, (∀ y ∈ k, o.id < y.id) → (k.map fun x => if x.id = o.id then p else x) = k := fun k hk => by
      induction k with
      | nil => rfl
      | cons y k ih =>
        have hy := hk y (by simp)
        rw [List.map_cons, ih (fun z hz => hk z (by simp [hz])), if_neg (by omega)]
    rw [List.map_cons]
    unfold insR
    rcases List.mem_cons.1 ho with rfl | ho
    · rw [if_neg (by omega), if_pos hp.symm, if_pos rfl, same l hr.head]
    · have := hr.head o ho
      rw [if_pos (by omega), if_neg (by omega), x0v hr.tail ho hp]
end Go.Proofs.YtoibbedpaaeclaaGreat
end

section
namespace Go.Proofs.YtoibbedpaaeclaaGreat
open Go Go.RowKit
set_option linter.unusedVariables false
set_option linter.unusedSimpArgs false
section
variable {w x : Wd} {ρ : Ob → Ob}
end
theorem id_eq {w : Wd} (hr : RisO w.objects) {a b : Ob} (ha : a ∈ w.objects) (hb : b ∈ w.objects) (h : a.id = b.id) : a = b := by
  have h1 := fnd_mem hr ha
  have h2 := fnd_mem hr hb
  rw [h, h2] at h1
  cases h1; rfl
theorem sound_pos {o : Ob} (h : sound o = true) : 1 ≤ o.id := by
  unfold sound q6j at h
  simp only [Bool.and_eq_true] at h
  have := h.1.1
  unfold idOk at this
  simp only [Bool.and_eq_true, decide_eq_true_eq] at this
  omega
end Go.Proofs.YtoibbedpaaeclaaGreat
end

section
namespace Go.Proofs.YtoibbedpaaeclaaGreat
open Go Go.RowKit
set_option linter.unusedVariables false
set_option linter.unusedSimpArgs false
def hl (x : Ob) : Ob := { Ob.zero with id := x.id, kind := x.kind, quota := x.quota, fixed := x.fixed, links := x.links, data := List.replicate x.data.length 0, thread := { Th.zero with span := x.thread.span } }
def hlW (w : Wd) : Wd := { w with time := 0, objects := w.objects.map hl }
theorem hl_pages (x : Ob) : pagesR (hl x) = pagesR x := by
  unfold pagesR hl
  simp only [List.length_replicate]
theorem hl_find (w : Wd) (id : Int) : q2i (hlW w) id = (hl (q2i w id).1, (q2i w id).2) := by
  have e : (hlW w).objects.find? (fun x => x.id == id) = (w.objects.find? (fun x => x.id == id)).map hl := by
    show (w.objects.map hl).find? _ = _
    rw [List.find?_map]; rfl
  unfold q2i
  rw [e]
  cases w.objects.find? (fun x => x.id == id) with
  | none => rfl
  | some x => rfl
theorem hl_holders (w : Wd) (id : Int) : q2y (hlW w) id = q2y w id := by
  unfold q2y
  show ((w.objects.map hl).filter _).map Ob.id = _
  rw [List.filter_map, List.map_map]; rfl
theorem hl_aboveG (w : Wd) : ∀ (f : Nat) (id : Int) (out : List Int), q8z (hlW w) f id out = q8z w f id out
  | 0, _, _ => rfl
  | f + 1, id, out => by
    unfold q8z
    rw [hl_holders]
    cases q2y w id with
    | nil => rfl
    | cons h t => exact hl_aboveG w f h (out ++ [h])
theorem hl_above (w : Wd) (id : Int) : above (hlW w) id = above w id := by
  unfold above
  rw [hl_aboveG]
  show q8z w ((w.objects.map hl).length + 1) id [] = _
  rw [List.length_map]
theorem hl_up (w : Wd) (id : Int) : upR (hlW w) id = upR w id := by
  unfold upR
  rw [hl_above]; rfl
theorem hl_placed (w : Wd) (o : Ob) : q8n (hlW w) (hl o) = q8n w o := by
  unfold q8n
  rw [hl_holders, hl_up]; rfl
theorem hl_uses (w : Wd) (o : Ob) : usesR (hlW w) (hl o) = usesR w o := by
  unfold usesR
  rw [hl_pages]
  show List.foldl _ _ o.links = _
  congr 1
  funext s id
  rw [hl_find]; rfl
theorem hl_spanOk (w : Wd) (t : Ob) (i : Int) (k : Nat) : q9v (hlW w) (hl t) i k = q9v w t i k := by
  unfold q9v
  show (match (w.objects.map hl)[k]? with | some o => !(hasZ w.key (hl t).thread.span o.id || ((o.kind == 4) && (((k : Int) != i) && !apartZ (hl t).thread.span o.thread.span))) | none => true) = _
  rw [List.getElem?_map]
  cases w.objects[k]? with
  | none => rfl
  | some x => rfl
theorem hl_spanAt (w : Wd) (i : Nat) : q8l (hlW w) i = q8l w i := by
  unfold q8l
  show (match (w.objects.map hl)[i]? with | some t => if (t.kind == 4) = true then allB (w.objects.map hl).length (q9v (hlW w) t i) else true | none => true) = _
  rw [List.getElem?_map, List.length_map]
  cases w.objects[i]? with
  | none => rfl
  | some x => simp only [Option.map_some]; rw [allB_congr (hl_spanOk w x i)]; rfl
theorem hl_spans (w : Wd) : q7f (hlW w) = q7f w := by
  unfold q7f
  rw [allB_congr (hl_spanAt w)]
  show allB (w.objects.map hl).length _ = _
  rw [List.length_map]
theorem allB_at {n k : Nat} {f : Nat → Bool} (h : allB n f = true) (hk : k < n) : f k = true := allB_iff.1 h k hk
theorem hl_at {w y : Wd} (h : hlW y = hlW w) {k : Nat} {z' : Ob} (hz : y.objects[k]? = some z') : ∃ z, w.objects[k]? = some z ∧ hl z' = hl z := by
  have h1 : (y.objects.map hl)[k]? = (w.objects.map hl)[k]? := by
    have := congrArg Wd.objects h
    exact congrArg (fun l : List Ob => l[k]?) this
  rw [List.getElem?_map, List.getElem?_map, hz] at h1
  cases hw : w.objects[k]? with
  | none => rw [hw] at h1; cases h1
  | some z => rw [hw] at h1; exact ⟨z, rfl, Option.some.inj h1⟩
theorem hl_links {a b : Ob} (h : hl a = hl b) : a.links = b.links := (congrArg Ob.links h : (hl a).links = (hl b).links)
theorem hl_kind {a b : Ob} (h : hl a = hl b) : a.kind = b.kind := (congrArg Ob.kind h : (hl a).kind = (hl b).kind)
theorem hl_quota {a b : Ob} (h : hl a = hl b) : a.quota = b.quota := (congrArg Ob.quota h : (hl a).quota = (hl b).quota)
theorem hl_id {a b : Ob} (h : hl a = hl b) : a.id = b.id := (congrArg Ob.id h : (hl a).id = (hl b).id)
theorem tree_relab {w y : Wd} (h : hlW y = hlW w) (ht : treeR w = true) (hp : ∀ (k : Nat) (z' : Ob), y.objects[k]? = some z' → ∀ (j : Nat) (id : Int), z'.links[j]? = some id → q7i z'.label (q2i y id).1.label = true) : treeR y = true := by
  have hroot : y.root = w.root := (congrArg Wd.root h : (hlW y).root = (hlW w).root)
  have hf2 : ∀ id, (q2i y id).2 = (q2i w id).2 := fun id => by
    have h1 := congrArg Prod.snd (hl_find y id)
    have h2 := congrArg Prod.snd (hl_find w id)
    rw [h] at h1
    rw [h1] at h2
    exact h2
  unfold treeR at ht ⊢
  simp only [Bool.and_eq_true] at ht ⊢
  obtain ⟨h1, h2, h3⟩ := ht
  refine ⟨by rw [hroot, hf2]; exact h1, q2m fun k hk => ?_, by rw [← hl_spans, h, hl_spans]; exact h3⟩
  obtain ⟨z', hz'⟩ := q2b hk
  obtain ⟨z, hz, e⟩ := hl_at h hz'
  have ha := allB_at h2 (q3w hz)
  unfold q8j at ha ⊢
  rw [hz] at ha
  rw [hz']
  simp only [Bool.and_eq_true] at ha ⊢
  obtain ⟨a1, a2⟩ := ha
  refine ⟨?_, by rw [← hl_placed, h, e, hl_placed]; exact a2⟩
  unfold q9x at a1 ⊢
  simp only [Bool.and_eq_true] at a1 ⊢
  refine ⟨q2m fun j hj => ?_, by rw [← hl_uses, h, e, hl_uses, hl_kind e, hl_quota e]; exact a1.2⟩
  rw [hl_links e] at hj
  have b1 := allB_at a1.1 hj
  unfold q7v at b1 ⊢
  obtain ⟨id, hid⟩ := q2b hj
  rw [hid] at b1
  rw [hl_links e, hid]
  simp only [Bool.and_eq_true] at b1 ⊢
  exact ⟨by rw [hf2]; exact b1.1, hp k z' hz' j id (by rw [hl_links e]; exact hid)⟩
/-- One object with another label: it links nothing itself, and may lie where it lies. -/
theorem lab_fit {w : Wd} {o p : Ob} (hw : fitW w = true) (ho : o ∈ w.objects) (e : hl p = hl o) (hn : o.links = []) (hs : sound p = true) (hpl : ∀ d ∈ w.objects, o.id ∈ d.links → q7i d.label p.label = true) : fitW (w.ins p) = true := by
  have hwd := q7o hw
  obtain ⟨h1, h2, h3, h4, h5⟩ := q5q hwd
  have hid : p.id = o.id := hl_id e
  have hobj : (w.ins p).objects = w.objects.map fun x => if x.id = o.id then p else x := x0v h1 ho hid
  have hone : ∀ x ∈ w.objects, x.id = o.id → x = o := fun x hx h => id_eq h1 hx ho h
  have hhl : hlW (w.ins p) = hlW w := by
    unfold hlW
    rw [hobj, List.map_map]
    show ({ w with time := 0, objects := _ } : Wd) = _
    congr 1
    refine List.map_congr_left fun x hx => ?_
    simp only [Function.comp]
    by_cases h : x.id = o.id
    · rw [if_pos h, e, hone x hx h]
    · rw [if_neg h]
  have hfind : ∀ id, q2i (w.ins p) id = if id = o.id then (p, true) else q2i w id := fun id => by
    unfold q2i
    rw [hobj, List.find?_map]
    by_cases h : id = o.id
    · rw [if_pos h]
      have : w.objects.find? ((fun x : Ob => x.id == id) ∘ fun x => if x.id = o.id then p else x) = some o := by
        rw [List.find?_eq_some_iff_getElem]
        obtain ⟨k, hk⟩ := List.getElem?_of_mem ho
        have hkl := q3w hk
        have hke : w.objects[k] = o := by rw [List.getElem?_eq_getElem hkl] at hk; exact Option.some.inj hk
        refine ⟨by simp [Function.comp, hid, h], k, hkl, hke, fun j hj => ?_⟩
        have hne : (w.objects[j]'(by omega)).id ≠ o.id := fun hc => by
          have := h1 j k _ _ (List.getElem?_eq_getElem (by omega)) hk hj
          omega
        simp [Function.comp, hne, h]
      rw [this]
      simp
    · rw [if_neg h]
      have : w.objects.find? ((fun x : Ob => x.id == id) ∘ fun x => if x.id = o.id then p else x) = w.objects.find? (fun x => x.id == id) := by
        congr 1
        funext x
        simp only [Function.comp]
        by_cases hx : x.id = o.id
        · rw [if_pos hx, hid, hx]
        · rw [if_neg hx]
      rw [this]
      cases hq : w.objects.find? (fun x => x.id == id) with
      | none => rfl
      | some x =>
        have hx : x.id = id := by simpa using List.find?_some hq
        simp only [Option.map_some]
        rw [if_neg (by omega)]
  rw [fitW_eq, Bool.and_eq_true] at hw ⊢
  refine ⟨ris_fit (ins_ris h1 p) (fun y hy => ?_) (by rw [hobj, List.length_map]; exact h3) h4 h5, tree_relab hhl hw.2 fun k z' hz' j id hj => ?_⟩
  · rw [hobj] at hy
    obtain ⟨z, hz, rfl⟩ := List.mem_map.1 hy
    by_cases h : z.id = o.id
    · rw [if_pos h]; exact hs
    · rw [if_neg h]; exact h2 z hz
  · rw [hobj, List.getElem?_map] at hz'
    cases hz : w.objects[k]? with
    | none => rw [hz] at hz'; cases hz'
    | some z =>
      rw [hz] at hz'
      have hzm := List.mem_of_getElem? hz
      simp only [Option.map_some, Option.some.injEq] at hz'
      by_cases h : z.id = o.id
      · rw [if_pos h] at hz'
        subst hz'
        rw [hl_links e, hn] at hj
        simp at hj
      · rw [if_neg h] at hz'
        subst hz'
        rw [hfind]
        by_cases hi : id = o.id
        · rw [if_pos hi]
          subst hi
          exact hpl z hzm (List.mem_of_getElem? hj)
        · rw [if_neg hi]
          have ht := hw.2
          unfold treeR at ht
          simp only [Bool.and_eq_true] at ht
          have ha := allB_at ht.2.1 (q3w hz)
          unfold q8j at ha
          rw [hz] at ha
          simp only [Bool.and_eq_true] at ha
          have hl := ha.1
          unfold q9x at hl
          simp only [Bool.and_eq_true] at hl
          have hb := allB_at hl.1 (q3w hj)
          unfold q7v at hb
          rw [hj] at hb
          simp only [Bool.and_eq_true] at hb
          exact hb.2
end Go.Proofs.YtoibbedpaaeclaaGreat
end

section
namespace Go.Proofs.YtoibbedpaaeclaaGreat
open Go Go.RowKit
set_option linter.unusedVariables false
set_option linter.unusedSimpArgs false
set_option maxHeartbeats 4000000
--BEGIN
section
variable {l A B : List Mp} {m : Mp}
end
--END
end Go.Proofs.YtoibbedpaaeclaaGreat
end

section
namespace Go.Proofs.YtoibbedpaaeclaaGreat
open Go Go.RowKit Go.Shelf
set_option linter.unusedVariables false
set_option linter.unusedSimpArgs false
end Go.Proofs.YtoibbedpaaeclaaGreat
end

section
namespace Go.Proofs.YtoibbedpaaeclaaGreat
open Go Go.RowKit
set_option linter.unusedVariables false
set_option linter.unusedSimpArgs false
set_option maxHeartbeats 16000000
set_option maxRecDepth 100000
section
variable {a b : List PV}
end
attribute [local irreducible] q0i dr q0d Ex.then Ex.inBlock retQ q1n q2d q2c Pure CSat evOp q1i rdOf upd hset strip sp0 cut envL q1g q3i Keep BdL evBs q2n q2s
end Go.Proofs.YtoibbedpaaeclaaGreat
end

section
namespace Go.Proofs.YtoibbedpaaeclaaGreat
open Go Go.RowKit
set_option linter.unusedVariables false
set_option linter.unusedSimpArgs false
set_option maxHeartbeats 16000000
set_option maxRecDepth 100000
attribute [go_sem] q1m
attribute [local irreducible] q0i dr q0d Ex.then Ex.inBlock retQ q1n q2d q2c Pure CSat evOp q1i rdOf upd hset strip sp0 cut envL q1g q3i Keep BdL evBs q2n q2s
end Go.Proofs.YtoibbedpaaeclaaGreat
end

section
namespace Go.Proofs.YtoibbedpaaeclaaGreat
open Go Go.RowKit
set_option linter.unusedVariables false
set_option linter.unusedSimpArgs false
set_option maxHeartbeats 16000000
set_option maxRecDepth 100000
attribute [go_sem] q1m
attribute [local irreducible] q0i dr q0d Ex.then Ex.inBlock retQ q1n q2d q2c Pure CSat evOp q1i rdOf upd hset strip sp0 cut envL q1g q3i Keep BdL evBs q2n q2s
end Go.Proofs.YtoibbedpaaeclaaGreat
end

section
namespace Go.Proofs.YtoibbedpaaeclaaGreat
open Go Go.RowKit
set_option linter.unusedVariables false
set_option linter.unusedSimpArgs false
set_option maxHeartbeats 16000000
set_option maxRecDepth 100000
attribute [go_sem] q1m
attribute [local go_sem] List.length_append
@[go_sem] theorem pne_3 (m : Nat) : (0 = m + 1) = False := eq_false (by omega)
@[go_sem] theorem pne_4 (m : Nat) : (m + 1 = 0) = False := eq_false (by omega)
attribute [local irreducible] q0i dr q0d Ex.then Ex.inBlock retQ q1n q2d q2c Pure CSat evOp q1i rdOf upd hset strip sp0 cut envL q1g q3i Keep BdL evBs q2n q2s
end Go.Proofs.YtoibbedpaaeclaaGreat
end

section
namespace Go.Proofs.YtoibbedpaaeclaaGreat
open Go Go.RowKit
set_option linter.unusedVariables false
set_option linter.unusedSimpArgs false
set_option maxHeartbeats 16000000
set_option maxRecDepth 100000
attribute [go_sem] q1m
attribute [local irreducible] q0i dr q0d Ex.then Ex.inBlock retQ q1n q2d q2c Pure CSat evOp q1i rdOf upd hset strip sp0 cut envL q1g q3i Keep BdL evBs q2n q2s
end Go.Proofs.YtoibbedpaaeclaaGreat
end

section
namespace Go.Proofs.YtoibbedpaaeclaaGreat
open Go Go.RowKit Go.Shelf
set_option linter.unusedVariables false
set_option linter.unusedSimpArgs false
end Go.Proofs.YtoibbedpaaeclaaGreat
end

section
namespace Go.Proofs.YtoibbedpaaeclaaGreat
open Go Go.RowKit
set_option linter.unusedVariables false
set_option linter.unusedSimpArgs false
set_option maxHeartbeats 16000000
set_option maxRecDepth 100000
@[go_sem] theorem spl6_cells (o : Ob) (x : PV) : PV.cells? (.agg (splice (Ob.enc o) 6 [x])) = some (splice (Ob.enc o) 6 [x]) := rfl
attribute [local irreducible] q0i dr q0d Ex.then Ex.inBlock retQ q1n q2d q2c Pure CSat evOp q1i rdOf upd hset strip sp0 cut envL q1g q3i Keep BdL evBs q2n q2s
end Go.Proofs.YtoibbedpaaeclaaGreat
end
