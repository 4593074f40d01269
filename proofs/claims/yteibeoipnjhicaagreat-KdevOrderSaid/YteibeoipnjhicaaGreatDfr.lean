import Derived.Test.YteibeoipnjhicaaGreatEvr
import Derived.Recover
namespace Go.Proofs.YteibeoipnjhicaaGreat
open Go Go.RowKit
set_option linter.unusedVariables false
set_option linter.unusedSimpArgs false
def modeOf : Option Value → FrameMode
  | none => .returning
  | some v => .panicking [{ v, recovered := false }]
def PanR (w : World) (M0 : Nat → Nat → Prop) (σ : Nat → Gh) (H : Heap) : Option Value → Option PV → Prop
  | none, none => True
  | some v, some q => VV w M0 σ H v q
  | _, _ => False
/-- What a deferred closure does, in a frame that returns, or that panics. -/
def DSat (P : Program) (g : FuncId) (args : List PV) (H : Heap) (m : Nat) (p : Option PV) (Q : Heap → Nat → Prop) : Prop :=
  ∀ (w : World) (M0 : Nat → Nat → Prop) (σ : Nat → Gh) (vs : List Value) (pv : Option Value), HR w M0 σ H → (∀ i, m ≤ i → H i = none) → VL w (MU M0 σ H) σ (LV H) vs args → PanR w M0 σ H pv p →
    CallsD P g vs.toArray (modeOf pv) w fun e u' w' => (∃ x, e = .returned x) ∧ settle u' = .returning ∧ ∃ H' m' σ', Q H' m' ∧ HR w' M0 σ' H' ∧ (∀ i, m' ≤ i → H' i = none) ∧ m ≤ m' ∧ Fr w M0 σ H w' σ' H'
section
variable {P : Program}
theorem st_init {w : World} {M0 : Nat → Nat → Prop} {σ : Nat → Gh} {H : Heap} {m nt : Nat} {args : List PV} {vs : List Value} (hr : HR w M0 σ H) (hfree : ∀ i, m ≤ i → H i = none) (hvl : VL w (MU M0 σ H) σ (LV H) vs args) (hn : args.length ≤ nt) :
    St w M0 σ H m nt [] { tmps := vs.toArray ++ Array.replicate (nt - vs.toArray.size) undef, defers := [] } w (q5n args) H m σ := by
  have hsz : (vs.toArray ++ Array.replicate (nt - vs.toArray.size) undef).size = nt := by
    have := hvl.1
    simp only [Array.size_append, List.size_toArray, Array.size_replicate]; omega
  refine ⟨hr, hfree, Nat.le_refl _, Fr.refl _ _ _ _, hsz, rfl, fun t => ?_⟩
  unfold q5n
  simp only [Array.getD_eq_getD_getElem?, List.getD_eq_getElem?_getD]
  by_cases ht : t < vs.length
  · rw [Array.getElem?_append_left (by simpa using ht)]
    have ht' : t < args.length := by rw [← hvl.1]; exact ht
    rw [List.getElem?_toArray, List.getElem?_eq_getElem ht, List.getElem?_eq_getElem ht']
    exact hvl.2 t _ _ (List.getElem?_eq_getElem ht) (List.getElem?_eq_getElem ht')
  · have ht' : args.length ≤ t := by rw [← hvl.1]; omega
    rw [List.getElem?_eq_none ht', Array.getElem?_append_right (by simpa using Nat.le_of_not_lt ht), Array.getElem?_replicate]
    split <;> exact .undef
theorem dsat_recover (hm : P.follows .mixedOrders = true) {g : FuncId} {fn : Func} {rid d1 d2 : Nat} {y : Code} {o1 o2 : Oper} {args : List PV} {H : Heap} {m : Nat} {p : Option PV} {Q : Heap → Nat → Prop} (hf : P.funcs[g]? = some fn) (hrs : fn.results = #[]) (hb : fn.body = some (.seq (.region rid #[o1, o2] false) y))
    (h1 : o1.op = .call { callee := .builtin .recover, args := #[], argTypes := #[] } ∧ o1.guard = none ∧ o1.dst = some d1) (h2 : o2.op = .assign (.tmp d1) ∧ o2.guard = none ∧ o2.dst = some d2) (hn : args.length ≤ fn.ntmps) (hd1 : d1 < fn.ntmps) (hd2 : d2 < fn.ntmps) (hd : q6r fn.ntmps y = true)
    (h : q0i P m y (fun ex env H' m' => (ex = .normal ∨ ex = .ret) ∧ Q H' m') (upd (upd (q5n args) (some d1) (p.getD .nilif)) (some d2) (p.getD .nilif)) H m) : DSat P g args H m p Q := by
  obtain ⟨h1a, h1b, h1c⟩ := h1
  obtain ⟨h2a, h2b, h2c⟩ := h2
  intro w M0 σ vs pv hr hfree hvl hpan
  refine callsD_of_wpS hf hb fun c₀ cs hu => ?_
  have hS0 := st_init (nt := fn.ntmps) hr hfree hvl hn
  generalize ({ tmps := vs.toArray ++ Array.replicate (fn.ntmps - vs.toArray.size) undef, defers := [] } : Act) = a0 at hS0 ⊢
  -- what recover hands back
  obtain ⟨x, hx⟩ : ∃ x, x = pv.getD .nilIface := ⟨_, rfl⟩
  have hxv : VV w M0 σ H x (p.getD .nilif) := by
    subst hx
    cases pv <;> cases p <;> first | exact hpan.elim | exact .nilif | exact hpan
  have hS1 : St w M0 σ H m fn.ntmps [] (a0.put (some d1) x) w (upd (q5n args) (some d1) (p.getD .nilif)) H m σ := hS0.step hr hfree (Nat.le_refl _) (Fr.refl _ _ _ _) (fun z hz => by cases hz; exact hd1) hxv
  have he1 : (a0.put (some d1) x).eval (.tmp d1) = x := by
    have := put_get a0 (some d1) x (fun z hz => by cases hz; rw [hS0.size]; exact hd1) d1
    rw [if_pos rfl] at this
    exact this
  have hS2 : St w M0 σ H m fn.ntmps [] ((a0.put (some d1) x).put (some d2) x) w (upd (upd (q5n args) (some d1) (p.getD .nilif)) (some d2) (p.getD .nilif)) H m σ := hS1.step hr hfree (Nat.le_refl _) (Fr.refl _ _ _ _) (fun z hz => by cases hz; exact hd2) hxv
  have hafter : ∀ (u' : FrameMode), settle u' = .returning → (y.wpS P (bodyPostS P fn c₀ cs fun e u' w' => (∃ x, e = .returned x) ∧ settle u' = .returning ∧ ∃ H' m' σ', Q H' m' ∧ HR w' M0 σ' H' ∧ (∀ i, m' ≤ i → H' i = none) ∧ m ≤ m' ∧ Fr w M0 σ H w' σ' H') ((a0.put (some d1) x).put (some d2) x) ({ c₀ with mode := u' } :: cs) w) := fun u' hset => by
    refine wpS_of_wp (wp_mono (q5j hm hfree y _ _ w _ H m σ hd hS2 h) ?_)
    rintro e a w' ⟨ex, env, H', m', σ', ⟨hex, hq⟩, hS', hexr⟩
    have hres : (results fn a.tmps).run P w' = .ok (.tuple #[]) w' := by simp [results, hrs]
    rcases hex with rfl | rfl
    · cases e <;> first | exact hexr.elim | skip
      exact ⟨hS'.defers, u', rfl, _, hres, ⟨_, rfl⟩, hset, H', m', σ', hq, hS'.hr, hS'.free, hS'.le, hS'.fr⟩
    · cases e <;> first | exact hexr.elim | skip
      exact ⟨hS'.defers, u', rfl, _, hres, ⟨_, rfl⟩, hset, H', m', σ', hq, hS'.hr, hS'.free, hS'.le, hS'.fr⟩
  have hw1 : ∀ a : Act, Region.wanted o1 (yielded #[o1, o2] a.tmps) = true := fun a => by unfold Region.wanted; rw [h1b]
  have hw2 : ∀ a : Act, Region.wanted o2 (yielded #[o1, o2] a.tmps) = true := fun a => by unfold Region.wanted; rw [h2b]
  have hr1 : ∀ a : Act, (execOp a.eval o1).run P w = .ok .recover w := fun a => by
    obtain ⟨dst, op, ty, pos, after, guard⟩ := o1
    simp only at h1a
    subst h1a
    rfl
  have hr2 : ∀ a : Act, (execOp a.eval o2).run P w = .ok (.value (a.eval (.tmp d1))) w := fun a => by
    obtain ⟨dst, op, ty, pos, after, guard⟩ := o2
    simp only at h2a
    subst h2a
    rfl
  refine wpS_seq (wpS_region ?_)
  show wpOpsS P #[o1, o2] _ [0, 1] a0 (c₀ :: cs) w
  simp only [wpOpsS, List.getElem?_toArray, List.getElem?_cons_zero, List.getElem?_cons_succ, hw1, hw2, if_true, hr1]
  cases pv with
  | none =>
    have hrec : recoverD (c₀ :: cs) = none := by simp [recoverD, hu, modeOf]
    have hc : ({ c₀ with mode := .returning } : Frame) = c₀ := by have : c₀.mode = .returning := hu; cases c₀; simp_all
    have := hafter .returning rfl
    rw [hc] at this
    have hx' : x = .nilIface := hx
    subst hx'
    rw [hrec]
    simp only [h1c, hr2, he1, Oper.upon, h2c, Exit.thenS]
    exact this
  | some v =>
    have hrec : recoverD (c₀ :: cs) = some (v, { c₀ with mode := .panicking [{ v, recovered := true }] } :: cs) := by simp [recoverD, hu, modeOf]
    have := hafter (.panicking [{ v, recovered := true }]) rfl
    have hx' : x = v := hx
    subst hx'
    rw [hrec]
    simp only [h1c, hr2, he1, Oper.upon, h2c, Exit.thenS]
    exact this
/-- A frame that returns: recover hands back nil, and the closure goes on behind its question. -/
theorem dsat_nil (hm : P.follows .mixedOrders = true) {g : FuncId} {fn : Func} {rid rid2 d1 d2 d6 d7 : Nat} {A B : Code} {o1 o2 o3 o4 : Oper} {ty : TypeId} {args : List PV} {H : Heap} {m : Nat} {Q : Heap → Nat → Prop} (hf : P.funcs[g]? = some fn) (hrs : fn.results = #[]) (hb : fn.body = some (.seq (.region rid #[o1, o2] false) (.seq (.region rid2 #[o3, o4] false) (.cond (.tmp d7) A B))))
    (h1 : o1.op = .call { callee := .builtin .recover, args := #[], argTypes := #[] } ∧ o1.guard = none ∧ o1.dst = some d1) (h2 : o2.op = .assign (.tmp d1) ∧ o2.guard = none ∧ o2.dst = some d2) (h3 : o3.op = .move (.tmp d2) ∧ o3.guard = none ∧ o3.dst = some d6) (h4 : (∃ rt, o4.op = .binOp .neq ty (.tmp d6) (.const .nilIface) rt) ∧ o4.guard = none ∧ o4.dst = some d7) (hty : ifcT P ty = some true)
    (hn : args.length ≤ fn.ntmps) (hd1 : d1 < fn.ntmps) (hd2 : d2 < fn.ntmps) (hd6 : d6 < fn.ntmps) (hd7 : d7 < fn.ntmps) (hd : q6r fn.ntmps B = true)
    (h : ∀ env, q0i P m B (fun ex env H' m' => (ex = .normal ∨ ex = .ret) ∧ Q H' m') env H m) : DSat P g args H m none Q := by
  obtain ⟨h1a, h1b, h1c⟩ := h1
  obtain ⟨h2a, h2b, h2c⟩ := h2
  obtain ⟨h3a, h3b, h3c⟩ := h3
  obtain ⟨⟨rt, h4a⟩, h4b, h4c⟩ := h4
  intro w M0 σ vs pv hr hfree hvl hpan
  cases pv with
  | some v => exact hpan.elim
  | none =>
  refine callsD_of_wpS hf hb fun c₀ cs hu => ?_
  have hS0 := st_init (nt := fn.ntmps) hr hfree hvl hn
  generalize ({ tmps := vs.toArray ++ Array.replicate (fn.ntmps - vs.toArray.size) undef, defers := [] } : Act) = a0 at hS0 ⊢
  have put1 : ∀ {a : Act} {env : Env} (d : Nat) (x : Value) (p : PV), St w M0 σ H m fn.ntmps [] a w env H m σ → d < fn.ntmps → VV w M0 σ H x p → St w M0 σ H m fn.ntmps [] (a.put (some d) x) w (upd env (some d) p) H m σ ∧ (a.put (some d) x).eval (.tmp d) = x := fun d x p hS hdn hv =>
    ⟨hS.step hr hfree (Nat.le_refl _) (Fr.refl _ _ _ _) (fun z hz => by cases hz; exact hdn) hv, by
      have := put_get _ (some d) x (fun z hz => by cases hz; rw [hS.size]; exact hdn) d
      rw [if_pos rfl] at this
      exact this⟩
  obtain ⟨hS1, he1⟩ := put1 d1 .nilIface .nilif hS0 hd1 .nilif
  obtain ⟨hS2, he2⟩ := put1 d2 .nilIface .nilif hS1 hd2 .nilif
  obtain ⟨hS6, he6⟩ := put1 d6 .nilIface .nilif hS2 hd6 .nilif
  obtain ⟨hS7, he7⟩ := put1 d7 (.bool false) (.bool false) hS6 hd7 (.bool false)
  have hw1 : ∀ a : Act, Region.wanted o1 (yielded #[o1, o2] a.tmps) = true := fun a => by unfold Region.wanted; rw [h1b]
  have hw2 : ∀ a : Act, Region.wanted o2 (yielded #[o1, o2] a.tmps) = true := fun a => by unfold Region.wanted; rw [h2b]
  have hw3 : ∀ a : Act, Region.wanted o3 (yielded #[o3, o4] a.tmps) = true := fun a => by unfold Region.wanted; rw [h3b]
  have hw4 : ∀ a : Act, Region.wanted o4 (yielded #[o3, o4] a.tmps) = true := fun a => by unfold Region.wanted; rw [h4b]
  have hr1 : ∀ a : Act, (execOp a.eval o1).run P w = .ok .recover w := fun a => by
    obtain ⟨dst, op, ty, pos, after, guard⟩ := o1
    simp only at h1a
    subst h1a
    rfl
  have hr2 : ∀ a : Act, (execOp a.eval o2).run P w = .ok (.value (a.eval (.tmp d1))) w := fun a => by
    obtain ⟨dst, op, ty, pos, after, guard⟩ := o2
    simp only at h2a
    subst h2a
    rfl
  have hr3 : ∀ a : Act, (execOp a.eval o3).run P w = .ok (.value (a.eval (.tmp d2))) w := fun a => by
    obtain ⟨dst, op, ty, pos, after, guard⟩ := o3
    simp only at h3a
    subst h3a
    rfl
  have hr4 : ∀ a : Act, a.eval (.tmp d6) = .nilIface → (execOp a.eval o4).run P w = .ok (.value (.bool false)) w := fun a ha => by
    obtain ⟨dst, op, ty', pos, after, guard⟩ := o4
    simp only at h4a
    subst h4a
    obtain ⟨ms, hu⟩ : ∃ ms, P.underlying ty = some (.interface ms) := by
      unfold ifcT at hty
      cases hu : P.underlying ty with
      | none => rw [hu] at hty; cases hty
      | some d =>
        rw [hu] at hty
        cases d <;> first | exact ⟨_, rfl⟩ | (simp at hty)
    have hq : ∀ d, (Op.equalIn (d + 1) ty .nilIface .nilIface).run P w = .ok true w := fun d => by simp [Op.equalIn, run_underlying hu]
    have hq : (Op.equal ty .nilIface .nilIface).run P w = .ok true w := hq 9999
    have hc : a.eval (.const .nilIface) = .nilIface := rfl
    simp [execOp, ha, hc, eqGuard, binOp, hq]
  refine wpS_seq (wpS_region ?_)
  show wpOpsS P #[o1, o2] _ [0, 1] a0 (c₀ :: cs) w
  simp only [wpOpsS, List.getElem?_toArray, List.getElem?_cons_zero, List.getElem?_cons_succ, hw1, hw2, if_true, hr1]
  have hrec : recoverD (c₀ :: cs) = none := by simp [recoverD, hu, modeOf]
  rw [hrec]
  simp only [h1c, hr2, he1, Oper.upon, h2c, Exit.thenS]
  refine wpS_of_wp (wp_seq (wp_region_list ?_))
  show wpList P #[o3, o4] _ [o3, o4] _ w
  unfold wpList
  rw [if_pos (hw3 _)]
  refine .inl ?_
  unfold Oper.wp
  rw [hr3, he2]
  simp only [Oper.upon, h3c]
  unfold wpList
  rw [if_pos (hw4 _)]
  refine .inl ?_
  unfold Oper.wp
  rw [hr4 _ he6]
  simp only [Oper.upon, h4c, wpList, Exit.then]
  refine wp_cond (t := false) he7 ?_
  refine wp_mono (q5j hm hfree B _ _ w _ H m σ hd hS7 (h _)) ?_
  have hc : ({ c₀ with mode := .returning } : Frame) = c₀ := by have : c₀.mode = .returning := hu; cases c₀; simp_all
  rintro e a w' ⟨ex, env, H', m', σ', ⟨hex, hq⟩, hS', hexr⟩
  have hres : (results fn a.tmps).run P w' = .ok (.tuple #[]) w' := by simp [results, hrs]
  rcases hex with rfl | rfl
  · cases e <;> first | exact hexr.elim | skip
    exact ⟨hS'.defers, .returning, by rw [hc], _, hres, ⟨_, rfl⟩, rfl, H', m', σ', hq, hS'.hr, hS'.free, hS'.le, hS'.fr⟩
  · cases e <;> first | exact hexr.elim | skip
    exact ⟨hS'.defers, .returning, by rw [hc], _, hres, ⟨_, rfl⟩, rfl, H', m', σ', hq, hS'.hr, hS'.free, hS'.le, hS'.fr⟩
/-- The rest of the body, behind the deferring: what it ends in, and what the closure makes of that. -/
def KY (P : Program) (rs : List ResultVar) (g : FuncId) (caps : List PV) (Q : Out → Heap → Nat → Prop) : Ex → Env → Heap → Nat → Prop
  | .normal, env, H, m => DSat P g caps H m none fun H' m' => ∃ r, q8y P rs env H' = some r ∧ Q (.ret r) H' m'
  | .ret, env, H, m => DSat P g caps H m none fun H' m' => ∃ r, q8y P rs env H' = some r ∧ Q (.ret r) H' m'
  | .pan p, env, H, m => DSat P g caps H m (some p) fun H' m' => ∃ r, q8y P rs env H' = some r ∧ Q (.ret r) H' m'
  | .exit _, _, _, _ => False
theorem wp_q {o : Oper} {a : Act} {w : World} {K : Act → World → Prop} {Q Q' : Exit → Act → World → Prop} (h : o.wp P a w K Q) (hq : ∀ ch a w, Q (.panic ch) a w → Q' (.panic ch) a w) (ho : ∀ a w, Q .outgrown a w → Q' .outgrown a w) : o.wp P a w K Q' := by
  unfold Oper.wp at *
  generalize (execOp a.eval o).run P w = r at *
  cases r with
  | ok n w' =>
    cases n <;> simp only [Oper.upon] at h ⊢ <;>
      first
        | exact h
        | exact Calls.mono h (fun e w'' he => by
            cases e <;> first
              | exact he
              | exact hq _ _ _ he
              | (obtain ⟨a, w, k⟩ := he; exact ⟨a, w, ho _ _ k⟩))
  | halt x w' => cases x <;> simp only [Oper.upon] at h ⊢ <;> first | exact h | exact hq _ _ _ h
/-- What stands ahead of a code's rest. -/
inductive Front : Code → Code → Code → Prop
  | one {x z : Code} : Front x z (.seq x z)
  | more {c x z b : Code} (h : Front x z b) : Front (.seq c x) z (.seq c b)
theorem front_wp (hm : P.follows .mixedOrders = true) {w0 : World} {M0 : Nat → Nat → Prop} {σ0 : Nat → Gh} {H0 : Heap} {m0 nt : Nat} {ds : List Deferred} (hfree : ∀ i, m0 ≤ i → H0 i = none) {R : Exit → Act → World → Prop} {x z b : Code} (hF : Front x z b) :
    ∀ {K : Env → Heap → Nat → Prop} {a : Act} {w : World} {env : Env} {H : Heap} {m : Nat} {σ : Nat → Gh}, q6r nt x = true → St w0 M0 σ0 H0 m0 nt ds a w env H m σ → q0i P m0 x (fun ex env H' m' => ex = .normal ∧ K env H' m') env H m →
      (∀ a' w' env' H' m' σ', K env' H' m' → St w0 M0 σ0 H0 m0 nt ds a' w' env' H' m' σ' → z.wp P R a' w') → b.wp P R a w := by
  induction hF with
  | one =>
    intro K a w env H m σ hd hS h hz
    refine wp_seq (wp_mono (q5j hm hfree _ _ a w env H m σ hd hS h) ?_)
    rintro e a' w' ⟨ex, env', H', m', σ', ⟨rfl, hq⟩, hS', hx⟩
    cases e <;> first | exact hx.elim | skip
    exact hz _ _ _ _ _ _ hq hS'
  | more hF ih =>
    intro K a w env H m σ hd hS h hz
    simp only [q6r, Bool.and_eq_true] at hd
    refine wp_seq (wp_mono (q5j hm hfree _ _ a w env H m σ hd.1 hS h) ?_)
    rintro e a' w' ⟨ex, env', H', m', σ', hq, hS', hx⟩
    cases ex <;> first | exact absurd hq.1 (by intro h; cases h) | skip
    cases e <;> first | exact hx.elim | skip
    exact ih hd.2 hS' hq hz
theorem q9e (hm : P.follows .mixedOrders = true) {f g : FuncId} {fn : Func} {rid d8 : Nat} {x y b : Code} {o1 o2 : Oper} {args : List PV} {H : Heap} {m : Nat} {Q : Out → Heap → Nat → Prop} (hf : P.funcs[f]? = some fn) (hb : fn.body = some b) (hF : Front x (.seq (.region rid #[o1, o2] false) y) b) (hent : q4g P g = true)
    (h1d : ∀ z, o1.dst = some z → z < fn.ntmps) (h2 : o2.op = .defer { callee := .value (.tmp d8), args := #[], argTypes := #[] } ∧ o2.guard = none ∧ o2.dst = none) (hn : args.length ≤ fn.ntmps) (hdx : q6r fn.ntmps x = true) (hdy : q6r fn.ntmps y = true)
    (h : q0i P m x (fun ex env H' m' => ex = .normal ∧ q1a P #[o1, o2] (fun ex env' H2 m2 => ex = .normal ∧ ∃ caps, env' d8 = .fn (.func g) [] caps ∧ q0i P m2 y (KY P fn.results.toList g caps Q) env' H2 m2) [o1] env H' m') (q5n args) H m) : CSat P f args H m Q := by
  obtain ⟨h2a, h2b, h2c⟩ := h2
  intro w M0 σ vs hr hfree hvl
  refine calls_of_wp_defers hf hb ?_
  have hS0 := st_init (nt := fn.ntmps) hr hfree hvl hn
  refine front_wp hm hfree hF hdx hS0 h ?_
  intro a w1 env H1 m1 σ1 hq hS1
  refine wp_seq (wp_region_list ?_)
  have hw2 : ∀ a : Act, Region.wanted o2 (yielded #[o1, o2] a.tmps) = true := fun a => by unfold Region.wanted; rw [h2b]
  have fin : ∀ (a' : Act) (w' : World) (env' : Env) (H2 : Heap) (m2 : Nat) (σ2 : Nat → Gh), (∃ caps, env' d8 = .fn (.func g) [] caps ∧ q0i P m2 y (KY P fn.results.toList g caps Q) env' H2 m2) → St w M0 σ H m fn.ntmps [] a' w' env' H2 m2 σ2 →
      wpList P #[o1, o2] (Exit.then (y.wp P (bodyPostD P fn fun e w' => ∃ out H' m' σ', Q out H' m' ∧ HR w' M0 σ' H' ∧ (∀ i, m' ≤ i → H' i = none) ∧ m ≤ m' ∧ Fr w M0 σ H w' σ' H' ∧ OutR w' M0 σ' H' e out)) (bodyPostD P fn fun e w' => ∃ out H' m' σ', Q out H' m' ∧ HR w' M0 σ' H' ∧ (∀ i, m' ≤ i → H' i = none) ∧ m ≤ m' ∧ Fr w M0 σ H w' σ' H' ∧ OutR w' M0 σ' H' e out)) [o2] a' w' := by
    rintro a' w2 env' H2 m2 σ2 ⟨caps, hd8, hy⟩ hS2
    have hv := hS2.eval (.tmp d8)
    simp only [rho] at hv
    rw [hd8] at hv
    generalize hev : a'.eval (.tmp d8) = fv at hv
    cases hv with
    | fn _ fs cs _ _ l1 l2 r1 r2 =>
      have hfs : fs = [] := List.eq_nil_of_length_eq_zero l1
      subst hfs
      have hrun : (execOp a'.eval o2).run P w2 = .ok (.defer { target := .fn (.func g) cs.toArray, args := #[] }) w2 := by
        obtain ⟨dst, op, ty, pos, after, guard⟩ := o2
        simp only at h2a
        subst h2a
        simp [execOp, resolve, hev, Deferred.ofValue]
      have hinv : ∀ w3 : World, (invoke (.fn (.func g) cs.toArray) #[]).run P w3 = .ok (.enter g cs.toArray) w3 := fun w3 => by
        unfold q4g at hent
        split at hent
        · rename_i fn' hfn
          simp only [Bool.and_eq_true, Bool.not_eq_true'] at hent
          have hbn : fn'.body.isNone = false := by cases hbb : fn'.body <;> simp_all
          simp only [invoke, callFunc, Sem.run_bind, run_program, Result.andThen_ok, hfn, hent.2, hbn, Bool.false_eq_true, if_false, Sem.run_pure]
          simp
        · cases hent
      unfold wpList
      rw [if_pos (hw2 a')]
      refine .inl ?_
      unfold Oper.wp
      rw [hrun]
      simp only [Oper.upon, wpList, Exit.then, h2c, Act.put]
      have hS3 : St w2 M0 σ2 H2 m2 fn.ntmps [{ target := .fn (.func g) cs.toArray, args := #[] }] { a' with defers := { target := .fn (.func g) cs.toArray, args := #[] } :: a'.defers } w2 env' H2 m2 σ2 := ⟨hS2.hr, hS2.free, Nat.le_refl _, Fr.refl _ _ _ _, hS2.size, by rw [hS2.defers], hS2.env⟩
      refine wp_mono (q5j hm hS2.free y _ _ w2 _ H2 m2 σ2 hdy hS3 hy) ?_
      rintro e a3 w3 ⟨ex, env3, H3, m3, σ3, hq3, hS4, hx3⟩
      have hcaps : VL w3 (MU M0 σ3 H3) σ3 (LV H3) cs caps := ⟨l2, fun i v p hv hp => (r2 i v p hv hp).mono hS4.fr.ext⟩
      have key : ∀ (pv : Option Value) (p : Option PV), PanR w3 M0 σ3 H3 pv p → modeOf pv ≠ .run → DSat P g caps H3 m3 p (fun H' m' => ∃ r, q8y P fn.results.toList env3 H' = some r ∧ Q (.ret r) H' m') →
          Leaves P fn a3.tmps (fun e w' => ∃ out H' m' σ', Q out H' m' ∧ HR w' M0 σ' H' ∧ (∀ i, m' ≤ i → H' i = none) ∧ m ≤ m' ∧ Fr w M0 σ H w' σ' H' ∧ OutR w' M0 σ' H' e out) a3.defers (modeOf pv) w3 := fun pv p hpan hmode hds => by
        rw [hS4.defers]
        refine leaves_cons hmode (hinv w3) ((hds w3 M0 σ3 cs pv hS4.hr hS4.free hcaps hpan).mono ?_)
        rintro e u' w4 ⟨⟨x, rfl⟩, hset, H4, m4, σ4, ⟨r, hres, hQ⟩, hr4, hf4, hm4, hfr4⟩
        simp only
        rw [hset]
        obtain ⟨v, hv1, hv2⟩ := resOf_sound (P := P) (a := a3) hr4 (fun t => (hS4.env t).mono hfr4.ext) hres
        exact ⟨v, hv1, .ret r, H4, m4, σ4, hQ, hr4, hf4, by have := hS2.le; have := hS4.le; omega, (hS2.fr.trans hS4.fr).trans hfr4, hv2⟩
      cases e with
      | normal =>
        cases ex <;> first | exact hx3.elim | skip
        exact key none none trivial (by intro h; cases h) hq3
      | ret =>
        cases ex <;> first | exact hx3.elim | skip
        exact key none none trivial (by intro h; cases h) hq3
      | panic ch =>
        cases ex <;> first | exact hx3.elim | skip
        obtain ⟨v, rfl, hv⟩ := hx3
        exact key (some v) (some _) hv (by intro h; cases h) hq3
      | exit id => cases ex <;> first | exact hx3.elim | exact hq3.elim
      | goto l => cases ex <;> exact hx3.elim
      | outgrown => cases ex <;> exact hx3.elim
  have hop := pwOp_sound (P := P) (ops := #[o1, o2]) hS1 h1d (K' := wpList P #[o1, o2] (Exit.then (y.wp P (bodyPostD P fn fun e w' => ∃ out H' m' σ', Q out H' m' ∧ HR w' M0 σ' H' ∧ (∀ i, m' ≤ i → H' i = none) ∧ m ≤ m' ∧ Fr w M0 σ H w' σ' H' ∧ OutR w' M0 σ' H' e out)) (bodyPostD P fn fun e w' => ∃ out H' m' σ', Q out H' m' ∧ HR w' M0 σ' H' ∧ (∀ i, m' ≤ i → H' i = none) ∧ m ≤ m' ∧ Fr w M0 σ H w' σ' H' ∧ OutR w' M0 σ' H' e out)) [o2]) (fun a' w' env' H2 m2 σ2 hk hS => fin a' w' env' H2 m2 σ2 hk.2 hS) hq
  show wpList P #[o1, o2] _ (o1 :: [o2]) a w1
  unfold wpList
  split
  · rename_i hw
    rw [if_pos hw] at hop
    refine .inl (wp_q hop ?_ ?_)
    · rintro ch a' w' ⟨ex, env', H', m', σ', ⟨rfl, _⟩, _, hF⟩
      exact hF.elim
    · rintro a' w' ⟨ex, env', H', m', σ', ⟨rfl, _⟩, _, hF⟩
      exact hF.elim
  · rename_i hw
    rw [if_neg hw] at hop
    exact hop
theorem csat_deferred (hm : P.follows .mixedOrders = true) {f g : FuncId} {fn : Func} {rid d8 : Nat} {x y : Code} {o1 o2 : Oper} {args : List PV} {H : Heap} {m : Nat} {Q : Out → Heap → Nat → Prop} (hf : P.funcs[f]? = some fn) (hb : fn.body = some (.seq x (.seq (.region rid #[o1, o2] false) y))) (hent : q4g P g = true)
    (h1d : ∀ z, o1.dst = some z → z < fn.ntmps) (h2 : o2.op = .defer { callee := .value (.tmp d8), args := #[], argTypes := #[] } ∧ o2.guard = none ∧ o2.dst = none) (hn : args.length ≤ fn.ntmps) (hdx : q6r fn.ntmps x = true) (hdy : q6r fn.ntmps y = true)
    (h : q0i P m x (fun ex env H' m' => ex = .normal ∧ q1a P #[o1, o2] (fun ex env' H2 m2 => ex = .normal ∧ ∃ caps, env' d8 = .fn (.func g) [] caps ∧ q0i P m2 y (KY P fn.results.toList g caps Q) env' H2 m2) [o1] env H' m') (q5n args) H m) : CSat P f args H m Q :=
  q9e hm hf hb .one hent h1d h2 hn hdx hdy h
end
end Go.Proofs.YteibeoipnjhicaaGreat
