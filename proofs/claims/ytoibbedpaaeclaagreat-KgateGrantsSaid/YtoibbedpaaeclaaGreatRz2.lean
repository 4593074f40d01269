import Derived.Test.YtoibbedpaaeclaaGreatRz1
import Derived.Attr
section
namespace Go.Proofs.YtoibbedpaaeclaaGreat
open Go Go.RowKit
set_option linter.unusedVariables false
set_option linter.unusedSimpArgs false
section
variable {P : Program} {ops : Array Oper}
theorem evOp_m {ρ : Operand → PV} {s : PV → PV} {H : Heap} {m m' : Nat} {op : Op} {r : PV} {e : Eff} (he : evOp P ρ s H m op = some (r, e)) (hc : e.cnt = 0) : evOp P ρ s H m' op = some (r, e) := by
  cases op
  case alloc t =>
    simp only [evOp] at he
    split at he
    · cases he; simp [Eff.cnt] at hc
    · cases he
  case box t x =>
    simp only [evOp] at he
    split at he
    · cases he; simp [Eff.cnt] at hc
    · cases he
  case call c =>
    simp only [evOp] at he ⊢
    cases hcal : c.callee with
    | value f => rw [hcal] at he; exact he
    | invoke r n => rw [hcal] at he; exact he
    | builtin b =>
      rw [hcal] at he
      cases b <;> first
        | exact he
        | ((try simp only at he ⊢)
           split at he
           · rename_i x1 y1 t1 t2 ha ht
             (try simp only at he ⊢)
             cases hp : ρ x1 with
             | nilsl =>
               rw [hp] at he
               unfold q4d at he ⊢
               split at he <;> (try (simp at he; done))
               split at he <;> (try (simp at he; done))
               split at he <;> (try (simp at he; done))
               split at he <;> (try (simp at he; done))
               split at he <;> (try (simp at he; done))
               rename_i h1 _ _ h2 _ _ _ h3 _ _ h4 h5
               simp only at he
               split at he
               · simp_all
               · split at he
                 · cases he; simp [Eff.cnt] at hc
                 · cases he
             | _ => rw [hp] at he; unfold q4d at he ⊢; exact he
           · cases he)
  case slice t x lo hi mx => cases mx <;> exact he
  case typeAssert x xt t ok => cases ok <;> exact he
  all_goals exact he
theorem app_m {e : Eff} (hc : e.cnt = 0) (m m' : Nat) (X : Heap) : e.app m X = e.app m' X := by
  cases e <;> first | rfl | (simp [Eff.cnt] at hc)
variable {R : Run P ops} {m0 : Nat}
/-- What is done is done behind what it hangs on. -/
def Closed (R : Run P ops) (D : Nat → Bool) : Prop := ∀ k, k < ops.size → D k = true → (R.e k).cnt = 0 → ∀ i, (R.e k).tgt (R.mm k) = some i → ∀ j, j < ops.size → (R.e j).cnt ≠ 0 → R.mm j = i → D j = true
theorem cnt_one {e : Eff} (h : e.cnt ≠ 0) : e.cnt = 1 := by cases e <;> simp_all [Eff.cnt]
theorem q7j (h : RunOk R m0) {D : Nat → Bool} (hcl : Closed R D) {j : Nat} (hj : j < ops.size) (hD : D j = false) (hc : (R.e j).cnt ≠ 0) : ∀ {k : Nat}, k ≤ ops.size → ph R D k (R.mm j) = none
  | 0, _ => h.base _ (mm_mono h (Nat.zero_le _) (by omega))
  | k + 1, hk => by
    simp only [ph]
    split
    · rename_i hDk
      by_cases ht : (R.e k).tgt (R.mm k) = some (R.mm j)
      · exfalso
        by_cases hck : (R.e k).cnt = 0
        · have := hcl k (by omega) hDk hck _ ht j hj hc rfl
          rw [hD] at this; cases this
        · have e1 := (tgt_new hck).1 ht
          have n1 := cnt_one hc
          have n2 := cnt_one hck
          rcases Nat.lt_trichotomy k j with h1 | h1 | h1
          · have := mm_mono h (j := k + 1) (k := j) (by omega) (by omega)
            rw [(q8u h (by omega)).2] at this; omega
          · subst h1; rw [hD] at hDk; cases hDk
          · have := mm_mono h (j := j + 1) (k := k) (by omega) (by omega)
            rw [(q8u h hj).2] at this; omega
      · rw [q3l ht]; exact q7j h hcl hj hD hc (by omega)
    · exact q7j h hcl hj hD hc (by omega)
theorem q8x (h : q2c ops = true) {j : Nat} {o : Oper} (ho : ops[j]? = some o) : (∀ e ∈ o.after, Region.binds .any e = true → e.on < j) ∧
    ∀ i d, i < ops.size → q9u ops i = some d → (i = j ∨ o.dst ≠ some d) ∧ (d ∈ o.looksAt ops → (i < j ∧ ∃ e ∈ o.after, Region.binds .any e = true ∧ e.on = i) ∨ (j < i ∧ q5f ops ops.size i j = true)) := by
  have hj : j < ops.size := (Array.getElem?_eq_some_iff.1 ho).1
  have h1 := List.all_eq_true.1 h j (List.mem_range.2 hj)
  rw [ho] at h1
  simp only [Bool.and_eq_true] at h1
  obtain ⟨h1, h2⟩ := h1
  refine ⟨fun e he hb => ?_, fun i d hi hd => ?_⟩
  · have := Array.all_eq_true_iff_forall_mem.1 h1 e he
    simpa [hb] using this
  · have h3 := List.all_eq_true.1 h2 i (List.mem_range.2 hi)
    unfold q9u at hd
    rw [hd] at h3
    simp only [Bool.and_eq_true, Bool.or_eq_true, beq_iff_eq, bne_iff_ne, ne_eq, Bool.not_eq_true', decide_eq_true_eq] at h3
    refine ⟨h3.1, fun hm => ?_⟩
    rcases h3.2 with h4 | h4 | h4
    · rw [List.contains_eq_mem] at h4; simp [hm] at h4
    · refine .inl ⟨h4.1, ?_⟩
      obtain ⟨e, he, hbb⟩ := Array.any_eq_true'.1 h4.2
      simp only [Bool.and_eq_true, beq_iff_eq] at hbb
      exact ⟨e, he, hbb⟩
    · exact .inr h4
theorem q7s {D : Nat → Bool} (dn : ∀ i o, ops[i]? = some o → D i = true → ∀ e ∈ o.after, Region.binds .any e = true → D e.on = true) : ∀ (f i j : Nat), q5f ops f i j = true → D i = true → D j = true
  | 0, _, _, h, _ => by simp [q5f] at h
  | f + 1, i, j, h, hi => by
    simp only [q5f] at h
    split at h
    · rename_i o ho
      obtain ⟨e, he, hb⟩ := Array.any_eq_true'.1 h
      simp only [Bool.and_eq_true, Bool.or_eq_true, beq_iff_eq] at hb
      have h1 := dn i o ho hi e he hb.1
      rcases hb.2 with h2 | h2
      · rw [← h2]; exact h1
      · exact q7s dn f e.on j h2.2 h1
    · cases h
theorem reach_from {D : Nat → Bool} (dn : ∀ i o, ops[i]? = some o → D i = true → ∀ e ∈ o.after, Region.binds .any e = true → D e.on = true) {f j k : Nat} {o : Oper} (ho : ops[j]? = some o) (hedge : ∀ e ∈ o.after, Region.binds .any e = true → D e.on = true) (h : q5f ops f j k = true) : D k = true := by
  cases f with
  | zero => simp [q5f] at h
  | succ f =>
    simp only [q5f, ho] at h
    obtain ⟨e, he, hb⟩ := Array.any_eq_true'.1 h
    simp only [Bool.and_eq_true, Bool.or_eq_true, beq_iff_eq] at hb
    have h1 := hedge e he hb.1
    rcases hb.2 with h2 | h2
    · rw [← h2]; exact h1
    · exact q7s dn f e.on k h2.2 h1
variable {w0 : World} {M0 : Nat → Nat → Prop} {σ0 : Nat → Gh} {H0 : Heap} {nt : Nat} {ds : List Deferred}
structure Inv (R : Run P ops) (w0 : World) (M0 : Nat → Nat → Prop) (σ0 : Nat → Gh) (H0 : Heap) (m0 nt : Nat) (ds : List Deferred) (D : Nat → Bool) (a : Act) (w : World) : Prop where
  st : ∃ σ, St w0 M0 σ0 H0 m0 nt ds a w (pe R D ops.size) (ph R D ops.size) (R.mm ops.size) σ
  cl : Closed R D
  dn : ∀ i o, ops[i]? = some o → D i = true → ∀ e ∈ o.after, Region.binds .any e = true → D e.on = true
theorem draw_step (h : RunOk R m0) (hok : q2c ops = true) {D : Nat → Bool} {a : Act} {w : World} (hI : Inv R w0 M0 σ0 H0 m0 nt ds D a w) {j : Nat} {o : Oper} (ho : ops[j]? = some o) (hd : ∀ x, o.dst = some x → x < nt) (hD : D j = false)
    (hedge : ∀ e ∈ o.after, Region.binds .any e = true → D e.on = true) {Q : Exit → Act → World → Prop} : wpOp P ops Q j (fun a' w' => Inv R w0 M0 σ0 H0 m0 nt ds (q2u D j) a' w') a w := by
  obtain ⟨⟨σ, hS⟩, hcl, hdn0⟩ := hI
  have hdn : ∀ i o', ops[i]? = some o' → q2u D j i = true → ∀ e ∈ o'.after, Region.binds .any e = true → q2u D j e.on = true := fun i o' ho' hi e he hb => by
    have mono : ∀ k, D k = true → q2u D j k = true := fun k hk => by simp only [q2u]; split <;> first | rfl | exact hk
    by_cases e1 : i = j
    · subst e1
      rw [ho] at ho'; cases ho'
      exact mono _ (hedge e he hb)
    · simp only [q2u, e1, if_false] at hi
      exact mono _ (hdn0 i o' ho' hi e he hb)
  have hj : j < ops.size := (Array.getElem?_eq_some_iff.1 ho).1
  obtain ⟨hlt, hdst⟩ := q8x hok ho
  have hdj : q9u ops j = o.dst := by simp [q9u, ho]
  have hen : R.en j = pe R (before j) ops.size := by rw [en_pe h j (Nat.le_refl _), Nat.min_eq_right (by omega)]
  have hlook : ∀ t ∈ o.looksAt ops, R.en j t = pe R D ops.size t := fun t ht => by
    rw [hen]
    refine pe_get R _ _ t (fun i hi hdi => ?_)
    obtain ⟨_, h2⟩ := hdst i t hi hdi
    rcases h2 ht with ⟨h3, e, he, hb, rfl⟩ | ⟨h3, h4⟩
    · rw [hedge e he hb]; simp [before, h3]
    · have hDi : D i = false := by
        cases hq : D i with
        | false => rfl
        | true => have := q7s hdn0 _ i j h4 hq; rw [hD] at this; cases this
      rw [hDi]; simp [before]; omega
  have hev : ∀ x ∈ o.op.operands, VV w M0 σ (ph R D ops.size) (a.eval x) (rho (R.en j) x) := fun x hx => by
    have := hS.eval x
    cases x with
    | tmp t =>
      have ht : t ∈ o.looksAt ops := by
        unfold Oper.looksAt
        exact List.mem_append_left _ (List.mem_filterMap.2 ⟨.tmp t, by simpa using hx, rfl⟩)
      simp only [rho] at this ⊢
      rw [hlook t ht]; exact this
    | _ => exact this
  have hs0 : ∀ x ∈ o.op.operands, VV w M0 σ (ph R D ops.size) (a.eval x) (sp0 (rho (R.en j) x)) := fun x hx => by
    have := hev x hx
    generalize rho (R.en j) x = p at this ⊢
    generalize a.eval x = u at this ⊢
    cases p with
    | nilsl => cases this; exact .sl0 _ _
    | gr id k => exact .any _
    | _ => exact this
  have hwant : q5c ops (pe R D ops.size) o = q5c ops (R.en j) o := by
    unfold q5c
    split
    · rfl
    · rename_i g want hg
      split
      · rename_i d hgd
        rw [hlook d (by unfold Oper.looksAt; rw [hg]; simp [hgd])]
      · rfl
  obtain ⟨g1, g2, g3, hg⟩ := h.good j o ho
  have hpe : pe R (q2u D j) ops.size = upd (pe R D ops.size) o.dst (R.r j) := by
    rw [pe_insert R D hD (fun i d hij hi hdj' hdi => ?_) hj (Nat.le_refl _), hdj]
    rw [hdj] at hdj'
    rcases (hdst i d hi hdi).1 with e | e
    · exact hij e
    · exact e hdj'
  have hph : ph R (q2u D j) ops.size = (R.e j).app (R.mm j) (ph R D ops.size) := ph_insert h D hj hD (fun k hjk hk hDk hck hcj ht => by
    have := hcl k hk hDk hck _ ht j hj hcj rfl
    rw [hD] at this; cases this) hj (Nat.le_refl _)
  have hfree : ∀ i, R.mm ops.size ≤ i → ph R (q2u D j) ops.size i = none := ph_free h _ (Nat.le_refl _)
  -- closedness, once j is done
  have hclJ : ((R.e j).cnt = 0 → ∀ i, (R.e j).tgt (R.mm j) = some i → ph R D ops.size i ≠ none) → Closed R (q2u D j) := fun hlive k hk hDk hck i ht j' hj' hcj' hmj' => by
    by_cases ekj : k = j
    · subst ekj
      by_cases e2 : j' = k
      · subst e2; exact absurd hck hcj'
      · have : D j' = true := by
          cases hDj' : D j' with
          | true => rfl
          | false => exact absurd (by rw [← hmj']; exact q7j h hcl hj' hDj' hcj' (Nat.le_refl _)) (hlive hck i ht)
        simp [q2u, this]
    · have hDk' : D k = true := by simpa [q2u, ekj] using hDk
      have := hcl k hk hDk' hck i ht j' hj' hcj' hmj'
      simp [q2u, this]
  unfold wpOp
  rw [ho]
  simp only
  rcases hg with ⟨hw, hr, he⟩ | ⟨hw, hg⟩
  · rw [if_neg (by rw [q6g hS.env (hwant.trans hw)]; simp)]
    rw [he] at hph
    refine ⟨⟨σ, ?_⟩, hclJ (fun _ i ht => by rw [he] at ht; cases ht), hdn⟩
    rw [hpe, hph, hr]
    exact hS.step hS.hr hS.free (Nat.le_refl _) (Fr.refl _ _ _ _) hd .undef
  · rw [if_pos (q6g hS.env (hwant.trans hw))]
    refine .inl ?_
    rcases hg with ⟨g, args, hc, hcal, hent, ⟨hp, he⟩ | ⟨rf, hp, he⟩⟩ | ⟨hnc, heq, hrd⟩ | ⟨hnc, n1, e1, z1, fl1, hnw, hr1, he1⟩
    · obtain ⟨vs, hrun, hvl⟩ := q9q (P := P) hev hs0 hcal hent
      unfold Oper.wp
      rw [hrun]
      simp only [Oper.upon]
      refine (hp w (MU M0 σ (ph R D ops.size)) σ (LV (ph R D ops.size)) vs (fun b o' hm => mu_lt hS.hr hm) hvl).mono ?_
      rintro e w' ⟨v, rfl, hv, hb⟩
      rw [he] at hph
      refine ⟨⟨σ, ?_⟩, hclJ (fun _ i ht => by rw [he] at ht; cases ht), hdn⟩
      rw [hpe, hph]
      exact hS.step (hS.hr.all hb.size hb.block) hS.free (Nat.le_refl _) (Fr.all hb) hd hv
    · obtain ⟨vs, hrun, hvl⟩ := q9q (P := P) hev hs0 hcal hent
      have hc1 : (R.e j).cnt ≠ 0 := by rw [hp.1]; simp
      unfold Oper.wp
      rw [hrun]
      simp only [Oper.upon]
      refine (hp.2 w M0 σ (ph R D ops.size) (R.mm j) vs hS.hr (q7j h hcl hj hD hc1 (Nat.le_refl _)) hvl).mono ?_
      rintro e w' ⟨v, σ', rfl, hr', hf', hv⟩
      rw [← hph] at hr' hf' hv
      refine ⟨⟨σ', ?_⟩, hclJ (fun hc0 => absurd hc0 hc1), hdn⟩
      rw [hpe, he]
      exact hS.step hr' hfree (Nat.le_refl _) hf' hd hv
    · have hlive : ∀ y ∈ o.op.operands, (∀ id off, rho (R.en j) y = .ptr id off → ph R D ops.size id ≠ none) ∧ (∀ id k, rho (R.en j) y = .gr id k → ph R D ops.size id ≠ none) := fun y hy => by
        have := hev y hy
        refine ⟨fun id off hp => ?_, fun id k hp => ?_⟩
        · rw [hp] at this
          generalize a.eval y = u at this
          cases this with
          | ptr _ _ hL _ => exact hL
        · rw [hp] at this
          generalize a.eval y = u at this
          cases this with
          | gr _ _ _ _ _ hL _ => exact hL
      have heq' := part_reads h D hj hD (fun k hk => by
        cases hq : q5f ops ops.size k j with
        | false => rfl
        | true => have := q7s hdn0 _ k j hq hk; rw [hD] at this; cases this) (fun k hr => reach_from hdn0 ho hedge hr) hrd hlive heq
      obtain ⟨m1, hm1, heq2, happ⟩ : ∃ m1, ph R D ops.size m1 = none ∧ evOp P (rho (R.en j)) sp0 (ph R D ops.size) m1 o.op = some (R.r j, R.e j) ∧ (R.e j).app m1 (ph R D ops.size) = (R.e j).app (R.mm j) (ph R D ops.size) := by
        by_cases hc : (R.e j).cnt = 0
        · exact ⟨R.mm ops.size, ph_free h D (Nat.le_refl _) _ (Nat.le_refl _), evOp_m heq' hc, app_m hc _ _ _⟩
        · exact ⟨R.mm j, q7j h hcl hj hD hc (Nat.le_refl _), heq', rfl⟩
      obtain ⟨n, v, w', σ', hrun, hgv, hv, hr', hf', _⟩ := op_sound (P := P) hS.hr hm1 hev hs0 heq2
      rw [happ, ← hph] at hv hr' hf'
      have hSt : ∀ v', v' = v → St w0 M0 σ0 H0 m0 nt ds (a.put o.dst v') w' (pe R (q2u D j) ops.size) (ph R (q2u D j) ops.size) (R.mm ops.size) σ' := fun v' e => by
        rw [hpe, e]; exact hS.step hr' hfree (Nat.le_refl _) hf' hd hv
      have hclj : Closed R (q2u D j) := hclJ (fun hc i ht => by
        cases hq : R.e j with
        | nop => rw [hq] at ht; cases ht
        | new _ => rw [hq] at hc; simp [Eff.cnt] at hc
        | born _ _ _ => rw [hq] at hc; simp [Eff.cnt] at hc
        | put id off l => rw [hq] at ht heq'; cases ht; obtain ⟨c, h1, _⟩ := evOp_put heq'; rw [h1]; simp
        | grow id e' sz els => rw [hq] at ht heq'; cases ht; obtain ⟨c, h1⟩ := evOp_growth heq'; rw [h1]; simp)
      unfold Oper.wp
      rw [hrun]
      rcases hgv with rfl | ⟨rfl, hu⟩
      · simp only [Oper.upon]; exact ⟨⟨σ', hSt v rfl⟩, hclj, hdn⟩
      · simp only [Oper.upon]; exact ⟨⟨σ', hSt undef hu.symm⟩, hclj, hdn⟩
    · have hc1 : (R.e j).cnt ≠ 0 := by rw [he1]; simp [Eff.cnt]
      have hm1 := q7j h hcl hj hD hc1 (Nat.le_refl _)
      obtain ⟨n, v, w', σ', hrun, hgv, hv, hr', hf', _⟩ := bs_sound (P := P) hS.hr hm1 hev hs0 (nw_bs hnw _ _)
      rw [← he1, ← hph] at hv hr' hf'
      have hSt : ∀ v', v' = v → St w0 M0 σ0 H0 m0 nt ds (a.put o.dst v') w' (pe R (q2u D j) ops.size) (ph R (q2u D j) ops.size) (R.mm ops.size) σ' := fun v' e => by
        rw [hpe, hr1, e]; exact hS.step hr' hfree (Nat.le_refl _) hf' hd hv
      have hclj : Closed R (q2u D j) := hclJ (fun hc0 => absurd hc0 hc1)
      unfold Oper.wp
      rw [hrun]
      rcases hgv with rfl | ⟨rfl, hu⟩
      · simp only [Oper.upon]; exact ⟨⟨σ', hSt v rfl⟩, hclj, hdn⟩
      · simp only [Oper.upon]; exact ⟨⟨σ', hSt undef hu.symm⟩, hclj, hdn⟩
theorem filt_le {p q : Nat → Bool} (hpq : ∀ x, q x = true → p x = true) : ∀ l : List Nat, (l.filter q).length ≤ (l.filter p).length
  | [] => Nat.le_refl _
  | x :: l => by
    have ih := filt_le hpq l
    by_cases hq : q x = true
    · simp [List.filter_cons, hq, hpq x hq, ih]
    · by_cases hp : p x = true
      · simp [List.filter_cons, hq, hp]; omega
      · simp [List.filter_cons, hq, hp, ih]
theorem filt_lt {p q : Nat → Bool} (hpq : ∀ x, q x = true → p x = true) {y : Nat} (hp : p y = true) (hq : q y = false) : ∀ l : List Nat, y ∈ l → (l.filter q).length < (l.filter p).length
  | [], h => (List.not_mem_nil h).elim
  | x :: l, h => by
    rcases List.mem_cons.1 h with rfl | h
    · have := filt_le hpq l
      simp [List.filter_cons, hq, hp]; omega
    · have ih := filt_lt hpq hp hq l h
      by_cases hq' : q x = true
      · simp [List.filter_cons, hq', hpq x hq', ih]
      · by_cases hp' : p x = true
        · simp [List.filter_cons, hq', hp']; omega
        · simp [List.filter_cons, hq', hp', ih]
def todo (ops : Array Oper) (listed : Array Bool) : Nat := ((List.range ops.size).filter fun i => !listed.getD i false).length
theorem draw_any (h : RunOk R m0) (hok : q2c ops = true) (hd : ∀ (j : Nat) (o : Oper), ops[j]? = some o → ∀ x, o.dst = some x → x < nt) {Q : Exit → Act → World → Prop}
    (hQ : ∀ a w σ, St w0 M0 σ0 H0 m0 nt ds a w (R.en ops.size) (R.hn ops.size) (R.mm ops.size) σ → Q .normal a w) : ∀ (fuel : Nat) (listed : Array Bool) (a : Act) (w : World), listed.size = ops.size → todo ops listed ≤ fuel →
    Inv R w0 M0 σ0 H0 m0 nt ds (fun i => listed.getD i false) a w → wpAny P .any ops Q fuel listed a w := by
  have key : ∀ (listed : Array Bool) (a : Act) (w : World), Region.ready .any ops listed = [] → listed.size = ops.size → Inv R w0 M0 σ0 H0 m0 nt ds (fun i => listed.getD i false) a w → Q .normal a w := by
    intro listed a w hr hsz hI
    have hall : ∀ j, j < ops.size → listed.getD j false = true := by
      intro j
      induction j using Nat.strongRecOn with
      | _ j ih =>
        intro hj
        by_cases hl : listed.getD j false = true
        · exact hl
        · exfalso
          have ho : ops[j]? = some ops[j] := Array.getElem?_eq_getElem hj
          have : j ∈ Region.ready .any ops listed := mem_ready.2 ⟨by
            have hl' : j < listed.size := by omega
            simp [hl'] at hl ⊢; exact hl, ops[j], ho, fun e he hb => by
            have hlt := (q8x hok ho).1 e he hb
            exact ih _ hlt (by omega)⟩
          rw [hr] at this; cases this
    obtain ⟨⟨σ, hS⟩, _⟩ := hI
    refine hQ a w σ ?_
    have e1 : pe R (fun i => listed.getD i false) ops.size = R.en ops.size := by
      rw [q9g R (D2 := before ops.size) (fun i hi => by rw [hall i hi]; simp [before, hi]), en_pe h ops.size (Nat.le_refl _), Nat.min_self]
    have e2 : ph R (fun i => listed.getD i false) ops.size = R.hn ops.size := by
      rw [x0p R (D2 := before ops.size) (fun i hi => by rw [hall i hi]; simp [before, hi]), hn_ph h ops.size (Nat.le_refl _), Nat.min_self]
    rw [e1, e2] at hS; exact hS
  have hset : ∀ (listed : Array Bool) (j : Nat), listed.size = ops.size → j < ops.size → (fun i => (listed.setIfInBounds j true).getD i false) = q2u (fun i => listed.getD i false) j := by
    intro listed j hsz hj
    funext i
    by_cases e : i = j
    · subst e; simp [q2u, show i < listed.size by omega]
    · simp [q2u, e, Array.getElem?_setIfInBounds_ne (Ne.symm e)]
  intro fuel
  induction fuel with
  | zero =>
    intro listed a w hsz ht hI
    have hr : Region.ready .any ops listed = [] := by
      cases hq : Region.ready .any ops listed with
      | nil => rfl
      | cons j rest =>
        exfalso
        have hj : j ∈ Region.ready .any ops listed := by rw [hq]; simp
        obtain ⟨h1, o, ho, _⟩ := mem_ready.1 hj
        have hjs : j < ops.size := (Array.getElem?_eq_some_iff.1 ho).1
        have hjl : j < listed.size := by omega
        have : j ∈ (List.range ops.size).filter fun i => !listed.getD i false := by
          rw [List.mem_filter, List.mem_range]
          refine ⟨hjs, ?_⟩
          simp [hjl] at h1 ⊢; exact h1
        unfold todo at ht
        have := List.length_pos_of_mem this
        omega
    exact ⟨hr, key listed a w hr hsz hI⟩
  | succ fuel ih =>
    intro listed a w hsz ht hI
    refine ⟨fun hr => key listed a w hr hsz hI, fun j hj => ?_⟩
    obtain ⟨h1, o, ho, hedge⟩ := mem_ready.1 hj
    have hjs : j < ops.size := (Array.getElem?_eq_some_iff.1 ho).1
    have hjl : j < listed.size := by omega
    have hDj : listed.getD j false = false := by simp [hjl] at h1 ⊢; exact h1
    refine wpOp_mono (fun a' w' hI' => ih (listed.setIfInBounds j true) a' w' (by simpa using hsz) ?_ (by rw [hset listed j hsz hjs]; exact hI')) (draw_step h hok hI ho (hd j o ho) hDj hedge)
    have : todo ops (listed.setIfInBounds j true) < todo ops listed := by
      unfold todo
      refine filt_lt (y := j) (fun x hx => ?_) (by simp [hDj]) ?_ _ (List.mem_range.2 hjs)
      · have := congrFun (hset listed j hsz hjs) x
        (try simp only at this)
        rw [this] at hx
        by_cases e : x = j
        · subst e; simp [q2u] at hx
        · simpa [q2u, e] using hx
      · have := congrFun (hset listed j hsz hjs) j
        (try simp only at this)
        rw [this]; simp [q2u]
    omega
end
end Go.Proofs.YtoibbedpaaeclaaGreat
end

section
namespace Go.Proofs.YtoibbedpaaeclaaGreat
open Go Go.RowKit
set_option linter.unusedVariables false
set_option linter.unusedSimpArgs false
section
variable {P : Program} {w0 : World} {M0 : Nat → Nat → Prop} {σ0 : Nat → Gh} {H0 : Heap} {m0 nt : Nat} {ds : List Deferred}
theorem pwDraw_sound (hm : P.follows .mixedOrders = true) {ops : Array Oper} {id : Nat} {Q : Ex → Env → Heap → Nat → Prop} {a : Act} {w : World} {env : Env} {H : Heap} {m : Nat} {σ : Nat → Gh} (hS : St w0 M0 σ0 H0 m0 nt ds a w env H m σ)
    (hd : ∀ (j : Nat) (o : Oper), ops[j]? = some o → ∀ x, o.dst = some x → x < nt) (h : pwDraw P ops Q env H m) : (Code.region id ops true).wp P (QQ w0 M0 σ0 H0 m0 nt ds Q) a w := by
  obtain ⟨hok, hdr⟩ := h
  obtain ⟨B, hB, hdr⟩ : ∃ B : List (Eff × List Rg) → Prop, (∀ L, B L → ∀ (i j : Nat) (x y : Eff × List Rg), i < j → L[i]? = some x → L[j]? = some y → q7b ops i j x y = true) ∧ dr P ops ops.toList (fun env' H' m' L => B L ∧ Q .normal env' H' m') env H m := by
    rcases hdr with h | h
    · exact ⟨fun L => q1n L = true, fun L hL i j x y hij hx hy => okPair_R (okAll_get hL hij hx hy), h⟩
    · exact ⟨fun L => q2d ops 0 L = true, fun L hL i j x y hij hx hy => by have := okAllR_get hL hij hx hy; rwa [Nat.zero_add, Nat.zero_add] at this, h⟩
  obtain ⟨R, e1, e2, e3, hgood, L, ⟨hL, hq⟩, hlen, hget⟩ := dr_run ops.toList _ env H m hdr
  have hl0 : ops.toList.length = ops.size := Array.length_toList
  rw [hl0] at hq hlen
  have hR : RunOk R m0 := by
    refine ⟨fun i o ho => hgood i o (by simpa using ho), fun i j hij hj => ?_, fun i hi => ?_, by rw [e3]; exact hS.le⟩
    · have hi : i < L.length := by omega
      have hj' : j < L.length := by omega
      have h1 := hget i _ (List.getElem?_eq_getElem hi)
      have h2 := hget j _ (List.getElem?_eq_getElem hj')
      rw [← h1, ← h2]
      exact hB L hL i j _ _ hij (List.getElem?_eq_getElem hi) (List.getElem?_eq_getElem hj')
    · rw [e2]; rw [e3] at hi; exact hS.free i hi
  have hb : Below w.heap.size w w.drew := (Below.refl _ _).drew
  have hmm : m ≤ R.mm ops.size := by rw [← e3]; exact mm_mono hR (Nat.zero_le _) (Nat.le_refl _)
  have hfalse : ∀ i, (Array.replicate ops.size false).getD i false = false := fun i => by rw [Array.getD_eq_getD_getElem?, Array.getElem?_replicate]; split <;> rfl
  have hpe : pe R (fun i => (Array.replicate ops.size false).getD i false) ops.size = env := by
    have : ∀ k, pe R (fun i => (Array.replicate ops.size false).getD i false) k = R.en 0 := by
      intro k
      induction k with
      | zero => rfl
      | succ k ih => simp only [pe]; rw [if_neg (by rw [hfalse]; simp)]; exact ih
    rw [this, e1]
  have hph : ph R (fun i => (Array.replicate ops.size false).getD i false) ops.size = H := by
    have : ∀ k, ph R (fun i => (Array.replicate ops.size false).getD i false) k = R.hn 0 := by
      intro k
      induction k with
      | zero => rfl
      | succ k ih => simp only [ph]; rw [if_neg (by rw [hfalse]; simp)]; exact ih
    rw [this, e2]
  refine wp_region_any hm (draw_any hR hok hd (fun a' w' σ' hS' => ⟨.normal, _, _, _, σ', hq, hS', trivial⟩) ops.size (Array.replicate ops.size false) a w.drew (by simp) ?_ ⟨⟨σ, ?_⟩, fun k hk hD => (by simp only [hfalse] at hD; cases hD), fun i o _ hD => (by simp only [hfalse] at hD; cases hD)⟩)
  · unfold todo
    exact Nat.le_trans (List.length_filter_le _ _) (by simp)
  · rw [hpe, hph]
    exact ⟨hS.hr.all hb.size hb.block, fun i hi => hS.free i (by omega), by have := hS.le; omega, hS.fr.trans (Fr.all hb), hS.size, hS.defers, fun t => (hS.env t).mono (ext_all hb.block)⟩
def tailOk (ops : Array Oper) (n : Nat) : Bool :=
  (List.range ops.size).all fun k => match ops[k]? with
    | none => true
    | some o => (match o.guard with
      | some (g, _) => decide (g < k)
      | none => true) && ((o.after.all fun e => !Region.binds .any e || decide (e.on < k)) && (decide (k < n) || (List.range k).all fun i => q5f ops ops.size k i))
theorem q8k {ops : Array Oper} {n : Nat} (h : tailOk ops n = true) {k : Nat} {o : Oper} (ho : ops[k]? = some o) : (∀ g want, o.guard = some (g, want) → g < k) ∧ (∀ e ∈ o.after, Region.binds .any e = true → e.on < k) ∧ (n ≤ k → ∀ i, i < k → q5f ops ops.size k i = true) := by
  have hk : k < ops.size := (Array.getElem?_eq_some_iff.1 ho).1
  have h1 := List.all_eq_true.1 h k (List.mem_range.2 hk)
  rw [ho] at h1
  simp only [Bool.and_eq_true] at h1
  obtain ⟨h1, h2, h3⟩ := h1
  refine ⟨fun g want hg => by rw [hg] at h1; simpa using h1, fun e he hb => ?_, fun hn i hi => ?_⟩
  · have := Array.all_eq_true_iff_forall_mem.1 h2 e he
    simpa [hb] using this
  · rw [Bool.or_eq_true] at h3
    rcases h3 with h3 | h3
    · simp only [decide_eq_true_eq] at h3; omega
    · exact List.all_eq_true.1 h3 i (List.mem_range.2 hi)
def pwDrawL (P : Program) (ops : Array Oper) (Q : Ex → Env → Heap → Nat → Prop) (env : Env) (H : Heap) (m : Nat) : Prop :=
  ∃ l1 l2, ops.toList = l1 ++ l2 ∧ tailOk ops l1.length = true ∧ q2c l1.toArray = true ∧ dr P l1.toArray l1 (fun env' H' m' L => q1n L = true ∧ q0i P ops Q l2 env' H' m') env H m
theorem wpOp_pre {ops pre : Array Oper} {j : Nat} {o : Oper} (ho : ops[j]? = some o) (hp : pre[j]? = some o) (hg : ∀ g want, o.guard = some (g, want) → ops[g]? = pre[g]?) {Q : Exit → Act → World → Prop} {K : Act → World → Prop} {a : Act} {w : World} (h : wpOp P pre Q j K a w) : wpOp P ops Q j K a w := by
  unfold wpOp at *
  rw [hp] at h
  rw [ho]
  simp only at h ⊢
  have hw : Region.wanted o (yielded ops a.tmps) = Region.wanted o (yielded pre a.tmps) := by
    unfold Region.wanted
    cases hgd : o.guard with
    | none => rfl
    | some x => obtain ⟨g, want⟩ := x; simp only [yielded]; rw [hg g want hgd]
  rw [hw]; exact h
theorem wpAny_done {ops : Array Oper} {Q : Exit → Act → World → Prop} {listed : Array Bool} {a : Act} {w : World} (hr : Region.ready .any ops listed = []) (hq : Q .normal a w) : ∀ fuel, wpAny P .any ops Q fuel listed a w
  | 0 => ⟨hr, hq⟩
  | fuel + 1 => ⟨fun _ => hq, fun i hi => by rw [hr] at hi; cases hi⟩
theorem q7k {ops : Array Oper} (listed : Array Bool) (j : Nat) (hsz : listed.size = ops.size) (hj : j < ops.size) : (fun i => (listed.setIfInBounds j true).getD i false) = q2u (fun i => listed.getD i false) j := by
  funext i
  by_cases e : i = j
  · subst e; simp [q2u, show i < listed.size by omega]
  · simp [q2u, e, Array.getElem?_setIfInBounds_ne (Ne.symm e)]
theorem is_ready {ops : Array Oper} {listed : Array Bool} (hls : listed.size = ops.size) {j : Nat} {o : Oper} (ho : ops[j]? = some o) (hl : listed.getD j false = false) (he : ∀ e ∈ o.after, Region.binds .any e = true → listed.getD e.on false = true) : j ∈ Region.ready .any ops listed := by
  have hj : j < ops.size := (Array.getElem?_eq_some_iff.1 ho).1
  have hl' : j < listed.size := by omega
  exact mem_ready.2 ⟨by simp [hl'] at hl ⊢; exact hl, o, ho, he⟩
theorem q9d {ops : Array Oper} {listed : Array Bool} (hls : listed.size = ops.size) {j : Nat} (hj : j ∈ Region.ready .any ops listed) : j < ops.size ∧ listed.getD j false = false ∧ ∃ o, ops[j]? = some o ∧ ∀ e ∈ o.after, Region.binds .any e = true → listed.getD e.on false = true := by
  obtain ⟨h1, o, ho, he⟩ := mem_ready.1 hj
  have hjs : j < ops.size := (Array.getElem?_eq_some_iff.1 ho).1
  have hjl : j < listed.size := by omega
  exact ⟨hjs, by simp [hjl] at h1 ⊢; exact h1, o, ho, he⟩
theorem tail_any {ops : Array Oper} {n : Nat} (ht : tailOk ops n = true) (hd : ∀ (j : Nat) (o' : Oper), ops[j]? = some o' → ∀ x, o'.dst = some x → x < nt) {Q : Ex → Env → Heap → Nat → Prop} :
    ∀ (fuel : Nat) (listed : Array Bool) (a : Act) (w : World) (t : Nat) (env : Env) (H : Heap) (m : Nat) (σ : Nat → Gh), listed.size = ops.size → n ≤ t → t ≤ ops.size → (∀ i, i < t → listed.getD i false = true) → (∀ i, t ≤ i → listed.getD i false = false) → ops.size - t ≤ fuel →
      St w0 M0 σ0 H0 m0 nt ds a w env H m σ → q0i P ops Q (ops.toList.drop t) env H m → wpAny P .any ops (QQ w0 M0 σ0 H0 m0 nt ds Q) fuel listed a w := by
  intro fuel
  induction fuel with
  | zero =>
    intro listed a w t env H m σ hls hnt hts h1 h2 hf hS h
    have : t = ops.size := by omega
    subst this
    rw [List.drop_of_length_le (by simp)] at h
    refine wpAny_done ?_ ⟨.normal, env, H, m, σ, h, hS, trivial⟩ 0
    cases hr : Region.ready .any ops listed with
    | nil => rfl
    | cons k rest =>
      exfalso
      obtain ⟨g1, g2, _⟩ := q9d hls (j := k) (by rw [hr]; simp)
      rw [h1 k g1] at g2; cases g2
  | succ fuel ih =>
    intro listed a w t env H m σ hls hnt hts h1 h2 hf hS h
    rcases Nat.lt_or_ge t ops.size with hlt | hge
    · have ho : ops[t]? = some ops[t] := Array.getElem?_eq_getElem hlt
      generalize hoo : ops[t] = o at ho
      have hdrop : ops.toList.drop t = o :: ops.toList.drop (t + 1) := by
        rw [List.drop_eq_getElem_cons (by simpa using hlt)]
        simp [hoo]
      rw [hdrop] at h
      obtain ⟨hg, hel, _⟩ := q8k ht ho
      refine ⟨fun hr => ?_, fun j hj => ?_⟩
      · exfalso
        have := is_ready hls ho (h2 t (Nat.le_refl _)) (fun e he hb => h1 _ (hel e he hb))
        rw [hr] at this; cases this
      · obtain ⟨hjs, hun, o', ho', hedge⟩ := q9d hls hj
        have hjt : j = t := by
          rcases Nat.lt_trichotomy j t with h3 | h3 | h3
          · rw [h1 j h3] at hun; cases hun
          · exact h3
          · exfalso
            have hr := (q8k ht ho').2.2 (by omega) t h3
            have mono : ∀ k, listed.getD k false = true → q2u (fun i => listed.getD i false) j k = true := fun k hk => by simp only [q2u]; split <;> first | rfl | exact hk
            have := q7s (D := q2u (fun i => listed.getD i false) j) (fun i o2 ho2 hi e he hb => by
              by_cases e1 : i = j
              · subst e1
                rw [ho'] at ho2; cases ho2
                exact mono _ (hedge e he hb)
              · simp only [q2u, e1, if_false] at hi
                rcases Nat.lt_or_ge i t with h4 | h4
                · exact mono _ (h1 _ (Nat.lt_trans ((q8k ht ho2).2.1 e he hb) h4))
                · rw [h2 i h4] at hi; cases hi) ops.size j t hr (by simp [q2u])
            simp only [q2u, show t ≠ j by omega, if_false] at this
            rw [h2 t (Nat.le_refl _)] at this; cases this
        subst hjt
        rw [ho] at ho'; cases ho'
        have hps := q9f (P := P) hS (hd _ o ho) (K' := wpAny P .any ops (QQ w0 M0 σ0 H0 m0 nt ds Q) fuel (listed.setIfInBounds j true)) (fun a' w' env' H' m' σ' hk hS' => by
          have hset := fun i => congrFun (q7k listed j hls hjs) i
          refine ih (listed.setIfInBounds j true) a' w' (j + 1) env' H' m' σ' (by simpa using hls) (by omega) (by omega) (fun i hi => ?_) (fun i hi => ?_) (by omega) hS' hk
          · have := hset i
            (try simp only at this)
            rw [this]
            simp only [q2u]
            split
            · rfl
            · exact h1 i (by omega)
          · have := hset i
            (try simp only at this)
            rw [this]
            simp only [q2u]
            rw [if_neg (by omega)]
            exact h2 i (by omega)) h
        unfold wpOp
        rw [ho]
        simp only
        split
        · rename_i hw; rw [if_pos hw] at hps; exact .inl hps
        · rename_i hw; rw [if_neg hw] at hps; exact hps
    · have : t = ops.size := by omega
      subst this
      rw [List.drop_of_length_le (by simp)] at h
      refine wpAny_done ?_ ⟨.normal, env, H, m, σ, h, hS, trivial⟩ _
      cases hr : Region.ready .any ops listed with
      | nil => rfl
      | cons k rest =>
        exfalso
        obtain ⟨g1, g2, _⟩ := q9d hls (j := k) (by rw [hr]; simp)
        rw [h1 k g1] at g2; cases g2
theorem drawL_any {ops pre : Array Oper} {l2 : List Oper} {R : Run P pre} (h : RunOk R m0) (hok : q2c pre = true) (hsz : ops.toList = pre.toList ++ l2) (ht : tailOk ops pre.size = true)
    (hd : ∀ (j : Nat) (o' : Oper), ops[j]? = some o' → ∀ x, o'.dst = some x → x < nt) {Q : Ex → Env → Heap → Nat → Prop} (hq : q0i P ops Q l2 (R.en pre.size) (R.hn pre.size) (R.mm pre.size)) :
    ∀ (fuel : Nat) (listed : Array Bool) (a : Act) (w : World), listed.size = ops.size → todo pre listed + (ops.size - pre.size) ≤ fuel → (∀ i, pre.size ≤ i → listed.getD i false = false) → Inv R w0 M0 σ0 H0 m0 nt ds (fun i => listed.getD i false) a w → wpAny P .any ops (QQ w0 M0 σ0 H0 m0 nt ds Q) fuel listed a w := by
  have hle : pre.size ≤ ops.size := by rw [← Array.length_toList, ← Array.length_toList, hsz]; simp
  have hpre : ∀ j, j < pre.size → ops[j]? = pre[j]? := fun j hj => by
    rw [← Array.getElem?_toList, hsz, List.getElem?_append_left (by simpa using hj)]; simp
  intro fuel
  induction fuel with
  | zero =>
    intro listed a w hls ht' hn hI
    have hall : ∀ i, i < pre.size → listed.getD i false = true := fun i hi => by
      cases hl : listed.getD i false with
      | true => rfl
      | false =>
        have : i ∈ (List.range pre.size).filter fun i => !listed.getD i false := by
          rw [List.mem_filter, List.mem_range]; exact ⟨hi, by rw [hl]; rfl⟩
        have := List.length_pos_of_mem this
        unfold todo at ht'
        omega
    obtain ⟨⟨σ, hS⟩, _⟩ := hI
    have e1 : pe R (fun i => listed.getD i false) pre.size = R.en pre.size := by
      rw [q9g R (D2 := before pre.size) (fun i hi => by rw [hall i hi]; simp [before, hi]), en_pe h pre.size (Nat.le_refl _), Nat.min_self]
    have e2 : ph R (fun i => listed.getD i false) pre.size = R.hn pre.size := by
      rw [x0p R (D2 := before pre.size) (fun i hi => by rw [hall i hi]; simp [before, hi]), hn_ph h pre.size (Nat.le_refl _), Nat.min_self]
    rw [e1, e2] at hS
    exact tail_any ht hd 0 listed a w pre.size _ _ _ σ hls (Nat.le_refl _) hle hall hn (by omega) hS (by rw [hsz, List.drop_left' (by simp)]; exact hq)
  | succ fuel ih =>
    intro listed a w hls ht' hn hI
    by_cases hall : ∀ i, i < pre.size → listed.getD i false = true
    · obtain ⟨⟨σ, hS⟩, _⟩ := hI
      have e1 : pe R (fun i => listed.getD i false) pre.size = R.en pre.size := by
        rw [q9g R (D2 := before pre.size) (fun i hi => by rw [hall i hi]; simp [before, hi]), en_pe h pre.size (Nat.le_refl _), Nat.min_self]
      have e2 : ph R (fun i => listed.getD i false) pre.size = R.hn pre.size := by
        rw [x0p R (D2 := before pre.size) (fun i hi => by rw [hall i hi]; simp [before, hi]), hn_ph h pre.size (Nat.le_refl _), Nat.min_self]
      rw [e1, e2] at hS
      exact tail_any ht hd (fuel + 1) listed a w pre.size _ _ _ σ hls (Nat.le_refl _) hle hall hn (by omega) hS (by rw [hsz, List.drop_left' (by simp)]; exact hq)
    · refine ⟨fun hr => ?_, fun j hj => ?_⟩
      · exfalso
        refine hall fun j => ?_
        induction j using Nat.strongRecOn with
        | _ j ihj =>
          intro hj
          cases hl : listed.getD j false with
          | true => rfl
          | false =>
            exfalso
            have ho : pre[j]? = some pre[j] := Array.getElem?_eq_getElem hj
            have := is_ready hls ((hpre j hj).trans ho) hl (fun e he hb => by
              have hlt := (q8x hok ho).1 e he hb
              exact ihj _ hlt (by omega))
            rw [hr] at this; cases this
      · obtain ⟨hjs, hDj, o', ho', hedge⟩ := q9d hls hj
        have hlt : j < pre.size := by
          rcases Nat.lt_or_ge j pre.size with hlt | hge
          · exact hlt
          · exfalso
            refine hall fun i hi => ?_
            have mono : ∀ k, listed.getD k false = true → q2u (fun i => listed.getD i false) j k = true := fun k hk => by simp only [q2u]; split <;> first | rfl | exact hk
            have := q7s (D := q2u (fun i => listed.getD i false) j) (fun i o2 ho2 hi e he hb => by
              by_cases e1 : i = j
              · subst e1
                rw [ho'] at ho2; cases ho2
                exact mono _ (hedge e he hb)
              · simp only [q2u, e1, if_false] at hi
                have hi' : i < pre.size := by
                  rcases Nat.lt_or_ge i pre.size with h4 | h4
                  · exact h4
                  · rw [hn i h4] at hi; cases hi
                exact mono _ (hI.dn i o2 ((hpre i hi').symm.trans ho2) hi e he hb)) ops.size j i ((q8k ht ho').2.2 hge i (by omega)) (by simp [q2u])
            simpa [q2u, show i ≠ j by omega] using this
        have hp : pre[j]? = some o' := (hpre j hlt).symm.trans ho'
        have hset := q7k listed j hls hjs
        have hless : todo pre (listed.setIfInBounds j true) < todo pre listed := by
          unfold todo
          refine filt_lt (y := j) (fun x hx => ?_) (by simp [hDj]) ?_ _ (List.mem_range.2 hlt)
          · have := congrFun hset x
            (try simp only at this)
            rw [this] at hx
            by_cases e : x = j
            · subst e; simp [q2u] at hx
            · simpa [q2u, e] using hx
          · have := congrFun hset j
            (try simp only at this)
            rw [this]; simp [q2u]
        refine wpOp_pre ho' hp (fun g want hgd => hpre g (Nat.lt_trans ((q8k ht ho').1 g want hgd) hlt)) ?_
        refine wpOp_mono (fun a' w' hI' => ih (listed.setIfInBounds j true) a' w' (by simpa using hls) (by omega) (fun i hi => ?_) (by rw [hset]; exact hI')) (draw_step h hok hI hp (hd j o' ho') hDj hedge)
        have := congrFun hset i
        (try simp only at this)
        rw [this]
        simp only [q2u]
        rw [if_neg (by omega)]; exact hn i hi
theorem pwDrawL_sound (hm : P.follows .mixedOrders = true) {ops : Array Oper} {id : Nat} {Q : Ex → Env → Heap → Nat → Prop} {a : Act} {w : World} {env : Env} {H : Heap} {m : Nat} {σ : Nat → Gh} (hS : St w0 M0 σ0 H0 m0 nt ds a w env H m σ)
    (hd : ∀ (j : Nat) (o : Oper), ops[j]? = some o → ∀ x, o.dst = some x → x < nt) (h : pwDrawL P ops Q env H m) : (Code.region id ops true).wp P (QQ w0 M0 σ0 H0 m0 nt ds Q) a w := by
  obtain ⟨l1, l2, hl, htail, hok, hdr⟩ := h
  obtain ⟨R, e1, e2, e3, hgood, L, ⟨hL, hq⟩, hlen, hget⟩ := dr_run l1 _ env H m hdr
  have hl0 : l1.length = l1.toArray.size := by simp
  rw [hl0] at hq hlen htail
  have hR : RunOk R m0 := by
    refine ⟨fun i o ho => hgood i o (by simpa using ho), fun i j hij hj => ?_, fun i hi => ?_, by rw [e3]; exact hS.le⟩
    · have hi : i < L.length := by omega
      have hj' : j < L.length := by omega
      have h1 := hget i _ (List.getElem?_eq_getElem hi)
      have h2 := hget j _ (List.getElem?_eq_getElem hj')
      rw [← h1, ← h2]
      exact okPair_R (okAll_get hL hij (List.getElem?_eq_getElem hi) (List.getElem?_eq_getElem hj'))
    · rw [e2]; rw [e3] at hi; exact hS.free i hi
  have hb : Below w.heap.size w w.drew := (Below.refl _ _).drew
  have hmm : m ≤ R.mm l1.toArray.size := by rw [← e3]; exact mm_mono hR (Nat.zero_le _) (Nat.le_refl _)
  have hfalse : ∀ i, (Array.replicate ops.size false).getD i false = false := fun i => by rw [Array.getD_eq_getD_getElem?, Array.getElem?_replicate]; split <;> rfl
  have hpe : pe R (fun i => (Array.replicate ops.size false).getD i false) l1.toArray.size = env := by
    have : ∀ k, pe R (fun i => (Array.replicate ops.size false).getD i false) k = R.en 0 := by
      intro k
      induction k with
      | zero => rfl
      | succ k ih => simp only [pe]; rw [if_neg (by rw [hfalse]; simp)]; exact ih
    rw [this, e1]
  have hph : ph R (fun i => (Array.replicate ops.size false).getD i false) l1.toArray.size = H := by
    have : ∀ k, ph R (fun i => (Array.replicate ops.size false).getD i false) k = R.hn 0 := by
      intro k
      induction k with
      | zero => rfl
      | succ k ih => simp only [ph]; rw [if_neg (by rw [hfalse]; simp)]; exact ih
    rw [this, e2]
  refine wp_region_any hm (drawL_any hR hok (l2 := l2) (by rw [hl]) htail hd hq ops.size (Array.replicate ops.size false) a w.drew (by simp) ?_ (fun i _ => hfalse i) ⟨⟨σ, ?_⟩, fun k hk hD => (by simp only [hfalse] at hD; cases hD), fun i o _ hD => (by simp only [hfalse] at hD; cases hD)⟩)
  · have h1 : todo l1.toArray (Array.replicate ops.size false) ≤ l1.toArray.size := by
      unfold todo
      exact Nat.le_trans (List.length_filter_le _ _) (by simp)
    have h2 : l1.toArray.size ≤ ops.size := by rw [← Array.length_toList (xs := ops), hl]; simp
    omega
  · rw [hpe, hph]
    exact ⟨hS.hr.all hb.size hb.block, fun i hi => hS.free i (by omega), by have := hS.le; omega, hS.fr.trans (Fr.all hb), hS.size, hS.defers, fun t => (hS.env t).mono (ext_all hb.block)⟩
def CallQ (P : Program) (g : FuncId) (args : List PV) (H : Heap) (m : Nat) (r : PV) : Prop :=
  ∀ (H' : Heap) (m' : Nat), m ≤ m' → (∀ i, i < m → H' i = H i) → CSat P g args H' m' fun out H'' m'' => out = .ret r ∧ m' ≤ m'' ∧ ∀ i, i < m' → H'' i = H' i
def drq (P : Program) (ops : Array Oper) : List Oper → (Env → Prop) → Env → Heap → Nat → Prop
  | [], K => fun env _ _ => K env
  | o :: rest, K => fun env H m =>
    match q5c ops env o with
    | some false => drq P ops rest K (upd env o.dst .undef) H m
    | some true =>
      if q4a o.op = true then
        match q1i (rho env) sp0 o.op with
        | some (g, args) => q3s P g = true ∧ ∃ r, CallQ P g args H m r ∧ drq P ops rest K (upd env o.dst r) H m
        | none => False
      else match evOp P (rho env) sp0 H m o.op with
        | some (r, .nop) => drq P ops rest K (upd env o.dst r) H m
        | _ => False
    | none => False
def pwDrawQ (P : Program) (ops : Array Oper) (Q : Ex → Env → Heap → Nat → Prop) (env : Env) (H : Heap) (m : Nat) : Prop :=
  q2c ops = true ∧ drq P ops ops.toList (fun env' => ∀ H' m', m ≤ m' → (∀ i, i < m → H' i = H i) → Q .normal env' H' m') env H m
def QGood {P : Program} {ops : Array Oper} (R : Run P ops) (H : Heap) (m : Nat) (i : Nat) (o : Oper) : Prop :=
  R.en (i + 1) = upd (R.en i) o.dst (R.r i) ∧ ((q5c ops (R.en i) o = some false ∧ R.r i = .undef) ∨ (q5c ops (R.en i) o = some true ∧
    ((∃ g args, q4a o.op = true ∧ q1i (rho (R.en i)) sp0 o.op = some (g, args) ∧ q3s P g = true ∧ CallQ P g args H m (R.r i)) ∨
     (q4a o.op ≠ true ∧ evOp P (rho (R.en i)) sp0 H m o.op = some (R.r i, .nop)))))
theorem drq_run {ops : Array Oper} : ∀ (l : List Oper) (K : Env → Prop) (env : Env) (H : Heap) (m : Nat), drq P ops l K env H m →
    ∃ R : Run P ops, R.en 0 = env ∧ (∀ i o, l[i]? = some o → QGood R H m i o) ∧ K (R.en l.length)
  | [], K, env, H, m, h => ⟨⟨fun _ => .any, fun _ => .nop, fun _ => [], fun _ => env, fun _ => H, fun _ => m⟩, rfl, fun i o ho => by simp at ho, h⟩
  | o :: l, K, env, H, m, h => by
    have glue : ∀ (r : PV), drq P ops l K (upd env o.dst r) H m →
        ((q5c ops env o = some false ∧ r = .undef) ∨ (q5c ops env o = some true ∧
          ((∃ g args, q4a o.op = true ∧ q1i (rho env) sp0 o.op = some (g, args) ∧ q3s P g = true ∧ CallQ P g args H m r) ∨
          (q4a o.op ≠ true ∧ evOp P (rho env) sp0 H m o.op = some (r, .nop))))) →
        ∃ R : Run P ops, R.en 0 = env ∧ (∀ i o', (o :: l)[i]? = some o' → QGood R H m i o') ∧ K (R.en (o :: l).length) := by
      intro r hdr hg
      obtain ⟨R, h1, h4, h5⟩ := drq_run l _ _ _ _ hdr
      refine ⟨Run.cons r .nop [] env H m R, rfl, fun i o' ho' => ?_, h5⟩
      cases i with
      | zero =>
        simp at ho'; subst ho'
        exact ⟨h1, hg⟩
      | succ i => exact h4 i o' (by simpa using ho')
    simp only [drq] at h
    split at h
    · rename_i hw
      exact glue .undef h (.inl ⟨hw, rfl⟩)
    · rename_i hw
      split at h
      · rename_i hc
        split at h
        · rename_i g args hcal
          obtain ⟨he, r, hp, h⟩ := h
          exact glue r h (.inr ⟨hw, .inl ⟨g, args, hc, hcal, he, hp⟩⟩)
        · exact h.elim
      · rename_i hc
        split at h
        · rename_i r hev
          exact glue r h (.inr ⟨hw, .inr ⟨hc, hev⟩⟩)
        · exact h.elim
    · exact h.elim
theorem enQ {ops : Array Oper} {R : Run P ops} (h : ∀ i o, ops[i]? = some o → R.en (i + 1) = upd (R.en i) o.dst (R.r i)) (j : Nat) : ∀ {k : Nat}, k ≤ ops.size → pe R (before j) k = R.en (min k j)
  | 0, _ => by rw [Nat.zero_min]; rfl
  | k + 1, hk => by
    simp only [pe, enQ h j (k := k) (by omega)]
    by_cases hkj : k < j
    · rw [if_pos (by simp [before, hkj]), Nat.min_eq_left (by omega), Nat.min_eq_left (by omega)]
      have ho : ops[k]? = some ops[k] := Array.getElem?_eq_getElem (by omega)
      rw [h k _ ho]; simp [q9u, ho]
    · rw [if_neg (by simp [before, hkj]), Nat.min_eq_right (by omega), Nat.min_eq_right (by omega)]
structure InvQ {ops : Array Oper} (R : Run P ops) (w0 : World) (M0 : Nat → Nat → Prop) (σ0 : Nat → Gh) (H0 : Heap) (m0 nt : Nat) (ds : List Deferred) (H : Heap) (m : Nat) (D : Nat → Bool) (a : Act) (w : World) : Prop where
  st : ∃ σ H' m', St w0 M0 σ0 H0 m0 nt ds a w (pe R D ops.size) H' m' σ ∧ m ≤ m' ∧ ∀ i, i < m → H' i = H i
  dn : ∀ i o, ops[i]? = some o → D i = true → ∀ e ∈ o.after, Region.binds .any e = true → D e.on = true
theorem evOp_same {ρ : Operand → PV} {s : PV → PV} {H H' : Heap} {m m' : Nat} {op : Op} {r : PV} (he : evOp P ρ s H m op = some (r, .nop)) (hf : ∀ i, m ≤ i → H i = none) (hs : ∀ i, i < m → H' i = H i) : evOp P ρ s H' m' op = some (r, .nop) := by
  have lt : ∀ id x, H id = some x → H' id = H id := fun id x hx => hs id (by
    rcases Nat.lt_or_ge id m with h | h
    · exact h
    · rw [hf id h] at hx; cases hx)
  exact evOp_m (evOp_heap he (fun y hy id off hp l hl => ⟨l, by rw [lt id _ hl]; exact hl, rfl, fun g hg hgid hgw => rfl⟩) (fun y hy id k hp hg e sz els hl => lt id _ hl)) rfl
theorem drawQ_step {ops : Array Oper} {R : Run P ops} {H : Heap} {m : Nat} (hR : ∀ i o, ops[i]? = some o → QGood R H m i o) (hfree : ∀ i, m ≤ i → H i = none) (hok : q2c ops = true) {D : Nat → Bool} {a : Act} {w : World} (hI : InvQ R w0 M0 σ0 H0 m0 nt ds H m D a w) {j : Nat} {o : Oper} (ho : ops[j]? = some o) (hd : ∀ x, o.dst = some x → x < nt) (hD : D j = false)
    (hedge : ∀ e ∈ o.after, Region.binds .any e = true → D e.on = true) {Q : Exit → Act → World → Prop} : wpOp P ops Q j (fun a' w' => InvQ R w0 M0 σ0 H0 m0 nt ds H m (q2u D j) a' w') a w := by
  obtain ⟨⟨σ, H', m', hS, hmm, hHH⟩, hdn0⟩ := hI
  have hdn : ∀ i o', ops[i]? = some o' → q2u D j i = true → ∀ e ∈ o'.after, Region.binds .any e = true → q2u D j e.on = true := fun i o' ho' hi e he hb => by
    have mono : ∀ k, D k = true → q2u D j k = true := fun k hk => by simp only [q2u]; split <;> first | rfl | exact hk
    by_cases e1 : i = j
    · subst e1
      rw [ho] at ho'; cases ho'
      exact mono _ (hedge e he hb)
    · simp only [q2u, e1, if_false] at hi
      exact mono _ (hdn0 i o' ho' hi e he hb)
  have hj : j < ops.size := (Array.getElem?_eq_some_iff.1 ho).1
  obtain ⟨hlt, hdst⟩ := q8x hok ho
  have hdj : q9u ops j = o.dst := by simp [q9u, ho]
  have hen : R.en j = pe R (before j) ops.size := by rw [enQ (fun i o h => (hR i o h).1) j (Nat.le_refl _), Nat.min_eq_right (by omega)]
  have hlook : ∀ t ∈ o.looksAt ops, R.en j t = pe R D ops.size t := fun t ht => by
    rw [hen]
    refine pe_get R _ _ t (fun i hi hdi => ?_)
    obtain ⟨_, h2⟩ := hdst i t hi hdi
    rcases h2 ht with ⟨h3, e, he, hb, rfl⟩ | ⟨h3, h4⟩
    · rw [hedge e he hb]; simp [before, h3]
    · have hDi : D i = false := by
        cases hq : D i with
        | false => rfl
        | true => have := q7s hdn0 _ i j h4 hq; rw [hD] at this; cases this
      rw [hDi]; simp [before]; omega
  have hev : ∀ x ∈ o.op.operands, VV w M0 σ H' (a.eval x) (rho (R.en j) x) := fun x hx => by
    have := hS.eval x
    cases x with
    | tmp t =>
      have ht : t ∈ o.looksAt ops := by
        unfold Oper.looksAt
        exact List.mem_append_left _ (List.mem_filterMap.2 ⟨.tmp t, by simpa using hx, rfl⟩)
      simp only [rho] at this ⊢
      rw [hlook t ht]; exact this
    | _ => exact this
  have hs0 : ∀ x ∈ o.op.operands, VV w M0 σ H' (a.eval x) (sp0 (rho (R.en j) x)) := fun x hx => by
    have := hev x hx
    generalize rho (R.en j) x = p at this ⊢
    generalize a.eval x = u at this ⊢
    cases p with
    | nilsl => cases this; exact .sl0 _ _
    | gr id k => exact .any _
    | _ => exact this
  have hwant : q5c ops (pe R D ops.size) o = q5c ops (R.en j) o := by
    unfold q5c
    split
    · rfl
    · rename_i g want hg
      split
      · rename_i d hgd
        rw [hlook d (by unfold Oper.looksAt; rw [hg]; simp [hgd])]
      · rfl
  obtain ⟨g1, hg⟩ := hR j o ho
  have hpe : pe R (q2u D j) ops.size = upd (pe R D ops.size) o.dst (R.r j) := by
    rw [pe_insert R D hD (fun i d hij hi hdj' hdi => ?_) hj (Nat.le_refl _), hdj]
    rw [hdj] at hdj'
    rcases (hdst i d hi hdi).1 with e | e
    · exact hij e
    · exact e hdj'
  unfold wpOp
  rw [ho]
  simp only
  rcases hg with ⟨hw, hr⟩ | ⟨hw, hg⟩
  · rw [if_neg (by rw [q6g hS.env (hwant.trans hw)]; simp)]
    refine ⟨⟨σ, H', m', ?_, hmm, hHH⟩, hdn⟩
    rw [hpe, hr]
    exact hS.step hS.hr hS.free (Nat.le_refl _) (Fr.refl _ _ _ _) hd .undef
  · rw [if_pos (q6g hS.env (hwant.trans hw))]
    refine .inl ?_
    rcases hg with ⟨g, args, hc, hcal, hent, hp⟩ | ⟨hnc, heq⟩
    · obtain ⟨vs, hrun, hvl⟩ := q9q (P := P) hev hs0 hcal hent
      unfold Oper.wp
      rw [hrun]
      simp only [Oper.upon]
      refine (hp H' m' hmm hHH w M0 σ vs hS.hr hS.free hvl).mono ?_
      rintro e w' ⟨out, H2, m2, σ2, ⟨rfl, hm2, hH2⟩, hr', hn', hm', hf', hout⟩
      cases e with
      | returned v =>
        refine ⟨⟨σ2, H2, m2, ?_, by omega, fun i hi => by rw [hH2 i (by omega), hHH i hi]⟩, hdn⟩
        rw [hpe]
        exact hS.step hr' hn' hm2 hf' hd hout
      | panicked ch => exact hout.elim
      | outgrown => exact hout.elim
    · have heq' := evOp_same (m' := m') heq hfree hHH
      obtain ⟨n, v, w', σ', hrun, hgv, hv, hr', hf', _⟩ := op_sound (P := P) hS.hr (hS.free m' (Nat.le_refl _)) hev hs0 heq'
      have hSt : ∀ v', v' = v → St w0 M0 σ0 H0 m0 nt ds (a.put o.dst v') w' (pe R (q2u D j) ops.size) H' m' σ' := fun v' e => by
        rw [hpe, e]; exact hS.step hr' hS.free (Nat.le_refl _) hf' hd hv
      unfold Oper.wp
      rw [hrun]
      rcases hgv with rfl | ⟨rfl, hu⟩
      · simp only [Oper.upon]; exact ⟨⟨σ', H', m', hSt v rfl, hmm, hHH⟩, hdn⟩
      · simp only [Oper.upon]; exact ⟨⟨σ', H', m', hSt undef hu.symm, hmm, hHH⟩, hdn⟩
theorem drawQ_any {ops : Array Oper} {R : Run P ops} {H : Heap} {m : Nat} (hR : ∀ i o, ops[i]? = some o → QGood R H m i o) (hfree : ∀ i, m ≤ i → H i = none) (hok : q2c ops = true) (hd : ∀ (j : Nat) (o : Oper), ops[j]? = some o → ∀ x, o.dst = some x → x < nt) {Q : Exit → Act → World → Prop}
    (hQ : ∀ a w σ H' m', St w0 M0 σ0 H0 m0 nt ds a w (R.en ops.size) H' m' σ → m ≤ m' → (∀ i, i < m → H' i = H i) → Q .normal a w) : ∀ (fuel : Nat) (listed : Array Bool) (a : Act) (w : World), listed.size = ops.size → todo ops listed ≤ fuel →
    InvQ R w0 M0 σ0 H0 m0 nt ds H m (fun i => listed.getD i false) a w → wpAny P .any ops Q fuel listed a w := by
  have key : ∀ (listed : Array Bool) (a : Act) (w : World), Region.ready .any ops listed = [] → listed.size = ops.size → InvQ R w0 M0 σ0 H0 m0 nt ds H m (fun i => listed.getD i false) a w → Q .normal a w := by
    intro listed a w hr hsz hI
    have hall : ∀ j, j < ops.size → listed.getD j false = true := by
      intro j
      induction j using Nat.strongRecOn with
      | _ j ih =>
        intro hj
        cases hl : listed.getD j false with
        | true => rfl
        | false =>
          exfalso
          have ho : ops[j]? = some ops[j] := Array.getElem?_eq_getElem hj
          have := is_ready hsz ho hl (fun e he hb => by
            have hlt := (q8x hok ho).1 e he hb
            exact ih _ hlt (by omega))
          rw [hr] at this; cases this
    obtain ⟨⟨σ, H', m', hS, h1, h2⟩, _⟩ := hI
    refine hQ a w σ H' m' ?_ h1 h2
    have e1 : pe R (fun i => listed.getD i false) ops.size = R.en ops.size := by
      rw [q9g R (D2 := before ops.size) (fun i hi => by rw [hall i hi]; simp [before, hi]), enQ (fun i o h => (hR i o h).1) ops.size (Nat.le_refl _), Nat.min_self]
    rw [e1] at hS; exact hS
  intro fuel
  induction fuel with
  | zero =>
    intro listed a w hsz ht hI
    have hr : Region.ready .any ops listed = [] := by
      cases hq : Region.ready .any ops listed with
      | nil => rfl
      | cons j rest =>
        exfalso
        obtain ⟨hjs, hl, _⟩ := q9d hsz (j := j) (by rw [hq]; simp)
        have : j ∈ (List.range ops.size).filter fun i => !listed.getD i false := by
          rw [List.mem_filter, List.mem_range]
          exact ⟨hjs, by rw [hl]; rfl⟩
        unfold todo at ht
        have := List.length_pos_of_mem this
        omega
    exact ⟨hr, key listed a w hr hsz hI⟩
  | succ fuel ih =>
    intro listed a w hsz ht hI
    refine ⟨fun hr => key listed a w hr hsz hI, fun j hj => ?_⟩
    obtain ⟨hjs, hDj, o, ho, hedge⟩ := q9d hsz hj
    refine wpOp_mono (fun a' w' hI' => ih (listed.setIfInBounds j true) a' w' (by simpa using hsz) ?_ (by rw [q7k listed j hsz hjs]; exact hI')) (drawQ_step hR hfree hok hI ho (hd j o ho) hDj hedge)
    have : todo ops (listed.setIfInBounds j true) < todo ops listed := by
      unfold todo
      refine filt_lt (y := j) (fun x hx => ?_) (by simp [hDj]) ?_ _ (List.mem_range.2 hjs)
      · have := congrFun (q7k listed j hsz hjs) x
        (try simp only at this)
        rw [this] at hx
        by_cases e : x = j
        · subst e; simp [q2u] at hx
        · simpa [q2u, e] using hx
      · have := congrFun (q7k listed j hsz hjs) j
        (try simp only at this)
        rw [this]; simp [q2u]
    omega
theorem pwDrawQ_sound (hm : P.follows .mixedOrders = true) {ops : Array Oper} {id : Nat} {Q : Ex → Env → Heap → Nat → Prop} {a : Act} {w : World} {env : Env} {H : Heap} {m : Nat} {σ : Nat → Gh} (hS : St w0 M0 σ0 H0 m0 nt ds a w env H m σ)
    (hd : ∀ (j : Nat) (o : Oper), ops[j]? = some o → ∀ x, o.dst = some x → x < nt) (h : pwDrawQ P ops Q env H m) : (Code.region id ops true).wp P (QQ w0 M0 σ0 H0 m0 nt ds Q) a w := by
  obtain ⟨hok, hdr⟩ := h
  obtain ⟨R, e1, hgood, hq⟩ := drq_run ops.toList _ env H m hdr
  rw [Array.length_toList] at hq
  have hb : Below w.heap.size w w.drew := (Below.refl _ _).drew
  have hfalse : ∀ i, (Array.replicate ops.size false).getD i false = false := fun i => by rw [Array.getD_eq_getD_getElem?, Array.getElem?_replicate]; split <;> rfl
  have hpe : pe R (fun i => (Array.replicate ops.size false).getD i false) ops.size = env := by
    have : ∀ k, pe R (fun i => (Array.replicate ops.size false).getD i false) k = R.en 0 := by
      intro k
      induction k with
      | zero => rfl
      | succ k ih => simp only [pe]; rw [if_neg (by rw [hfalse]; simp)]; exact ih
    rw [this, e1]
  refine wp_region_any hm (drawQ_any (fun i o ho => hgood i o (by simpa using ho)) hS.free hok hd (fun a' w' σ' H' m' hS' h1 h2 => ⟨.normal, _, H', m', σ', hq H' m' h1 h2, hS', trivial⟩) ops.size (Array.replicate ops.size false) a w.drew (by simp) ?_ ⟨⟨σ, H, m, ?_, Nat.le_refl _, fun i _ => rfl⟩, fun i o _ hD => (by simp only [hfalse] at hD; cases hD)⟩)
  · unfold todo
    exact Nat.le_trans (List.length_filter_le _ _) (by simp)
  · rw [hpe]
    exact ⟨hS.hr.all hb.size hb.block, hS.free, hS.le, hS.fr.trans (Fr.all hb), hS.size, hS.defers, fun t => (hS.env t).mono (ext_all hb.block)⟩
/-- Less is known: some temporaries and boxes are left aside. -/
structure Wk (m0 : Nat) (env : Env) (H : Heap) (m : Nat) (env' : Env) (H' : Heap) (m' : Nat) : Prop where
  le : m0 ≤ m'
  heap : ∀ i, H' i = H i ∨ (m0 ≤ i ∧ H' i = none)
  free : ∀ i, m' ≤ i → H' i = none
  env : ∀ t, env' t = .any ∨ (env' t = env t ∧ Bd (LV H') (env t))
  box : ∀ i l, H' i = some (.box l) → ∀ p ∈ l, Bd (LV H') p
  row : ∀ i e sz els, H' i = some (.row e sz els) → ∀ x ∈ els, ∀ p ∈ x, Bd (LV H') p
theorem St.weaken (hbase : ∀ i, m0 ≤ i → H0 i = none) {a : Act} {w : World} {env env' : Env} {H H' : Heap} {m m' : Nat} {σ : Nat → Gh} (hS : St w0 M0 σ0 H0 m0 nt ds a w env H m σ) (hW : Wk m0 env H m env' H' m') : St w0 M0 σ0 H0 m0 nt ds a w env' H' m' σ := by
  have hsub : ∀ i, H' i ≠ none → H' i = H i := fun i hi => by
    rcases hW.heap i with h | h
    · exact h
    · exact absurd h.2 hi
  have hsub' : ∀ i, H' i ≠ none → H i ≠ none := fun i hi => by rw [← hsub i hi]; exact hi
  have hmu : ∀ b o, MU M0 σ H' b o → MU M0 σ H b o := by
    rintro b o (h | ⟨id, l, h1, h2⟩ | ⟨id, e, sz, els, h1, h2, h3⟩)
    · exact .inl h
    · exact .inr (.inl ⟨id, l, by rw [← hsub id (by rw [h1]; simp)]; exact h1, h2⟩)
    · exact .inr (.inr ⟨id, e, sz, els, by rw [← hsub id (by rw [h1]; simp)]; exact h1, h2, h3⟩)
  have hvr : ∀ {v : Value} {p : PV}, VV w M0 σ H v p → Bd (LV H') p → VV w M0 σ H' v p := fun hv hb => hv.bd (fun b o u _ h1 h2 => h1 (hmu b o h2)) (fun id hid => ⟨hid, rfl⟩) hb
  refine ⟨⟨hS.hr.m0, fun id hid => hS.hr.sep id (hsub' id hid), fun i j hi hj => hS.hr.inj i j (hsub' i hi) (hsub' j hj), fun id l hl => ?_, fun id e sz els hl => ?_⟩, hW.free, hW.le, ?_, hS.size, hS.defers, fun t => ?_⟩
  · obtain ⟨h1, c, t, h2, hsh, h3⟩ := hS.hr.box id l (by rw [← hsub id (by rw [hl]; simp)]; exact hl)
    exact ⟨h1, c, t, h2, hsh, h3.len, h3.one, fun i v p hv hp => hvr (h3.rel i v p hv hp) (hW.box id l hl p (q3m hp))⟩
  · obtain ⟨h1, h2, h3, xs, h4, h5⟩ := hS.hr.row id e sz els (by rw [← hsub id (by rw [hl]; simp)]; exact hl)
    refine ⟨h1, h2, h3, xs, h4, h5.len, h5.one, fun i v p hv hp => hvr (h5.rel i v p hv hp) ?_⟩
    obtain ⟨x, hx, hpx⟩ := List.mem_flatten.1 (q3m hp)
    exact hW.row id e sz els hl x hx p hpx
  · have f := hS.fr
    refine ⟨f.os, f.tape, f.output, f.size, f.block, fun id hid => f.own id (hsub' id hid), ⟨fun b o v h1 h2 => ?_, fun id hid => ?_⟩⟩
    · obtain ⟨g1, g2⟩ := f.ext.cell b o v h1 h2
      exact ⟨g1, fun h => g2 (hmu b o h)⟩
    · obtain ⟨g1, g2⟩ := f.ext.gh id hid
      refine ⟨?_, g2⟩
      rcases hW.heap id with h | h
      · unfold LV; rw [h]; exact g1
      · exact absurd (hbase id h.1) hid
  · rcases hW.env t with h | ⟨h, hb⟩
    · rw [h]; exact .any _
    · rw [h]; exact hvr (hS.env t) hb
def Ex.then (next : Env → Heap → Nat → Prop) (Q : Ex → Env → Heap → Nat → Prop) : Ex → Env → Heap → Nat → Prop
  | .normal => next
  | e => Q e
def Ex.inBlock (id : Nat) (Q : Ex → Env → Heap → Nat → Prop) : Ex → Env → Heap → Nat → Prop
  | .exit id' => if id' = id then Q .normal else Q (.exit id')
  | e => Q e
def Lv (m0 : Nat) (I : Env → Heap → Nat → Prop) (env : Env) (H : Heap) (m : Nat) : Prop := ∃ env' H' m', Wk m0 env H m env' H' m' ∧ I env' H' m'
def q0d (P : Program) (m0 : Nat) : Code → (Ex → Env → Heap → Nat → Prop) → Env → Heap → Nat → Prop
  | .skip, Q => Q .normal
  | .region _ ops draw, Q => match draw with
    | false => q0i P ops Q ops.toList
    | true => fun env H m => pwDraw P ops Q env H m ∨ pwDrawL P ops Q env H m ∨ pwDrawQ P ops Q env H m
  | .seq x y, Q => q0d P m0 x (Ex.then (q0d P m0 y Q) Q)
  | .cond c x y, Q => fun env H m => match rho env c with
    | .bool b => (b = true → q0d P m0 x Q env H m) ∧ (b = false → q0d P m0 y Q env H m)
    | _ => False
  | .block id x, Q => q0d P m0 x (Ex.inBlock id Q)
  | .loop x, Q => fun env H m => ∃ (I : Nat → Env → Heap → Nat → Prop) (n : Nat), Lv m0 (I n) env H m ∧
      ∀ n env H m, I n env H m → q0d P m0 x (Ex.then (fun env' H' m' => ∃ n', n' < n ∧ Lv m0 (I n') env' H' m') Q) env H m
  | .exit id, Q => Q (.exit id)
  | .ret, Q => Q .ret
  | _, _ => fun _ _ _ => False
def q4n (nt : Nat) : Code → Bool
  | .region _ ops _ => ops.all fun o => match o.dst with
    | some d => decide (d < nt)
    | none => true
  | .seq x y => q4n nt x && q4n nt y
  | .cond _ x y => q4n nt x && q4n nt y
  | .block _ x => q4n nt x
  | .loop x => q4n nt x
  | _ => true
theorem wp_loop_n {c : Code} {Q : Exit → Act → World → Prop} {a : Act} {w : World} (I : Nat → Act → World → Prop) (n : Nat) (h₀ : I n a w)
    (round : ∀ n a w, I n a w → c.wp P (Exit.then (fun a' w' => ∃ n', n' < n ∧ I n' a' w') Q) a w) : (Code.loop c).wp P Q a w := by
  intro b k cs
  have key : ∀ n a w, I n a w → ∃ e a' w', Q e a' w' ∧ Arrives P (lone (b.at a (.code c :: .inLoop c :: k)) cs w) b k cs e a' w' := by
    intro n
    induction n using Nat.strongRecOn with
    | _ n ih =>
      intro a w hI
      obtain ⟨e, a₁, w₁, hq, harr⟩ := round n a w hI b (.inLoop c :: k) cs
      cases e with
      | normal =>
        obtain ⟨n', hlt, hI₁⟩ := hq
        obtain ⟨e₂, a₂, w₂, hq₂, harr₂⟩ := ih n' hlt a₁ w₁ hI₁
        exact ⟨e₂, a₂, w₂, hq₂, .of_steps (Steps.trans harr (.one step_inLoop)) harr₂⟩
      | exit id => exact ⟨_, a₁, w₁, hq, .pass (x := .inLoop c) rfl (fun _ _ => .inl (by simp)) harr⟩
      | goto l => exact ⟨_, a₁, w₁, hq, .pass (x := .inLoop c) rfl (fun _ _ => .inl (by simp)) harr⟩
      | ret => exact ⟨_, a₁, w₁, hq, .pass (x := .inLoop c) rfl (fun _ _ => .inl (by simp)) harr⟩
      | panic ch => exact ⟨_, a₁, w₁, hq, .pass (x := .inLoop c) rfl (fun _ _ => .inl (by simp)) harr⟩
      | outgrown => exact ⟨_, a₁, w₁, hq, .pass (x := .inLoop c) rfl (fun _ _ => .inl (by simp)) harr⟩
  obtain ⟨e, a', w', hq, harr⟩ := key n a w h₀
  exact ⟨e, a', w', hq, .of_steps (.one step_loop) harr⟩
theorem qq_then {next : Env → Heap → Nat → Prop} {Q : Ex → Env → Heap → Nat → Prop} {K : Act → World → Prop} (hK : ∀ a w env H m σ, next env H m → St w0 M0 σ0 H0 m0 nt ds a w env H m σ → K a w) :
    ∀ e a w, QQ w0 M0 σ0 H0 m0 nt ds (Ex.then next Q) e a w → Exit.then K (QQ w0 M0 σ0 H0 m0 nt ds Q) e a w := by
  rintro e a w ⟨ex, env, H, m, σ, hq, hS, hr⟩
  cases e <;> cases ex <;> first
    | exact hr.elim
    | exact hK a w env H m σ hq hS
    | exact ⟨_, env, H, m, σ, hq, hS, hr⟩
theorem q3d (hm : P.follows .mixedOrders = true) (hbase : ∀ i, m0 ≤ i → H0 i = none) : ∀ (c : Code) (Q : Ex → Env → Heap → Nat → Prop) (a : Act) (w : World) (env : Env) (H : Heap) (m : Nat) (σ : Nat → Gh), q4n nt c = true →
    St w0 M0 σ0 H0 m0 nt ds a w env H m σ → q0d P m0 c Q env H m → c.wp P (QQ w0 M0 σ0 H0 m0 nt ds Q) a w := by
  intro c
  induction c with
  | skip => intro Q a w env H m σ hd hS h; exact wp_skip ⟨.normal, env, H, m, σ, h, hS, trivial⟩
  | region id ops draw =>
    intro Q a w env H m σ hd hS h
    have hdst : ∀ o ∈ ops, ∀ x, o.dst = some x → x < nt := fun o ho x hx => by
      have := Array.all_eq_true_iff_forall_mem.1 hd o ho
      rw [hx] at this; simpa using this
    cases draw with
    | false => exact wp_region_list (x0d ops.toList a w env H m σ hS (fun o ho => hdst o (Array.mem_toList_iff.1 ho)) h)
    | true =>
      rcases h with h | h | h
      · exact pwDraw_sound hm hS (fun j o ho => hdst o (Array.mem_of_getElem? ho)) h
      · exact pwDrawL_sound hm hS (fun j o ho => hdst o (Array.mem_of_getElem? ho)) h
      · exact pwDrawQ_sound hm hS (fun j o ho => hdst o (Array.mem_of_getElem? ho)) h
  | seq x y ihx ihy =>
    intro Q a w env H m σ hd hS h
    simp only [q4n, Bool.and_eq_true] at hd
    refine wp_seq (wp_mono (ihx _ a w env H m σ hd.1 hS h) (qq_then fun a' w' env' H' m' σ' hn hS' => ihy Q a' w' env' H' m' σ' hd.2 hS' hn))
  | cond c x y ihx ihy =>
    intro Q a w env H m σ hd hS h
    simp only [q4n, Bool.and_eq_true] at hd
    simp only [q0d] at h
    split at h
    · rename_i b hb
      have hv := hS.eval c
      rw [hb] at hv
      have hc : a.eval c = .bool b := by generalize a.eval c = u at hv; cases hv; rfl
      refine wp_cond hc ?_
      cases b with
      | true => exact ihx Q a w env H m σ hd.1 hS (h.1 rfl)
      | false => exact ihy Q a w env H m σ hd.2 hS (h.2 rfl)
    · exact h.elim
  | block id x ih =>
    intro Q a w env H m σ hd hS h
    refine wp_block (wp_mono (ih _ a w env H m σ hd hS h) ?_)
    rintro e a' w' ⟨ex, env', H', m', σ', hq, hS', hr⟩
    cases e <;> cases ex <;> first
      | exact hr.elim
      | exact ⟨_, env', H', m', σ', hq, hS', hr⟩
      | (have hr' : _ = _ := hr
         subst hr'
         simp only [Exit.inBlock, Ex.inBlock] at hq ⊢
         split
         · rename_i he; rw [if_pos he] at hq; exact ⟨.normal, env', H', m', σ', hq, hS', trivial⟩
         · rename_i he; rw [if_neg he] at hq; exact ⟨_, env', H', m', σ', hq, hS', rfl⟩)
  | loop x ih =>
    intro Q a w env H m σ hd hS h
    obtain ⟨I, n, ⟨env1, H1, m1, hW, hI⟩, hround⟩ := h
    refine wp_loop_n (fun n a w => ∃ env H m σ, I n env H m ∧ St w0 M0 σ0 H0 m0 nt ds a w env H m σ) n ⟨env1, H1, m1, σ, hI, hS.weaken hbase hW⟩ ?_
    rintro n a w ⟨env, H, m, σ, hI, hS⟩
    refine wp_mono (ih _ a w env H m σ hd hS (hround n env H m hI)) (qq_then ?_)
    rintro a' w' env' H' m' σ' ⟨n', hlt, env2, H2, m2, hW2, hI2⟩ hS'
    exact ⟨n', hlt, env2, H2, m2, σ', hI2, hS'.weaken hbase hW2⟩
  | exit id => intro Q a w env H m σ hd hS h; exact wp_exit ⟨.exit id, env, H, m, σ, h, hS, rfl⟩
  | ret => intro Q a w env H m σ hd hS h; exact wp_ret ⟨.ret, env, H, m, σ, h, hS, trivial⟩
  | rangeFunc f p x y ihx ihy => intro Q a w env H m σ hd hS h; exact h.elim
  | scope x ih => intro Q a w env H m σ hd hS h; exact h.elim
  | label l => intro Q a w env H m σ hd hS h; exact h.elim
  | goto l => intro Q a w env H m σ hd hS h; exact h.elim
  | refuse s => intro Q a w env H m σ hd hS h; exact h.elim
def resOne (P : Program) (env : Env) (H : Heap) : ResultVar → Option PV
  | .tmp t => some (strip H (env t))
  | .cell a t => match env a with
    | .ptr id off => match H id with
      | some (.box l) => cut P t l off
      | _ => none
    | _ => none
def q8m (P : Program) (env : Env) (H : Heap) : List ResultVar → Option (List PV)
  | [] => some []
  | x :: l => match resOne P env H x with
    | some p => match q8m P env H l with
      | some ps => some (p :: ps)
      | none => none
    | none => none
def q8g (P : Program) (rs : List ResultVar) (env : Env) (H : Heap) : Option PV :=
  match q8m P env H rs with
  | some [p] => some p
  | some ps => some (.tup ps)
  | none => none
def retQ (P : Program) (rs : List ResultVar) (Q : Out → Heap → Nat → Prop) : Ex → Env → Heap → Nat → Prop
  | .normal, env, H, m => match q8g P rs env H with
    | some r => Q (.ret r) H m
    | none => False
  | .ret, env, H, m => match q8g P rs env H with
    | some r => Q (.ret r) H m
    | none => False
  | .pan p, _, H, m => Q (.pan p) H m
  | .exit _, _, _, _ => False
def q4x (args : List PV) : Env := fun t => args.getD t .undef
def resSem (tmps : Array Value) : ResultVar → Sem Value
  | .tmp t => pure (tmps.getD t undef)
  | .cell a t => do loadVar t (← asAddr (tmps.getD a undef))
theorem resAll_sound {a : Act} {w : World} {env : Env} {H : Heap} {σ : Nat → Gh} (hr : HR w M0 σ H) (henv : ∀ t, VV w M0 σ H (a.tmps.getD t undef) (env t)) : ∀ (rs : List ResultVar) (ps : List PV), q8m P env H rs = some ps →
    ∃ vs : List Value, (rs.mapM (resSem a.tmps)).run P w = .ok vs w ∧ VL w (MU M0 σ H) σ (LV H) vs ps
  | [], ps, h => by simp only [q8m, Option.some.injEq] at h; subst h; exact ⟨[], by simp, rfl, fun i v p hv => by simp at hv⟩
  | x :: rs, ps, h => by
    simp only [q8m] at h
    split at h
    · rename_i p hp
      split at h
      · rename_i ps' hps
        cases h
        obtain ⟨vs, h1, h2⟩ := resAll_sound hr henv rs ps' hps
        have hx : ∃ v, (resSem a.tmps x).run P w = .ok v w ∧ VV w M0 σ H v p := by
          cases x with
          | tmp t => simp only [resOne, Option.some.injEq] at hp; subst hp; exact ⟨_, rfl, vr_strip hr (henv t)⟩
          | cell b t =>
            simp only [resOne] at hp
            split at hp
            · rename_i id off hb
              split at hp
              · rename_i l hid
                have hv := henv b
                rw [hb] at hv
                generalize hub : a.tmps.getD b undef = u at hv
                cases hv with
                | ptr _ _ hL h0 =>
                  obtain ⟨_, c, t', hg, _, hcr⟩ := hr.box id l hid
                  obtain ⟨v, g1, g2⟩ := load_sound (P := P) (b := (σ id).blk) (o := 0) (w := w) (fun j v hv => by
                    rw [cell_of_row w _ _ c t' (0, 0) hg, Nat.zero_add]; rw [List.getElem?_take] at hv; split at hv <;> simp_all) hcr hp
                  refine ⟨v, ?_, g2⟩
                  simp only [resSem, hub, asAddr, pure_bind]
                  rw [Nat.zero_add] at g1
                  exact g1
              · cases hp
            · cases hp
        obtain ⟨v, g1, g2⟩ := hx
        refine ⟨v :: vs, ?_, by simp [h2.1], fun i u q hu hq => ?_⟩
        · rw [List.mapM_cons, Sem.run_bind, g1]
          simp only [Result.andThen_ok, Sem.run_bind, h1, Sem.run_pure]
        · cases i with
          | zero => simp at hu hq; subst hu; subst hq; exact g2
          | succ i => exact h2.2 i u q (by simpa using hu) (by simpa using hq)
      · cases h
    · cases h
theorem x0b {fn : Func} {a : Act} {w : World} {env : Env} {H : Heap} {σ : Nat → Gh} {r : PV} (hr : HR w M0 σ H) (henv : ∀ t, VV w M0 σ H (a.tmps.getD t undef) (env t)) (h : q8g P fn.results.toList env H = some r) : ∃ v, (results fn a.tmps).run P w = .ok v w ∧ VV w M0 σ H v r := by
  unfold q8g at h
  have key : ∀ ps, q8m P env H fn.results.toList = some ps → ∃ vs : List Value, (results fn a.tmps).run P w = .ok (if h : vs.toArray.size = 1 then vs.toArray[0] else .tuple vs.toArray) w ∧ VL w (MU M0 σ H) σ (LV H) vs ps := by
    intro ps hps
    obtain ⟨vs, h1, h2⟩ := resAll_sound (P := P) hr henv _ ps hps
    refine ⟨vs, ?_, h2⟩
    have e : results fn a.tmps = (do
        let vs ← fn.results.mapM (resSem a.tmps)
        pure (if h : vs.size = 1 then vs[0] else .tuple vs)) := by
      unfold results
      congr 1
    rw [e, Sem.run_bind, Array.mapM_eq_mapM_toList, Sem.run_map, h1]
    rfl
  split at h
  · rename_i p hps
    cases h
    obtain ⟨vs, h1, h2⟩ := key _ hps
    obtain ⟨v, rfl⟩ := List.length_eq_one_iff.1 (h2.1.trans rfl)
    exact ⟨v, by rw [h1]; rfl, h2.2 0 v _ rfl rfl⟩
  · rename_i ps hne hps
    cases h
    obtain ⟨vs, h1, h2⟩ := key _ hps
    refine ⟨.tuple vs.toArray, ?_, .tup vs ps h2.1 h2.2⟩
    rw [h1, dif_neg]
    intro hs
    have : ps.length = 1 := by rw [← h2.1]; simpa using hs
    obtain ⟨p, rfl⟩ := List.length_eq_one_iff.1 this
    exact hne p rfl
  · cases h
/-- A function's contract, by its code. -/
theorem CSat_of_pw (hm : P.follows .mixedOrders = true) {f : FuncId} {fn : Func} {c : Code} {args : List PV} {H : Heap} {m : Nat} {Q : Out → Heap → Nat → Prop} (hf : P.funcs[f]? = some fn) (hb : fn.body = some c) (hn : args.length ≤ fn.ntmps)
    (hd : q4n fn.ntmps c = true) (h : q0d P m c (retQ P fn.results.toList Q) (q4x args) H m) : CSat P f args H m Q := by
  intro w M0 σ vs hr hfree hvl
  refine calls_of_wp hf hb ?_
  have hsz : (vs.toArray ++ Array.replicate (fn.ntmps - vs.toArray.size) undef).size = fn.ntmps := by
    have := hvl.1
    simp only [Array.size_append, List.size_toArray, Array.size_replicate]; omega
  have hS : St w M0 σ H m fn.ntmps [] { tmps := vs.toArray ++ Array.replicate (fn.ntmps - vs.toArray.size) undef, defers := [] } w (q4x args) H m σ := by
    refine ⟨hr, hfree, Nat.le_refl _, Fr.refl _ _ _ _, hsz, rfl, fun t => ?_⟩
    unfold q4x
    simp only [Array.getD_eq_getD_getElem?, List.getD_eq_getElem?_getD]
    by_cases ht : t < vs.length
    · rw [Array.getElem?_append_left (by simpa using ht)]
      have ht' : t < args.length := by rw [← hvl.1]; exact ht
      rw [List.getElem?_toArray, List.getElem?_eq_getElem ht, List.getElem?_eq_getElem ht']
      exact hvl.2 t _ _ (List.getElem?_eq_getElem ht) (List.getElem?_eq_getElem ht')
    · have ht' : args.length ≤ t := by rw [← hvl.1]; omega
      rw [List.getElem?_eq_none ht', Array.getElem?_append_right (by simpa using Nat.le_of_not_lt ht), Array.getElem?_replicate]
      split <;> exact .undef
  refine wp_mono (q3d hm hfree c _ _ w _ H m σ hd hS h) ?_
  rintro e a w' ⟨ex, env, H', m', σ', hq, hS', hx⟩
  have fin : ∀ r, q8g P fn.results.toList env H' = some r → Q (.ret r) H' m' → ∃ v, (results fn a.tmps).run P w' = .ok v w' ∧ ∃ out H' m' σ', Q out H' m' ∧ HR w' M0 σ' H' ∧ (∀ i, m' ≤ i → H' i = none) ∧ m ≤ m' ∧ Fr w M0 σ H w' σ' H' ∧ OutR w' M0 σ' H' (.returned v) out := by
    intro r hres hq
    obtain ⟨v, h1, h2⟩ := x0b (P := P) hS'.hr hS'.env hres
    exact ⟨v, h1, .ret r, H', m', σ', hq, hS'.hr, hS'.free, hS'.le, hS'.fr, h2⟩
  cases e with
  | normal =>
    cases ex <;> first | exact hx.elim | skip
    simp only [retQ] at hq
    split at hq
    · rename_i r hres
      obtain ⟨v, h1, h2⟩ := fin r hres hq
      exact ⟨hS'.defers, v, h1, h2⟩
    · exact hq.elim
  | ret =>
    cases ex <;> first | exact hx.elim | skip
    simp only [retQ] at hq
    split at hq
    · rename_i r hres
      obtain ⟨v, h1, h2⟩ := fin r hres hq
      exact ⟨hS'.defers, v, h1, h2⟩
    · exact hq.elim
  | panic ch =>
    cases ex <;> first | exact hx.elim | skip
    exact ⟨hS'.defers, _, H', m', σ', hq, hS'.hr, hS'.free, hS'.le, hS'.fr, hx⟩
  | exit id =>
    cases ex <;> first | exact hx.elim | exact hq.elim
  | goto l => cases ex <;> exact hx.elim
  | outgrown => cases ex <;> exact hx.elim
theorem csat_of_pure {f : FuncId} {args : List PV} {r : PV} {H : Heap} {m : Nat} {Q : Out → Heap → Nat → Prop} (h : Pure P f args r) (hq : Q (.ret r) H m) : CSat P f args H m Q := by
  intro w M0 σ vs hr hfree hvl
  refine (h w (MU M0 σ H) σ (LV H) vs (fun b o hm => mu_lt hr hm) hvl).mono ?_
  rintro e w' ⟨v, rfl, hv, hb⟩
  exact ⟨.ret r, H, m, σ, hq, hr.all hb.size hb.block, hfree, Nat.le_refl _, Fr.all hb, hv⟩
theorem pure_of_csat {f : FuncId} {args : List PV} {r : PV} (ha : ∀ p ∈ args, NoId p) (hr : NoId r) (h : CSat P f args (fun _ => none) 0 (fun out _ _ => out = .ret r)) : Pure P f args r := by
  intro w M σ L vs hM hvl
  have hmu : ∀ (σ' : Nat → Gh) b o, MU M σ' (fun _ => none) b o ↔ M b o := fun σ' b o => by
    refine ⟨fun h => ?_, fun h => .inl h⟩
    rcases h with h | ⟨id, l, h1, _⟩ | ⟨id, e, sz, els, h1, _⟩
    · exact h
    · cases h1
    · cases h1
  have h0 : HR w M σ (fun _ => none) := ⟨hM, fun id h => absurd rfl h, fun i j h => absurd rfl h, fun id l h => (by cases h), fun id e sz els h => (by cases h)⟩
  refine (h w M σ vs h0 (fun _ _ => rfl) ⟨hvl.1, fun i v p hv hp => (hvl.2 i v p hv hp).bd (fun b o u _ h1 h2 => h1 ((hmu σ b o).1 h2)) (fun _ h => h.elim) (ha p (q3m hp))⟩).mono ?_
  rintro e w' ⟨out, H', m', σ', rfl, hr', hfree, _, hf, ho⟩
  cases e with
  | returned v =>
    refine ⟨v, rfl, ?_, ⟨hf.os, hf.tape, hf.output, hf.size, fun b hb => hf.block b hb (fun id h => absurd rfl h)⟩⟩
    exact VR.bd (fun b o u _ h1 h2 => h1 (.inl h2)) (fun _ h => h.elim) ho hr
  | panicked ch => exact ho.elim
  | outgrown => exact ho.elim
end
end Go.Proofs.YtoibbedpaaeclaaGreat
end

section
namespace Go.Proofs.YtoibbedpaaeclaaGreat
open Go Go.RowKit
set_option linter.unusedVariables false
set_option linter.unusedSimpArgs false
section
variable {P : Program} {ops : Array Oper} {o : Oper} {rest : List Oper} {Q : Ex → Env → Heap → Nat → Prop} {env : Env} {H : Heap} {m m0 : Nat}
/-- 'a' comes to 'b'. -/
def Nm {α : Type} (a b : α) : Prop := a = b
theorem nm {α : Type} {a : α} : Nm a a := rfl
theorem q0c (h : Q .normal env H m) : q0i P ops Q [] env H m := h
/-- On, behind what an operation has made. -/
def goOn (P : Program) (ops : Array Oper) (Q : Ex → Env → Heap → Nat → Prop) (rest : List Oper) (d : Option Tmp) (env : Env) (H : Heap) (m : Nat) : Option (PV × Eff) → Prop
  | some (r, e) => q0i P ops Q rest (upd env d r) (e.app m H) (m + e.cnt)
  | none => False
def q2w (P : Program) (ops : Array Oper) (Q : Ex → Env → Heap → Nat → Prop) (rest : List Oper) (d : Option Tmp) (r : PV) (env : Env) (H : Heap) (m id off : Nat) (l : List PV) : Option HE → Prop
  | some (.box c) => ∀ l', splice c off l = l' → q0i P ops Q rest (upd env d r) (hset H id (some (.box l'))) m
  | _ => False
def q0k (P : Program) (ops : Array Oper) (Q : Ex → Env → Heap → Nat → Prop) (rest : List Oper) (o : Oper) (env : Env) (H : Heap) (m : Nat) : Prop :=
  if q4a o.op = true then
    match q1i (rho env) (strip H) o.op with
    | some (g, args) => q3s P g = true ∧ CSat P g args H m fun out H' m' => match out with
      | .ret v => q0i P ops Q rest (upd env o.dst v) H' m'
      | .pan v => Q (.pan v) env H' m'
    | none => False
  else if x0k o.op = true then
    match panicP (rho env) (strip H) o.op with
    | some p => Q (.pan p) env H m
    | none => False
  else (match evOp P (rho env) (strip H) H m o.op with
    | some (r, e) => q0i P ops Q rest (upd env o.dst r) (e.app m H) (m + e.cnt)
    | none => False) ∨ (match evBs P (rho env) (strip H) H m o.op with
    | some (r, e) => q0i P ops Q rest (upd env o.dst r) (e.app m H) (m + e.cnt)
    | none => False)
def gW (want : Bool) : PV → Option Bool
  | .bool b => some (b == want)
  | .undef => some false
  | _ => none
def wGo (a b : Prop) : Option Bool → Prop
  | some c => (c = true → a) ∧ (c = false → b)
  | none => False
theorem q0e (hg : o.guard = none) (h : q0k P ops Q rest o env H m) : q0i P ops Q (o :: rest) env H m := by
  simp only [q0i, pwOp, q5c, hg]; exact h
def dstAtL : List Oper → Nat → Option Tmp
  | [], _ => none
  | o :: _, 0 => o.dst
  | _ :: l, n + 1 => dstAtL l n
theorem x1a : ∀ (l : List Oper) (j : Nat), (l.toArray[j]?).bind (·.dst) = dstAtL l j
  | [], j => by simp [dstAtL]
  | o :: l, 0 => by simp [dstAtL]
  | o :: l, j + 1 => by have := x1a l j; simpa [dstAtL] using this
theorem pops_w {j d : Nat} {want : Bool} (hg : o.guard = some (j, want)) (hd : (ops[j]?).bind (·.dst) = some d) {v : _} (hx : Nm (env d) v) (h : wGo (q0k P ops Q rest o env H m) (q0i P ops Q rest (upd env o.dst .undef) H m) (gW want v)) : q0i P ops Q (o :: rest) env H m := by
  have := h
  rw [← hx] at this
  have hw : q5c ops env o = gW want (env d) := by simp only [q5c, hg, hd, gW]; rfl
  simp only [q0i, pwOp]
  rw [hw]
  cases hw : gW want (env d) with
  | none => rw [hw] at this; exact this.elim
  | some b =>
    rw [hw] at this
    cases b with
    | true => exact this.1 rfl
    | false => exact this.2 rfl
theorem q1a {l : List Oper} {j d : Nat} {want : Bool} (hg : o.guard = some (j, want)) (hd : dstAtL l j = some d) {v : _} (h : wGo (q0k P l.toArray Q rest o env H m) (q0i P l.toArray Q rest (upd env o.dst .undef) H m) (gW want v)) (hx : Nm (env d) v := by (try simp only [go_sem, *]); exact nm) : q0i P l.toArray Q (o :: rest) env H m := pops_w hg ((x1a l j).trans hd) hx h
theorem gw_u {a b : Prop} {want : Bool} (h : b) : wGo a b (gW want .undef) := ⟨fun e => (by cases e), fun _ => h⟩
theorem q3h {a b : Prop} (h : a) : wGo a b (gW true (.bool true)) := ⟨fun _ => h, fun e => (by cases e)⟩
theorem q3r {a b : Prop} (h : b) : wGo a b (gW true (.bool false)) := ⟨fun e => (by cases e), fun _ => h⟩
theorem q4y {a b : Prop} (h : b) : wGo a b (gW false (.bool true)) := ⟨fun e => (by cases e), fun _ => h⟩
theorem q4b {a b : Prop} (h : a) : wGo a b (gW false (.bool false)) := ⟨fun _ => h, fun e => (by cases e)⟩
theorem q9r {a b : Prop} {c : Bool} (h : c = true → a) (k : c = false → b) : wGo a b (gW true (.bool c)) := by cases c <;> exact ⟨fun e => (by first | exact h rfl | cases e), fun e => (by first | exact k rfl | cases e)⟩
theorem gw_fb {a b : Prop} {c : Bool} (h : c = false → a) (k : c = true → b) : wGo a b (gW false (.bool c)) := by cases c <;> exact ⟨fun e => (by first | exact h rfl | cases e), fun e => (by first | exact k rfl | cases e)⟩
theorem gw_tn {a b : Prop} {c : Bool} (h : c = false → a) (k : c = true → b) : wGo a b (gW true (.bool !c)) := by cases c <;> exact ⟨fun e => (by first | exact h rfl | cases e), fun e => (by first | exact k rfl | cases e)⟩
theorem q9s {a b : Prop} {c : Bool} (h : c = true → a) (k : c = false → b) : wGo a b (gW false (.bool !c)) := by cases c <;> exact ⟨fun e => (by first | exact h rfl | cases e), fun e => (by first | exact k rfl | cases e)⟩
theorem q0f (hc : q4a o.op = false) (hp : x0k o.op = false) {x : _} (h : goOn P ops Q rest o.dst env H m x) (hx : Nm (evOp P (rho env) (strip H) H m o.op) x := by (try simp only [go_sem, *]); exact nm) : q0k P ops Q rest o env H m := by
  have := h
  rw [← hx] at this
  simp only [q0k, hc, hp, Bool.false_eq_true, if_false]
  exact .inl this
theorem run_bs (hc : q4a o.op = false) (hp : x0k o.op = false) {x : _} (h : goOn P ops Q rest o.dst env H m x) (hx : Nm (evBs P (rho env) (strip H) H m o.op) x := by (try simp only [go_sem, *]); exact nm) : q0k P ops Q rest o env H m := by
  have := h
  rw [← hx] at this
  simp only [q0k, hc, hp, Bool.false_eq_true, if_false]
  exact .inr this
def isMem : Op → Bool
  | .store _ _ _ => true
  | .alloc _ => true
  | _ => false
/-- Own rows in boxes: a store of an own row, a variable that is a nil slice. -/
theorem run_gr (hs : isMem o.op = true) (hc : q4a o.op = false) (hp : x0k o.op = false) {x : _} (h : goOn P ops Q rest o.dst env H m x) (hx : Nm (evBs P (rho env) (strip H) H m o.op) x := by (try simp only [go_sem, *]); exact nm) : q0k P ops Q rest o env H m := run_bs hc hp h hx
theorem q0g {d : Option Tmp} {r : PV} (h : q0i P ops Q rest (upd env d r) H m) : goOn P ops Q rest d env H m (some (r, .nop)) := h
theorem q1d {d : Option Tmp} {r : PV} {l : List PV} {n : Nat} (h : q0i P ops Q rest (upd env d r) (hset H m (some (.box l))) n) (hx : Nm (m + 1) n := by (try simp only [go_sem, *]); exact nm) : goOn P ops Q rest d env H m (some (r, .new l)) := by rw [← hx] at h; exact h
theorem q7u {d : Option Tmp} {r : PV} {e sz : Nat} {l : List (List PV)} {n : Nat} (h : q0i P ops Q rest (upd env d r) (hset H m (some (.row e sz l))) n) (hx : Nm (m + 1) n := by (try simp only [go_sem, *]); exact nm) : goOn P ops Q rest d env H m (some (r, .born e sz l)) := by rw [← hx] at h; exact h
theorem q7a {d : Option Tmp} {r : PV} {id e sz : Nat} {l : List (List PV)} (h : q0i P ops Q rest (upd env d r) (hset H id (some (.row e sz l))) m) : goOn P ops Q rest d env H m (some (r, .grow id e sz l)) := h
theorem q1x {d : Option Tmp} {r : PV} {id off : Nat} {l : List PV} {y : Option HE} (h : q2w P ops Q rest d r env H m id off l y) (hx : Nm (H id) y := by (try simp only [go_sem, *]); exact nm) : goOn P ops Q rest d env H m (some (r, .put id off l)) := by
  have := h
  rw [← hx] at this
  unfold goOn
  cases hid : H id with
  | none => rw [hid] at this; exact this.elim
  | some y =>
    rw [hid] at this
    cases y with
    | row _ _ _ => exact this.elim
    | box c => simp only [Eff.app, hid]; exact this _ rfl
theorem q1h {d : Option Tmp} {r : PV} {id off : Nat} {l c : List PV} {l' : List PV} (h : q0i P ops Q rest (upd env d r) (hset H id (some (.box l'))) m) (hx : Nm (splice c off l) l' := by (try simp only [go_sem, *]); exact nm) : q2w P ops Q rest d r env H m id off l (some (.box c)) := fun x e => by cases e; rw [hx]; exact h
def q1k (P : Program) (ops : Array Oper) (Q : Ex → Env → Heap → Nat → Prop) (rest : List Oper) (d : Option Tmp) (env : Env) (H : Heap) (m : Nat) : Option (FuncId × List PV) → Prop
  | some (g, args) => q3s P g = true ∧ CSat P g args H m fun out H' m' => match out with
    | .ret v => q0i P ops Q rest (upd env d v) H' m'
    | .pan v => Q (.pan v) env H' m'
  | none => False
theorem q0l (hc : q4a o.op = true) {y : _} (h : q1k P ops Q rest o.dst env H m y) (hx : Nm (q1i (rho env) (strip H) o.op) y := by (try simp only [go_sem, *]); exact nm) : q0k P ops Q rest o env H m := by
  have := h
  rw [← hx] at this
  simp only [q0k, hc, if_true]
  exact this
theorem q0r {d : Option Tmp} {g : FuncId} {args : List PV} {r : PV} (hp : Pure P g args r) (h : q0i P ops Q rest (upd env d r) H m) (hent : q3s P g = true := by first | assumption | kernel_rfl) : q1k P ops Q rest d env H m (some (g, args)) := ⟨hent, csat_of_pure hp h⟩
theorem q0w {d : Option Tmp} {g : FuncId} {args : List PV} (hent : q3s P g = true) {Q' : Out → Heap → Nat → Prop} (hp : CSat P g args H m Q')
    (hr : ∀ r H' m', Q' (.ret r) H' m' → q0i P ops Q rest (upd env d r) H' m') (hx : ∀ p H' m', Q' (.pan p) H' m' → Q (.pan p) env H' m') : q1k P ops Q rest d env H m (some (g, args)) := by
  refine ⟨hent, hp.mono ?_⟩
  intro out H' m' h
  cases out with
  | ret r => exact hr r H' m' h
  | pan p => exact hx p H' m' h
def panGo (Q : Ex → Env → Heap → Nat → Prop) (env : Env) (H : Heap) (m : Nat) : Option PV → Prop
  | some p => Q (.pan p) env H m
  | none => False
theorem run_panic (hc : q4a o.op = false) (hp : x0k o.op = true) {y : _} (hx : Nm (panicP (rho env) (strip H) o.op) y) (h : panGo Q env H m y) : q0k P ops Q rest o env H m := by
  have := h
  rw [← hx] at this
  simp only [q0k, hc, hp, Bool.false_eq_true, if_false, if_true]
  exact this
theorem pan_some {p : PV} (h : Q (.pan p) env H m) : panGo Q env H m (some p) := h
variable {K : Env → Heap → Nat → List (Eff × List Rg) → Prop}
theorem q1y (h : K env H m []) : dr P ops [] K env H m := h
def drGo (P : Program) (ops : Array Oper) (K : Env → Heap → Nat → List (Eff × List Rg) → Prop) (rest : List Oper) (o : Oper) (env : Env) (H : Heap) (m : Nat) : Prop :=
  if q4a o.op = true then
    match q1i (rho env) sp0 o.op with
    | some (g, args) => q3s P g = true ∧ ∃ r e, CallOk P g args m r e ∧ dr P ops rest (fun e' h n L => K e' h n ((e, []) :: L)) (upd env o.dst r) (e.app m H) (m + e.cnt)
    | none => False
  else (match evOp P (rho env) sp0 H m o.op with
    | some (r, e) => dr P ops rest (fun e' h n L => K e' h n ((e, rdOf P (rho env) o.op) :: L)) (upd env o.dst r) (e.app m H) (m + e.cnt)
    | none => False) ∨ (match nwOf P (rho env) sp0 o.op with
    | some (n, e, sz, fl) => dr P ops rest (fun e' h k L => K e' h k ((.new fl, []) :: L)) (upd env o.dst (.bs m n e sz)) ((Eff.new fl).app m H) (m + 1)
    | none => False)
theorem dr_n (hg : o.guard = none) (h : drGo P ops K rest o env H m) : dr P ops (o :: rest) K env H m := by
  simp only [dr, q5c, hg]; exact h
theorem dr_w {j d : Nat} {want : Bool} (hg : o.guard = some (j, want)) (hd : (ops[j]?).bind (·.dst) = some d) {v : _} (hx : Nm (env d) v) (h : wGo (drGo P ops K rest o env H m) (dr P ops rest (fun e h n L => K e h n ((.nop, []) :: L)) (upd env o.dst .undef) H m) (gW want v)) : dr P ops (o :: rest) K env H m := by
  have := h
  rw [← hx] at this
  have hw : q5c ops env o = gW want (env d) := by simp only [q5c, hg, hd, gW]; rfl
  simp only [dr]
  rw [hw]
  cases hw : gW want (env d) with
  | none => rw [hw] at this; exact this.elim
  | some b =>
    rw [hw] at this
    cases b with
    | true => exact this.1 rfl
    | false => exact this.2 rfl
theorem q5j {l : List Oper} {j d : Nat} {want : Bool} (hg : o.guard = some (j, want)) (hd : dstAtL l j = some d) {v : _} (h : wGo (drGo P l.toArray K rest o env H m) (dr P l.toArray rest (fun e h n L => K e h n ((.nop, []) :: L)) (upd env o.dst .undef) H m) (gW want v)) (hx : Nm (env d) v := by (try simp only [go_sem, *]); exact nm) : dr P l.toArray (o :: rest) K env H m := dr_w hg ((x1a l j).trans hd) hx h
def drOn (P : Program) (ops : Array Oper) (K : Env → Heap → Nat → List (Eff × List Rg) → Prop) (rest : List Oper) (d : Option Tmp) (env : Env) (H : Heap) (m : Nat) (rd : List Rg) : Option (PV × Eff) → Prop
  | some (r, e) => dr P ops rest (fun e' h n L => K e' h n ((e, rd) :: L)) (upd env d r) (e.app m H) (m + e.cnt)
  | none => False
theorem q2t (hc : q4a o.op = false) {x : Option (PV × Eff)} {rd : List Rg} (h : drOn P ops K rest o.dst env H m rd x) (hx : Nm (evOp P (rho env) sp0 H m o.op) x := by (try simp only [go_sem, *]); exact nm) (hd : Nm (rdOf P (rho env) o.op) rd := by (try simp only [go_sem, *]); exact nm) : drGo P ops K rest o env H m := by
  have := h
  rw [← hx, ← hd] at this
  simp only [drGo, hc, Bool.false_eq_true, if_false]
  exact .inl this
theorem q1z {d : Option Tmp} {r : PV} {rd : List Rg} (h : dr P ops rest (fun e' h n L => K e' h n ((.nop, rd) :: L)) (upd env d r) H m) : drOn P ops K rest d env H m rd (some (r, .nop)) := h
theorem dn_new {d : Option Tmp} {r : PV} {rd : List Rg} {l : List PV} {n : Nat} (h : dr P ops rest (fun e' h n L => K e' h n ((.new l, rd) :: L)) (upd env d r) (hset H m (some (.box l))) n) (hx : Nm (m + 1) n := by (try simp only [go_sem, *]); exact nm) : drOn P ops K rest d env H m rd (some (r, .new l)) := by rw [← hx] at h; exact h
theorem dn_born {d : Option Tmp} {r : PV} {rd : List Rg} {e sz : Nat} {l : List (List PV)} {n : Nat} (h : dr P ops rest (fun e' h n L => K e' h n ((.born e sz l, rd) :: L)) (upd env d r) (hset H m (some (.row e sz l))) n) (hx : Nm (m + 1) n := by (try simp only [go_sem, *]); exact nm) : drOn P ops K rest d env H m rd (some (r, .born e sz l)) := by rw [← hx] at h; exact h
theorem dn_grow {d : Option Tmp} {r : PV} {rd : List Rg} {id e sz : Nat} {l : List (List PV)} (h : dr P ops rest (fun e' h n L => K e' h n ((.grow id e sz l, rd) :: L)) (upd env d r) (hset H id (some (.row e sz l))) m) : drOn P ops K rest d env H m rd (some (r, .grow id e sz l)) := h
def q6y (P : Program) (ops : Array Oper) (K : Env → Heap → Nat → List (Eff × List Rg) → Prop) (rest : List Oper) (d : Option Tmp) (r : PV) (env : Env) (H : Heap) (m id off : Nat) (l : List PV) (rd : List Rg) : Option HE → Prop
  | some (.box c) => ∀ l', splice c off l = l' → dr P ops rest (fun e' h n L => K e' h n ((.put id off l, rd) :: L)) (upd env d r) (hset H id (some (.box l'))) m
  | _ => False
theorem q8y {d : Option Tmp} {r : PV} {id off : Nat} {l : List PV} {rd : List Rg} {y : Option HE} (h : q6y P ops K rest d r env H m id off l rd y) (hx : Nm (H id) y := by (try simp only [go_sem, *]); exact nm) : drOn P ops K rest d env H m rd (some (r, .put id off l)) := by
  have := h
  rw [← hx] at this
  unfold drOn
  cases hid : H id with
  | none => rw [hid] at this; exact this.elim
  | some y =>
    rw [hid] at this
    cases y with
    | row _ _ _ => exact this.elim
    | box c => simp only [Eff.app, hid]; exact this _ rfl
theorem q5k {d : Option Tmp} {r : PV} {id off : Nat} {l c : List PV} {rd : List Rg} {l' : List PV} (h : dr P ops rest (fun e' h n L => K e' h n ((.put id off l, rd) :: L)) (upd env d r) (hset H id (some (.box l'))) m) (hx : Nm (splice c off l) l' := by (try simp only [go_sem, *]); exact nm) : q6y P ops K rest d r env H m id off l rd (some (.box c)) := fun x e => by cases e; rw [hx]; exact h
def q2e (P : Program) (ops : Array Oper) (K : Env → Heap → Nat → List (Eff × List Rg) → Prop) (rest : List Oper) (d : Option Tmp) (env : Env) (H : Heap) (m : Nat) : Option (FuncId × List PV) → Prop
  | some (g, args) => q3s P g = true ∧ ∃ r e, CallOk P g args m r e ∧ dr P ops rest (fun e' h n L => K e' h n ((e, []) :: L)) (upd env d r) (e.app m H) (m + e.cnt)
  | none => False
theorem q2k (hc : q4a o.op = true) {y : _} (h : q2e P ops K rest o.dst env H m y) (hx : Nm (q1i (rho env) sp0 o.op) y := by (try simp only [go_sem, *]); exact nm) : drGo P ops K rest o env H m := by
  have := h
  rw [← hx] at this
  simp only [drGo, hc, if_true]
  exact this
theorem q1f {d : Option Tmp} {g : FuncId} {args : List PV} {r : PV} (hp : Pure P g args r) (h : dr P ops rest (fun e h n L => K e h n ((.nop, []) :: L)) (upd env d r) H m) (hent : q3s P g = true := by first | assumption | kernel_rfl) : q2e P ops K rest d env H m (some (g, args)) := ⟨hent, r, .nop, .inl ⟨hp, rfl⟩, h⟩
variable {Kq : Env → Prop}
theorem dq_nil (h : Kq env) : drq P ops [] Kq env H m := h
def dqGo (P : Program) (ops : Array Oper) (Kq : Env → Prop) (rest : List Oper) (o : Oper) (env : Env) (H : Heap) (m : Nat) : Prop :=
  if q4a o.op = true then
    match q1i (rho env) sp0 o.op with
    | some (g, args) => q3s P g = true ∧ ∃ r, CallQ P g args H m r ∧ drq P ops rest Kq (upd env o.dst r) H m
    | none => False
  else match evOp P (rho env) sp0 H m o.op with
    | some (r, .nop) => drq P ops rest Kq (upd env o.dst r) H m
    | _ => False
theorem dq_n (hg : o.guard = none) (h : dqGo P ops Kq rest o env H m) : drq P ops (o :: rest) Kq env H m := by
  simp only [drq, q5c, hg]; exact h
theorem dq_w {j d : Nat} {want : Bool} (hg : o.guard = some (j, want)) (hd : (ops[j]?).bind (·.dst) = some d) {v : _} (hx : Nm (env d) v) (h : wGo (dqGo P ops Kq rest o env H m) (drq P ops rest Kq (upd env o.dst .undef) H m) (gW want v)) : drq P ops (o :: rest) Kq env H m := by
  have := h
  rw [← hx] at this
  have hw : q5c ops env o = gW want (env d) := by simp only [q5c, hg, hd, gW]; rfl
  simp only [drq]
  rw [hw]
  cases hw : gW want (env d) with
  | none => rw [hw] at this; exact this.elim
  | some b =>
    rw [hw] at this
    cases b with
    | true => exact this.1 rfl
    | false => exact this.2 rfl
theorem dq_w' {l : List Oper} {j d : Nat} {want : Bool} (hg : o.guard = some (j, want)) (hd : dstAtL l j = some d) {v : _} (h : wGo (dqGo P l.toArray Kq rest o env H m) (drq P l.toArray rest Kq (upd env o.dst .undef) H m) (gW want v)) (hx : Nm (env d) v := by (try simp only [go_sem, *]); exact nm) : drq P l.toArray (o :: rest) Kq env H m := dq_w hg ((x1a l j).trans hd) hx h
theorem dq_ev (hc : q4a o.op = false) {r : PV} (h : drq P ops rest Kq (upd env o.dst r) H m) (hx : Nm (evOp P (rho env) sp0 H m o.op) (some (r, .nop)) := by (try simp only [go_sem, *]); exact nm) : dqGo P ops Kq rest o env H m := by
  simp only [dqGo, hc, Bool.false_eq_true, if_false]
  rw [hx]; exact h
def dqcGo (P : Program) (ops : Array Oper) (Kq : Env → Prop) (rest : List Oper) (d : Option Tmp) (env : Env) (H : Heap) (m : Nat) : Option (FuncId × List PV) → Prop
  | some (g, args) => q3s P g = true ∧ ∃ r, CallQ P g args H m r ∧ drq P ops rest Kq (upd env d r) H m
  | none => False
theorem dq_call (hc : q4a o.op = true) {y : _} (h : dqcGo P ops Kq rest o.dst env H m y) (hx : Nm (q1i (rho env) sp0 o.op) y := by (try simp only [go_sem, *]); exact nm) : dqGo P ops Kq rest o env H m := by
  have := h
  rw [← hx] at this
  simp only [dqGo, hc, if_true]
  exact this
theorem callQ_pure {g : FuncId} {args : List PV} {r : PV} (h : Pure P g args r) : CallQ P g args H m r := fun H' m' _ _ => csat_of_pure h ⟨rfl, Nat.le_refl _, fun _ _ => rfl⟩
theorem dqc_pure {d : Option Tmp} {g : FuncId} {args : List PV} {r : PV} (hp : Pure P g args r) (h : drq P ops rest Kq (upd env d r) H m) (hent : q3s P g = true := by first | assumption | kernel_rfl) : dqcGo P ops Kq rest d env H m (some (g, args)) := ⟨hent, r, callQ_pure hp, h⟩
theorem dqc_q {d : Option Tmp} {g : FuncId} {args : List PV} {r : PV} (hp : CallQ P g args H m r) (h : drq P ops rest Kq (upd env d r) H m) (hent : q3s P g = true := by first | assumption | kernel_rfl) : dqcGo P ops Kq rest d env H m (some (g, args)) := ⟨hent, r, hp, h⟩
variable {x y c : Code}
theorem q0s (h : Q .normal env H m) : q0d P m0 .skip Q env H m := h
theorem q0b {id : Nat} {l : List Oper} (h : q0i P l.toArray Q l env H m) : q0d P m0 (.region id l.toArray false) Q env H m := h
theorem q1o {id : Nat} {l : List Oper} (hok : q2c l.toArray = true) (h : dr P l.toArray l (fun env' H' m' L => q1n L = true ∧ Q .normal env' H' m') env H m) : q0d P m0 (.region id l.toArray true) Q env H m := .inl ⟨hok, .inl h⟩
theorem q9h {id : Nat} {l : List Oper} (hok : q2c l.toArray = true) (h : dr P l.toArray l (fun env' H' m' L => q2d l.toArray 0 L = true ∧ Q .normal env' H' m') env H m) : q0d P m0 (.region id l.toArray true) Q env H m := .inl ⟨hok, .inr h⟩
theorem pc_drawL {id : Nat} {l : List Oper} (n : Nat) (ht : tailOk l.toArray (l.take n).length = true) (hok : q2c (l.take n).toArray = true) (h : dr P (l.take n).toArray (l.take n) (fun env' H' m' L => q1n L = true ∧ q0i P l.toArray Q (l.drop n) env' H' m') env H m) : q0d P m0 (.region id l.toArray true) Q env H m := .inr (.inl ⟨l.take n, l.drop n, (List.take_append_drop n l).symm, ht, hok, h⟩)
theorem pc_drawQ {id : Nat} {l : List Oper} (hok : q2c l.toArray = true) (h : drq P l.toArray l (fun env' => ∀ H' m', m ≤ m' → (∀ i, i < m → H' i = H i) → Q .normal env' H' m') env H m) : q0d P m0 (.region id l.toArray true) Q env H m := .inr (.inr ⟨hok, h⟩)
theorem q0h (h : q0d P m0 x (Ex.then (q0d P m0 y Q) Q) env H m) : q0d P m0 (.seq x y) Q env H m := h
theorem q0m {id : Nat} (h : q0d P m0 x (Ex.inBlock id Q) env H m) : q0d P m0 (.block id x) Q env H m := h
theorem q1s {id : Nat} (h : Q (.exit id) env H m) : q0d P m0 (.exit id) Q env H m := h
theorem q0t (h : Q .ret env H m) : q0d P m0 .ret Q env H m := h
def q0o (a b : Prop) : PV → Prop
  | .bool c => (c = true → a) ∧ (c = false → b)
  | _ => False
theorem q0j {a : Operand} {v : _} (h : q0o (q0d P m0 x Q env H m) (q0d P m0 y Q env H m) v) (hx : Nm (rho env a) v := by (try simp only [go_sem, *]); exact nm) : q0d P m0 (.cond a x y) Q env H m := by
  have := h
  rw [← hx] at this
  simp only [q0d]
  cases hv : rho env a <;> rw [hv] at this <;> first | exact this.elim | exact this
theorem cd_t {a b : Prop} (h : a) : q0o a b (.bool true) := ⟨fun _ => h, fun e => (by cases e)⟩
theorem cd_f {a b : Prop} (h : b) : q0o a b (.bool false) := ⟨fun e => (by cases e), fun _ => h⟩
theorem cd_b {a b : Prop} {c : Bool} (h : c = true → a) (k : c = false → b) : q0o a b (.bool c) := ⟨h, k⟩
theorem cd_n {a b : Prop} {c : Bool} (h : c = false → a) (k : c = true → b) : q0o a b (.bool !c) := ⟨fun e => h (by simpa using e), fun e => k (by simpa using e)⟩
variable {next : Env → Heap → Nat → Prop}
theorem q0a (h : next env H m) : Ex.then next Q .normal env H m := h
theorem q1r {id : Nat} (h : Q (.exit id) env H m) : Ex.then next Q (.exit id) env H m := h
theorem q2j (h : Q .ret env H m) : Ex.then next Q .ret env H m := h
theorem q4l {p : PV} (h : Q (.pan p) env H m) : Ex.then next Q (.pan p) env H m := h
theorem q0q {id : Nat} (h : Q .normal env H m) : Ex.inBlock id Q .normal env H m := h
theorem q1t {id : Nat} (h : Q .normal env H m) : Ex.inBlock id Q (.exit id) env H m := by simp only [Ex.inBlock, if_true]; exact h
theorem bl_pass {id id' : Nat} (hne : (id' == id) = false) (h : Q (.exit id') env H m) : Ex.inBlock id Q (.exit id') env H m := by
  simp only [Ex.inBlock]; rw [if_neg (by simpa using hne)]; exact h
theorem q3k {id : Nat} (h : Q .ret env H m) : Ex.inBlock id Q .ret env H m := h
theorem q4w {id : Nat} {p : PV} (h : Q (.pan p) env H m) : Ex.inBlock id Q (.pan p) env H m := h
variable {rs : List ResultVar} {Q' : Out → Heap → Nat → Prop}
def resGo (Q' : Out → Heap → Nat → Prop) (H : Heap) (m : Nat) : Option PV → Prop
  | some r => Q' (.ret r) H m
  | none => False
theorem q0u {y : _} (h : resGo Q' H m y) (hx : Nm (q8g P rs env H) y := by (try simp only [go_sem, *]); exact nm) : retQ P rs Q' .ret env H m := by
  have := h
  rw [← hx] at this
  simp only [retQ]; exact this
theorem x0o {y : _} (h : resGo Q' H m y) (hx : Nm (q8g P rs env H) y := by (try simp only [go_sem, *]); exact nm) : retQ P rs Q' .normal env H m := by
  have := h
  rw [← hx] at this
  simp only [retQ]; exact this
theorem q0n {r : PV} (h : Q' (.ret r) H m) : resGo Q' H m (some r) := h
theorem q4u {p : PV} (h : Q' (.pan p) H m) : retQ P rs Q' (.pan p) env H m := h
end
/-- Each of these names own blocks of S alone. -/
def BdL (S : Nat → Prop) (l : List PV) : Prop := ∀ p ∈ l, Bd S p
section
variable {S : Nat → Prop}
@[go_sem] theorem Bd_nilsl : Bd S .nilsl = True := eq_true .nilsl
@[go_sem] theorem Bd_bool (b : Bool) : Bd S (.bool b) = True := eq_true (.bool b)
@[go_sem] theorem Bd_int (k : IntKind) (n : Int) : Bd S (.int k n) = True := eq_true (.int k n)
@[go_sem] theorem Bd_agg (l : List PV) : Bd S (.agg l) = BdL S l := propext ⟨fun h => by cases h with | agg _ h => exact h, fun h => .agg _ h⟩
@[go_sem] theorem Bd_tup (l : List PV) : Bd S (.tup l) = BdL S l := propext ⟨fun h => by cases h with | tup _ h => exact h, fun h => .tup _ h⟩
@[go_sem] theorem Bd_ptr (i o : Nat) : Bd S (.ptr i o) = S i := propext ⟨fun h => by cases h with | ptr _ _ h => exact h, fun h => .ptr _ _ h⟩
@[go_sem] theorem Bd_gr (i k : Nat) : Bd S (.gr i k) = S i := propext ⟨fun h => by cases h with | gr _ _ h => exact h, fun h => .gr _ _ h⟩
@[go_sem] theorem Bd_fn (f : Fn) (a b : List PV) : Bd S (.fn f a b) = (BdL S a ∧ BdL S b) := propext ⟨fun h => by cases h with | fn _ _ _ h k => exact ⟨h, k⟩, fun h => .fn _ _ _ h.1 h.2⟩
@[go_sem] theorem BdL_nil : BdL S [] = True := eq_true fun p h => by cases h
@[go_sem] theorem BdL_cons (p : PV) (l : List PV) : BdL S (p :: l) = (Bd S p ∧ BdL S l) := propext ⟨fun h => ⟨h p (by simp), fun q hq => h q (by simp [hq])⟩, fun h q hq => by
  rcases List.mem_cons.1 hq with rfl | hq
  · exact h.1
  · exact h.2 q hq⟩
@[go_sem] theorem Bd_sl0 : Bd S (.sl []) = True := eq_true (.sl _ fun e he => by cases he)
@[go_sem] theorem Bd_sl1 (a : List PV) (l : List (List PV)) : Bd S (.sl (a :: l)) = (BdL S a ∧ Bd S (.sl l)) := propext ⟨fun h => by cases h with | sl _ h => exact ⟨h a (by simp), .sl _ fun e he => h e (by simp [he])⟩, fun h => by
  cases h.2 with
  | sl _ k => exact .sl _ fun e he => (List.mem_cons.1 he).elim (fun q => q ▸ h.1) (fun q => k e q)⟩
theorem Bd_slm {α : Type} {f : α → List PV} (h : ∀ x, BdL S (f x)) (l : List α) : Bd S (.sl (List.map f l)) = True := eq_true (.sl _ fun e he => by obtain ⟨y, _, rfl⟩ := List.mem_map.1 he; exact h y)
@[go_sem] theorem Bd_sla (l k : List (List PV)) : Bd S (.sl (l ++ k)) = (Bd S (.sl l) ∧ Bd S (.sl k)) := propext ⟨fun h => by cases h with | sl _ h => exact ⟨.sl _ fun e he => h e (List.mem_append_left _ he), .sl _ fun e he => h e (List.mem_append_right _ he)⟩, fun h => by
  cases h.1 with
  | sl _ h1 => cases h.2 with
    | sl _ h2 => exact .sl _ fun e he => (List.mem_append.1 he).elim (h1 e) (h2 e)⟩
end
theorem q2p {P : Program} {f : FuncId} {fn : Func} {c : Code} {args : List PV} {r : PV} {rs : List ResultVar} (hm : P.follows .mixedOrders = true) (ha : BdL (fun _ => False) args) (hr : NoId r) (hf : P.funcs[f]? = some fn) (hrs : fn.results = rs.toArray) (hb : fn.body = some c) (hn : args.length ≤ fn.ntmps)
    (hd : q4n fn.ntmps c = true) (h : q0d P 0 c (retQ P rs (fun out _ _ => out = .ret r)) (q4x args) (fun _ => none) 0) : Pure P f args r := pure_of_csat ha hr (CSat_of_pw hm hf hb hn hd (by rw [hrs]; simpa using h))
/-- A contract over own boxes, by the code. -/
theorem q4s {P : Program} {f : FuncId} {fn : Func} {c : Code} {args : List PV} {H : Heap} {m : Nat} {Q : Out → Heap → Nat → Prop} {rs : List ResultVar} (hm : P.follows .mixedOrders = true) (hf : P.funcs[f]? = some fn) (hrs : fn.results = rs.toArray) (hb : fn.body = some c) (hn : args.length ≤ fn.ntmps)
    (hd : q4n fn.ntmps c = true) (h : q0d P m c (retQ P rs Q) (q4x args) H m) : CSat P f args H m Q := CSat_of_pw hm hf hb hn hd (by rw [hrs]; simpa using h)
theorem pwOps_mono {P : Program} {ops : Array Oper} {Q Q' : Ex → Env → Heap → Nat → Prop} (hq : ∀ ex env H m, Q ex env H m → Q' ex env H m) : ∀ (l : List Oper) (env : Env) (H : Heap) (m : Nat), q0i P ops Q l env H m → q0i P ops Q' l env H m := by
  intro l
  induction l with
  | nil => intro env H m h; exact hq _ _ _ _ h
  | cons o rest ih =>
    intro env H m h
    simp only [q0i, pwOp] at h ⊢
    split at h
    · by_cases h1 : q4a o.op = true
      · rw [if_pos h1] at h ⊢
        split at h
        · refine ⟨h.1, h.2.mono ?_⟩
          intro out H' m' k
          cases out with
          | ret v => exact ih _ _ _ k
          | pan v => exact hq _ _ _ _ k
        · exact h.elim
      · rw [if_neg h1] at h ⊢
        by_cases h2 : x0k o.op = true
        · rw [if_pos h2] at h ⊢
          split at h
          · exact hq _ _ _ _ h
          · exact h.elim
        · rw [if_neg h2] at h ⊢
          rcases h with h | h
          · split at h
            · exact .inl (ih _ _ _ h)
            · exact h.elim
          · split at h
            · exact .inr (ih _ _ _ h)
            · exact h.elim
    · exact ih _ _ _ h
    · exact h.elim
theorem dr_mono {P : Program} {ops : Array Oper} : ∀ (l : List Oper) (K K' : Env → Heap → Nat → List (Eff × List Rg) → Prop) (hk : ∀ e h m L, K e h m L → K' e h m L) (env : Env) (H : Heap) (m : Nat), dr P ops l K env H m → dr P ops l K' env H m := by
  intro l
  induction l with
  | nil => intro K K' hk env H m h; exact hk _ _ _ _ h
  | cons o rest ih =>
    intro K K' hk env H m h
    simp only [dr] at h ⊢
    split at h
    · exact ih _ _ (fun e h m L k => hk _ _ _ _ k) _ _ _ h
    · by_cases h1 : q4a o.op = true
      · rw [if_pos h1] at h ⊢
        split at h
        · obtain ⟨h1, r, e, h2, h3⟩ := h
          exact ⟨h1, r, e, h2, ih _ _ (fun e h m L k => hk _ _ _ _ k) _ _ _ h3⟩
        · exact h.elim
      · rw [if_neg h1] at h ⊢
        rcases h with h | h
        · split at h
          · exact .inl (ih _ _ (fun e h m L k => hk _ _ _ _ k) _ _ _ h)
          · exact h.elim
        · split at h
          · exact .inr (ih _ _ (fun e h m L k => hk _ _ _ _ k) _ _ _ h)
          · exact h.elim
    · exact h.elim
theorem drq_mono {P : Program} {ops : Array Oper} : ∀ (l : List Oper) (K K' : Env → Prop) (hk : ∀ e, K e → K' e) (env : Env) (H : Heap) (m : Nat), drq P ops l K env H m → drq P ops l K' env H m := by
  intro l
  induction l with
  | nil => intro K K' hk env H m h; exact hk _ h
  | cons o rest ih =>
    intro K K' hk env H m h
    simp only [drq] at h ⊢
    split at h
    · exact ih _ _ hk _ _ _ h
    · by_cases h1 : q4a o.op = true
      · rw [if_pos h1] at h ⊢
        split at h
        · obtain ⟨h1, r, h2, h3⟩ := h
          exact ⟨h1, r, h2, ih _ _ hk _ _ _ h3⟩
        · exact h.elim
      · rw [if_neg h1] at h ⊢
        split at h
        · exact ih _ _ hk _ _ _ h
        · exact h.elim
    · exact h.elim
theorem x0e {P : Program} {m0 : Nat} {Q Q' : Ex → Env → Heap → Nat → Prop} (hq : ∀ ex env H m, Q ex env H m → Q' ex env H m) (c : Code) : ∀ {env : Env} {H : Heap} {m : Nat}, q0d P m0 c Q env H m → q0d P m0 c Q' env H m := by
  induction c generalizing Q Q' with
  | skip => intro env H m h; exact hq _ _ _ _ h
  | region id ops draw =>
    intro env H m h
    cases draw with
    | false => exact pwOps_mono hq _ _ _ _ h
    | true =>
      rcases h with h | ⟨l1, l2, h1, h2, h3, h4⟩ | ⟨h1, h2⟩
      · exact .inl ⟨h.1, h.2.imp (dr_mono _ _ _ (fun e h m L k => ⟨k.1, hq _ _ _ _ k.2⟩) _ _ _) (dr_mono _ _ _ (fun e h m L k => ⟨k.1, hq _ _ _ _ k.2⟩) _ _ _)⟩
      · exact .inr (.inl ⟨l1, l2, h1, h2, h3, dr_mono _ _ _ (fun e h m L k => ⟨k.1, pwOps_mono hq _ _ _ _ k.2⟩) _ _ _ h4⟩)
      · exact .inr (.inr ⟨h1, drq_mono _ _ _ (fun e k H' m' a b => hq _ _ _ _ (k H' m' a b)) _ _ _ h2⟩)
  | seq x y ihx ihy =>
    intro env H m h
    refine ihx (Q := Ex.then (q0d P m0 y Q) Q) (Q' := Ex.then (q0d P m0 y Q') Q') ?_ h
    intro ex env H m h
    cases ex with
    | normal => exact ihy hq h
    | exit i => exact hq _ _ _ _ h
    | ret => exact hq _ _ _ _ h
    | pan v => exact hq _ _ _ _ h
  | cond c x y ihx ihy =>
    intro env H m h
    simp only [q0d] at h ⊢
    split at h
    · exact ⟨fun e => ihx hq (h.1 e), fun e => ihy hq (h.2 e)⟩
    · exact h.elim
  | block id x ih =>
    intro env H m h
    refine ih (Q := Ex.inBlock id Q) (Q' := Ex.inBlock id Q') ?_ h
    intro ex env H m h
    cases ex with
    | normal => exact hq _ _ _ _ h
    | exit i =>
      simp only [Ex.inBlock] at h ⊢
      split
      · rename_i e; rw [if_pos e] at h; exact hq _ _ _ _ h
      · rename_i e; rw [if_neg e] at h; exact hq _ _ _ _ h
    | ret => exact hq _ _ _ _ h
    | pan v => exact hq _ _ _ _ h
  | loop x ih =>
    intro env H m h
    obtain ⟨I, n, h1, h2⟩ := h
    refine ⟨I, n, h1, fun n env H m hI => ih ?_ (h2 n env H m hI)⟩
    intro ex env H m h
    cases ex with
    | normal => exact h
    | exit i => exact hq _ _ _ _ h
    | ret => exact hq _ _ _ _ h
    | pan v => exact hq _ _ _ _ h
  | exit id => intro env H m h; exact hq _ _ _ _ h
  | ret => intro env H m h; exact hq _ _ _ _ h
  | rangeFunc f p x y ihx ihy => intro env H m h; exact h.elim
  | scope x ih => intro env H m h; exact h.elim
  | label l => intro env H m h; exact h.elim
  | goto l => intro env H m h; exact h.elim
  | refuse s => intro env H m h; exact h.elim
def envL (l : List (Nat × PV)) : Env := fun t => match l.find? (fun x => x.1 == t) with
  | some x => x.2
  | none => .any
def q1g (l : List (Nat × HE)) : Heap := fun t => match l.find? (fun x => x.1 == t) with
  | some x => some x.2
  | none => none
/-- What stays known: these temporaries, and no own box but these. -/
def Keep (m0 : Nat) (env : Env) (H : Heap) (m : Nat) (E : List (Nat × PV)) (G : List (Nat × HE)) (m' : Nat) : Prop :=
  m0 ≤ m' ∧ (∀ x ∈ E, env x.1 = x.2 ∧ Bd (LV (q1g G)) x.2) ∧ (∀ x ∈ G, H x.1 = some x.2 ∧ m0 ≤ x.1 ∧ x.1 < m' ∧ (match x.2 with
    | .box l => ∀ p ∈ l, Bd (LV (q1g G)) p
    | .row _ _ els => ∀ r ∈ els, ∀ p ∈ r, Bd (LV (q1g G)) p))
theorem q5o {G : List (Nat × HE)} {i : Nat} {h : HE} (e : q1g G i = some h) : (i, h) ∈ G := by
  unfold q1g at e
  split at e
  · rename_i x hx
    cases e
    have h1 := List.find?_some hx
    have h2 := List.mem_of_find?_eq_some hx
    have : x.1 = i := by simpa using h1
    subst this
    exact h2
  · cases e
theorem wk_of_keep {m0 : Nat} {env : Env} {H : Heap} {m : Nat} {E : List (Nat × PV)} {G : List (Nat × HE)} {m' : Nat} (hH : ∀ i, i < m0 → H i = none) (h : Keep m0 env H m E G m') : Wk m0 env H m (envL E) (q1g G) m' := by
  obtain ⟨h1, h2, h3⟩ := h
  refine ⟨h1, fun i => ?_, fun i hi => ?_, fun t => ?_, fun i l hl => ?_, fun i e sz els hl => ?_⟩
  · cases hg : q1g G i with
    | none =>
      by_cases hi : i < m0
      · exact .inl (hH i hi).symm
      · exact .inr ⟨Nat.le_of_not_lt hi, rfl⟩
    | some x => exact .inl (h3 _ (q5o hg)).1.symm
  · cases hg : q1g G i with
    | none => rfl
    | some x => have := (h3 _ (q5o hg)).2.2.1; simp only at this; omega
  · unfold envL
    split
    · rename_i x hx
      have h4 := List.find?_some hx
      have h5 := List.mem_of_find?_eq_some hx
      have : x.1 = t := by simpa using h4
      subst this
      obtain ⟨h6, h7⟩ := h2 x h5
      exact .inr ⟨h6.symm, by rw [h6]; exact h7⟩
    · exact .inl rfl
  · have := (h3 _ (q5o hl)).2.2.2; exact this
  · have := (h3 _ (q5o hl)).2.2.2; exact this
/-- Once more, with less to go. -/
def q3i {S : Type} (m0 : Nat) (μ : S → Nat) (Inv : S → Prop) (E : S → List (Nat × PV)) (G : S → List (Nat × HE)) (mm : S → Nat) (s : S) (env : Env) (H : Heap) (m : Nat) : Prop :=
  ∃ s', μ s' < μ s ∧ Inv s' ∧ Keep m0 env H m (E s') (G s') (mm s')
theorem q2l {P : Program} {x : Code} {Q : Ex → Env → Heap → Nat → Prop} {env : Env} {H : Heap} {m : Nat} {S : Type} (μ : S → Nat) (Inv : S → Prop) (E : S → List (Nat × PV)) (G : S → List (Nat × HE)) (mm : S → Nat) (s0 : S) (h0 : Inv s0)
    (hk : Keep 0 env H m (E s0) (G s0) (mm s0)) (hr : ∀ s, Inv s → q0d P 0 x (Ex.then (q3i 0 μ Inv E G mm s) Q) (envL (E s)) (q1g (G s)) (mm s)) : q0d P 0 (.loop x) Q env H m := by
  refine ⟨fun n env H m => ∃ s, μ s = n ∧ Inv s ∧ env = envL (E s) ∧ H = q1g (G s) ∧ m = mm s, μ s0, ⟨_, _, _, wk_of_keep (fun i hi => absurd hi (Nat.not_lt_zero i)) hk, s0, rfl, h0, rfl, rfl, rfl⟩, ?_⟩
  rintro n env H m ⟨s, rfl, hs, rfl, rfl, rfl⟩
  have := hr s hs
  refine x0e (fun ex env' H' m' hq => ?_) x this
  cases ex with
  | normal =>
    obtain ⟨s', h1, h2, h3⟩ := hq
    exact ⟨μ s', h1, _, _, _, wk_of_keep (fun i hi => absurd hi (Nat.not_lt_zero i)) h3, s', rfl, h2, rfl, rfl, rfl⟩
  | exit i => exact hq
  | ret => exact hq
  | pan v => exact hq
def KE (S : Nat → Prop) (env : Env) (E : List (Nat × PV)) : Prop := ∀ x ∈ E, env x.1 = x.2 ∧ Bd S x.2
theorem q0v {S : Nat → Prop} {env : Env} : KE S env [] := fun x h => by cases h
theorem q0p {S : Nat → Prop} {env : Env} {t : Nat} {v : PV} {E : List (Nat × PV)} (h : env t = v) (hb : Bd S v) (k : KE S env E) : KE S env ((t, v) :: E) := fun x hx => by
  rcases List.mem_cons.1 hx with rfl | hx
  · exact ⟨h, hb⟩
  · exact k x hx
def KG (S : Nat → Prop) (H : Heap) (m' : Nat) (G : List (Nat × HE)) : Prop := ∀ x ∈ G, H x.1 = some x.2 ∧ x.1 < m' ∧ (match x.2 with
    | .box l => ∀ p ∈ l, Bd S p
    | .row _ _ els => ∀ r ∈ els, ∀ p ∈ r, Bd S p)
theorem q0y {S : Nat → Prop} {H : Heap} {m' : Nat} : KG S H m' [] := fun x h => by cases h
theorem q0z {S : Nat → Prop} {H : Heap} {m' i : Nat} {l : List PV} {G : List (Nat × HE)} (h : H i = some (.box l)) (hi : i < m') (hb : BdL S l) (k : KG S H m' G) : KG S H m' ((i, .box l) :: G) := fun x hx => by
  rcases List.mem_cons.1 hx with rfl | hx
  · exact ⟨h, hi, hb⟩
  · exact k x hx
theorem q0x {S : Nat → Prop} {H : Heap} {m' i e sz : Nat} {els : List (List PV)} {G : List (Nat × HE)} (h : H i = some (.row e sz els)) (hi : i < m') (hb : Bd S (.sl els)) (k : KG S H m' G) : KG S H m' ((i, .row e sz els) :: G) := fun x hx => by
  rcases List.mem_cons.1 hx with rfl | hx
  · exact ⟨h, hi, by cases hb with | sl _ hb => exact hb⟩
  · exact k x hx
theorem q1l {env : Env} {H : Heap} {m : Nat} {E : List (Nat × PV)} {G : List (Nat × HE)} {m' : Nat} (h : KE (LV (q1g G)) env E) (k : KG (LV (q1g G)) H m' G) : Keep 0 env H m E G m' := ⟨Nat.zero_le _, h, fun x hx => ⟨(k x hx).1, Nat.zero_le _, (k x hx).2⟩⟩
@[go_sem] theorem LV_cons (i j : Nat) (x : HE) (G : List (Nat × HE)) : LV (q1g ((i, x) :: G)) j = if j = i then True else LV (q1g G) j := by
  unfold LV q1g
  simp only [List.find?_cons]
  by_cases h : j = i
  · subst h; simp
  · rw [if_neg h]; have : (i == j) = false := by simpa using Ne.symm h
    rw [this]
@[go_sem ↓] theorem envL_cons (t : Nat) (v : PV) (l : List (Nat × PV)) (u : Nat) : envL ((t, v) :: l) u = if u = t then v else envL l u := by
  simp only [envL, List.find?_cons]
  by_cases h : u = t
  · subst h; simp
  · rw [if_neg h]; have : (t == u) = false := by simpa using Ne.symm h
    rw [this]
@[go_sem ↓] theorem envL_nil (u : Nat) : envL [] u = .any := rfl
@[go_sem ↓] theorem q3e (t : Nat) (v : HE) (l : List (Nat × HE)) (u : Nat) : q1g ((t, v) :: l) u = if u = t then some v else q1g l u := by
  simp only [q1g, List.find?_cons]
  by_cases h : u = t
  · subst h; simp
  · rw [if_neg h]; have : (t == u) = false := by simpa using Ne.symm h
    rw [this]
@[go_sem ↓] theorem heapL_nil (u : Nat) : q1g [] u = none := rfl
/-- A loop in a function that was handed boxes of its caller: these stay as they are, and no other box is known. -/
def q2s (m0 : Nat) (G : List (Nat × HE)) (env : Env) (H : Heap) (E : List (Nat × PV)) : Prop := (∀ i, i < m0 → H i = q1g G i) ∧ KE (LV (q1g G)) env E
def q2n {S : Type} (m0 : Nat) (G : List (Nat × HE)) (μ : S → Nat) (Inv : S → Prop) (E : S → List (Nat × PV)) (s : S) (env : Env) (H : Heap) (m : Nat) : Prop := ∃ s', μ s' < μ s ∧ Inv s' ∧ m0 ≤ m ∧ q2s m0 G env H (E s')
theorem pc_loopK {P : Program} {x : Code} {Q : Ex → Env → Heap → Nat → Prop} {env : Env} {H : Heap} {m m0 : Nat} {S : Type} (G : List (Nat × HE)) (hG : ∀ i, m0 ≤ i → q1g G i = none) (hB : ∀ i l, q1g G i = some (.box l) → ∀ p ∈ l, Bd (LV (q1g G)) p) (hR : ∀ i e sz els, q1g G i ≠ some (.row e sz els))
    (μ : S → Nat) (Inv : S → Prop) (E : S → List (Nat × PV)) (s0 : S) (h0 : Inv s0) (hm : m0 ≤ m) (hk : q2s m0 G env H (E s0)) (hr : ∀ s, Inv s → q0d P m0 x (Ex.then (q2n m0 G μ Inv E s) Q) (envL (E s)) (q1g G) m0) : q0d P m0 (.loop x) Q env H m := by
  have wk : ∀ {env : Env} {H : Heap} {m : Nat} {s : S}, m0 ≤ m → q2s m0 G env H (E s) → Wk m0 env H m (envL (E s)) (q1g G) m0 := by
    rintro env H m s hm ⟨h1, h2⟩
    refine ⟨Nat.le_refl _, fun i => ?_, hG, fun t => ?_, hB, fun i e sz els h => absurd h (hR i e sz els)⟩
    · by_cases hi : i < m0
      · exact .inl (h1 i hi).symm
      · exact .inr ⟨Nat.le_of_not_lt hi, hG i (Nat.le_of_not_lt hi)⟩
    · unfold envL
      split
      · rename_i x hx
        have h4 := List.find?_some hx
        have h5 := List.mem_of_find?_eq_some hx
        have : x.1 = t := by simpa using h4
        subst this
        obtain ⟨h6, h7⟩ := h2 x h5
        exact .inr ⟨h6.symm, by rw [h6]; exact h7⟩
      · exact .inl rfl
  refine ⟨fun n env H m => ∃ s, μ s = n ∧ Inv s ∧ env = envL (E s) ∧ H = q1g G ∧ m = m0, μ s0, ⟨_, _, _, wk hm hk, s0, rfl, h0, rfl, rfl, rfl⟩, ?_⟩
  rintro n env H m ⟨s, rfl, hs, rfl, rfl, rfl⟩
  have := hr s hs
  refine x0e (fun ex env' H' m' hq => ?_) x this
  cases ex with
  | normal =>
    obtain ⟨s', h1, h2, h3, h4⟩ := hq
    exact ⟨μ s', h1, _, _, _, wk h3 h4, s', rfl, h2, rfl, rfl, rfl⟩
  | exit i => exact hq
  | ret => exact hq
  | pan v => exact hq
theorem againK {S : Type} {m0 : Nat} {G : List (Nat × HE)} {μ : S → Nat} {Inv : S → Prop} {E : S → List (Nat × PV)} {s : S} {env : Env} {H : Heap} {m : Nat} (s' : S) (h2 : Inv s') (h1 : μ s' < μ s) (h3 : m0 ≤ m) (h4 : ∀ i, i < m0 → H i = q1g G i) (h5 : KE (LV (q1g G)) env (E s')) : q2n m0 G μ Inv E s env H m := ⟨s', h1, h2, h3, h4, h5⟩
theorem hset_heapL (i : Nat) (x : HE) : hset (fun _ => none) i (some x) = q1g [(i, x)] := by
  funext j
  unfold hset q1g
  simp only [List.find?_cons, List.find?_nil]
  by_cases h : j = i
  · subst h; simp
  · rw [if_neg h]; have : (i == j) = false := by simpa using Ne.symm h
    rw [this]
attribute [irreducible] Nm gW goOn q2w q0k q1k panGo wGo drGo drOn q6y q2e q0o resGo
attribute [go_sem] Eff.app Eff.cnt eInt x0z hset PV.cells? q1i panicP q8g q8m resOne
attribute [go_sem ↓] evOp evBs nwOf
attribute [go_sem] q8b evIndex evLen evLenG evMin evMax q4d evSlice
@[go_sem] theorem evBin_shl (P : Program) (t : TypeId) (k k' : IntKind) (a b : Int) : q3f P .shl t (.int k a) (.int k' b) = x0z .shl k a b := rfl
@[go_sem] theorem evBin_shr (P : Program) (t : TypeId) (k k' : IntKind) (a b : Int) : q3f P .shr t (.int k a) (.int k' b) = x0z .shr k a b := rfl
@[go_sem] theorem evBin_eqb (P : Program) (t : TypeId) (a b : Bool) : q3f P .eql t (.bool a) (.bool b) = match P.underlying t with
  | some .bool => some (.bool (a == b))
  | _ => none := rfl
@[go_sem] theorem evBin_neb (P : Program) (t : TypeId) (a b : Bool) : q3f P .neq t (.bool a) (.bool b) = match P.underlying t with
  | some .bool => some (.bool (!(a == b)))
  | _ => none := rfl
@[go_sem] theorem evBin_add (P : Program) (t : TypeId) (k : IntKind) (a b : Int) : q3f P .add t (.int k a) (.int k b) = eInt .add k a b := by simp [q3f]
@[go_sem] theorem evBin_sub (P : Program) (t : TypeId) (k : IntKind) (a b : Int) : q3f P .sub t (.int k a) (.int k b) = eInt .sub k a b := by simp [q3f]
@[go_sem] theorem evBin_mul (P : Program) (t : TypeId) (k : IntKind) (a b : Int) : q3f P .mul t (.int k a) (.int k b) = eInt .mul k a b := by simp [q3f]
@[go_sem] theorem evBin_quo (P : Program) (t : TypeId) (k : IntKind) (a b : Int) : q3f P .quo t (.int k a) (.int k b) = eInt .quo k a b := by simp [q3f]
@[go_sem] theorem evBin_rem (P : Program) (t : TypeId) (k : IntKind) (a b : Int) : q3f P .rem t (.int k a) (.int k b) = eInt .rem k a b := by simp [q3f]
@[go_sem] theorem evBin_eql (P : Program) (t : TypeId) (k : IntKind) (a b : Int) : q3f P .eql t (.int k a) (.int k b) = eInt .eql k a b := by simp [q3f]
@[go_sem] theorem evBin_neq (P : Program) (t : TypeId) (k : IntKind) (a b : Int) : q3f P .neq t (.int k a) (.int k b) = eInt .neq k a b := by simp [q3f]
@[go_sem] theorem evBin_lss (P : Program) (t : TypeId) (k : IntKind) (a b : Int) : q3f P .lss t (.int k a) (.int k b) = eInt .lss k a b := by simp [q3f]
@[go_sem] theorem evBin_leq (P : Program) (t : TypeId) (k : IntKind) (a b : Int) : q3f P .leq t (.int k a) (.int k b) = eInt .leq k a b := by simp [q3f]
@[go_sem] theorem evBin_gtr (P : Program) (t : TypeId) (k : IntKind) (a b : Int) : q3f P .gtr t (.int k a) (.int k b) = eInt .gtr k a b := by simp [q3f]
@[go_sem] theorem evBin_geq (P : Program) (t : TypeId) (k : IntKind) (a b : Int) : q3f P .geq t (.int k a) (.int k b) = eInt .geq k a b := by simp [q3f]
@[go_sem] theorem nn_nat (n : Nat) : (0 ≤ (n : Int)) = True := by simp
@[go_sem ↓] theorem rho_tmp (e : Env) (t : Nat) : rho e (.tmp t) = e t := rfl
@[go_sem ↓] theorem rho_const (e : Env) (v : Value) : rho e (.const v) = cv v := rfl
@[go_sem ↓] theorem rho_func (e : Env) (f : FuncId) : rho e (.func f) = .fn (.func f) [] [] := rfl
@[go_sem ↓] theorem upd_some (e : Env) (d t : Nat) (v : PV) : upd e (some d) v t = if t = d then v else e t := rfl
@[go_sem ↓] theorem upd_none (e : Env) (v : PV) : upd e none v = e := rfl
@[go_sem] theorem initEnv_at (args : List PV) (t : Nat) : q4x args t = args.getD t .undef := rfl
@[go_sem] theorem cv_bool (b : Bool) : cv (.bool b) = .bool b := rfl
@[go_sem] theorem cv_int (k : IntKind) (n : Int) : cv (.int k n) = .int k n := rfl
@[go_sem] theorem cv_slice : cv (.slice none 0 0) = .nilsl := rfl
@[go_sem] theorem cv_nilFunc : cv .nilFunc = .nilfn := rfl
@[go_sem] theorem strip_bool (H : Heap) (b : Bool) : strip H (.bool b) = .bool b := rfl
@[go_sem] theorem strip_int (H : Heap) (k : IntKind) (n : Int) : strip H (.int k n) = .int k n := rfl
@[go_sem] theorem strip_agg (H : Heap) (l : List PV) : strip H (.agg l) = .agg l := rfl
@[go_sem] theorem strip_tup (H : Heap) (l : List PV) : strip H (.tup l) = .tup l := rfl
@[go_sem] theorem strip_sl (H : Heap) (l : List (List PV)) : strip H (.sl l) = .sl l := rfl
@[go_sem] theorem strip_nilsl (H : Heap) : strip H .nilsl = .sl [] := rfl
@[go_sem] theorem strip_ref (H : Heap) (l : List PV) : strip H (.ref l) = .ref l := rfl
@[go_sem] theorem strip_ptr (H : Heap) (i o : Nat) : strip H (.ptr i o) = .ptr i o := rfl
@[go_sem] theorem strip_fn (H : Heap) (f : Fn) (a b : List PV) : strip H (.fn f a b) = .fn f a b := rfl
@[go_sem] theorem strip_ifc (H : Heap) (t : TypeId) (v : PV) : strip H (.ifc t v) = .ifc t v := rfl
@[go_sem] theorem strip_bs (H : Heap) (i n e z : Nat) : strip H (.bs i n e z) = .bs i n e z := rfl
@[go_sem] theorem strip_bz (H : Heap) : strip H .bz = .bz := rfl
@[go_sem] theorem strip_c0 (H : Heap) : strip H .c0 = .c0 := rfl
@[go_sem] theorem strip_gr (H : Heap) (id k : Nat) : strip H (.gr id k) = match H id with
    | some (.row _ _ els) => if els.length = k then .sl els else .any
    | _ => .any := rfl
@[go_sem] theorem sp0_bool (b : Bool) : sp0 (.bool b) = .bool b := rfl
@[go_sem] theorem sp0_int (k : IntKind) (n : Int) : sp0 (.int k n) = .int k n := rfl
@[go_sem] theorem sp0_agg (l : List PV) : sp0 (.agg l) = .agg l := rfl
@[go_sem] theorem sp0_tup (l : List PV) : sp0 (.tup l) = .tup l := rfl
@[go_sem] theorem sp0_sl (l : List (List PV)) : sp0 (.sl l) = .sl l := rfl
@[go_sem] theorem sp0_nilsl : sp0 .nilsl = .sl [] := rfl
@[go_sem] theorem sp0_ref (l : List PV) : sp0 (.ref l) = .ref l := rfl
@[go_sem] theorem sp0_ptr (i o : Nat) : sp0 (.ptr i o) = .ptr i o := rfl
@[go_sem] theorem sp0_fn (f : Fn) (a b : List PV) : sp0 (.fn f a b) = .fn f a b := rfl
attribute [go_sem ↓] reduceIte
attribute [go_sem] Nat.reduceMul Nat.reduceLeDiff Int.reduceToNat Int.reduceLE Int.reduceLT Int.reduceGT Int.reduceGE Int.reduceAdd Int.reduceSub Int.reduceMul Int.reduceNeg and_self and_true true_and eq_self Bool.false_eq_true
attribute [go_sem] List.getD_cons_zero List.getD_cons_succ Nat.reduceEqDiff ite_true ite_false if_true if_false Option.map_some Option.bind_some List.getElem?_toArray List.getElem?_cons_succ List.getElem?_cons_zero Nat.zero_add Nat.add_zero Nat.reduceAdd beq_self_eq_true Bool.not_true Bool.not_false Bool.not_not decide_true decide_false List.all_cons List.all_nil Bool.and_true Bool.true_and List.length_cons List.length_nil List.map_cons List.map_nil List.nil_append List.cons_append List.append_nil
@[go_sem] theorem bne_def {α : Type} [BEq α] (a b : α) : (a != b) = !(a == b) := rfl
end Go.Proofs.YtoibbedpaaeclaaGreat
end
