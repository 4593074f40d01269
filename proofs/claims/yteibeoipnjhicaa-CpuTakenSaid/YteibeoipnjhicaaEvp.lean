import Derived.Test.YteibeoipnjhicaaEvo
namespace Go.Proofs.Yteibeoipnjhicaa
open Go Go.RowKit
set_option linter.unusedVariables false
set_option linter.unusedSimpArgs false
section
variable {P : Program} {ops : Array Oper}
theorem evOp_m {ρ : Operand → PV} {s : PV → PV} {H : Heap} {m m' : Nat} {op : Op} {r : PV} {e : Eff} (he : evOp P ρ s H m op = some (r, e)) (hc : e.cnt = 0) : evOp P ρ s H m' op = some (r, e) := by
  cases op
  case alloc t =>
    simp only [evOp] at he
    split at he
    · cases he; simp [Eff.cnt] at hc
    · cases he
  case box t x =>
    simp only [evOp] at he
    split at he
    · cases he; simp [Eff.cnt] at hc
    · cases he
  case call c =>
    simp only [evOp] at he ⊢
    cases hcal : c.callee with
    | value f => rw [hcal] at he; exact he
    | invoke r n => rw [hcal] at he; exact he
    | builtin b =>
      rw [hcal] at he
      cases b <;> first
        | exact he
        | ((try simp only at he ⊢)
           split at he
           · rename_i x1 y1 t1 t2 ha ht
             (try simp only at he ⊢)
             cases hp : ρ x1 with
             | nilsl =>
               rw [hp] at he
               unfold evAppend at he ⊢
               split at he <;> (try (simp at he; done))
               split at he <;> (try (simp at he; done))
               split at he <;> (try (simp at he; done))
               split at he <;> (try (simp at he; done))
               split at he <;> (try (simp at he; done))
               rename_i h1 _ _ h2 _ _ _ h3 _ _ h4 h5
               simp only at he
               split at he
               · simp_all
               · split at he
                 · cases he; simp [Eff.cnt] at hc
                 · cases he
             | _ => rw [hp] at he; unfold evAppend at he ⊢; exact he
           · cases he)
  case slice t x lo hi mx => cases mx <;> exact he
  case typeAssert x xt t ok => cases ok <;> exact he
  all_goals exact he
theorem app_m {e : Eff} (hc : e.cnt = 0) (m m' : Nat) (X : Heap) : e.app m X = e.app m' X := by
  cases e <;> first | rfl | (simp [Eff.cnt] at hc)
variable {R : Run P ops} {m0 : Nat}
/-- What is done is done behind what it hangs on. -/
def Closed (R : Run P ops) (D : Nat → Bool) : Prop := ∀ k, k < ops.size → D k = true → (R.e k).cnt = 0 → ∀ i, (R.e k).tgt (R.mm k) = some i → ∀ j, j < ops.size → (R.e j).cnt ≠ 0 → R.mm j = i → D j = true
theorem cnt_one {e : Eff} (h : e.cnt ≠ 0) : e.cnt = 1 := by cases e <;> simp_all [Eff.cnt]
theorem ph_unborn (h : RunOk R m0) {D : Nat → Bool} (hcl : Closed R D) {j : Nat} (hj : j < ops.size) (hD : D j = false) (hc : (R.e j).cnt ≠ 0) : ∀ {k : Nat}, k ≤ ops.size → ph R D k (R.mm j) = none
  | 0, _ => h.base _ (mm_mono h (Nat.zero_le _) (by omega))
  | k + 1, hk => by
    simp only [ph]
    split
    · rename_i hDk
      by_cases ht : (R.e k).tgt (R.mm k) = some (R.mm j)
      · exfalso
        by_cases hck : (R.e k).cnt = 0
        · have := hcl k (by omega) hDk hck _ ht j hj hc rfl
          rw [hD] at this; cases this
        · have e1 := (tgt_new hck).1 ht
          have n1 := cnt_one hc
          have n2 := cnt_one hck
          rcases Nat.lt_trichotomy k j with h1 | h1 | h1
          · have := mm_mono h (j := k + 1) (k := j) (by omega) (by omega)
            rw [(hn_succ h (by omega)).2] at this; omega
          · subst h1; rw [hD] at hDk; cases hDk
          · have := mm_mono h (j := j + 1) (k := k) (by omega) (by omega)
            rw [(hn_succ h hj).2] at this; omega
      · rw [app_other ht]; exact ph_unborn h hcl hj hD hc (by omega)
    · exact ph_unborn h hcl hj hD hc (by omega)
theorem app_live {e : Eff} {m : Nat} {X : Heap} {i : Nat} (h : X i ≠ none) : e.app m X i ≠ none := by
  rw [app_eq]
  simp only
  split
  · cases e with
    | put id off x =>
      simp only [Eff.val]
      split
      · simp
      · exact h
    | nop => exact h
    | new _ => simp [Eff.val]
    | born _ _ _ => simp [Eff.val]
    | grow _ _ _ _ => simp [Eff.val]
  · exact h
theorem drawOk_at (h : drawOk ops = true) {j : Nat} {o : Oper} (ho : ops[j]? = some o) : (∀ e ∈ o.after, Region.binds .any e = true → e.on < j) ∧
    ∀ i d, i < ops.size → dstAt ops i = some d → (i = j ∨ o.dst ≠ some d) ∧ (d ∈ o.looksAt ops → (i < j ∧ ∃ e ∈ o.after, Region.binds .any e = true ∧ e.on = i) ∨ (j < i ∧ reachB ops ops.size i j = true)) := by
  have hj : j < ops.size := (Array.getElem?_eq_some_iff.1 ho).1
  have h1 := List.all_eq_true.1 h j (List.mem_range.2 hj)
  rw [ho] at h1
  simp only [Bool.and_eq_true] at h1
  obtain ⟨h1, h2⟩ := h1
  refine ⟨fun e he hb => ?_, fun i d hi hd => ?_⟩
  · have := Array.all_eq_true_iff_forall_mem.1 h1 e he
    simpa [hb] using this
  · have h3 := List.all_eq_true.1 h2 i (List.mem_range.2 hi)
    unfold dstAt at hd
    rw [hd] at h3
    simp only [Bool.and_eq_true, Bool.or_eq_true, beq_iff_eq, bne_iff_ne, ne_eq, Bool.not_eq_true', decide_eq_true_eq] at h3
    refine ⟨h3.1, fun hm => ?_⟩
    rcases h3.2 with h4 | h4 | h4
    · rw [List.contains_eq_mem] at h4; simp [hm] at h4
    · refine .inl ⟨h4.1, ?_⟩
      obtain ⟨e, he, hbb⟩ := Array.any_eq_true'.1 h4.2
      simp only [Bool.and_eq_true, beq_iff_eq] at hbb
      exact ⟨e, he, hbb⟩
    · exact .inr h4
theorem reach_dn {D : Nat → Bool} (dn : ∀ i o, ops[i]? = some o → D i = true → ∀ e ∈ o.after, Region.binds .any e = true → D e.on = true) : ∀ (f i j : Nat), reachB ops f i j = true → D i = true → D j = true
  | 0, _, _, h, _ => by simp [reachB] at h
  | f + 1, i, j, h, hi => by
    simp only [reachB] at h
    split at h
    · rename_i o ho
      obtain ⟨e, he, hb⟩ := Array.any_eq_true'.1 h
      simp only [Bool.and_eq_true, Bool.or_eq_true, beq_iff_eq] at hb
      have h1 := dn i o ho hi e he hb.1
      rcases hb.2 with h2 | h2
      · rw [← h2]; exact h1
      · exact reach_dn dn f e.on j h2.2 h1
    · cases h
variable {w0 : World} {M0 : Nat → Nat → Prop} {σ0 : Nat → Gh} {H0 : Heap} {nt : Nat} {ds : List Deferred}
structure Inv (R : Run P ops) (w0 : World) (M0 : Nat → Nat → Prop) (σ0 : Nat → Gh) (H0 : Heap) (m0 nt : Nat) (ds : List Deferred) (D : Nat → Bool) (a : Act) (w : World) : Prop where
  st : ∃ σ, St w0 M0 σ0 H0 m0 nt ds a w (pe R D ops.size) (ph R D ops.size) (R.mm ops.size) σ
  cl : Closed R D
  dn : ∀ i o, ops[i]? = some o → D i = true → ∀ e ∈ o.after, Region.binds .any e = true → D e.on = true
theorem draw_step (h : RunOk R m0) (hok : drawOk ops = true) {D : Nat → Bool} {a : Act} {w : World} (hI : Inv R w0 M0 σ0 H0 m0 nt ds D a w) {j : Nat} {o : Oper} (ho : ops[j]? = some o) (hd : ∀ x, o.dst = some x → x < nt) (hD : D j = false)
    (hedge : ∀ e ∈ o.after, Region.binds .any e = true → D e.on = true) {Q : Exit → Act → World → Prop} : wpOp P ops Q j (fun a' w' => Inv R w0 M0 σ0 H0 m0 nt ds (withJ D j) a' w') a w := by
  obtain ⟨⟨σ, hS⟩, hcl, hdn0⟩ := hI
  have hdn : ∀ i o', ops[i]? = some o' → withJ D j i = true → ∀ e ∈ o'.after, Region.binds .any e = true → withJ D j e.on = true := fun i o' ho' hi e he hb => by
    have mono : ∀ k, D k = true → withJ D j k = true := fun k hk => by simp only [withJ]; split <;> first | rfl | exact hk
    by_cases e1 : i = j
    · subst e1
      rw [ho] at ho'; cases ho'
      exact mono _ (hedge e he hb)
    · simp only [withJ, e1, if_false] at hi
      exact mono _ (hdn0 i o' ho' hi e he hb)
  have hj : j < ops.size := (Array.getElem?_eq_some_iff.1 ho).1
  obtain ⟨hlt, hdst⟩ := drawOk_at hok ho
  have hdj : dstAt ops j = o.dst := by simp [dstAt, ho]
  have hen : R.en j = pe R (before j) ops.size := by rw [en_pe h j (Nat.le_refl _), Nat.min_eq_right (by omega)]
  have hlook : ∀ t ∈ o.looksAt ops, R.en j t = pe R D ops.size t := fun t ht => by
    rw [hen]
    refine pe_get R _ _ t (fun i hi hdi => ?_)
    obtain ⟨_, h2⟩ := hdst i t hi hdi
    rcases h2 ht with ⟨h3, e, he, hb, rfl⟩ | ⟨h3, h4⟩
    · rw [hedge e he hb]; simp [before, h3]
    · have hDi : D i = false := by
        cases hq : D i with
        | false => rfl
        | true => have := reach_dn hdn0 _ i j h4 hq; rw [hD] at this; cases this
      rw [hDi]; simp [before]; omega
  have hev : ∀ x ∈ o.op.operands, VV w M0 σ (ph R D ops.size) (a.eval x) (rho (R.en j) x) := fun x hx => by
    have := hS.eval x
    cases x with
    | tmp t =>
      have ht : t ∈ o.looksAt ops := by
        unfold Oper.looksAt
        exact List.mem_append_left _ (List.mem_filterMap.2 ⟨.tmp t, by simpa using hx, rfl⟩)
      simp only [rho] at this ⊢
      rw [hlook t ht]; exact this
    | _ => exact this
  have hs0 : ∀ x ∈ o.op.operands, VV w M0 σ (ph R D ops.size) (a.eval x) (sp0 (rho (R.en j) x)) := fun x hx => by
    have := hev x hx
    generalize rho (R.en j) x = p at this ⊢
    generalize a.eval x = u at this ⊢
    cases p with
    | nilsl => cases this; exact .sl0 _ _
    | gr id k => exact .any _
    | _ => exact this
  have hwant : wantP ops (pe R D ops.size) o = wantP ops (R.en j) o := by
    unfold wantP
    split
    · rfl
    · rename_i g want hg
      split
      · rename_i d hgd
        rw [hlook d (by unfold Oper.looksAt; rw [hg]; simp [hgd])]
      · rfl
  obtain ⟨g1, g2, g3, hg⟩ := h.good j o ho
  have hpe : pe R (withJ D j) ops.size = upd (pe R D ops.size) o.dst (R.r j) := by
    rw [pe_insert R D hD (fun i d hij hi hdj' hdi => ?_) hj (Nat.le_refl _), hdj]
    rw [hdj] at hdj'
    rcases (hdst i d hi hdi).1 with e | e
    · exact hij e
    · exact e hdj'
  have hph : ph R (withJ D j) ops.size = (R.e j).app (R.mm j) (ph R D ops.size) := ph_insert h D hj hD (fun k hjk hk hDk hck hcj ht => by
    have := hcl k hk hDk hck _ ht j hj hcj rfl
    rw [hD] at this; cases this) hj (Nat.le_refl _)
  have hfree : ∀ i, R.mm ops.size ≤ i → ph R (withJ D j) ops.size i = none := ph_free h _ (Nat.le_refl _)
  -- closedness, once j is done
  have hclJ : ((R.e j).cnt = 0 → ∀ i, (R.e j).tgt (R.mm j) = some i → ph R D ops.size i ≠ none) → Closed R (withJ D j) := fun hlive k hk hDk hck i ht j' hj' hcj' hmj' => by
    by_cases ekj : k = j
    · subst ekj
      by_cases e2 : j' = k
      · subst e2; exact absurd hck hcj'
      · have : D j' = true := by
          cases hDj' : D j' with
          | true => rfl
          | false => exact absurd (by rw [← hmj']; exact ph_unborn h hcl hj' hDj' hcj' (Nat.le_refl _)) (hlive hck i ht)
        simp [withJ, this]
    · have hDk' : D k = true := by simpa [withJ, ekj] using hDk
      have := hcl k hk hDk' hck i ht j' hj' hcj' hmj'
      simp [withJ, this]
  unfold wpOp
  rw [ho]
  simp only
  rcases hg with ⟨hw, hr, he⟩ | ⟨hw, hg⟩
  · rw [if_neg (by rw [wanted_of hS.env (hwant.trans hw)]; simp)]
    rw [he] at hph
    refine ⟨⟨σ, ?_⟩, hclJ (fun _ i ht => by rw [he] at ht; cases ht), hdn⟩
    rw [hpe, hph, hr]
    exact hS.step hS.hr hS.free (Nat.le_refl _) (Fr.refl _ _ _ _) hd .undef
  · rw [if_pos (wanted_of hS.env (hwant.trans hw))]
    refine .inl ?_
    rcases hg with ⟨g, args, hc, hcal, hent, ⟨hp, he⟩ | ⟨rf, hp, he⟩⟩ | ⟨hnc, heq, hrd⟩ | ⟨hnc, n1, e1, z1, fl1, hnw, hr1, he1⟩
    · obtain ⟨vs, hrun, hvl⟩ := call_enter (P := P) hev hs0 hcal hent
      unfold Oper.wp
      rw [hrun]
      simp only [Oper.upon]
      refine (hp w (MU M0 σ (ph R D ops.size)) σ (LV (ph R D ops.size)) vs (fun b o' hm => mu_lt hS.hr hm) hvl).mono ?_
      rintro e w' ⟨v, rfl, hv, hb⟩
      rw [he] at hph
      refine ⟨⟨σ, ?_⟩, hclJ (fun _ i ht => by rw [he] at ht; cases ht), hdn⟩
      rw [hpe, hph]
      exact hS.step (hS.hr.all hb.size hb.block) hS.free (Nat.le_refl _) (Fr.all hb) hd hv
    · obtain ⟨vs, hrun, hvl⟩ := call_enter (P := P) hev hs0 hcal hent
      have hc1 : (R.e j).cnt ≠ 0 := by rw [hp.1]; simp
      unfold Oper.wp
      rw [hrun]
      simp only [Oper.upon]
      refine (hp.2 w M0 σ (ph R D ops.size) (R.mm j) vs hS.hr (ph_unborn h hcl hj hD hc1 (Nat.le_refl _)) hvl).mono ?_
      rintro e w' ⟨v, σ', rfl, hr', hf', hv⟩
      rw [← hph] at hr' hf' hv
      refine ⟨⟨σ', ?_⟩, hclJ (fun hc0 => absurd hc0 hc1), hdn⟩
      rw [hpe, he]
      exact hS.step hr' hfree (Nat.le_refl _) hf' hd hv
    · have hlive : ∀ y ∈ o.op.operands, (∀ id off, rho (R.en j) y = .ptr id off → ph R D ops.size id ≠ none) ∧ (∀ id k, rho (R.en j) y = .gr id k → ph R D ops.size id ≠ none) := fun y hy => by
        have := hev y hy
        refine ⟨fun id off hp => ?_, fun id k hp => ?_⟩
        · rw [hp] at this
          generalize a.eval y = u at this
          cases this with
          | ptr _ _ hL _ => exact hL
        · rw [hp] at this
          generalize a.eval y = u at this
          cases this with
          | gr _ _ _ _ _ hL _ => exact hL
      have heq' := part_reads h D hj hD hrd hlive heq
      obtain ⟨m1, hm1, heq2, happ⟩ : ∃ m1, ph R D ops.size m1 = none ∧ evOp P (rho (R.en j)) sp0 (ph R D ops.size) m1 o.op = some (R.r j, R.e j) ∧ (R.e j).app m1 (ph R D ops.size) = (R.e j).app (R.mm j) (ph R D ops.size) := by
        by_cases hc : (R.e j).cnt = 0
        · exact ⟨R.mm ops.size, ph_free h D (Nat.le_refl _) _ (Nat.le_refl _), evOp_m heq' hc, app_m hc _ _ _⟩
        · exact ⟨R.mm j, ph_unborn h hcl hj hD hc (Nat.le_refl _), heq', rfl⟩
      obtain ⟨n, v, w', σ', hrun, hgv, hv, hr', hf', _⟩ := op_sound (P := P) hS.hr hm1 hev hs0 heq2
      rw [happ, ← hph] at hv hr' hf'
      have hSt : ∀ v', v' = v → St w0 M0 σ0 H0 m0 nt ds (a.put o.dst v') w' (pe R (withJ D j) ops.size) (ph R (withJ D j) ops.size) (R.mm ops.size) σ' := fun v' e => by
        rw [hpe, e]; exact hS.step hr' hfree (Nat.le_refl _) hf' hd hv
      have hclj : Closed R (withJ D j) := hclJ (fun hc i ht => by
        cases hq : R.e j with
        | nop => rw [hq] at ht; cases ht
        | new _ => rw [hq] at hc; simp [Eff.cnt] at hc
        | born _ _ _ => rw [hq] at hc; simp [Eff.cnt] at hc
        | put id off l => rw [hq] at ht heq'; cases ht; obtain ⟨c, h1, _⟩ := evOp_put heq'; rw [h1]; simp
        | grow id e' sz els => rw [hq] at ht heq'; cases ht; obtain ⟨c, h1⟩ := evOp_growth heq'; rw [h1]; simp)
      unfold Oper.wp
      rw [hrun]
      rcases hgv with rfl | ⟨rfl, hu⟩
      · simp only [Oper.upon]; exact ⟨⟨σ', hSt v rfl⟩, hclj, hdn⟩
      · simp only [Oper.upon]; exact ⟨⟨σ', hSt undef hu.symm⟩, hclj, hdn⟩
    · have hc1 : (R.e j).cnt ≠ 0 := by rw [he1]; simp [Eff.cnt]
      have hm1 := ph_unborn h hcl hj hD hc1 (Nat.le_refl _)
      obtain ⟨n, v, w', σ', hrun, hgv, hv, hr', hf', _⟩ := bs_sound (P := P) hS.hr hm1 hev hs0 (nw_bs hnw _ _)
      rw [← he1, ← hph] at hv hr' hf'
      have hSt : ∀ v', v' = v → St w0 M0 σ0 H0 m0 nt ds (a.put o.dst v') w' (pe R (withJ D j) ops.size) (ph R (withJ D j) ops.size) (R.mm ops.size) σ' := fun v' e => by
        rw [hpe, hr1, e]; exact hS.step hr' hfree (Nat.le_refl _) hf' hd hv
      have hclj : Closed R (withJ D j) := hclJ (fun hc0 => absurd hc0 hc1)
      unfold Oper.wp
      rw [hrun]
      rcases hgv with rfl | ⟨rfl, hu⟩
      · simp only [Oper.upon]; exact ⟨⟨σ', hSt v rfl⟩, hclj, hdn⟩
      · simp only [Oper.upon]; exact ⟨⟨σ', hSt undef hu.symm⟩, hclj, hdn⟩
theorem filt_le {p q : Nat → Bool} (hpq : ∀ x, q x = true → p x = true) : ∀ l : List Nat, (l.filter q).length ≤ (l.filter p).length
  | [] => Nat.le_refl _
  | x :: l => by
    have ih := filt_le hpq l
    by_cases hq : q x = true
    · simp [List.filter_cons, hq, hpq x hq, ih]
    · by_cases hp : p x = true
      · simp [List.filter_cons, hq, hp]; omega
      · simp [List.filter_cons, hq, hp, ih]
theorem filt_lt {p q : Nat → Bool} (hpq : ∀ x, q x = true → p x = true) {y : Nat} (hp : p y = true) (hq : q y = false) : ∀ l : List Nat, y ∈ l → (l.filter q).length < (l.filter p).length
  | [], h => (List.not_mem_nil h).elim
  | x :: l, h => by
    rcases List.mem_cons.1 h with rfl | h
    · have := filt_le hpq l
      simp [List.filter_cons, hq, hp]; omega
    · have ih := filt_lt hpq hp hq l h
      by_cases hq' : q x = true
      · simp [List.filter_cons, hq', hpq x hq', ih]
      · by_cases hp' : p x = true
        · simp [List.filter_cons, hq', hp']; omega
        · simp [List.filter_cons, hq', hp', ih]
def todo (ops : Array Oper) (listed : Array Bool) : Nat := ((List.range ops.size).filter fun i => !listed.getD i false).length
theorem draw_any (h : RunOk R m0) (hok : drawOk ops = true) (hd : ∀ (j : Nat) (o : Oper), ops[j]? = some o → ∀ x, o.dst = some x → x < nt) {Q : Exit → Act → World → Prop}
    (hQ : ∀ a w σ, St w0 M0 σ0 H0 m0 nt ds a w (R.en ops.size) (R.hn ops.size) (R.mm ops.size) σ → Q .normal a w) : ∀ (fuel : Nat) (listed : Array Bool) (a : Act) (w : World), listed.size = ops.size → todo ops listed ≤ fuel →
    Inv R w0 M0 σ0 H0 m0 nt ds (fun i => listed.getD i false) a w → wpAny P .any ops Q fuel listed a w := by
  have key : ∀ (listed : Array Bool) (a : Act) (w : World), Region.ready .any ops listed = [] → listed.size = ops.size → Inv R w0 M0 σ0 H0 m0 nt ds (fun i => listed.getD i false) a w → Q .normal a w := by
    intro listed a w hr hsz hI
    have hall : ∀ j, j < ops.size → listed.getD j false = true := by
      intro j
      induction j using Nat.strongRecOn with
      | _ j ih =>
        intro hj
        by_cases hl : listed.getD j false = true
        · exact hl
        · exfalso
          have ho : ops[j]? = some ops[j] := Array.getElem?_eq_getElem hj
          have : j ∈ Region.ready .any ops listed := mem_ready.2 ⟨by
            have hl' : j < listed.size := by omega
            simp [hl'] at hl ⊢; exact hl, ops[j], ho, fun e he hb => by
            have hlt := (drawOk_at hok ho).1 e he hb
            exact ih _ hlt (by omega)⟩
          rw [hr] at this; cases this
    obtain ⟨⟨σ, hS⟩, _⟩ := hI
    refine hQ a w σ ?_
    have e1 : pe R (fun i => listed.getD i false) ops.size = R.en ops.size := by
      rw [pe_agree R (D2 := before ops.size) (fun i hi => by rw [hall i hi]; simp [before, hi]), en_pe h ops.size (Nat.le_refl _), Nat.min_self]
    have e2 : ph R (fun i => listed.getD i false) ops.size = R.hn ops.size := by
      rw [ph_agree R (D2 := before ops.size) (fun i hi => by rw [hall i hi]; simp [before, hi]), hn_ph h ops.size (Nat.le_refl _), Nat.min_self]
    rw [e1, e2] at hS; exact hS
  have hset : ∀ (listed : Array Bool) (j : Nat), listed.size = ops.size → j < ops.size → (fun i => (listed.setIfInBounds j true).getD i false) = withJ (fun i => listed.getD i false) j := by
    intro listed j hsz hj
    funext i
    by_cases e : i = j
    · subst e; simp [withJ, show i < listed.size by omega]
    · simp [withJ, e, Array.getElem?_setIfInBounds_ne (Ne.symm e)]
  intro fuel
  induction fuel with
  | zero =>
    intro listed a w hsz ht hI
    have hr : Region.ready .any ops listed = [] := by
      cases hq : Region.ready .any ops listed with
      | nil => rfl
      | cons j rest =>
        exfalso
        have hj : j ∈ Region.ready .any ops listed := by rw [hq]; simp
        obtain ⟨h1, o, ho, _⟩ := mem_ready.1 hj
        have hjs : j < ops.size := (Array.getElem?_eq_some_iff.1 ho).1
        have hjl : j < listed.size := by omega
        have : j ∈ (List.range ops.size).filter fun i => !listed.getD i false := by
          rw [List.mem_filter, List.mem_range]
          refine ⟨hjs, ?_⟩
          simp [hjl] at h1 ⊢; exact h1
        unfold todo at ht
        have := List.length_pos_of_mem this
        omega
    exact ⟨hr, key listed a w hr hsz hI⟩
  | succ fuel ih =>
    intro listed a w hsz ht hI
    refine ⟨fun hr => key listed a w hr hsz hI, fun j hj => ?_⟩
    obtain ⟨h1, o, ho, hedge⟩ := mem_ready.1 hj
    have hjs : j < ops.size := (Array.getElem?_eq_some_iff.1 ho).1
    have hjl : j < listed.size := by omega
    have hDj : listed.getD j false = false := by simp [hjl] at h1 ⊢; exact h1
    refine wpOp_mono (fun a' w' hI' => ih (listed.setIfInBounds j true) a' w' (by simpa using hsz) ?_ (by rw [hset listed j hsz hjs]; exact hI')) (draw_step h hok hI ho (hd j o ho) hDj hedge)
    have : todo ops (listed.setIfInBounds j true) < todo ops listed := by
      unfold todo
      refine filt_lt (y := j) (fun x hx => ?_) (by simp [hDj]) ?_ _ (List.mem_range.2 hjs)
      · have := congrFun (hset listed j hsz hjs) x
        (try simp only at this)
        rw [this] at hx
        by_cases e : x = j
        · subst e; simp [withJ] at hx
        · simpa [withJ, e] using hx
      · have := congrFun (hset listed j hsz hjs) j
        (try simp only at this)
        rw [this]; simp [withJ]
    omega
end
end Go.Proofs.Yteibeoipnjhicaa
