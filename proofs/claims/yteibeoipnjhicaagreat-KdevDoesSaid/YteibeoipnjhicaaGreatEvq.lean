import Derived.Test.YteibeoipnjhicaaGreatRz5
namespace Go.Proofs.YteibeoipnjhicaaGreat
open Go Go.RowKit
set_option linter.unusedVariables false
set_option linter.unusedSimpArgs false
section
variable {P : Program} {w0 : World} {M0 : Nat → Nat → Prop} {σ0 : Nat → Gh} {H0 : Heap} {m0 nt : Nat} {ds : List Deferred}
theorem pwDraw_sound (hm : P.follows .mixedOrders = true) {ops : Array Oper} {id : Nat} {Q : Ex → Env → Heap → Nat → Prop} {a : Act} {w : World} {env : Env} {H : Heap} {m : Nat} {σ : Nat → Gh} (hS : St w0 M0 σ0 H0 m0 nt ds a w env H m σ)
    (hd : ∀ (j : Nat) (o : Oper), ops[j]? = some o → ∀ x, o.dst = some x → x < nt) (h : pwDraw P ops Q env H m) : (Code.region id ops true).wp P (QQ w0 M0 σ0 H0 m0 nt ds Q) a w := by
  obtain ⟨hok, hdr⟩ := h
  obtain ⟨B, hB, hdr⟩ : ∃ B : List (Eff × List Rg) → Prop, (∀ L, B L → ∀ (i j : Nat) (x y : Eff × List Rg), i < j → L[i]? = some x → L[j]? = some y → q6p ops i j x y = true) ∧ dr P ops ops.toList (fun env' H' m' L => B L ∧ Q .normal env' H' m') env H m := by
    rcases hdr with h | h
    · exact ⟨fun L => q1r L = true, fun L hL i j x y hij hx hy => okPair_R (okAll_get hL hij hx hy), h⟩
    · exact ⟨fun L => q3f ops 0 L = true, fun L hL i j x y hij hx hy => by have := okAllR_get hL hij hx hy; rwa [Nat.zero_add, Nat.zero_add] at this, h⟩
  obtain ⟨R, e1, e2, e3, hgood, L, ⟨hL, hq⟩, hlen, hget⟩ := dr_run ops.toList _ env H m hdr
  have hl0 : ops.toList.length = ops.size := Array.length_toList
  rw [hl0] at hq hlen
  have hR : RunOk R m0 := by
    refine ⟨fun i o ho => hgood i o (by simpa using ho), fun i j hij hj => ?_, fun i hi => ?_, by rw [e3]; exact hS.le⟩
    · have hi : i < L.length := by omega
      have hj' : j < L.length := by omega
      have h1 := hget i _ (List.getElem?_eq_getElem hi)
      have h2 := hget j _ (List.getElem?_eq_getElem hj')
      rw [← h1, ← h2]
      exact hB L hL i j _ _ hij (List.getElem?_eq_getElem hi) (List.getElem?_eq_getElem hj')
    · rw [e2]; rw [e3] at hi; exact hS.free i hi
  have hb : Below w.heap.size w w.drew := (Below.refl _ _).drew
  have hmm : m ≤ R.mm ops.size := by rw [← e3]; exact mm_mono hR (Nat.zero_le _) (Nat.le_refl _)
  have hfalse : ∀ i, (Array.replicate ops.size false).getD i false = false := fun i => by rw [Array.getD_eq_getD_getElem?, Array.getElem?_replicate]; split <;> rfl
  have hpe : pe R (fun i => (Array.replicate ops.size false).getD i false) ops.size = env := by
    have : ∀ k, pe R (fun i => (Array.replicate ops.size false).getD i false) k = R.en 0 := by
      intro k
      induction k with
      | zero => rfl
      | succ k ih => simp only [pe]; rw [if_neg (by rw [hfalse]; simp)]; exact ih
    rw [this, e1]
  have hph : ph R (fun i => (Array.replicate ops.size false).getD i false) ops.size = H := by
    have : ∀ k, ph R (fun i => (Array.replicate ops.size false).getD i false) k = R.hn 0 := by
      intro k
      induction k with
      | zero => rfl
      | succ k ih => simp only [ph]; rw [if_neg (by rw [hfalse]; simp)]; exact ih
    rw [this, e2]
  refine wp_region_any hm (draw_any hR hok hd (fun a' w' σ' hS' => ⟨.normal, _, _, _, σ', hq, hS', trivial⟩) ops.size (Array.replicate ops.size false) a w.drew (by simp) ?_ ⟨⟨σ, ?_⟩, fun k hk hD => (by simp only [hfalse] at hD; cases hD), fun i o _ hD => (by simp only [hfalse] at hD; cases hD)⟩)
  · unfold todo
    exact Nat.le_trans (List.length_filter_le _ _) (by simp)
  · rw [hpe, hph]
    exact ⟨hS.hr.all hb.size hb.block, fun i hi => hS.free i (by omega), by have := hS.le; omega, hS.fr.trans (Fr.all hb), hS.size, hS.defers, fun t => (hS.env t).mono (ext_all hb.block)⟩
def tailOk (ops : Array Oper) (n : Nat) : Bool :=
  (List.range ops.size).all fun k => match ops[k]? with
    | none => true
    | some o => (match o.guard with
      | some (g, _) => decide (g < k)
      | none => true) && ((o.after.all fun e => !Region.binds .any e || decide (e.on < k)) && (decide (k < n) || (List.range k).all fun i => q6x ops ops.size k i))
theorem q7s {ops : Array Oper} {n : Nat} (h : tailOk ops n = true) {k : Nat} {o : Oper} (ho : ops[k]? = some o) : (∀ g want, o.guard = some (g, want) → g < k) ∧ (∀ e ∈ o.after, Region.binds .any e = true → e.on < k) ∧ (n ≤ k → ∀ i, i < k → q6x ops ops.size k i = true) := by
  have hk : k < ops.size := (Array.getElem?_eq_some_iff.1 ho).1
  have h1 := List.all_eq_true.1 h k (List.mem_range.2 hk)
  rw [ho] at h1
  simp only [Bool.and_eq_true] at h1
  obtain ⟨h1, h2, h3⟩ := h1
  refine ⟨fun g want hg => by rw [hg] at h1; simpa using h1, fun e he hb => ?_, fun hn i hi => ?_⟩
  · have := Array.all_eq_true_iff_forall_mem.1 h2 e he
    simpa [hb] using this
  · rw [Bool.or_eq_true] at h3
    rcases h3 with h3 | h3
    · simp only [decide_eq_true_eq] at h3; omega
    · exact List.all_eq_true.1 h3 i (List.mem_range.2 hi)
def pwDrawL (P : Program) (ops : Array Oper) (Q : Ex → Env → Heap → Nat → Prop) (env : Env) (H : Heap) (m : Nat) : Prop :=
  ∃ l1 l2, ops.toList = l1 ++ l2 ∧ tailOk ops l1.length = true ∧ q3e l1.toArray = true ∧ dr P l1.toArray l1 (fun env' H' m' L => q1r L = true ∧ q1a P ops Q l2 env' H' m') env H m
theorem wpOp_pre {ops pre : Array Oper} {j : Nat} {o : Oper} (ho : ops[j]? = some o) (hp : pre[j]? = some o) (hg : ∀ g want, o.guard = some (g, want) → ops[g]? = pre[g]?) {Q : Exit → Act → World → Prop} {K : Act → World → Prop} {a : Act} {w : World} (h : wpOp P pre Q j K a w) : wpOp P ops Q j K a w := by
  unfold wpOp at *
  rw [hp] at h
  rw [ho]
  simp only at h ⊢
  have hw : Region.wanted o (yielded ops a.tmps) = Region.wanted o (yielded pre a.tmps) := by
    unfold Region.wanted
    cases hgd : o.guard with
    | none => rfl
    | some x => obtain ⟨g, want⟩ := x; simp only [yielded]; rw [hg g want hgd]
  rw [hw]; exact h
theorem wpAny_done {ops : Array Oper} {Q : Exit → Act → World → Prop} {listed : Array Bool} {a : Act} {w : World} (hr : Region.ready .any ops listed = []) (hq : Q .normal a w) : ∀ fuel, wpAny P .any ops Q fuel listed a w
  | 0 => ⟨hr, hq⟩
  | fuel + 1 => ⟨fun _ => hq, fun i hi => by rw [hr] at hi; cases hi⟩
theorem q6z {ops : Array Oper} (listed : Array Bool) (j : Nat) (hsz : listed.size = ops.size) (hj : j < ops.size) : (fun i => (listed.setIfInBounds j true).getD i false) = q3w (fun i => listed.getD i false) j := by
  funext i
  by_cases e : i = j
  · subst e; simp [q3w, show i < listed.size by omega]
  · simp [q3w, e, Array.getElem?_setIfInBounds_ne (Ne.symm e)]
theorem is_ready {ops : Array Oper} {listed : Array Bool} (hls : listed.size = ops.size) {j : Nat} {o : Oper} (ho : ops[j]? = some o) (hl : listed.getD j false = false) (he : ∀ e ∈ o.after, Region.binds .any e = true → listed.getD e.on false = true) : j ∈ Region.ready .any ops listed := by
  have hj : j < ops.size := (Array.getElem?_eq_some_iff.1 ho).1
  have hl' : j < listed.size := by omega
  exact mem_ready.2 ⟨by simp [hl'] at hl ⊢; exact hl, o, ho, he⟩
theorem q8k {ops : Array Oper} {listed : Array Bool} (hls : listed.size = ops.size) {j : Nat} (hj : j ∈ Region.ready .any ops listed) : j < ops.size ∧ listed.getD j false = false ∧ ∃ o, ops[j]? = some o ∧ ∀ e ∈ o.after, Region.binds .any e = true → listed.getD e.on false = true := by
  obtain ⟨h1, o, ho, he⟩ := mem_ready.1 hj
  have hjs : j < ops.size := (Array.getElem?_eq_some_iff.1 ho).1
  have hjl : j < listed.size := by omega
  exact ⟨hjs, by simp [hjl] at h1 ⊢; exact h1, o, ho, he⟩
theorem tail_any {ops : Array Oper} {n : Nat} (ht : tailOk ops n = true) (hd : ∀ (j : Nat) (o' : Oper), ops[j]? = some o' → ∀ x, o'.dst = some x → x < nt) {Q : Ex → Env → Heap → Nat → Prop} :
    ∀ (fuel : Nat) (listed : Array Bool) (a : Act) (w : World) (t : Nat) (env : Env) (H : Heap) (m : Nat) (σ : Nat → Gh), listed.size = ops.size → n ≤ t → t ≤ ops.size → (∀ i, i < t → listed.getD i false = true) → (∀ i, t ≤ i → listed.getD i false = false) → ops.size - t ≤ fuel →
      St w0 M0 σ0 H0 m0 nt ds a w env H m σ → q1a P ops Q (ops.toList.drop t) env H m → wpAny P .any ops (QQ w0 M0 σ0 H0 m0 nt ds Q) fuel listed a w := by
  intro fuel
  induction fuel with
  | zero =>
    intro listed a w t env H m σ hls hnt hts h1 h2 hf hS h
    have : t = ops.size := by omega
    subst this
    rw [List.drop_of_length_le (by simp)] at h
    refine wpAny_done ?_ ⟨.normal, env, H, m, σ, h, hS, trivial⟩ 0
    cases hr : Region.ready .any ops listed with
    | nil => rfl
    | cons k rest =>
      exfalso
      obtain ⟨g1, g2, _⟩ := q8k hls (j := k) (by rw [hr]; simp)
      rw [h1 k g1] at g2; cases g2
  | succ fuel ih =>
    intro listed a w t env H m σ hls hnt hts h1 h2 hf hS h
    rcases Nat.lt_or_ge t ops.size with hlt | hge
    · have ho : ops[t]? = some ops[t] := Array.getElem?_eq_getElem hlt
      generalize hoo : ops[t] = o at ho
      have hdrop : ops.toList.drop t = o :: ops.toList.drop (t + 1) := by
        rw [List.drop_eq_getElem_cons (by simpa using hlt)]
        simp [hoo]
      rw [hdrop] at h
      obtain ⟨hg, hel, _⟩ := q7s ht ho
      refine ⟨fun hr => ?_, fun j hj => ?_⟩
      · exfalso
        have := is_ready hls ho (h2 t (Nat.le_refl _)) (fun e he hb => h1 _ (hel e he hb))
        rw [hr] at this; cases this
      · obtain ⟨hjs, hun, o', ho', hedge⟩ := q8k hls hj
        have hjt : j = t := by
          rcases Nat.lt_trichotomy j t with h3 | h3 | h3
          · rw [h1 j h3] at hun; cases hun
          · exact h3
          · exfalso
            have hr := (q7s ht ho').2.2 (by omega) t h3
            have mono : ∀ k, listed.getD k false = true → q3w (fun i => listed.getD i false) j k = true := fun k hk => by simp only [q3w]; split <;> first | rfl | exact hk
            have := q8l (D := q3w (fun i => listed.getD i false) j) (fun i o2 ho2 hi e he hb => by
              by_cases e1 : i = j
              · subst e1
                rw [ho'] at ho2; cases ho2
                exact mono _ (hedge e he hb)
              · simp only [q3w, e1, if_false] at hi
                rcases Nat.lt_or_ge i t with h4 | h4
                · exact mono _ (h1 _ (Nat.lt_trans ((q7s ht ho2).2.1 e he hb) h4))
                · rw [h2 i h4] at hi; cases hi) ops.size j t hr (by simp [q3w])
            simp only [q3w, show t ≠ j by omega, if_false] at this
            rw [h2 t (Nat.le_refl _)] at this; cases this
        subst hjt
        rw [ho] at ho'; cases ho'
        have hps := pwOp_sound (P := P) hS (hd _ o ho) (K' := wpAny P .any ops (QQ w0 M0 σ0 H0 m0 nt ds Q) fuel (listed.setIfInBounds j true)) (fun a' w' env' H' m' σ' hk hS' => by
          have hset := fun i => congrFun (q6z listed j hls hjs) i
          refine ih (listed.setIfInBounds j true) a' w' (j + 1) env' H' m' σ' (by simpa using hls) (by omega) (by omega) (fun i hi => ?_) (fun i hi => ?_) (by omega) hS' hk
          · have := hset i
            (try simp only at this)
            rw [this]
            simp only [q3w]
            split
            · rfl
            · exact h1 i (by omega)
          · have := hset i
            (try simp only at this)
            rw [this]
            simp only [q3w]
            rw [if_neg (by omega)]
            exact h2 i (by omega)) h
        unfold wpOp
        rw [ho]
        simp only
        split
        · rename_i hw; rw [if_pos hw] at hps; exact .inl hps
        · rename_i hw; rw [if_neg hw] at hps; exact hps
    · have : t = ops.size := by omega
      subst this
      rw [List.drop_of_length_le (by simp)] at h
      refine wpAny_done ?_ ⟨.normal, env, H, m, σ, h, hS, trivial⟩ _
      cases hr : Region.ready .any ops listed with
      | nil => rfl
      | cons k rest =>
        exfalso
        obtain ⟨g1, g2, _⟩ := q8k hls (j := k) (by rw [hr]; simp)
        rw [h1 k g1] at g2; cases g2
theorem drawL_any {ops pre : Array Oper} {l2 : List Oper} {R : Run P pre} (h : RunOk R m0) (hok : q3e pre = true) (hsz : ops.toList = pre.toList ++ l2) (ht : tailOk ops pre.size = true)
    (hd : ∀ (j : Nat) (o' : Oper), ops[j]? = some o' → ∀ x, o'.dst = some x → x < nt) {Q : Ex → Env → Heap → Nat → Prop} (hq : q1a P ops Q l2 (R.en pre.size) (R.hn pre.size) (R.mm pre.size)) :
    ∀ (fuel : Nat) (listed : Array Bool) (a : Act) (w : World), listed.size = ops.size → todo pre listed + (ops.size - pre.size) ≤ fuel → (∀ i, pre.size ≤ i → listed.getD i false = false) → Inv R w0 M0 σ0 H0 m0 nt ds (fun i => listed.getD i false) a w → wpAny P .any ops (QQ w0 M0 σ0 H0 m0 nt ds Q) fuel listed a w := by
  have hle : pre.size ≤ ops.size := by rw [← Array.length_toList, ← Array.length_toList, hsz]; simp
  have hpre : ∀ j, j < pre.size → ops[j]? = pre[j]? := fun j hj => by
    rw [← Array.getElem?_toList, hsz, List.getElem?_append_left (by simpa using hj)]; simp
  intro fuel
  induction fuel with
  | zero =>
    intro listed a w hls ht' hn hI
    have hall : ∀ i, i < pre.size → listed.getD i false = true := fun i hi => by
      cases hl : listed.getD i false with
      | true => rfl
      | false =>
        have : i ∈ (List.range pre.size).filter fun i => !listed.getD i false := by
          rw [List.mem_filter, List.mem_range]; exact ⟨hi, by rw [hl]; rfl⟩
        have := List.length_pos_of_mem this
        unfold todo at ht'
        omega
    obtain ⟨⟨σ, hS⟩, _⟩ := hI
    have e1 : pe R (fun i => listed.getD i false) pre.size = R.en pre.size := by
      rw [q8m R (D2 := before pre.size) (fun i hi => by rw [hall i hi]; simp [before, hi]), en_pe h pre.size (Nat.le_refl _), Nat.min_self]
    have e2 : ph R (fun i => listed.getD i false) pre.size = R.hn pre.size := by
      rw [q9p R (D2 := before pre.size) (fun i hi => by rw [hall i hi]; simp [before, hi]), hn_ph h pre.size (Nat.le_refl _), Nat.min_self]
    rw [e1, e2] at hS
    exact tail_any ht hd 0 listed a w pre.size _ _ _ σ hls (Nat.le_refl _) hle hall hn (by omega) hS (by rw [hsz, List.drop_left' (by simp)]; exact hq)
  | succ fuel ih =>
    intro listed a w hls ht' hn hI
    by_cases hall : ∀ i, i < pre.size → listed.getD i false = true
    · obtain ⟨⟨σ, hS⟩, _⟩ := hI
      have e1 : pe R (fun i => listed.getD i false) pre.size = R.en pre.size := by
        rw [q8m R (D2 := before pre.size) (fun i hi => by rw [hall i hi]; simp [before, hi]), en_pe h pre.size (Nat.le_refl _), Nat.min_self]
      have e2 : ph R (fun i => listed.getD i false) pre.size = R.hn pre.size := by
        rw [q9p R (D2 := before pre.size) (fun i hi => by rw [hall i hi]; simp [before, hi]), hn_ph h pre.size (Nat.le_refl _), Nat.min_self]
      rw [e1, e2] at hS
      exact tail_any ht hd (fuel + 1) listed a w pre.size _ _ _ σ hls (Nat.le_refl _) hle hall hn (by omega) hS (by rw [hsz, List.drop_left' (by simp)]; exact hq)
    · refine ⟨fun hr => ?_, fun j hj => ?_⟩
      · exfalso
        refine hall fun j => ?_
        induction j using Nat.strongRecOn with
        | _ j ihj =>
          intro hj
          cases hl : listed.getD j false with
          | true => rfl
          | false =>
            exfalso
            have ho : pre[j]? = some pre[j] := Array.getElem?_eq_getElem hj
            have := is_ready hls ((hpre j hj).trans ho) hl (fun e he hb => by
              have hlt := (q8h hok ho).1 e he hb
              exact ihj _ hlt (by omega))
            rw [hr] at this; cases this
      · obtain ⟨hjs, hDj, o', ho', hedge⟩ := q8k hls hj
        have hlt : j < pre.size := by
          rcases Nat.lt_or_ge j pre.size with hlt | hge
          · exact hlt
          · exfalso
            refine hall fun i hi => ?_
            have mono : ∀ k, listed.getD k false = true → q3w (fun i => listed.getD i false) j k = true := fun k hk => by simp only [q3w]; split <;> first | rfl | exact hk
            have := q8l (D := q3w (fun i => listed.getD i false) j) (fun i o2 ho2 hi e he hb => by
              by_cases e1 : i = j
              · subst e1
                rw [ho'] at ho2; cases ho2
                exact mono _ (hedge e he hb)
              · simp only [q3w, e1, if_false] at hi
                have hi' : i < pre.size := by
                  rcases Nat.lt_or_ge i pre.size with h4 | h4
                  · exact h4
                  · rw [hn i h4] at hi; cases hi
                exact mono _ (hI.dn i o2 ((hpre i hi').symm.trans ho2) hi e he hb)) ops.size j i ((q7s ht ho').2.2 hge i (by omega)) (by simp [q3w])
            simpa [q3w, show i ≠ j by omega] using this
        have hp : pre[j]? = some o' := (hpre j hlt).symm.trans ho'
        have hset := q6z listed j hls hjs
        have hless : todo pre (listed.setIfInBounds j true) < todo pre listed := by
          unfold todo
          refine filt_lt (y := j) (fun x hx => ?_) (by simp [hDj]) ?_ _ (List.mem_range.2 hlt)
          · have := congrFun hset x
            (try simp only at this)
            rw [this] at hx
            by_cases e : x = j
            · subst e; simp [q3w] at hx
            · simpa [q3w, e] using hx
          · have := congrFun hset j
            (try simp only at this)
            rw [this]; simp [q3w]
        refine wpOp_pre ho' hp (fun g want hgd => hpre g (Nat.lt_trans ((q7s ht ho').1 g want hgd) hlt)) ?_
        refine wpOp_mono (fun a' w' hI' => ih (listed.setIfInBounds j true) a' w' (by simpa using hls) (by omega) (fun i hi => ?_) (by rw [hset]; exact hI')) (draw_step h hok hI hp (hd j o' ho') hDj hedge)
        have := congrFun hset i
        (try simp only at this)
        rw [this]
        simp only [q3w]
        rw [if_neg (by omega)]; exact hn i hi
theorem pwDrawL_sound (hm : P.follows .mixedOrders = true) {ops : Array Oper} {id : Nat} {Q : Ex → Env → Heap → Nat → Prop} {a : Act} {w : World} {env : Env} {H : Heap} {m : Nat} {σ : Nat → Gh} (hS : St w0 M0 σ0 H0 m0 nt ds a w env H m σ)
    (hd : ∀ (j : Nat) (o : Oper), ops[j]? = some o → ∀ x, o.dst = some x → x < nt) (h : pwDrawL P ops Q env H m) : (Code.region id ops true).wp P (QQ w0 M0 σ0 H0 m0 nt ds Q) a w := by
  obtain ⟨l1, l2, hl, htail, hok, hdr⟩ := h
  obtain ⟨R, e1, e2, e3, hgood, L, ⟨hL, hq⟩, hlen, hget⟩ := dr_run l1 _ env H m hdr
  have hl0 : l1.length = l1.toArray.size := by simp
  rw [hl0] at hq hlen htail
  have hR : RunOk R m0 := by
    refine ⟨fun i o ho => hgood i o (by simpa using ho), fun i j hij hj => ?_, fun i hi => ?_, by rw [e3]; exact hS.le⟩
    · have hi : i < L.length := by omega
      have hj' : j < L.length := by omega
      have h1 := hget i _ (List.getElem?_eq_getElem hi)
      have h2 := hget j _ (List.getElem?_eq_getElem hj')
      rw [← h1, ← h2]
      exact okPair_R (okAll_get hL hij (List.getElem?_eq_getElem hi) (List.getElem?_eq_getElem hj'))
    · rw [e2]; rw [e3] at hi; exact hS.free i hi
  have hb : Below w.heap.size w w.drew := (Below.refl _ _).drew
  have hmm : m ≤ R.mm l1.toArray.size := by rw [← e3]; exact mm_mono hR (Nat.zero_le _) (Nat.le_refl _)
  have hfalse : ∀ i, (Array.replicate ops.size false).getD i false = false := fun i => by rw [Array.getD_eq_getD_getElem?, Array.getElem?_replicate]; split <;> rfl
  have hpe : pe R (fun i => (Array.replicate ops.size false).getD i false) l1.toArray.size = env := by
    have : ∀ k, pe R (fun i => (Array.replicate ops.size false).getD i false) k = R.en 0 := by
      intro k
      induction k with
      | zero => rfl
      | succ k ih => simp only [pe]; rw [if_neg (by rw [hfalse]; simp)]; exact ih
    rw [this, e1]
  have hph : ph R (fun i => (Array.replicate ops.size false).getD i false) l1.toArray.size = H := by
    have : ∀ k, ph R (fun i => (Array.replicate ops.size false).getD i false) k = R.hn 0 := by
      intro k
      induction k with
      | zero => rfl
      | succ k ih => simp only [ph]; rw [if_neg (by rw [hfalse]; simp)]; exact ih
    rw [this, e2]
  refine wp_region_any hm (drawL_any hR hok (l2 := l2) (by rw [hl]) htail hd hq ops.size (Array.replicate ops.size false) a w.drew (by simp) ?_ (fun i _ => hfalse i) ⟨⟨σ, ?_⟩, fun k hk hD => (by simp only [hfalse] at hD; cases hD), fun i o _ hD => (by simp only [hfalse] at hD; cases hD)⟩)
  · have h1 : todo l1.toArray (Array.replicate ops.size false) ≤ l1.toArray.size := by
      unfold todo
      exact Nat.le_trans (List.length_filter_le _ _) (by simp)
    have h2 : l1.toArray.size ≤ ops.size := by rw [← Array.length_toList (xs := ops), hl]; simp
    omega
  · rw [hpe, hph]
    exact ⟨hS.hr.all hb.size hb.block, fun i hi => hS.free i (by omega), by have := hS.le; omega, hS.fr.trans (Fr.all hb), hS.size, hS.defers, fun t => (hS.env t).mono (ext_all hb.block)⟩
def CallQ (P : Program) (g : FuncId) (args : List PV) (H : Heap) (m : Nat) (r : PV) : Prop :=
  ∀ (H' : Heap) (m' : Nat), m ≤ m' → (∀ i, i < m → H' i = H i) → CSat P g args H' m' fun out H'' m'' => out = .ret r ∧ m' ≤ m'' ∧ ∀ i, i < m' → H'' i = H' i
def drq (P : Program) (ops : Array Oper) : List Oper → (Env → Prop) → Env → Heap → Nat → Prop
  | [], K => fun env _ _ => K env
  | o :: rest, K => fun env H m =>
    match q5s ops env o with
    | some false => drq P ops rest K (upd env o.dst .undef) H m
    | some true =>
      if q4o o.op = true then
        match q2r (rho env) sp0 o.op with
        | some (g, args) => q4g P g = true ∧ ∃ r, CallQ P g args H m r ∧ drq P ops rest K (upd env o.dst r) H m
        | none => False
      else match evOp P (rho env) sp0 H m o.op with
        | some (r, .nop) => drq P ops rest K (upd env o.dst r) H m
        | _ => False
    | none => False
def pwDrawQ (P : Program) (ops : Array Oper) (Q : Ex → Env → Heap → Nat → Prop) (env : Env) (H : Heap) (m : Nat) : Prop :=
  q3e ops = true ∧ drq P ops ops.toList (fun env' => ∀ H' m', m ≤ m' → (∀ i, i < m → H' i = H i) → Q .normal env' H' m') env H m
def QGood {P : Program} {ops : Array Oper} (R : Run P ops) (H : Heap) (m : Nat) (i : Nat) (o : Oper) : Prop :=
  R.en (i + 1) = upd (R.en i) o.dst (R.r i) ∧ ((q5s ops (R.en i) o = some false ∧ R.r i = .undef) ∨ (q5s ops (R.en i) o = some true ∧
    ((∃ g args, q4o o.op = true ∧ q2r (rho (R.en i)) sp0 o.op = some (g, args) ∧ q4g P g = true ∧ CallQ P g args H m (R.r i)) ∨
     (q4o o.op ≠ true ∧ evOp P (rho (R.en i)) sp0 H m o.op = some (R.r i, .nop)))))
theorem drq_run {ops : Array Oper} : ∀ (l : List Oper) (K : Env → Prop) (env : Env) (H : Heap) (m : Nat), drq P ops l K env H m →
    ∃ R : Run P ops, R.en 0 = env ∧ (∀ i o, l[i]? = some o → QGood R H m i o) ∧ K (R.en l.length)
  | [], K, env, H, m, h => ⟨⟨fun _ => .any, fun _ => .nop, fun _ => [], fun _ => env, fun _ => H, fun _ => m⟩, rfl, fun i o ho => by simp at ho, h⟩
  | o :: l, K, env, H, m, h => by
    have glue : ∀ (r : PV), drq P ops l K (upd env o.dst r) H m →
        ((q5s ops env o = some false ∧ r = .undef) ∨ (q5s ops env o = some true ∧
          ((∃ g args, q4o o.op = true ∧ q2r (rho env) sp0 o.op = some (g, args) ∧ q4g P g = true ∧ CallQ P g args H m r) ∨
          (q4o o.op ≠ true ∧ evOp P (rho env) sp0 H m o.op = some (r, .nop))))) →
        ∃ R : Run P ops, R.en 0 = env ∧ (∀ i o', (o :: l)[i]? = some o' → QGood R H m i o') ∧ K (R.en (o :: l).length) := by
      intro r hdr hg
      obtain ⟨R, h1, h4, h5⟩ := drq_run l _ _ _ _ hdr
      refine ⟨Run.cons r .nop [] env H m R, rfl, fun i o' ho' => ?_, h5⟩
      cases i with
      | zero =>
        simp at ho'; subst ho'
        exact ⟨h1, hg⟩
      | succ i => exact h4 i o' (by simpa using ho')
    simp only [drq] at h
    split at h
    · rename_i hw
      exact glue .undef h (.inl ⟨hw, rfl⟩)
    · rename_i hw
      split at h
      · rename_i hc
        split at h
        · rename_i g args hcal
          obtain ⟨he, r, hp, h⟩ := h
          exact glue r h (.inr ⟨hw, .inl ⟨g, args, hc, hcal, he, hp⟩⟩)
        · exact h.elim
      · rename_i hc
        split at h
        · rename_i r hev
          exact glue r h (.inr ⟨hw, .inr ⟨hc, hev⟩⟩)
        · exact h.elim
    · exact h.elim
theorem enQ {ops : Array Oper} {R : Run P ops} (h : ∀ i o, ops[i]? = some o → R.en (i + 1) = upd (R.en i) o.dst (R.r i)) (j : Nat) : ∀ {k : Nat}, k ≤ ops.size → pe R (before j) k = R.en (min k j)
  | 0, _ => by rw [Nat.zero_min]; rfl
  | k + 1, hk => by
    simp only [pe, enQ h j (k := k) (by omega)]
    by_cases hkj : k < j
    · rw [if_pos (by simp [before, hkj]), Nat.min_eq_left (by omega), Nat.min_eq_left (by omega)]
      have ho : ops[k]? = some ops[k] := Array.getElem?_eq_getElem (by omega)
      rw [h k _ ho]; simp [q8z, ho]
    · rw [if_neg (by simp [before, hkj]), Nat.min_eq_right (by omega), Nat.min_eq_right (by omega)]
structure InvQ {ops : Array Oper} (R : Run P ops) (w0 : World) (M0 : Nat → Nat → Prop) (σ0 : Nat → Gh) (H0 : Heap) (m0 nt : Nat) (ds : List Deferred) (H : Heap) (m : Nat) (D : Nat → Bool) (a : Act) (w : World) : Prop where
  st : ∃ σ H' m', St w0 M0 σ0 H0 m0 nt ds a w (pe R D ops.size) H' m' σ ∧ m ≤ m' ∧ ∀ i, i < m → H' i = H i
  dn : ∀ i o, ops[i]? = some o → D i = true → ∀ e ∈ o.after, Region.binds .any e = true → D e.on = true
theorem evOp_same {ρ : Operand → PV} {s : PV → PV} {H H' : Heap} {m m' : Nat} {op : Op} {r : PV} (he : evOp P ρ s H m op = some (r, .nop)) (hf : ∀ i, m ≤ i → H i = none) (hs : ∀ i, i < m → H' i = H i) : evOp P ρ s H' m' op = some (r, .nop) := by
  have lt : ∀ id x, H id = some x → H' id = H id := fun id x hx => hs id (by
    rcases Nat.lt_or_ge id m with h | h
    · exact h
    · rw [hf id h] at hx; cases hx)
  exact evOp_m (evOp_heap he (fun y hy id off hp l hl => ⟨l, by rw [lt id _ hl]; exact hl, rfl, fun g hg hgid hgw => rfl⟩) (fun y hy id k hp hg e sz els hl => lt id _ hl)) rfl
theorem drawQ_step {ops : Array Oper} {R : Run P ops} {H : Heap} {m : Nat} (hR : ∀ i o, ops[i]? = some o → QGood R H m i o) (hfree : ∀ i, m ≤ i → H i = none) (hok : q3e ops = true) {D : Nat → Bool} {a : Act} {w : World} (hI : InvQ R w0 M0 σ0 H0 m0 nt ds H m D a w) {j : Nat} {o : Oper} (ho : ops[j]? = some o) (hd : ∀ x, o.dst = some x → x < nt) (hD : D j = false)
    (hedge : ∀ e ∈ o.after, Region.binds .any e = true → D e.on = true) {Q : Exit → Act → World → Prop} : wpOp P ops Q j (fun a' w' => InvQ R w0 M0 σ0 H0 m0 nt ds H m (q3w D j) a' w') a w := by
  obtain ⟨⟨σ, H', m', hS, hmm, hHH⟩, hdn0⟩ := hI
  have hdn : ∀ i o', ops[i]? = some o' → q3w D j i = true → ∀ e ∈ o'.after, Region.binds .any e = true → q3w D j e.on = true := fun i o' ho' hi e he hb => by
    have mono : ∀ k, D k = true → q3w D j k = true := fun k hk => by simp only [q3w]; split <;> first | rfl | exact hk
    by_cases e1 : i = j
    · subst e1
      rw [ho] at ho'; cases ho'
      exact mono _ (hedge e he hb)
    · simp only [q3w, e1, if_false] at hi
      exact mono _ (hdn0 i o' ho' hi e he hb)
  have hj : j < ops.size := (Array.getElem?_eq_some_iff.1 ho).1
  obtain ⟨hlt, hdst⟩ := q8h hok ho
  have hdj : q8z ops j = o.dst := by simp [q8z, ho]
  have hen : R.en j = pe R (before j) ops.size := by rw [enQ (fun i o h => (hR i o h).1) j (Nat.le_refl _), Nat.min_eq_right (by omega)]
  have hlook : ∀ t ∈ o.looksAt ops, R.en j t = pe R D ops.size t := fun t ht => by
    rw [hen]
    refine pe_get R _ _ t (fun i hi hdi => ?_)
    obtain ⟨_, h2⟩ := hdst i t hi hdi
    rcases h2 ht with ⟨h3, e, he, hb, rfl⟩ | ⟨h3, h4⟩
    · rw [hedge e he hb]; simp [before, h3]
    · have hDi : D i = false := by
        cases hq : D i with
        | false => rfl
        | true => have := q8l hdn0 _ i j h4 hq; rw [hD] at this; cases this
      rw [hDi]; simp [before]; omega
  have hev : ∀ x ∈ o.op.operands, VV w M0 σ H' (a.eval x) (rho (R.en j) x) := fun x hx => by
    have := hS.eval x
    cases x with
    | tmp t =>
      have ht : t ∈ o.looksAt ops := by
        unfold Oper.looksAt
        exact List.mem_append_left _ (List.mem_filterMap.2 ⟨.tmp t, by simpa using hx, rfl⟩)
      simp only [rho] at this ⊢
      rw [hlook t ht]; exact this
    | _ => exact this
  have hs0 : ∀ x ∈ o.op.operands, VV w M0 σ H' (a.eval x) (sp0 (rho (R.en j) x)) := fun x hx => by
    have := hev x hx
    generalize rho (R.en j) x = p at this ⊢
    generalize a.eval x = u at this ⊢
    cases p with
    | nilsl => cases this; exact .sl0 _ _
    | gr id k => exact .any _
    | _ => exact this
  have hwant : q5s ops (pe R D ops.size) o = q5s ops (R.en j) o := by
    unfold q5s
    split
    · rfl
    · rename_i g want hg
      split
      · rename_i d hgd
        rw [hlook d (by unfold Oper.looksAt; rw [hg]; simp [hgd])]
      · rfl
  obtain ⟨g1, hg⟩ := hR j o ho
  have hpe : pe R (q3w D j) ops.size = upd (pe R D ops.size) o.dst (R.r j) := by
    rw [pe_insert R D hD (fun i d hij hi hdj' hdi => ?_) hj (Nat.le_refl _), hdj]
    rw [hdj] at hdj'
    rcases (hdst i d hi hdi).1 with e | e
    · exact hij e
    · exact e hdj'
  unfold wpOp
  rw [ho]
  simp only
  rcases hg with ⟨hw, hr⟩ | ⟨hw, hg⟩
  · rw [if_neg (by rw [q6u hS.env (hwant.trans hw)]; simp)]
    refine ⟨⟨σ, H', m', ?_, hmm, hHH⟩, hdn⟩
    rw [hpe, hr]
    exact hS.step hS.hr hS.free (Nat.le_refl _) (Fr.refl _ _ _ _) hd .undef
  · rw [if_pos (q6u hS.env (hwant.trans hw))]
    refine .inl ?_
    rcases hg with ⟨g, args, hc, hcal, hent, hp⟩ | ⟨hnc, heq⟩
    · obtain ⟨vs, hrun, hvl⟩ := q8v (P := P) hev hs0 hcal hent
      unfold Oper.wp
      rw [hrun]
      simp only [Oper.upon]
      refine (hp H' m' hmm hHH w M0 σ vs hS.hr hS.free hvl).mono ?_
      rintro e w' ⟨out, H2, m2, σ2, ⟨rfl, hm2, hH2⟩, hr', hn', hm', hf', hout⟩
      cases e with
      | returned v =>
        refine ⟨⟨σ2, H2, m2, ?_, by omega, fun i hi => by rw [hH2 i (by omega), hHH i hi]⟩, hdn⟩
        rw [hpe]
        exact hS.step hr' hn' hm2 hf' hd hout
      | panicked ch => exact hout.elim
      | outgrown => exact hout.elim
    · have heq' := evOp_same (m' := m') heq hfree hHH
      obtain ⟨n, v, w', σ', hrun, hgv, hv, hr', hf', _⟩ := op_sound (P := P) hS.hr (hS.free m' (Nat.le_refl _)) hev hs0 heq'
      have hSt : ∀ v', v' = v → St w0 M0 σ0 H0 m0 nt ds (a.put o.dst v') w' (pe R (q3w D j) ops.size) H' m' σ' := fun v' e => by
        rw [hpe, e]; exact hS.step hr' hS.free (Nat.le_refl _) hf' hd hv
      unfold Oper.wp
      rw [hrun]
      rcases hgv with rfl | ⟨rfl, hu⟩
      · simp only [Oper.upon]; exact ⟨⟨σ', H', m', hSt v rfl, hmm, hHH⟩, hdn⟩
      · simp only [Oper.upon]; exact ⟨⟨σ', H', m', hSt undef hu.symm, hmm, hHH⟩, hdn⟩
theorem drawQ_any {ops : Array Oper} {R : Run P ops} {H : Heap} {m : Nat} (hR : ∀ i o, ops[i]? = some o → QGood R H m i o) (hfree : ∀ i, m ≤ i → H i = none) (hok : q3e ops = true) (hd : ∀ (j : Nat) (o : Oper), ops[j]? = some o → ∀ x, o.dst = some x → x < nt) {Q : Exit → Act → World → Prop}
    (hQ : ∀ a w σ H' m', St w0 M0 σ0 H0 m0 nt ds a w (R.en ops.size) H' m' σ → m ≤ m' → (∀ i, i < m → H' i = H i) → Q .normal a w) : ∀ (fuel : Nat) (listed : Array Bool) (a : Act) (w : World), listed.size = ops.size → todo ops listed ≤ fuel →
    InvQ R w0 M0 σ0 H0 m0 nt ds H m (fun i => listed.getD i false) a w → wpAny P .any ops Q fuel listed a w := by
  have key : ∀ (listed : Array Bool) (a : Act) (w : World), Region.ready .any ops listed = [] → listed.size = ops.size → InvQ R w0 M0 σ0 H0 m0 nt ds H m (fun i => listed.getD i false) a w → Q .normal a w := by
    intro listed a w hr hsz hI
    have hall : ∀ j, j < ops.size → listed.getD j false = true := by
      intro j
      induction j using Nat.strongRecOn with
      | _ j ih =>
        intro hj
        cases hl : listed.getD j false with
        | true => rfl
        | false =>
          exfalso
          have ho : ops[j]? = some ops[j] := Array.getElem?_eq_getElem hj
          have := is_ready hsz ho hl (fun e he hb => by
            have hlt := (q8h hok ho).1 e he hb
            exact ih _ hlt (by omega))
          rw [hr] at this; cases this
    obtain ⟨⟨σ, H', m', hS, h1, h2⟩, _⟩ := hI
    refine hQ a w σ H' m' ?_ h1 h2
    have e1 : pe R (fun i => listed.getD i false) ops.size = R.en ops.size := by
      rw [q8m R (D2 := before ops.size) (fun i hi => by rw [hall i hi]; simp [before, hi]), enQ (fun i o h => (hR i o h).1) ops.size (Nat.le_refl _), Nat.min_self]
    rw [e1] at hS; exact hS
  intro fuel
  induction fuel with
  | zero =>
    intro listed a w hsz ht hI
    have hr : Region.ready .any ops listed = [] := by
      cases hq : Region.ready .any ops listed with
      | nil => rfl
      | cons j rest =>
        exfalso
        obtain ⟨hjs, hl, _⟩ := q8k hsz (j := j) (by rw [hq]; simp)
        have : j ∈ (List.range ops.size).filter fun i => !listed.getD i false := by
          rw [List.mem_filter, List.mem_range]
          exact ⟨hjs, by rw [hl]; rfl⟩
        unfold todo at ht
        have := List.length_pos_of_mem this
        omega
    exact ⟨hr, key listed a w hr hsz hI⟩
  | succ fuel ih =>
    intro listed a w hsz ht hI
    refine ⟨fun hr => key listed a w hr hsz hI, fun j hj => ?_⟩
    obtain ⟨hjs, hDj, o, ho, hedge⟩ := q8k hsz hj
    refine wpOp_mono (fun a' w' hI' => ih (listed.setIfInBounds j true) a' w' (by simpa using hsz) ?_ (by rw [q6z listed j hsz hjs]; exact hI')) (drawQ_step hR hfree hok hI ho (hd j o ho) hDj hedge)
    have : todo ops (listed.setIfInBounds j true) < todo ops listed := by
      unfold todo
      refine filt_lt (y := j) (fun x hx => ?_) (by simp [hDj]) ?_ _ (List.mem_range.2 hjs)
      · have := congrFun (q6z listed j hsz hjs) x
        (try simp only at this)
        rw [this] at hx
        by_cases e : x = j
        · subst e; simp [q3w] at hx
        · simpa [q3w, e] using hx
      · have := congrFun (q6z listed j hsz hjs) j
        (try simp only at this)
        rw [this]; simp [q3w]
    omega
theorem pwDrawQ_sound (hm : P.follows .mixedOrders = true) {ops : Array Oper} {id : Nat} {Q : Ex → Env → Heap → Nat → Prop} {a : Act} {w : World} {env : Env} {H : Heap} {m : Nat} {σ : Nat → Gh} (hS : St w0 M0 σ0 H0 m0 nt ds a w env H m σ)
    (hd : ∀ (j : Nat) (o : Oper), ops[j]? = some o → ∀ x, o.dst = some x → x < nt) (h : pwDrawQ P ops Q env H m) : (Code.region id ops true).wp P (QQ w0 M0 σ0 H0 m0 nt ds Q) a w := by
  obtain ⟨hok, hdr⟩ := h
  obtain ⟨R, e1, hgood, hq⟩ := drq_run ops.toList _ env H m hdr
  rw [Array.length_toList] at hq
  have hb : Below w.heap.size w w.drew := (Below.refl _ _).drew
  have hfalse : ∀ i, (Array.replicate ops.size false).getD i false = false := fun i => by rw [Array.getD_eq_getD_getElem?, Array.getElem?_replicate]; split <;> rfl
  have hpe : pe R (fun i => (Array.replicate ops.size false).getD i false) ops.size = env := by
    have : ∀ k, pe R (fun i => (Array.replicate ops.size false).getD i false) k = R.en 0 := by
      intro k
      induction k with
      | zero => rfl
      | succ k ih => simp only [pe]; rw [if_neg (by rw [hfalse]; simp)]; exact ih
    rw [this, e1]
  refine wp_region_any hm (drawQ_any (fun i o ho => hgood i o (by simpa using ho)) hS.free hok hd (fun a' w' σ' H' m' hS' h1 h2 => ⟨.normal, _, H', m', σ', hq H' m' h1 h2, hS', trivial⟩) ops.size (Array.replicate ops.size false) a w.drew (by simp) ?_ ⟨⟨σ, H, m, ?_, Nat.le_refl _, fun i _ => rfl⟩, fun i o _ hD => (by simp only [hfalse] at hD; cases hD)⟩)
  · unfold todo
    exact Nat.le_trans (List.length_filter_le _ _) (by simp)
  · rw [hpe]
    exact ⟨hS.hr.all hb.size hb.block, hS.free, hS.le, hS.fr.trans (Fr.all hb), hS.size, hS.defers, fun t => (hS.env t).mono (ext_all hb.block)⟩
/-- Less is known: some temporaries and boxes are left aside. -/
structure Wk (m0 : Nat) (env : Env) (H : Heap) (m : Nat) (env' : Env) (H' : Heap) (m' : Nat) : Prop where
  le : m0 ≤ m'
  heap : ∀ i, H' i = H i ∨ (m0 ≤ i ∧ H' i = none)
  free : ∀ i, m' ≤ i → H' i = none
  env : ∀ t, env' t = .any ∨ (env' t = env t ∧ Bd (LV H') (env t))
  box : ∀ i l, H' i = some (.box l) → ∀ p ∈ l, Bd (LV H') p
  row : ∀ i e sz els, H' i = some (.row e sz els) → ∀ x ∈ els, ∀ p ∈ x, Bd (LV H') p
theorem St.weaken (hbase : ∀ i, m0 ≤ i → H0 i = none) {a : Act} {w : World} {env env' : Env} {H H' : Heap} {m m' : Nat} {σ : Nat → Gh} (hS : St w0 M0 σ0 H0 m0 nt ds a w env H m σ) (hW : Wk m0 env H m env' H' m') : St w0 M0 σ0 H0 m0 nt ds a w env' H' m' σ := by
  have hsub : ∀ i, H' i ≠ none → H' i = H i := fun i hi => by
    rcases hW.heap i with h | h
    · exact h
    · exact absurd h.2 hi
  have hsub' : ∀ i, H' i ≠ none → H i ≠ none := fun i hi => by rw [← hsub i hi]; exact hi
  have hmu : ∀ b o, MU M0 σ H' b o → MU M0 σ H b o := by
    rintro b o (h | ⟨id, l, h1, h2⟩ | ⟨id, e, sz, els, h1, h2, h3⟩)
    · exact .inl h
    · exact .inr (.inl ⟨id, l, by rw [← hsub id (by rw [h1]; simp)]; exact h1, h2⟩)
    · exact .inr (.inr ⟨id, e, sz, els, by rw [← hsub id (by rw [h1]; simp)]; exact h1, h2, h3⟩)
  have hvr : ∀ {v : Value} {p : PV}, VV w M0 σ H v p → Bd (LV H') p → VV w M0 σ H' v p := fun hv hb => hv.bd (fun b o u _ h1 h2 => h1 (hmu b o h2)) (fun id hid => ⟨hid, rfl⟩) hb
  refine ⟨⟨hS.hr.m0, fun id hid => hS.hr.sep id (hsub' id hid), fun i j hi hj => hS.hr.inj i j (hsub' i hi) (hsub' j hj), fun id l hl => ?_, fun id e sz els hl => ?_⟩, hW.free, hW.le, ?_, hS.size, hS.defers, fun t => ?_⟩
  · obtain ⟨h1, c, t, h2, hsh, h3⟩ := hS.hr.box id l (by rw [← hsub id (by rw [hl]; simp)]; exact hl)
    exact ⟨h1, c, t, h2, hsh, h3.len, h3.one, fun i v p hv hp => hvr (h3.rel i v p hv hp) (hW.box id l hl p (q4n hp))⟩
  · obtain ⟨h1, h2, h3, xs, h4, h5⟩ := hS.hr.row id e sz els (by rw [← hsub id (by rw [hl]; simp)]; exact hl)
    refine ⟨h1, h2, h3, xs, h4, h5.len, h5.one, fun i v p hv hp => hvr (h5.rel i v p hv hp) ?_⟩
    obtain ⟨x, hx, hpx⟩ := List.mem_flatten.1 (q4n hp)
    exact hW.row id e sz els hl x hx p hpx
  · have f := hS.fr
    refine ⟨f.os, f.tape, f.output, f.size, f.block, fun id hid => f.own id (hsub' id hid), ⟨fun b o v h1 h2 => ?_, fun id hid => ?_⟩⟩
    · obtain ⟨g1, g2⟩ := f.ext.cell b o v h1 h2
      exact ⟨g1, fun h => g2 (hmu b o h)⟩
    · obtain ⟨g1, g2⟩ := f.ext.gh id hid
      refine ⟨?_, g2⟩
      rcases hW.heap id with h | h
      · unfold LV; rw [h]; exact g1
      · exact absurd (hbase id h.1) hid
  · rcases hW.env t with h | ⟨h, hb⟩
    · rw [h]; exact .any _
    · rw [h]; exact hvr (hS.env t) hb
def Ex.then (next : Env → Heap → Nat → Prop) (Q : Ex → Env → Heap → Nat → Prop) : Ex → Env → Heap → Nat → Prop
  | .normal => next
  | e => Q e
def Ex.inBlock (id : Nat) (Q : Ex → Env → Heap → Nat → Prop) : Ex → Env → Heap → Nat → Prop
  | .exit id' => if id' = id then Q .normal else Q (.exit id')
  | e => Q e
def Lv (m0 : Nat) (I : Env → Heap → Nat → Prop) (env : Env) (H : Heap) (m : Nat) : Prop := ∃ env' H' m', Wk m0 env H m env' H' m' ∧ I env' H' m'
def q0i (P : Program) (m0 : Nat) : Code → (Ex → Env → Heap → Nat → Prop) → Env → Heap → Nat → Prop
  | .skip, Q => Q .normal
  | .region _ ops draw, Q => match draw with
    | false => q1a P ops Q ops.toList
    | true => fun env H m => pwDraw P ops Q env H m ∨ pwDrawL P ops Q env H m ∨ pwDrawQ P ops Q env H m
  | .seq x y, Q => q0i P m0 x (Ex.then (q0i P m0 y Q) Q)
  | .cond c x y, Q => fun env H m => match rho env c with
    | .bool b => (b = true → q0i P m0 x Q env H m) ∧ (b = false → q0i P m0 y Q env H m)
    | _ => False
  | .block id x, Q => q0i P m0 x (Ex.inBlock id Q)
  | .loop x, Q => fun env H m => ∃ (I : Nat → Env → Heap → Nat → Prop) (n : Nat), Lv m0 (I n) env H m ∧
      ∀ n env H m, I n env H m → q0i P m0 x (Ex.then (fun env' H' m' => ∃ n', n' < n ∧ Lv m0 (I n') env' H' m') Q) env H m
  | .exit id, Q => Q (.exit id)
  | .ret, Q => Q .ret
  | _, _ => fun _ _ _ => False
def q6r (nt : Nat) : Code → Bool
  | .region _ ops _ => ops.all fun o => match o.dst with
    | some d => decide (d < nt)
    | none => true
  | .seq x y => q6r nt x && q6r nt y
  | .cond _ x y => q6r nt x && q6r nt y
  | .block _ x => q6r nt x
  | .loop x => q6r nt x
  | _ => true
theorem wp_loop_n {c : Code} {Q : Exit → Act → World → Prop} {a : Act} {w : World} (I : Nat → Act → World → Prop) (n : Nat) (h₀ : I n a w)
    (round : ∀ n a w, I n a w → c.wp P (Exit.then (fun a' w' => ∃ n', n' < n ∧ I n' a' w') Q) a w) : (Code.loop c).wp P Q a w := by
  intro b k cs
  have key : ∀ n a w, I n a w → ∃ e a' w', Q e a' w' ∧ Arrives P (lone (b.at a (.code c :: .inLoop c :: k)) cs w) b k cs e a' w' := by
    intro n
    induction n using Nat.strongRecOn with
    | _ n ih =>
      intro a w hI
      obtain ⟨e, a₁, w₁, hq, harr⟩ := round n a w hI b (.inLoop c :: k) cs
      cases e with
      | normal =>
        obtain ⟨n', hlt, hI₁⟩ := hq
        obtain ⟨e₂, a₂, w₂, hq₂, harr₂⟩ := ih n' hlt a₁ w₁ hI₁
        exact ⟨e₂, a₂, w₂, hq₂, .of_steps (Steps.trans harr (.one step_inLoop)) harr₂⟩
      | exit id => exact ⟨_, a₁, w₁, hq, .pass (x := .inLoop c) rfl (fun _ _ => .inl (by simp)) harr⟩
      | goto l => exact ⟨_, a₁, w₁, hq, .pass (x := .inLoop c) rfl (fun _ _ => .inl (by simp)) harr⟩
      | ret => exact ⟨_, a₁, w₁, hq, .pass (x := .inLoop c) rfl (fun _ _ => .inl (by simp)) harr⟩
      | panic ch => exact ⟨_, a₁, w₁, hq, .pass (x := .inLoop c) rfl (fun _ _ => .inl (by simp)) harr⟩
      | outgrown => exact ⟨_, a₁, w₁, hq, .pass (x := .inLoop c) rfl (fun _ _ => .inl (by simp)) harr⟩
  obtain ⟨e, a', w', hq, harr⟩ := key n a w h₀
  exact ⟨e, a', w', hq, .of_steps (.one step_loop) harr⟩
theorem qq_then {next : Env → Heap → Nat → Prop} {Q : Ex → Env → Heap → Nat → Prop} {K : Act → World → Prop} (hK : ∀ a w env H m σ, next env H m → St w0 M0 σ0 H0 m0 nt ds a w env H m σ → K a w) :
    ∀ e a w, QQ w0 M0 σ0 H0 m0 nt ds (Ex.then next Q) e a w → Exit.then K (QQ w0 M0 σ0 H0 m0 nt ds Q) e a w := by
  rintro e a w ⟨ex, env, H, m, σ, hq, hS, hr⟩
  cases e <;> cases ex <;> first
    | exact hr.elim
    | exact hK a w env H m σ hq hS
    | exact ⟨_, env, H, m, σ, hq, hS, hr⟩
theorem q5j (hm : P.follows .mixedOrders = true) (hbase : ∀ i, m0 ≤ i → H0 i = none) : ∀ (c : Code) (Q : Ex → Env → Heap → Nat → Prop) (a : Act) (w : World) (env : Env) (H : Heap) (m : Nat) (σ : Nat → Gh), q6r nt c = true →
    St w0 M0 σ0 H0 m0 nt ds a w env H m σ → q0i P m0 c Q env H m → c.wp P (QQ w0 M0 σ0 H0 m0 nt ds Q) a w := by
  intro c
  induction c with
  | skip => intro Q a w env H m σ hd hS h; exact wp_skip ⟨.normal, env, H, m, σ, h, hS, trivial⟩
  | region id ops draw =>
    intro Q a w env H m σ hd hS h
    have hdst : ∀ o ∈ ops, ∀ x, o.dst = some x → x < nt := fun o ho x hx => by
      have := Array.all_eq_true_iff_forall_mem.1 hd o ho
      rw [hx] at this; simpa using this
    cases draw with
    | false => exact wp_region_list (pwOps_sound ops.toList a w env H m σ hS (fun o ho => hdst o (Array.mem_toList_iff.1 ho)) h)
    | true =>
      rcases h with h | h | h
      · exact pwDraw_sound hm hS (fun j o ho => hdst o (Array.mem_of_getElem? ho)) h
      · exact pwDrawL_sound hm hS (fun j o ho => hdst o (Array.mem_of_getElem? ho)) h
      · exact pwDrawQ_sound hm hS (fun j o ho => hdst o (Array.mem_of_getElem? ho)) h
  | seq x y ihx ihy =>
    intro Q a w env H m σ hd hS h
    simp only [q6r, Bool.and_eq_true] at hd
    refine wp_seq (wp_mono (ihx _ a w env H m σ hd.1 hS h) (qq_then fun a' w' env' H' m' σ' hn hS' => ihy Q a' w' env' H' m' σ' hd.2 hS' hn))
  | cond c x y ihx ihy =>
    intro Q a w env H m σ hd hS h
    simp only [q6r, Bool.and_eq_true] at hd
    simp only [q0i] at h
    split at h
    · rename_i b hb
      have hv := hS.eval c
      rw [hb] at hv
      have hc : a.eval c = .bool b := by generalize a.eval c = u at hv; cases hv; rfl
      refine wp_cond hc ?_
      cases b with
      | true => exact ihx Q a w env H m σ hd.1 hS (h.1 rfl)
      | false => exact ihy Q a w env H m σ hd.2 hS (h.2 rfl)
    · exact h.elim
  | block id x ih =>
    intro Q a w env H m σ hd hS h
    refine wp_block (wp_mono (ih _ a w env H m σ hd hS h) ?_)
    rintro e a' w' ⟨ex, env', H', m', σ', hq, hS', hr⟩
    cases e <;> cases ex <;> first
      | exact hr.elim
      | exact ⟨_, env', H', m', σ', hq, hS', hr⟩
      | (have hr' : _ = _ := hr
         subst hr'
         simp only [Exit.inBlock, Ex.inBlock] at hq ⊢
         split
         · rename_i he; rw [if_pos he] at hq; exact ⟨.normal, env', H', m', σ', hq, hS', trivial⟩
         · rename_i he; rw [if_neg he] at hq; exact ⟨_, env', H', m', σ', hq, hS', rfl⟩)
  | loop x ih =>
    intro Q a w env H m σ hd hS h
    obtain ⟨I, n, ⟨env1, H1, m1, hW, hI⟩, hround⟩ := h
    refine wp_loop_n (fun n a w => ∃ env H m σ, I n env H m ∧ St w0 M0 σ0 H0 m0 nt ds a w env H m σ) n ⟨env1, H1, m1, σ, hI, hS.weaken hbase hW⟩ ?_
    rintro n a w ⟨env, H, m, σ, hI, hS⟩
    refine wp_mono (ih _ a w env H m σ hd hS (hround n env H m hI)) (qq_then ?_)
    rintro a' w' env' H' m' σ' ⟨n', hlt, env2, H2, m2, hW2, hI2⟩ hS'
    exact ⟨n', hlt, env2, H2, m2, σ', hI2, hS'.weaken hbase hW2⟩
  | exit id => intro Q a w env H m σ hd hS h; exact wp_exit ⟨.exit id, env, H, m, σ, h, hS, rfl⟩
  | ret => intro Q a w env H m σ hd hS h; exact wp_ret ⟨.ret, env, H, m, σ, h, hS, trivial⟩
  | rangeFunc f p x y ihx ihy => intro Q a w env H m σ hd hS h; exact h.elim
  | scope x ih => intro Q a w env H m σ hd hS h; exact h.elim
  | label l => intro Q a w env H m σ hd hS h; exact h.elim
  | goto l => intro Q a w env H m σ hd hS h; exact h.elim
  | refuse s => intro Q a w env H m σ hd hS h; exact h.elim
def resOne (P : Program) (env : Env) (H : Heap) : ResultVar → Option PV
  | .tmp t => some (strip H (env t))
  | .cell a t => match env a with
    | .ptr id off => match H id with
      | some (.box l) => cut P t l off
      | _ => none
    | _ => none
def q7v (P : Program) (env : Env) (H : Heap) : List ResultVar → Option (List PV)
  | [] => some []
  | x :: l => match resOne P env H x with
    | some p => match q7v P env H l with
      | some ps => some (p :: ps)
      | none => none
    | none => none
def q8y (P : Program) (rs : List ResultVar) (env : Env) (H : Heap) : Option PV :=
  match q7v P env H rs with
  | some [p] => some p
  | some ps => some (.tup ps)
  | none => none
def retQ (P : Program) (rs : List ResultVar) (Q : Out → Heap → Nat → Prop) : Ex → Env → Heap → Nat → Prop
  | .normal, env, H, m => match q8y P rs env H with
    | some r => Q (.ret r) H m
    | none => False
  | .ret, env, H, m => match q8y P rs env H with
    | some r => Q (.ret r) H m
    | none => False
  | .pan p, _, H, m => Q (.pan p) H m
  | .exit _, _, _, _ => False
def q5n (args : List PV) : Env := fun t => args.getD t .undef
def resSem (tmps : Array Value) : ResultVar → Sem Value
  | .tmp t => pure (tmps.getD t undef)
  | .cell a t => do loadVar t (← asAddr (tmps.getD a undef))
theorem resAll_sound {a : Act} {w : World} {env : Env} {H : Heap} {σ : Nat → Gh} (hr : HR w M0 σ H) (henv : ∀ t, VV w M0 σ H (a.tmps.getD t undef) (env t)) : ∀ (rs : List ResultVar) (ps : List PV), q7v P env H rs = some ps →
    ∃ vs : List Value, (rs.mapM (resSem a.tmps)).run P w = .ok vs w ∧ VL w (MU M0 σ H) σ (LV H) vs ps
  | [], ps, h => by simp only [q7v, Option.some.injEq] at h; subst h; exact ⟨[], by simp, rfl, fun i v p hv => by simp at hv⟩
  | x :: rs, ps, h => by
    simp only [q7v] at h
    split at h
    · rename_i p hp
      split at h
      · rename_i ps' hps
        cases h
        obtain ⟨vs, h1, h2⟩ := resAll_sound hr henv rs ps' hps
        have hx : ∃ v, (resSem a.tmps x).run P w = .ok v w ∧ VV w M0 σ H v p := by
          cases x with
          | tmp t => simp only [resOne, Option.some.injEq] at hp; subst hp; exact ⟨_, rfl, vr_strip hr (henv t)⟩
          | cell b t =>
            simp only [resOne] at hp
            split at hp
            · rename_i id off hb
              split at hp
              · rename_i l hid
                have hv := henv b
                rw [hb] at hv
                generalize hub : a.tmps.getD b undef = u at hv
                cases hv with
                | ptr _ _ hL h0 =>
                  obtain ⟨_, c, t', hg, _, hcr⟩ := hr.box id l hid
                  obtain ⟨v, g1, g2⟩ := load_sound (P := P) (b := (σ id).blk) (o := 0) (w := w) (fun j v hv => by
                    rw [cell_of_row w _ _ c t' (0, 0) hg, Nat.zero_add]; rw [List.getElem?_take] at hv; split at hv <;> simp_all) hcr hp
                  refine ⟨v, ?_, g2⟩
                  simp only [resSem, hub, asAddr, pure_bind]
                  rw [Nat.zero_add] at g1
                  exact g1
              · cases hp
            · cases hp
        obtain ⟨v, g1, g2⟩ := hx
        refine ⟨v :: vs, ?_, by simp [h2.1], fun i u q hu hq => ?_⟩
        · rw [List.mapM_cons, Sem.run_bind, g1]
          simp only [Result.andThen_ok, Sem.run_bind, h1, Sem.run_pure]
        · cases i with
          | zero => simp at hu hq; subst hu; subst hq; exact g2
          | succ i => exact h2.2 i u q (by simpa using hu) (by simpa using hq)
      · cases h
    · cases h
theorem resOf_sound {fn : Func} {a : Act} {w : World} {env : Env} {H : Heap} {σ : Nat → Gh} {r : PV} (hr : HR w M0 σ H) (henv : ∀ t, VV w M0 σ H (a.tmps.getD t undef) (env t)) (h : q8y P fn.results.toList env H = some r) : ∃ v, (results fn a.tmps).run P w = .ok v w ∧ VV w M0 σ H v r := by
  unfold q8y at h
  have key : ∀ ps, q7v P env H fn.results.toList = some ps → ∃ vs : List Value, (results fn a.tmps).run P w = .ok (if h : vs.toArray.size = 1 then vs.toArray[0] else .tuple vs.toArray) w ∧ VL w (MU M0 σ H) σ (LV H) vs ps := by
    intro ps hps
    obtain ⟨vs, h1, h2⟩ := resAll_sound (P := P) hr henv _ ps hps
    refine ⟨vs, ?_, h2⟩
    have e : results fn a.tmps = (do
        let vs ← fn.results.mapM (resSem a.tmps)
        pure (if h : vs.size = 1 then vs[0] else .tuple vs)) := by
      unfold results
      congr 1
    rw [e, Sem.run_bind, Array.mapM_eq_mapM_toList, Sem.run_map, h1]
    rfl
  split at h
  · rename_i p hps
    cases h
    obtain ⟨vs, h1, h2⟩ := key _ hps
    obtain ⟨v, rfl⟩ := List.length_eq_one_iff.1 (h2.1.trans rfl)
    exact ⟨v, by rw [h1]; rfl, h2.2 0 v _ rfl rfl⟩
  · rename_i ps hne hps
    cases h
    obtain ⟨vs, h1, h2⟩ := key _ hps
    refine ⟨.tuple vs.toArray, ?_, .tup vs ps h2.1 h2.2⟩
    rw [h1, dif_neg]
    intro hs
    have : ps.length = 1 := by rw [← h2.1]; simpa using hs
    obtain ⟨p, rfl⟩ := List.length_eq_one_iff.1 this
    exact hne p rfl
  · cases h
/-- A function's contract, by its code. -/
theorem CSat_of_pw (hm : P.follows .mixedOrders = true) {f : FuncId} {fn : Func} {c : Code} {args : List PV} {H : Heap} {m : Nat} {Q : Out → Heap → Nat → Prop} (hf : P.funcs[f]? = some fn) (hb : fn.body = some c) (hn : args.length ≤ fn.ntmps)
    (hd : q6r fn.ntmps c = true) (h : q0i P m c (retQ P fn.results.toList Q) (q5n args) H m) : CSat P f args H m Q := by
  intro w M0 σ vs hr hfree hvl
  refine calls_of_wp hf hb ?_
  have hsz : (vs.toArray ++ Array.replicate (fn.ntmps - vs.toArray.size) undef).size = fn.ntmps := by
    have := hvl.1
    simp only [Array.size_append, List.size_toArray, Array.size_replicate]; omega
  have hS : St w M0 σ H m fn.ntmps [] { tmps := vs.toArray ++ Array.replicate (fn.ntmps - vs.toArray.size) undef, defers := [] } w (q5n args) H m σ := by
    refine ⟨hr, hfree, Nat.le_refl _, Fr.refl _ _ _ _, hsz, rfl, fun t => ?_⟩
    unfold q5n
    simp only [Array.getD_eq_getD_getElem?, List.getD_eq_getElem?_getD]
    by_cases ht : t < vs.length
    · rw [Array.getElem?_append_left (by simpa using ht)]
      have ht' : t < args.length := by rw [← hvl.1]; exact ht
      rw [List.getElem?_toArray, List.getElem?_eq_getElem ht, List.getElem?_eq_getElem ht']
      exact hvl.2 t _ _ (List.getElem?_eq_getElem ht) (List.getElem?_eq_getElem ht')
    · have ht' : args.length ≤ t := by rw [← hvl.1]; omega
      rw [List.getElem?_eq_none ht', Array.getElem?_append_right (by simpa using Nat.le_of_not_lt ht), Array.getElem?_replicate]
      split <;> exact .undef
  refine wp_mono (q5j hm hfree c _ _ w _ H m σ hd hS h) ?_
  rintro e a w' ⟨ex, env, H', m', σ', hq, hS', hx⟩
  have fin : ∀ r, q8y P fn.results.toList env H' = some r → Q (.ret r) H' m' → ∃ v, (results fn a.tmps).run P w' = .ok v w' ∧ ∃ out H' m' σ', Q out H' m' ∧ HR w' M0 σ' H' ∧ (∀ i, m' ≤ i → H' i = none) ∧ m ≤ m' ∧ Fr w M0 σ H w' σ' H' ∧ OutR w' M0 σ' H' (.returned v) out := by
    intro r hres hq
    obtain ⟨v, h1, h2⟩ := resOf_sound (P := P) hS'.hr hS'.env hres
    exact ⟨v, h1, .ret r, H', m', σ', hq, hS'.hr, hS'.free, hS'.le, hS'.fr, h2⟩
  cases e with
  | normal =>
    cases ex <;> first | exact hx.elim | skip
    simp only [retQ] at hq
    split at hq
    · rename_i r hres
      obtain ⟨v, h1, h2⟩ := fin r hres hq
      exact ⟨hS'.defers, v, h1, h2⟩
    · exact hq.elim
  | ret =>
    cases ex <;> first | exact hx.elim | skip
    simp only [retQ] at hq
    split at hq
    · rename_i r hres
      obtain ⟨v, h1, h2⟩ := fin r hres hq
      exact ⟨hS'.defers, v, h1, h2⟩
    · exact hq.elim
  | panic ch =>
    cases ex <;> first | exact hx.elim | skip
    exact ⟨hS'.defers, _, H', m', σ', hq, hS'.hr, hS'.free, hS'.le, hS'.fr, hx⟩
  | exit id =>
    cases ex <;> first | exact hx.elim | exact hq.elim
  | goto l => cases ex <;> exact hx.elim
  | outgrown => cases ex <;> exact hx.elim
theorem csat_of_pure {f : FuncId} {args : List PV} {r : PV} {H : Heap} {m : Nat} {Q : Out → Heap → Nat → Prop} (h : Pure P f args r) (hq : Q (.ret r) H m) : CSat P f args H m Q := by
  intro w M0 σ vs hr hfree hvl
  refine (h w (MU M0 σ H) σ (LV H) vs (fun b o hm => mu_lt hr hm) hvl).mono ?_
  rintro e w' ⟨v, rfl, hv, hb⟩
  exact ⟨.ret r, H, m, σ, hq, hr.all hb.size hb.block, hfree, Nat.le_refl _, Fr.all hb, hv⟩
theorem pure_of_csat {f : FuncId} {args : List PV} {r : PV} (ha : ∀ p ∈ args, NoId p) (hr : NoId r) (h : CSat P f args (fun _ => none) 0 (fun out _ _ => out = .ret r)) : Pure P f args r := by
  intro w M σ L vs hM hvl
  have hmu : ∀ (σ' : Nat → Gh) b o, MU M σ' (fun _ => none) b o ↔ M b o := fun σ' b o => by
    refine ⟨fun h => ?_, fun h => .inl h⟩
    rcases h with h | ⟨id, l, h1, _⟩ | ⟨id, e, sz, els, h1, _⟩
    · exact h
    · cases h1
    · cases h1
  have h0 : HR w M σ (fun _ => none) := ⟨hM, fun id h => absurd rfl h, fun i j h => absurd rfl h, fun id l h => (by cases h), fun id e sz els h => (by cases h)⟩
  refine (h w M σ vs h0 (fun _ _ => rfl) ⟨hvl.1, fun i v p hv hp => (hvl.2 i v p hv hp).bd (fun b o u _ h1 h2 => h1 ((hmu σ b o).1 h2)) (fun _ h => h.elim) (ha p (q4n hp))⟩).mono ?_
  rintro e w' ⟨out, H', m', σ', rfl, hr', hfree, _, hf, ho⟩
  cases e with
  | returned v =>
    refine ⟨v, rfl, ?_, ⟨hf.os, hf.tape, hf.output, hf.size, fun b hb => hf.block b hb (fun id h => absurd rfl h)⟩⟩
    exact VR.bd (fun b o u _ h1 h2 => h1 (.inl h2)) (fun _ h => h.elim) ho hr
  | panicked ch => exact ho.elim
  | outgrown => exact ho.elim
end
end Go.Proofs.YteibeoipnjhicaaGreat
