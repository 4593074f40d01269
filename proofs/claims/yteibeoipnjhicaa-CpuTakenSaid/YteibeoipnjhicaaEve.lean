import Derived.Test.YteibeoipnjhicaaEvd
namespace Go.Proofs.Yteibeoipnjhicaa
open Go Go.RowKit
set_option linter.unusedVariables false
set_option linter.unusedSimpArgs false
/-! Comparing structs and arrays. -/
theorem eqL_append {a b c d : List PV} (h : a.length = b.length) : eqL (a ++ c) (b ++ d) = (eqL a b && eqL c d) := by
  induction a generalizing b with
  | nil => cases b with
    | nil => simp [eqL]
    | cons _ _ => simp at h
  | cons x a ih => cases b with
    | nil => simp at h
    | cons y b => simp only [List.cons_append, eqL, ih (by simpa using h), Bool.and_assoc]
def fits (P : Program) (t : TypeId) (x : Value) (cs : List Value) : Prop :=
  match P.underlying t with
  | some (.struct _) => x = .agg cs.toArray
  | some (.array _ _) => x = .agg cs.toArray
  | _ => cs = [x]
section
variable {P : Program} {w : World} {M : Nat → Nat → Prop} {σ : Nat → Gh} {L : Nat → Prop}
theorem chunk_get {cs : List Value} {off n : Nat} {v : Value} (h : (cs.drop off).take n = [v]) : cs[off]? = some v := by
  have : ((cs.drop off).take n)[0]? = some v := by rw [h]; rfl
  rw [List.getElem?_take] at this
  split at this
  · simpa using this
  · cases this
theorem part_fits {cs : List Value} {l : List PV} (h : CR w M σ L cs l) {d : Nat} {t : TypeId} {off : Nat} {a : List PV} (hp : pl P d t ((l.drop off).take (P.cellsOf t)) = some a) :
    ∃ v, (part t cs.toArray off).run P w = .ok v w ∧ fits P t v ((cs.drop off).take (P.cellsOf t)) := by
  cases d with
  | zero => simp [pl] at hp
  | succ d =>
    cases hu : P.underlying t with
    | none => simp [pl, hu] at hp
    | some k =>
      obtain ⟨i, hi⟩ := info_of_underlying hu
      have hl := (h.cut off (P.cellsOf t)).len
      have one : ((∃ x, (l.drop off).take (P.cellsOf t) = [x]) ∧ aggT P t = some false) → fits P t = (fun v cs => cs = [v]) → ∃ v, (part t cs.toArray off).run P w = .ok v w ∧ fits P t v ((cs.drop off).take (P.cellsOf t)) := by
        rintro ⟨⟨x, hx⟩, ha⟩ hf
        rw [hx] at hl
        obtain ⟨v, hv⟩ := List.length_eq_one_iff.1 hl
        refine ⟨v, ?_, by rw [hf]; exact hv⟩
        unfold part
        rw [Sem.run_bind, run_isAgg' ha]
        simp [chunk_get hv]
      have many : aggT P t = some true → fits P t = (fun v cs => v = .agg cs.toArray) → ∃ v, (part t cs.toArray off).run P w = .ok v w ∧ fits P t v ((cs.drop off).take (P.cellsOf t)) := by
        intro ha hf
        refine ⟨.agg (cs.toArray.extract off (off + P.cellsOf t)), ?_, ?_⟩
        · unfold part
          rw [Sem.run_bind, run_isAgg' ha]
          simp only [Result.andThen_ok, if_true, Sem.run_bind, run_sizeOf w hi]
          rfl
        · rw [hf]
          simp [List.extract]
      cases k with
      | bool => refine one ⟨?_, by simp [aggT, hu]⟩ (by unfold fits; simp [hu]); simp only [pl, hu] at hp; split at hp; rename_i b hb; exact ⟨_, hb⟩; cases hp
      | int q => refine one ⟨?_, by simp [aggT, hu]⟩ (by unfold fits; simp [hu]); simp only [pl, hu] at hp; split at hp; rename_i b hb; exact ⟨_, hb⟩; cases hp
      | struct fs => exact many (by simp [aggT, hu]) (by unfold fits; simp [hu])
      | array n e => exact many (by simp [aggT, hu]) (by unfold fits; simp [hu])
      | _ => simp [pl, hu] at hp
def EqOk (P : Program) (w : World) (M : Nat → Nat → Prop) (σ : Nat → Gh) (L : Nat → Prop) (D d : Nat) (t : TypeId) : Prop :=
  ∀ (cs cs' : List Value) (l l' a b : List PV) (x y : Value), CR w M σ L cs l → CR w M σ L cs' l' → pl P d t l = some a → pl P d t l' = some b → fits P t x cs → fits P t y cs' → (Op.equalIn D t x y).run P w = .ok (eqL a b) w ∧ a.length = b.length
theorem eqFields_ok {D d : Nat} {cs cs' : List Value} {l l' : List PV} (h : CR w M σ L cs l) (h' : CR w M σ L cs' l') : ∀ (fs : List Field) (as bs : List (List PV)), (∀ f ∈ fs, f.name ≠ "_" ∧ EqOk P w M σ L D d f.type) →
    fs.mapM (fun f => pl P d f.type ((l.drop f.offset).take (P.cellsOf f.type))) = some as → fs.mapM (fun f => pl P d f.type ((l'.drop f.offset).take (P.cellsOf f.type))) = some bs →
    (Op.eqFields D cs.toArray cs'.toArray fs).run P w = .ok (eqL as.flatten bs.flatten) w ∧ as.flatten.length = bs.flatten.length
  | [], as, bs, _, ha, hb => by
    simp at ha hb
    subst ha; subst hb
    exact ⟨by simp [Op.eqFields, eqL], rfl⟩
  | f :: fs, as, bs, hall, ha, hb => by
    rw [List.mapM_cons] at ha hb
    simp only [bind, Option.bind_eq_some_iff, pure, Option.some.injEq] at ha hb
    obtain ⟨la, ha1, as', ha2, rfl⟩ := ha
    obtain ⟨lb, hb1, bs', hb2, rfl⟩ := hb
    obtain ⟨hn, hp⟩ := hall f (by simp)
    obtain ⟨x, p1, f1⟩ := part_fits h ha1
    obtain ⟨y, p2, f2⟩ := part_fits h' hb1
    obtain ⟨p3, hlen⟩ := hp _ _ _ _ la lb x y (h.cut _ _) (h'.cut _ _) ha1 hb1 f1 f2
    obtain ⟨p4, hlen'⟩ := eqFields_ok h h' fs as' bs' (fun g hg => hall g (by simp [hg])) ha2 hb2
    refine ⟨?_, by simp only [List.flatten_cons, List.length_append, hlen, hlen']⟩
    simp only [Op.eqFields, hn, ne_eq, not_false_eq_true, if_true, Sem.run_bind, p1, p2, p3, Result.andThen_ok, List.flatten_cons, eqL_append hlen]
    cases eqL la lb
    · simp
    · simpa using p4
theorem eqItems_ok {D d : Nat} {e : TypeId} (IH : EqOk P w M σ L D d e) {cs cs' : List Value} {l l' : List PV} (h : CR w M σ L cs l) (h' : CR w M σ L cs' l') : ∀ (is : List Nat) (as bs : List (List PV)),
    is.mapM (fun i => pl P d e ((l.drop (i * P.cellsOf e)).take (P.cellsOf e))) = some as → is.mapM (fun i => pl P d e ((l'.drop (i * P.cellsOf e)).take (P.cellsOf e))) = some bs →
    (Op.eqItems D e (P.cellsOf e) cs.toArray cs'.toArray is).run P w = .ok (eqL as.flatten bs.flatten) w ∧ as.flatten.length = bs.flatten.length
  | [], as, bs, ha, hb => by
    simp at ha hb
    subst ha; subst hb
    exact ⟨by simp [Op.eqItems, eqL], rfl⟩
  | i :: is, as, bs, ha, hb => by
    rw [List.mapM_cons] at ha hb
    simp only [bind, Option.bind_eq_some_iff, pure, Option.some.injEq] at ha hb
    obtain ⟨la, ha1, as', ha2, rfl⟩ := ha
    obtain ⟨lb, hb1, bs', hb2, rfl⟩ := hb
    obtain ⟨x, p1, f1⟩ := part_fits h ha1
    obtain ⟨y, p2, f2⟩ := part_fits h' hb1
    obtain ⟨p3, hlen⟩ := IH _ _ _ _ la lb x y (h.cut _ _) (h'.cut _ _) ha1 hb1 f1 f2
    obtain ⟨p4, hlen'⟩ := eqItems_ok IH h h' is as' bs' ha2 hb2
    refine ⟨?_, by simp only [List.flatten_cons, List.length_append, hlen, hlen']⟩
    simp only [Op.eqItems, Sem.run_bind, p1, p2, p3, Result.andThen_ok, List.flatten_cons, eqL_append hlen]
    cases eqL la lb
    · simp
    · simpa using p4
theorem eq_ok (dd : Nat) : ∀ (d : Nat) (t : TypeId), EqOk P w M σ L (dd + d) d t
  | 0, t => fun cs cs' l l' a b x y _ _ h _ _ _ => by simp [pl] at h
  | d + 1, t => by
    intro cs cs' l l' a b x y h h' ha hb fx fy
    cases hu : P.underlying t with
    | none => simp [pl, hu] at ha
    | some k =>
      cases k with
      | bool =>
        simp only [pl, hu] at ha hb
        split at ha
        · split at hb
          · cases ha; cases hb
            simp only [fits, hu] at fx fy
            subst fx; subst fy
            have e1 := h.rel 0 x _ rfl rfl
            have e2 := h'.rel 0 y _ rfl rfl
            cases e1; cases e2
            exact ⟨by rw [show dd + (d + 1) = (dd + d) + 1 from rfl, run_equalIn_bool' (P := P) w _ t _ _ hu]; simp [eqL, eqLeaf], rfl⟩
          · cases hb
        · cases ha
      | int q =>
        simp only [pl, hu] at ha hb
        split at ha
        · split at hb
          · split at ha
            · split at hb
              · rename_i h1 h2
                cases ha; cases hb
                simp only [fits, hu] at fx fy
                subst fx; subst fy; subst h1; subst h2
                have e1 := h.rel 0 x _ rfl rfl
                have e2 := h'.rel 0 y _ rfl rfl
                cases e1; cases e2
                exact ⟨by rw [show dd + (d + 1) = (dd + d) + 1 from rfl, run_equalIn_int (P := P) w _ t _ _ _ _ hu]; simp [eqL, eqLeaf], rfl⟩
              · cases hb
            · cases ha
          · cases hb
        · cases ha
      | struct fs =>
        simp only [pl, hu] at ha hb
        split at ha
        · split at hb
          · rename_i c1 c2
            rw [Option.map_eq_some_iff] at ha hb
            obtain ⟨as, ha, rfl⟩ := ha
            obtain ⟨bs, hb, rfl⟩ := hb
            simp only [fits, hu] at fx fy
            subst fx; subst fy
            have hfs : P.fieldsOf t = fs := by simp [Program.fieldsOf, hu]
            obtain ⟨r1, r2⟩ := eqFields_ok (D := dd + d) h h' fs.toList as bs (fun f hf => ⟨by
              have := Array.all_eq_true_iff_forall_mem.1 c1.2.1 f (Array.mem_toList_iff.1 hf)
              simpa using this, eq_ok dd d f.type⟩) ha hb
            exact ⟨by rw [show dd + (d + 1) = (dd + d) + 1 from rfl, run_equalIn_struct w (dd + d) t _ _ (by rw [hfs]; exact hu) c1.2.2, hfs]; exact r1, r2⟩
          · cases hb
        · cases ha
      | array n e =>
        simp only [pl, hu] at ha hb
        split at ha
        · split at hb
          · rename_i c1 c2
            rw [Option.map_eq_some_iff] at ha hb
            obtain ⟨as, ha, rfl⟩ := ha
            obtain ⟨bs, hb, rfl⟩ := hb
            simp only [fits, hu] at fx fy
            subst fx; subst fy
            have hn : n ≠ 0 := by omega
            have hie : ∃ i, P.info? e = some i := by
              obtain ⟨m, rfl⟩ : ∃ m, n = m + 1 := ⟨n - 1, by omega⟩
              rw [List.range_succ_eq_map, List.mapM_cons] at ha
              simp only [bind, Option.bind_eq_some_iff, pure, Option.some.injEq] at ha
              obtain ⟨la, ha1, _⟩ := ha
              cases d with
              | zero => simp [pl] at ha1
              | succ d =>
                cases hue : P.underlying e with
                | none => simp [pl, hue] at ha1
                | some _ => exact info_of_underlying hue
            obtain ⟨i, hi⟩ := hie
            obtain ⟨r1, r2⟩ := eqItems_ok (eq_ok dd d e) h h' (List.range n) as bs ha hb
            exact ⟨by rw [show dd + (d + 1) = (dd + d) + 1 from rfl, run_equalIn_array w (dd + d) _ _ hu hi]; exact r1, r2⟩
          · cases hb
        · cases ha
      | _ => simp [pl, hu] at ha
end
end Go.Proofs.Yteibeoipnjhicaa
