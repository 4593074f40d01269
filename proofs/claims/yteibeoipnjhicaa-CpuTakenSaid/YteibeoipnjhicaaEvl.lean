import Derived.Test.YteibeoipnjhicaaEvk
namespace Go.Proofs.Yteibeoipnjhicaa
open Go Go.RowKit
set_option linter.unusedVariables false
set_option linter.unusedSimpArgs false
/-! Regions that draw their order: what they say, and the textual run. -/
/-- A call's contract without own boxes. -/
def Pure (P : Program) (f : FuncId) (args : List PV) (r : PV) : Prop :=
  ∀ (w : World) (M : Nat → Nat → Prop) (σ : Nat → Gh) (L : Nat → Prop) (vs : List Value), (∀ b o, M b o → b < w.heap.size) → VL w M σ L vs args →
    Calls P f vs.toArray w fun e w' => ∃ v, e = .returned v ∧ VR w' M σ L v r ∧ Below w.heap.size w w'
/-- A call that makes a new own box or row. -/
def BornC (P : Program) (g : FuncId) (args : List PV) (r : Nat → PV) (e : Eff) : Prop :=
  e.cnt = 1 ∧ ∀ (w : World) (M0 : Nat → Nat → Prop) (σ : Nat → Gh) (H : Heap) (m : Nat) (vs : List Value), HR w M0 σ H → H m = none → VL w (MU M0 σ H) σ (LV H) vs args →
    Calls P g vs.toArray w fun x w' => ∃ v σ', x = .returned v ∧ HR w' M0 σ' (e.app m H) ∧ Fr w M0 σ H w' σ' (e.app m H) ∧ VV w' M0 σ' (e.app m H) v (r m)
def CallOk (P : Program) (g : FuncId) (args : List PV) (m : Nat) (r : PV) (e : Eff) : Prop := (Pure P g args r ∧ e = .nop) ∨ ∃ rf, BornC P g args rf e ∧ r = rf m
def sp0 : PV → PV
  | .nilsl => .sl []
  | .gr _ _ => .any
  | p => p
structure Rg where
  id : Nat
  lo : Nat
  hi : Nat
  whole : Bool
def Rg.meets (a b : Rg) : Bool := a.id == b.id && (a.whole || (b.whole || (decide (a.lo < b.hi) && decide (b.lo < a.hi))))
def Eff.wr : Eff → List Rg
  | .put id off l => [⟨id, off, off + l.length, false⟩]
  | .grow id _ _ _ => [⟨id, 0, 0, true⟩]
  | _ => []
def rdOf (P : Program) (ρ : Operand → PV) : Op → List Rg
  | .load t a => match ρ a with
    | .ptr id off => [⟨id, off, off + (if aggT P t = some true then P.cellsOf t else 1), false⟩]
    | _ => []
  | .call c => match c.args.toList with
    | x :: _ => match ρ x with
      | .gr id _ => [⟨id, 0, 0, true⟩]
      | _ => []
    | [] => []
  | _ => []
def apartL (a b : List Rg) : Bool := a.all fun x => b.all fun y => !(x.meets y)
def okPair (x y : Eff × List Rg) : Bool := apartL x.1.wr y.1.wr && (apartL x.1.wr y.2 && apartL x.2 y.1.wr)
def okAll : List (Eff × List Rg) → Bool
  | [] => true
  | x :: l => l.all (okPair x) && okAll l
/-- An operation that makes a new own slice, without a look at what there is. -/
def nwOf (P : Program) (ρ : Operand → PV) (s : PV → PV) : Op → Option (Nat × Nat × Nat × List PV)
  | .buildSlice t n parts => match evBuildSlice P t n (parts.toList.map fun (i, x) => (i, s (ρ x))) with
    | some (.sl els) => match P.underlying t with
      | some (.slice e) => some (els.length, e, P.cellsOf e, els.flatten)
      | _ => none
    | _ => none
  | _ => none
theorem nw_bs {P : Program} {ρ : Operand → PV} {s : PV → PV} {op : Op} {n e sz : Nat} {fl : List PV} (h : nwOf P ρ s op = some (n, e, sz, fl)) (H : Heap) (m : Nat) : evBs P ρ s H m op = some (.bs m n e sz, .new fl) := by
  cases op <;> simp only [nwOf, reduceCtorEq] at h
  simp only [evBs]
  split at h
  · rename_i els he
    rw [he]
    split at h
    · rename_i e' hu; cases h; simp only [hu]
    · cases h
  · cases h
/-- i comes behind j in each order. -/
def reachB (ops : Array Oper) : Nat → Nat → Nat → Bool
  | 0, _, _ => false
  | f + 1, i, j => match ops[i]? with
    | some o => o.after.any fun e => Region.binds .any e && (e.on == j || (decide (j < e.on) && reachB ops f e.on j))
    | none => false
def drawOk (ops : Array Oper) : Bool :=
  (List.range ops.size).all fun j => match ops[j]? with
    | none => true
    | some o =>
      (o.after.all fun e => !Region.binds .any e || decide (e.on < j)) &&
      ((List.range ops.size).all fun i => match (ops[i]?).bind (·.dst) with
        | none => true
        | some d => (i == j || o.dst != some d) && (!(o.looksAt ops).contains d || ((decide (i < j) && o.after.any fun e => Region.binds .any e && e.on == i) || (decide (j < i) && reachB ops ops.size i j))))
def dr (P : Program) (ops : Array Oper) : List Oper → (Env → Heap → Nat → List (Eff × List Rg) → Prop) → Env → Heap → Nat → Prop
  | [], K => fun env H m => K env H m []
  | o :: rest, K => fun env H m =>
    match wantP ops env o with
    | some false => dr P ops rest (fun e h n L => K e h n ((.nop, []) :: L)) (upd env o.dst .undef) H m
    | some true =>
      if isCall o.op = true then
        match calleeP (rho env) sp0 o.op with
        | some (g, args) => entersP P g = true ∧ ∃ r e, CallOk P g args m r e ∧ dr P ops rest (fun e' h n L => K e' h n ((e, []) :: L)) (upd env o.dst r) (e.app m H) (m + e.cnt)
        | none => False
      else (match evOp P (rho env) sp0 H m o.op with
        | some (r, e) => dr P ops rest (fun e' h n L => K e' h n ((e, rdOf P (rho env) o.op) :: L)) (upd env o.dst r) (e.app m H) (m + e.cnt)
        | none => False) ∨ (match nwOf P (rho env) sp0 o.op with
        | some (n, e, sz, fl) => dr P ops rest (fun e' h k L => K e' h k ((.new fl, []) :: L)) (upd env o.dst (.bs m n e sz)) ((Eff.new fl).app m H) (m + 1)
        | none => False)
    | none => False
def pwDraw (P : Program) (ops : Array Oper) (Q : Ex → Env → Heap → Nat → Prop) (env : Env) (H : Heap) (m : Nat) : Prop :=
  drawOk ops = true ∧ dr P ops ops.toList (fun env' H' m' L => okAll L = true ∧ Q .normal env' H' m') env H m
/-- The textual run, number by number. -/
structure Run (P : Program) (ops : Array Oper) where
  r : Nat → PV
  e : Nat → Eff
  rd : Nat → List Rg
  en : Nat → Env
  hn : Nat → Heap
  mm : Nat → Nat
def Run.good {P : Program} {ops : Array Oper} (R : Run P ops) (i : Nat) (o : Oper) : Prop :=
  R.en (i + 1) = upd (R.en i) o.dst (R.r i) ∧ R.hn (i + 1) = (R.e i).app (R.mm i) (R.hn i) ∧ R.mm (i + 1) = R.mm i + (R.e i).cnt ∧
  ((wantP ops (R.en i) o = some false ∧ R.r i = .undef ∧ R.e i = .nop) ∨
   (wantP ops (R.en i) o = some true ∧
    ((∃ g args, isCall o.op = true ∧ calleeP (rho (R.en i)) sp0 o.op = some (g, args) ∧ entersP P g = true ∧ CallOk P g args (R.mm i) (R.r i) (R.e i)) ∨
     (isCall o.op ≠ true ∧ evOp P (rho (R.en i)) sp0 (R.hn i) (R.mm i) o.op = some (R.r i, R.e i) ∧ R.rd i = rdOf P (rho (R.en i)) o.op) ∨
     (isCall o.op ≠ true ∧ ∃ n e sz fl, nwOf P (rho (R.en i)) sp0 o.op = some (n, e, sz, fl) ∧ R.r i = .bs (R.mm i) n e sz ∧ R.e i = .new fl))))
section
variable {P : Program} {ops : Array Oper}
def Run.cons (r : PV) (e : Eff) (rd : List Rg) (env : Env) (H : Heap) (m : Nat) (R : Run P ops) : Run P ops where
  r := fun i => match i with | 0 => r | i + 1 => R.r i
  e := fun i => match i with | 0 => e | i + 1 => R.e i
  rd := fun i => match i with | 0 => rd | i + 1 => R.rd i
  en := fun i => match i with | 0 => env | i + 1 => R.en i
  hn := fun i => match i with | 0 => H | i + 1 => R.hn i
  mm := fun i => match i with | 0 => m | i + 1 => R.mm i
theorem dr_run : ∀ (l : List Oper) (K : Env → Heap → Nat → List (Eff × List Rg) → Prop) (env : Env) (H : Heap) (m : Nat), dr P ops l K env H m →
    ∃ R : Run P ops, R.en 0 = env ∧ R.hn 0 = H ∧ R.mm 0 = m ∧ (∀ i o, l[i]? = some o → R.good i o) ∧ ∃ L, K (R.en l.length) (R.hn l.length) (R.mm l.length) L ∧ L.length = l.length ∧ ∀ i x, L[i]? = some x → x = (R.e i, R.rd i)
  | [], K, env, H, m, h => ⟨⟨fun _ => .any, fun _ => .nop, fun _ => [], fun _ => env, fun _ => H, fun _ => m⟩, rfl, rfl, rfl, fun i o ho => by simp at ho, [], h, rfl, fun i x hx => by simp at hx⟩
  | o :: l, K, env, H, m, h => by
    have glue : ∀ (r : PV) (e : Eff) (rd : List Rg), dr P ops l (fun e' h n L => K e' h n ((e, rd) :: L)) (upd env o.dst r) (e.app m H) (m + e.cnt) →
        ((wantP ops env o = some false ∧ r = .undef ∧ e = .nop) ∨
          (wantP ops env o = some true ∧
          ((∃ g args, isCall o.op = true ∧ calleeP (rho env) sp0 o.op = some (g, args) ∧ entersP P g = true ∧ CallOk P g args m r e) ∨
          (isCall o.op ≠ true ∧ evOp P (rho env) sp0 H m o.op = some (r, e) ∧ rd = rdOf P (rho env) o.op) ∨
          (isCall o.op ≠ true ∧ ∃ n e' sz fl, nwOf P (rho env) sp0 o.op = some (n, e', sz, fl) ∧ r = .bs m n e' sz ∧ e = .new fl)))) →
        ∃ R : Run P ops, R.en 0 = env ∧ R.hn 0 = H ∧ R.mm 0 = m ∧ (∀ i o', (o :: l)[i]? = some o' → R.good i o') ∧ ∃ L, K (R.en (o :: l).length) (R.hn (o :: l).length) (R.mm (o :: l).length) L ∧ L.length = (o :: l).length ∧ ∀ i x, L[i]? = some x → x = (R.e i, R.rd i) := by
      intro r e rd hdr hg
      obtain ⟨R, h1, h2, h3, h4, L, h5, h6, h7⟩ := dr_run l _ _ _ _ hdr
      refine ⟨Run.cons r e rd env H m R, rfl, rfl, rfl, fun i o' ho' => ?_, (e, rd) :: L, h5, by simp [h6], fun i x hx => ?_⟩
      · cases i with
        | zero =>
          simp at ho'; subst ho'
          exact ⟨h1, h2, h3, hg⟩
        | succ i => exact h4 i o' (by simpa using ho')
      · cases i with
        | zero => simp at hx; subst hx; rfl
        | succ i => exact h7 i x (by simpa using hx)
    simp only [dr] at h
    split at h
    · rename_i hw
      exact glue .undef .nop [] h (.inl ⟨hw, rfl, rfl⟩)
    · rename_i hw
      split at h
      · rename_i hc
        split at h
        · rename_i g args hcal
          obtain ⟨he, r, e, hp, h⟩ := h
          exact glue r e [] h (.inr ⟨hw, .inl ⟨g, args, hc, hcal, he, hp⟩⟩)
        · exact h.elim
      · rename_i hc
        rcases h with h | h
        · split at h
          · rename_i r e hev
            exact glue r e _ h (.inr ⟨hw, .inr (.inl ⟨hc, hev, rfl⟩)⟩)
          · exact h.elim
        · split at h
          · rename_i n e sz fl hev
            exact glue (.bs m n e sz) (.new fl) [] h (.inr ⟨hw, .inr (.inr ⟨hc, n, e, sz, fl, hev, rfl, rfl⟩)⟩)
          · exact h.elim
    · exact h.elim
theorem okAll_get : ∀ {L : List (Eff × List Rg)}, okAll L = true → ∀ {i j : Nat} {x y}, i < j → L[i]? = some x → L[j]? = some y → okPair x y = true
  | [], _, i, j, x, y, _, hx, _ => by simp at hx
  | a :: L, h, i, j, x, y, hij, hx, hy => by
    simp only [okAll, Bool.and_eq_true, List.all_eq_true] at h
    cases j with
    | zero => omega
    | succ j =>
      have hy' : L[j]? = some y := by simpa using hy
      cases i with
      | zero => simp at hx; subst hx; exact h.1 y (List.mem_of_getElem? hy')
      | succ i => exact okAll_get (i := i) (j := j) h.2 (by omega) (by simpa using hx) hy'
end
end Go.Proofs.Yteibeoipnjhicaa
