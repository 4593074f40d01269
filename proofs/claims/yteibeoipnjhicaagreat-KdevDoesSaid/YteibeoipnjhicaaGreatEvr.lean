import Derived.Test.YteibeoipnjhicaaGreatEvq
import Derived.Attr
namespace Go.Proofs.YteibeoipnjhicaaGreat
open Go Go.RowKit
set_option linter.unusedVariables false
set_option linter.unusedSimpArgs false
section
variable {P : Program} {ops : Array Oper} {o : Oper} {rest : List Oper} {Q : Ex → Env → Heap → Nat → Prop} {env : Env} {H : Heap} {m m0 : Nat}
/-- 'a' comes to 'b'. -/
def Nm {α : Type} (a b : α) : Prop := a = b
theorem nm {α : Type} {a : α} : Nm a a := rfl
theorem q0d (h : Q .normal env H m) : q1a P ops Q [] env H m := h
/-- On, behind what an operation has made. -/
def goOn (P : Program) (ops : Array Oper) (Q : Ex → Env → Heap → Nat → Prop) (rest : List Oper) (d : Option Tmp) (env : Env) (H : Heap) (m : Nat) : Option (PV × Eff) → Prop
  | some (r, e) => q1a P ops Q rest (upd env d r) (e.app m H) (m + e.cnt)
  | none => False
def q1k (P : Program) (ops : Array Oper) (Q : Ex → Env → Heap → Nat → Prop) (rest : List Oper) (d : Option Tmp) (r : PV) (env : Env) (H : Heap) (m id off : Nat) (l : List PV) : Option HE → Prop
  | some (.box c) => ∀ l', splice c off l = l' → q1a P ops Q rest (upd env d r) (hset H id (some (.box l'))) m
  | _ => False
def q1f (P : Program) (ops : Array Oper) (Q : Ex → Env → Heap → Nat → Prop) (rest : List Oper) (o : Oper) (env : Env) (H : Heap) (m : Nat) : Prop :=
  if q4o o.op = true then
    match q2r (rho env) (strip H) o.op with
    | some (g, args) => q4g P g = true ∧ CSat P g args H m fun out H' m' => match out with
      | .ret v => q1a P ops Q rest (upd env o.dst v) H' m'
      | .pan v => Q (.pan v) env H' m'
    | none => False
  else if isPanic o.op = true then
    match panicP (rho env) (strip H) o.op with
    | some p => Q (.pan p) env H m
    | none => False
  else (match evOp P (rho env) (strip H) H m o.op with
    | some (r, e) => q1a P ops Q rest (upd env o.dst r) (e.app m H) (m + e.cnt)
    | none => False) ∨ (match evBs P (rho env) (strip H) H m o.op with
    | some (r, e) => q1a P ops Q rest (upd env o.dst r) (e.app m H) (m + e.cnt)
    | none => False)
def gW (want : Bool) : PV → Option Bool
  | .bool b => some (b == want)
  | .undef => some false
  | _ => none
def wGo (a b : Prop) : Option Bool → Prop
  | some c => (c = true → a) ∧ (c = false → b)
  | none => False
theorem q0p (hg : o.guard = none) (h : q1f P ops Q rest o env H m) : q1a P ops Q (o :: rest) env H m := by
  simp only [q1a, pwOp, q5s, hg]; exact h
def dstAtL : List Oper → Nat → Option Tmp
  | [], _ => none
  | o :: _, 0 => o.dst
  | _ :: l, n + 1 => dstAtL l n
theorem x0a : ∀ (l : List Oper) (j : Nat), (l.toArray[j]?).bind (·.dst) = dstAtL l j
  | [], j => by simp [dstAtL]
  | o :: l, 0 => by simp [dstAtL]
  | o :: l, j + 1 => by have := x0a l j; simpa [dstAtL] using this
theorem pops_w {j d : Nat} {want : Bool} (hg : o.guard = some (j, want)) (hd : (ops[j]?).bind (·.dst) = some d) {v : _} (hx : Nm (env d) v) (h : wGo (q1f P ops Q rest o env H m) (q1a P ops Q rest (upd env o.dst .undef) H m) (gW want v)) : q1a P ops Q (o :: rest) env H m := by
  have := h
  rw [← hx] at this
  have hw : q5s ops env o = gW want (env d) := by simp only [q5s, hg, hd, gW]; rfl
  simp only [q1a, pwOp]
  rw [hw]
  cases hw : gW want (env d) with
  | none => rw [hw] at this; exact this.elim
  | some b =>
    rw [hw] at this
    cases b with
    | true => exact this.1 rfl
    | false => exact this.2 rfl
theorem q1c {l : List Oper} {j d : Nat} {want : Bool} (hg : o.guard = some (j, want)) (hd : dstAtL l j = some d) {v : _} (h : wGo (q1f P l.toArray Q rest o env H m) (q1a P l.toArray Q rest (upd env o.dst .undef) H m) (gW want v)) (hx : Nm (env d) v := by (try simp only [go_sem, *]); exact nm) : q1a P l.toArray Q (o :: rest) env H m := pops_w hg ((x0a l j).trans hd) hx h
theorem gw_u {a b : Prop} {want : Bool} (h : b) : wGo a b (gW want .undef) := ⟨fun e => (by cases e), fun _ => h⟩
theorem q1v {a b : Prop} (h : a) : wGo a b (gW true (.bool true)) := ⟨fun _ => h, fun e => (by cases e)⟩
theorem q1x {a b : Prop} (h : b) : wGo a b (gW true (.bool false)) := ⟨fun e => (by cases e), fun _ => h⟩
theorem q1z {a b : Prop} (h : b) : wGo a b (gW false (.bool true)) := ⟨fun e => (by cases e), fun _ => h⟩
theorem q2b {a b : Prop} (h : a) : wGo a b (gW false (.bool false)) := ⟨fun _ => h, fun e => (by cases e)⟩
theorem q1y {a b : Prop} {c : Bool} (h : c = true → a) (k : c = false → b) : wGo a b (gW true (.bool c)) := by cases c <;> exact ⟨fun e => (by first | exact h rfl | cases e), fun e => (by first | exact k rfl | cases e)⟩
theorem q2c {a b : Prop} {c : Bool} (h : c = false → a) (k : c = true → b) : wGo a b (gW false (.bool c)) := by cases c <;> exact ⟨fun e => (by first | exact h rfl | cases e), fun e => (by first | exact k rfl | cases e)⟩
theorem q1w {a b : Prop} {c : Bool} (h : c = false → a) (k : c = true → b) : wGo a b (gW true (.bool !c)) := by cases c <;> exact ⟨fun e => (by first | exact h rfl | cases e), fun e => (by first | exact k rfl | cases e)⟩
theorem q2a {a b : Prop} {c : Bool} (h : c = true → a) (k : c = false → b) : wGo a b (gW false (.bool !c)) := by cases c <;> exact ⟨fun e => (by first | exact h rfl | cases e), fun e => (by first | exact k rfl | cases e)⟩
theorem q0n (hc : q4o o.op = false) (hp : isPanic o.op = false) {x : _} (h : goOn P ops Q rest o.dst env H m x) (hx : Nm (evOp P (rho env) (strip H) H m o.op) x := by (try simp only [go_sem, *]); exact nm) : q1f P ops Q rest o env H m := by
  have := h
  rw [← hx] at this
  simp only [q1f, hc, hp, Bool.false_eq_true, if_false]
  exact .inl this
theorem run_bs (hc : q4o o.op = false) (hp : isPanic o.op = false) {x : _} (h : goOn P ops Q rest o.dst env H m x) (hx : Nm (evBs P (rho env) (strip H) H m o.op) x := by (try simp only [go_sem, *]); exact nm) : q1f P ops Q rest o env H m := by
  have := h
  rw [← hx] at this
  simp only [q1f, hc, hp, Bool.false_eq_true, if_false]
  exact .inr this
theorem q0s {d : Option Tmp} {r : PV} (h : q1a P ops Q rest (upd env d r) H m) : goOn P ops Q rest d env H m (some (r, .nop)) := h
theorem q0u {d : Option Tmp} {r : PV} {l : List PV} {n : Nat} (h : q1a P ops Q rest (upd env d r) (hset H m (some (.box l))) n) (hx : Nm (m + 1) n := by (try simp only [go_sem, *]); exact nm) : goOn P ops Q rest d env H m (some (r, .new l)) := by rw [← hx] at h; exact h
theorem q1t {d : Option Tmp} {r : PV} {e sz : Nat} {l : List (List PV)} {n : Nat} (h : q1a P ops Q rest (upd env d r) (hset H m (some (.row e sz l))) n) (hx : Nm (m + 1) n := by (try simp only [go_sem, *]); exact nm) : goOn P ops Q rest d env H m (some (r, .born e sz l)) := by rw [← hx] at h; exact h
theorem q1s {d : Option Tmp} {r : PV} {id e sz : Nat} {l : List (List PV)} (h : q1a P ops Q rest (upd env d r) (hset H id (some (.row e sz l))) m) : goOn P ops Q rest d env H m (some (r, .grow id e sz l)) := h
theorem q0y {d : Option Tmp} {r : PV} {id off : Nat} {l : List PV} {y : Option HE} (h : q1k P ops Q rest d r env H m id off l y) (hx : Nm (H id) y := by (try simp only [go_sem, *]); exact nm) : goOn P ops Q rest d env H m (some (r, .put id off l)) := by
  have := h
  rw [← hx] at this
  unfold goOn
  cases hid : H id with
  | none => rw [hid] at this; exact this.elim
  | some y =>
    rw [hid] at this
    cases y with
    | row _ _ _ => exact this.elim
    | box c => simp only [Eff.app, hid]; exact this _ rfl
theorem q0j {d : Option Tmp} {r : PV} {id off : Nat} {l c : List PV} {l' : List PV} (h : q1a P ops Q rest (upd env d r) (hset H id (some (.box l'))) m) (hx : Nm (splice c off l) l' := by (try simp only [go_sem, *]); exact nm) : q1k P ops Q rest d r env H m id off l (some (.box c)) := fun x e => by cases e; rw [hx]; exact h
def q1u (P : Program) (ops : Array Oper) (Q : Ex → Env → Heap → Nat → Prop) (rest : List Oper) (d : Option Tmp) (env : Env) (H : Heap) (m : Nat) : Option (FuncId × List PV) → Prop
  | some (g, args) => q4g P g = true ∧ CSat P g args H m fun out H' m' => match out with
    | .ret v => q1a P ops Q rest (upd env d v) H' m'
    | .pan v => Q (.pan v) env H' m'
  | none => False
theorem q0h (hc : q4o o.op = true) {y : _} (h : q1u P ops Q rest o.dst env H m y) (hx : Nm (q2r (rho env) (strip H) o.op) y := by (try simp only [go_sem, *]); exact nm) : q1f P ops Q rest o env H m := by
  have := h
  rw [← hx] at this
  simp only [q1f, hc, if_true]
  exact this
theorem q0z {d : Option Tmp} {g : FuncId} {args : List PV} {r : PV} (hp : Pure P g args r) (h : q1a P ops Q rest (upd env d r) H m) (hent : q4g P g = true := by first | assumption | kernel_rfl) : q1u P ops Q rest d env H m (some (g, args)) := ⟨hent, csat_of_pure hp h⟩
theorem q2j {d : Option Tmp} {g : FuncId} {args : List PV} (hent : q4g P g = true) {Q' : Out → Heap → Nat → Prop} (hp : CSat P g args H m Q')
    (hr : ∀ r H' m', Q' (.ret r) H' m' → q1a P ops Q rest (upd env d r) H' m') (hx : ∀ p H' m', Q' (.pan p) H' m' → Q (.pan p) env H' m') : q1u P ops Q rest d env H m (some (g, args)) := by
  refine ⟨hent, hp.mono ?_⟩
  intro out H' m' h
  cases out with
  | ret r => exact hr r H' m' h
  | pan p => exact hx p H' m' h
def panGo (Q : Ex → Env → Heap → Nat → Prop) (env : Env) (H : Heap) (m : Nat) : Option PV → Prop
  | some p => Q (.pan p) env H m
  | none => False
theorem run_panic (hc : q4o o.op = false) (hp : isPanic o.op = true) {y : _} (hx : Nm (panicP (rho env) (strip H) o.op) y) (h : panGo Q env H m y) : q1f P ops Q rest o env H m := by
  have := h
  rw [← hx] at this
  simp only [q1f, hc, hp, Bool.false_eq_true, if_false, if_true]
  exact this
theorem pan_some {p : PV} (h : Q (.pan p) env H m) : panGo Q env H m (some p) := h
variable {K : Env → Heap → Nat → List (Eff × List Rg) → Prop}
theorem q1l (h : K env H m []) : dr P ops [] K env H m := h
def drGo (P : Program) (ops : Array Oper) (K : Env → Heap → Nat → List (Eff × List Rg) → Prop) (rest : List Oper) (o : Oper) (env : Env) (H : Heap) (m : Nat) : Prop :=
  if q4o o.op = true then
    match q2r (rho env) sp0 o.op with
    | some (g, args) => q4g P g = true ∧ ∃ r e, CallOk P g args m r e ∧ dr P ops rest (fun e' h n L => K e' h n ((e, []) :: L)) (upd env o.dst r) (e.app m H) (m + e.cnt)
    | none => False
  else (match evOp P (rho env) sp0 H m o.op with
    | some (r, e) => dr P ops rest (fun e' h n L => K e' h n ((e, rdOf P (rho env) o.op) :: L)) (upd env o.dst r) (e.app m H) (m + e.cnt)
    | none => False) ∨ (match nwOf P (rho env) sp0 o.op with
    | some (n, e, sz, fl) => dr P ops rest (fun e' h k L => K e' h k ((.new fl, []) :: L)) (upd env o.dst (.bs m n e sz)) ((Eff.new fl).app m H) (m + 1)
    | none => False)
theorem dr_n (hg : o.guard = none) (h : drGo P ops K rest o env H m) : dr P ops (o :: rest) K env H m := by
  simp only [dr, q5s, hg]; exact h
theorem dr_w {j d : Nat} {want : Bool} (hg : o.guard = some (j, want)) (hd : (ops[j]?).bind (·.dst) = some d) {v : _} (hx : Nm (env d) v) (h : wGo (drGo P ops K rest o env H m) (dr P ops rest (fun e h n L => K e h n ((.nop, []) :: L)) (upd env o.dst .undef) H m) (gW want v)) : dr P ops (o :: rest) K env H m := by
  have := h
  rw [← hx] at this
  have hw : q5s ops env o = gW want (env d) := by simp only [q5s, hg, hd, gW]; rfl
  simp only [dr]
  rw [hw]
  cases hw : gW want (env d) with
  | none => rw [hw] at this; exact this.elim
  | some b =>
    rw [hw] at this
    cases b with
    | true => exact this.1 rfl
    | false => exact this.2 rfl
theorem q2t {l : List Oper} {j d : Nat} {want : Bool} (hg : o.guard = some (j, want)) (hd : dstAtL l j = some d) {v : _} (h : wGo (drGo P l.toArray K rest o env H m) (dr P l.toArray rest (fun e h n L => K e h n ((.nop, []) :: L)) (upd env o.dst .undef) H m) (gW want v)) (hx : Nm (env d) v := by (try simp only [go_sem, *]); exact nm) : dr P l.toArray (o :: rest) K env H m := dr_w hg ((x0a l j).trans hd) hx h
def drOn (P : Program) (ops : Array Oper) (K : Env → Heap → Nat → List (Eff × List Rg) → Prop) (rest : List Oper) (d : Option Tmp) (env : Env) (H : Heap) (m : Nat) (rd : List Rg) : Option (PV × Eff) → Prop
  | some (r, e) => dr P ops rest (fun e' h n L => K e' h n ((e, rd) :: L)) (upd env d r) (e.app m H) (m + e.cnt)
  | none => False
theorem q2i (hc : q4o o.op = false) {x : Option (PV × Eff)} {rd : List Rg} (h : drOn P ops K rest o.dst env H m rd x) (hx : Nm (evOp P (rho env) sp0 H m o.op) x := by (try simp only [go_sem, *]); exact nm) (hd : Nm (rdOf P (rho env) o.op) rd := by (try simp only [go_sem, *]); exact nm) : drGo P ops K rest o env H m := by
  have := h
  rw [← hx, ← hd] at this
  simp only [drGo, hc, Bool.false_eq_true, if_false]
  exact .inl this
theorem q1m {d : Option Tmp} {r : PV} {rd : List Rg} (h : dr P ops rest (fun e' h n L => K e' h n ((.nop, rd) :: L)) (upd env d r) H m) : drOn P ops K rest d env H m rd (some (r, .nop)) := h
theorem q1q {d : Option Tmp} {r : PV} {rd : List Rg} {l : List PV} {n : Nat} (h : dr P ops rest (fun e' h n L => K e' h n ((.new l, rd) :: L)) (upd env d r) (hset H m (some (.box l))) n) (hx : Nm (m + 1) n := by (try simp only [go_sem, *]); exact nm) : drOn P ops K rest d env H m rd (some (r, .new l)) := by rw [← hx] at h; exact h
theorem q2n {d : Option Tmp} {r : PV} {rd : List Rg} {e sz : Nat} {l : List (List PV)} {n : Nat} (h : dr P ops rest (fun e' h n L => K e' h n ((.born e sz l, rd) :: L)) (upd env d r) (hset H m (some (.row e sz l))) n) (hx : Nm (m + 1) n := by (try simp only [go_sem, *]); exact nm) : drOn P ops K rest d env H m rd (some (r, .born e sz l)) := by rw [← hx] at h; exact h
theorem q2m {d : Option Tmp} {r : PV} {rd : List Rg} {id e sz : Nat} {l : List (List PV)} (h : dr P ops rest (fun e' h n L => K e' h n ((.grow id e sz l, rd) :: L)) (upd env d r) (hset H id (some (.row e sz l))) m) : drOn P ops K rest d env H m rd (some (r, .grow id e sz l)) := h
def q1o (P : Program) (ops : Array Oper) (K : Env → Heap → Nat → List (Eff × List Rg) → Prop) (rest : List Oper) (d : Option Tmp) (r : PV) (env : Env) (H : Heap) (m id off : Nat) (l : List PV) (rd : List Rg) : Option HE → Prop
  | some (.box c) => ∀ l', splice c off l = l' → dr P ops rest (fun e' h n L => K e' h n ((.put id off l, rd) :: L)) (upd env d r) (hset H id (some (.box l'))) m
  | _ => False
theorem q1p {d : Option Tmp} {r : PV} {id off : Nat} {l : List PV} {rd : List Rg} {y : Option HE} (h : q1o P ops K rest d r env H m id off l rd y) (hx : Nm (H id) y := by (try simp only [go_sem, *]); exact nm) : drOn P ops K rest d env H m rd (some (r, .put id off l)) := by
  have := h
  rw [← hx] at this
  unfold drOn
  cases hid : H id with
  | none => rw [hid] at this; exact this.elim
  | some y =>
    rw [hid] at this
    cases y with
    | row _ _ _ => exact this.elim
    | box c => simp only [Eff.app, hid]; exact this _ rfl
theorem q1b {d : Option Tmp} {r : PV} {id off : Nat} {l c : List PV} {rd : List Rg} {l' : List PV} (h : dr P ops rest (fun e' h n L => K e' h n ((.put id off l, rd) :: L)) (upd env d r) (hset H id (some (.box l'))) m) (hx : Nm (splice c off l) l' := by (try simp only [go_sem, *]); exact nm) : q1o P ops K rest d r env H m id off l rd (some (.box c)) := fun x e => by cases e; rw [hx]; exact h
def q2h (P : Program) (ops : Array Oper) (K : Env → Heap → Nat → List (Eff × List Rg) → Prop) (rest : List Oper) (d : Option Tmp) (env : Env) (H : Heap) (m : Nat) : Option (FuncId × List PV) → Prop
  | some (g, args) => q4g P g = true ∧ ∃ r e, CallOk P g args m r e ∧ dr P ops rest (fun e' h n L => K e' h n ((e, []) :: L)) (upd env d r) (e.app m H) (m + e.cnt)
  | none => False
theorem q1j (hc : q4o o.op = true) {y : _} (h : q2h P ops K rest o.dst env H m y) (hx : Nm (q2r (rho env) sp0 o.op) y := by (try simp only [go_sem, *]); exact nm) : drGo P ops K rest o env H m := by
  have := h
  rw [← hx] at this
  simp only [drGo, hc, if_true]
  exact this
theorem q1i {d : Option Tmp} {g : FuncId} {args : List PV} {r : PV} (hp : Pure P g args r) (h : dr P ops rest (fun e h n L => K e h n ((.nop, []) :: L)) (upd env d r) H m) (hent : q4g P g = true := by first | assumption | kernel_rfl) : q2h P ops K rest d env H m (some (g, args)) := ⟨hent, r, .nop, .inl ⟨hp, rfl⟩, h⟩
theorem dcall_born {d : Option Tmp} {g : FuncId} {args : List PV} {rf : Nat → PV} {e sz : Nat} {els : List (List PV)} {n : Nat} {r : PV} (hent : q4g P g = true) (hp : BornC P g args rf (.born e sz els)) (hr : Nm (rf m) r) (hx : Nm (m + 1) n) (h : dr P ops rest (fun e' h n L => K e' h n ((.born e sz els, []) :: L)) (upd env d r) (hset H m (some (.row e sz els))) n) : q2h P ops K rest d env H m (some (g, args)) := by
  rw [← hr, ← hx] at h
  exact ⟨hent, rf m, .born e sz els, .inr ⟨rf, hp, rfl⟩, h⟩
variable {Kq : Env → Prop}
theorem dq_nil (h : Kq env) : drq P ops [] Kq env H m := h
def dqGo (P : Program) (ops : Array Oper) (Kq : Env → Prop) (rest : List Oper) (o : Oper) (env : Env) (H : Heap) (m : Nat) : Prop :=
  if q4o o.op = true then
    match q2r (rho env) sp0 o.op with
    | some (g, args) => q4g P g = true ∧ ∃ r, CallQ P g args H m r ∧ drq P ops rest Kq (upd env o.dst r) H m
    | none => False
  else match evOp P (rho env) sp0 H m o.op with
    | some (r, .nop) => drq P ops rest Kq (upd env o.dst r) H m
    | _ => False
theorem dq_n (hg : o.guard = none) (h : dqGo P ops Kq rest o env H m) : drq P ops (o :: rest) Kq env H m := by
  simp only [drq, q5s, hg]; exact h
theorem dq_w {j d : Nat} {want : Bool} (hg : o.guard = some (j, want)) (hd : (ops[j]?).bind (·.dst) = some d) {v : _} (hx : Nm (env d) v) (h : wGo (dqGo P ops Kq rest o env H m) (drq P ops rest Kq (upd env o.dst .undef) H m) (gW want v)) : drq P ops (o :: rest) Kq env H m := by
  have := h
  rw [← hx] at this
  have hw : q5s ops env o = gW want (env d) := by simp only [q5s, hg, hd, gW]; rfl
  simp only [drq]
  rw [hw]
  cases hw : gW want (env d) with
  | none => rw [hw] at this; exact this.elim
  | some b =>
    rw [hw] at this
    cases b with
    | true => exact this.1 rfl
    | false => exact this.2 rfl
theorem dq_w' {l : List Oper} {j d : Nat} {want : Bool} (hg : o.guard = some (j, want)) (hd : dstAtL l j = some d) {v : _} (h : wGo (dqGo P l.toArray Kq rest o env H m) (drq P l.toArray rest Kq (upd env o.dst .undef) H m) (gW want v)) (hx : Nm (env d) v := by (try simp only [go_sem, *]); exact nm) : drq P l.toArray (o :: rest) Kq env H m := dq_w hg ((x0a l j).trans hd) hx h
theorem dq_ev (hc : q4o o.op = false) {r : PV} (h : drq P ops rest Kq (upd env o.dst r) H m) (hx : Nm (evOp P (rho env) sp0 H m o.op) (some (r, .nop)) := by (try simp only [go_sem, *]); exact nm) : dqGo P ops Kq rest o env H m := by
  simp only [dqGo, hc, Bool.false_eq_true, if_false]
  rw [hx]; exact h
def dqcGo (P : Program) (ops : Array Oper) (Kq : Env → Prop) (rest : List Oper) (d : Option Tmp) (env : Env) (H : Heap) (m : Nat) : Option (FuncId × List PV) → Prop
  | some (g, args) => q4g P g = true ∧ ∃ r, CallQ P g args H m r ∧ drq P ops rest Kq (upd env d r) H m
  | none => False
theorem dq_call (hc : q4o o.op = true) {y : _} (h : dqcGo P ops Kq rest o.dst env H m y) (hx : Nm (q2r (rho env) sp0 o.op) y := by (try simp only [go_sem, *]); exact nm) : dqGo P ops Kq rest o env H m := by
  have := h
  rw [← hx] at this
  simp only [dqGo, hc, if_true]
  exact this
theorem callQ_pure {g : FuncId} {args : List PV} {r : PV} (h : Pure P g args r) : CallQ P g args H m r := fun H' m' _ _ => csat_of_pure h ⟨rfl, Nat.le_refl _, fun _ _ => rfl⟩
theorem dqc_pure {d : Option Tmp} {g : FuncId} {args : List PV} {r : PV} (hp : Pure P g args r) (h : drq P ops rest Kq (upd env d r) H m) (hent : q4g P g = true := by first | assumption | kernel_rfl) : dqcGo P ops Kq rest d env H m (some (g, args)) := ⟨hent, r, callQ_pure hp, h⟩
theorem dqc_q {d : Option Tmp} {g : FuncId} {args : List PV} {r : PV} (hp : CallQ P g args H m r) (h : drq P ops rest Kq (upd env d r) H m) (hent : q4g P g = true := by first | assumption | kernel_rfl) : dqcGo P ops Kq rest d env H m (some (g, args)) := ⟨hent, r, hp, h⟩
variable {x y c : Code}
theorem q0f (h : Q .normal env H m) : q0i P m0 .skip Q env H m := h
theorem q0c {id : Nat} {l : List Oper} (h : q1a P l.toArray Q l env H m) : q0i P m0 (.region id l.toArray false) Q env H m := h
theorem q1h {id : Nat} {l : List Oper} (hok : q3e l.toArray = true) (h : dr P l.toArray l (fun env' H' m' L => q1r L = true ∧ Q .normal env' H' m') env H m) : q0i P m0 (.region id l.toArray true) Q env H m := .inl ⟨hok, .inl h⟩
theorem q9q {id : Nat} {l : List Oper} (hok : q3e l.toArray = true) (h : dr P l.toArray l (fun env' H' m' L => q3f l.toArray 0 L = true ∧ Q .normal env' H' m') env H m) : q0i P m0 (.region id l.toArray true) Q env H m := .inl ⟨hok, .inr h⟩
theorem pc_drawL {id : Nat} {l : List Oper} (n : Nat) (ht : tailOk l.toArray (l.take n).length = true) (hok : q3e (l.take n).toArray = true) (h : dr P (l.take n).toArray (l.take n) (fun env' H' m' L => q1r L = true ∧ q1a P l.toArray Q (l.drop n) env' H' m') env H m) : q0i P m0 (.region id l.toArray true) Q env H m := .inr (.inl ⟨l.take n, l.drop n, (List.take_append_drop n l).symm, ht, hok, h⟩)
theorem pc_drawQ {id : Nat} {l : List Oper} (hok : q3e l.toArray = true) (h : drq P l.toArray l (fun env' => ∀ H' m', m ≤ m' → (∀ i, i < m → H' i = H i) → Q .normal env' H' m') env H m) : q0i P m0 (.region id l.toArray true) Q env H m := .inr (.inr ⟨hok, h⟩)
theorem q0q (h : q0i P m0 x (Ex.then (q0i P m0 y Q) Q) env H m) : q0i P m0 (.seq x y) Q env H m := h
theorem q0k {id : Nat} (h : q0i P m0 x (Ex.inBlock id Q) env H m) : q0i P m0 (.block id x) Q env H m := h
theorem q0w {id : Nat} (h : Q (.exit id) env H m) : q0i P m0 (.exit id) Q env H m := h
theorem q0r (h : Q .ret env H m) : q0i P m0 .ret Q env H m := h
def q1d (a b : Prop) : PV → Prop
  | .bool c => (c = true → a) ∧ (c = false → b)
  | _ => False
theorem q0t {a : Operand} {v : _} (h : q1d (q0i P m0 x Q env H m) (q0i P m0 y Q env H m) v) (hx : Nm (rho env a) v := by (try simp only [go_sem, *]); exact nm) : q0i P m0 (.cond a x y) Q env H m := by
  have := h
  rw [← hx] at this
  simp only [q0i]
  cases hv : rho env a <;> rw [hv] at this <;> first | exact this.elim | exact this
theorem cd_t {a b : Prop} (h : a) : q1d a b (.bool true) := ⟨fun _ => h, fun e => (by cases e)⟩
theorem cd_f {a b : Prop} (h : b) : q1d a b (.bool false) := ⟨fun e => (by cases e), fun _ => h⟩
theorem cd_b {a b : Prop} {c : Bool} (h : c = true → a) (k : c = false → b) : q1d a b (.bool c) := ⟨h, k⟩
theorem cd_n {a b : Prop} {c : Bool} (h : c = false → a) (k : c = true → b) : q1d a b (.bool !c) := ⟨fun e => h (by simpa using e), fun e => k (by simpa using e)⟩
variable {next : Env → Heap → Nat → Prop}
theorem q0a (h : next env H m) : Ex.then next Q .normal env H m := h
theorem q0v {id : Nat} (h : Q (.exit id) env H m) : Ex.then next Q (.exit id) env H m := h
theorem q0m (h : Q .ret env H m) : Ex.then next Q .ret env H m := h
theorem q0l {p : PV} (h : Q (.pan p) env H m) : Ex.then next Q (.pan p) env H m := h
theorem q0g {id : Nat} (h : Q .normal env H m) : Ex.inBlock id Q .normal env H m := h
theorem q0x {id : Nat} (h : Q .normal env H m) : Ex.inBlock id Q (.exit id) env H m := by simp only [Ex.inBlock, if_true]; exact h
theorem q1g {id : Nat} (h : Q .ret env H m) : Ex.inBlock id Q .ret env H m := h
theorem q1e {id : Nat} {p : PV} (h : Q (.pan p) env H m) : Ex.inBlock id Q (.pan p) env H m := h
variable {rs : List ResultVar} {Q' : Out → Heap → Nat → Prop}
def resGo (Q' : Out → Heap → Nat → Prop) (H : Heap) (m : Nat) : Option PV → Prop
  | some r => Q' (.ret r) H m
  | none => False
theorem q0o {y : _} (h : resGo Q' H m y) (hx : Nm (q8y P rs env H) y := by (try simp only [go_sem, *]); exact nm) : retQ P rs Q' .ret env H m := by
  have := h
  rw [← hx] at this
  simp only [retQ]; exact this
theorem q0b {y : _} (h : resGo Q' H m y) (hx : Nm (q8y P rs env H) y := by (try simp only [go_sem, *]); exact nm) : retQ P rs Q' .normal env H m := by
  have := h
  rw [← hx] at this
  simp only [retQ]; exact this
theorem q0e {r : PV} (h : Q' (.ret r) H m) : resGo Q' H m (some r) := h
theorem q4x {p : PV} (h : Q' (.pan p) H m) : retQ P rs Q' (.pan p) env H m := h
end
/-- Each of these names own blocks of S alone. -/
def BdL (S : Nat → Prop) (l : List PV) : Prop := ∀ p ∈ l, Bd S p
section
variable {S : Nat → Prop}
@[go_sem] theorem Bd_nilsl : Bd S .nilsl = True := eq_true .nilsl
@[go_sem] theorem Bd_bool (b : Bool) : Bd S (.bool b) = True := eq_true (.bool b)
@[go_sem] theorem Bd_int (k : IntKind) (n : Int) : Bd S (.int k n) = True := eq_true (.int k n)
@[go_sem] theorem Bd_agg (l : List PV) : Bd S (.agg l) = BdL S l := propext ⟨fun h => by cases h with | agg _ h => exact h, fun h => .agg _ h⟩
@[go_sem] theorem Bd_tup (l : List PV) : Bd S (.tup l) = BdL S l := propext ⟨fun h => by cases h with | tup _ h => exact h, fun h => .tup _ h⟩
@[go_sem] theorem Bd_ptr (i o : Nat) : Bd S (.ptr i o) = S i := propext ⟨fun h => by cases h with | ptr _ _ h => exact h, fun h => .ptr _ _ h⟩
@[go_sem] theorem Bd_gr (i k : Nat) : Bd S (.gr i k) = S i := propext ⟨fun h => by cases h with | gr _ _ h => exact h, fun h => .gr _ _ h⟩
@[go_sem] theorem Bd_fn (f : Fn) (a b : List PV) : Bd S (.fn f a b) = (BdL S a ∧ BdL S b) := propext ⟨fun h => by cases h with | fn _ _ _ h k => exact ⟨h, k⟩, fun h => .fn _ _ _ h.1 h.2⟩
@[go_sem] theorem BdL_nil : BdL S [] = True := eq_true fun p h => by cases h
@[go_sem] theorem BdL_cons (p : PV) (l : List PV) : BdL S (p :: l) = (Bd S p ∧ BdL S l) := propext ⟨fun h => ⟨h p (by simp), fun q hq => h q (by simp [hq])⟩, fun h q hq => by
  rcases List.mem_cons.1 hq with rfl | hq
  · exact h.1
  · exact h.2 q hq⟩
@[go_sem] theorem Bd_sl0 : Bd S (.sl []) = True := eq_true (.sl _ fun e he => by cases he)
@[go_sem] theorem Bd_sl1 (a : List PV) (l : List (List PV)) : Bd S (.sl (a :: l)) = (BdL S a ∧ Bd S (.sl l)) := propext ⟨fun h => by cases h with | sl _ h => exact ⟨h a (by simp), .sl _ fun e he => h e (by simp [he])⟩, fun h => by
  cases h.2 with
  | sl _ k => exact .sl _ fun e he => (List.mem_cons.1 he).elim (fun q => q ▸ h.1) (fun q => k e q)⟩
theorem Bd_slm {α : Type} {f : α → List PV} (h : ∀ x, BdL S (f x)) (l : List α) : Bd S (.sl (List.map f l)) = True := eq_true (.sl _ fun e he => by obtain ⟨y, _, rfl⟩ := List.mem_map.1 he; exact h y)
end
theorem q2y {P : Program} {f : FuncId} {fn : Func} {c : Code} {args : List PV} {r : PV} {rs : List ResultVar} (hm : P.follows .mixedOrders = true) (ha : BdL (fun _ => False) args) (hr : NoId r) (hf : P.funcs[f]? = some fn) (hrs : fn.results = rs.toArray) (hb : fn.body = some c) (hn : args.length ≤ fn.ntmps)
    (hd : q6r fn.ntmps c = true) (h : q0i P 0 c (retQ P rs (fun out _ _ => out = .ret r)) (q5n args) (fun _ => none) 0) : Pure P f args r := pure_of_csat ha hr (CSat_of_pw hm hf hb hn hd (by rw [hrs]; simpa using h))
/-- A contract over own boxes, by the code. -/
theorem q4u {P : Program} {f : FuncId} {fn : Func} {c : Code} {args : List PV} {H : Heap} {m : Nat} {Q : Out → Heap → Nat → Prop} {rs : List ResultVar} (hm : P.follows .mixedOrders = true) (hf : P.funcs[f]? = some fn) (hrs : fn.results = rs.toArray) (hb : fn.body = some c) (hn : args.length ≤ fn.ntmps)
    (hd : q6r fn.ntmps c = true) (h : q0i P m c (retQ P rs Q) (q5n args) H m) : CSat P f args H m Q := CSat_of_pw hm hf hb hn hd (by rw [hrs]; simpa using h)
theorem pwOps_mono {P : Program} {ops : Array Oper} {Q Q' : Ex → Env → Heap → Nat → Prop} (hq : ∀ ex env H m, Q ex env H m → Q' ex env H m) : ∀ (l : List Oper) (env : Env) (H : Heap) (m : Nat), q1a P ops Q l env H m → q1a P ops Q' l env H m := by
  intro l
  induction l with
  | nil => intro env H m h; exact hq _ _ _ _ h
  | cons o rest ih =>
    intro env H m h
    simp only [q1a, pwOp] at h ⊢
    split at h
    · by_cases h1 : q4o o.op = true
      · rw [if_pos h1] at h ⊢
        split at h
        · refine ⟨h.1, h.2.mono ?_⟩
          intro out H' m' k
          cases out with
          | ret v => exact ih _ _ _ k
          | pan v => exact hq _ _ _ _ k
        · exact h.elim
      · rw [if_neg h1] at h ⊢
        by_cases h2 : isPanic o.op = true
        · rw [if_pos h2] at h ⊢
          split at h
          · exact hq _ _ _ _ h
          · exact h.elim
        · rw [if_neg h2] at h ⊢
          rcases h with h | h
          · split at h
            · exact .inl (ih _ _ _ h)
            · exact h.elim
          · split at h
            · exact .inr (ih _ _ _ h)
            · exact h.elim
    · exact ih _ _ _ h
    · exact h.elim
theorem dr_mono {P : Program} {ops : Array Oper} : ∀ (l : List Oper) (K K' : Env → Heap → Nat → List (Eff × List Rg) → Prop) (hk : ∀ e h m L, K e h m L → K' e h m L) (env : Env) (H : Heap) (m : Nat), dr P ops l K env H m → dr P ops l K' env H m := by
  intro l
  induction l with
  | nil => intro K K' hk env H m h; exact hk _ _ _ _ h
  | cons o rest ih =>
    intro K K' hk env H m h
    simp only [dr] at h ⊢
    split at h
    · exact ih _ _ (fun e h m L k => hk _ _ _ _ k) _ _ _ h
    · by_cases h1 : q4o o.op = true
      · rw [if_pos h1] at h ⊢
        split at h
        · obtain ⟨h1, r, e, h2, h3⟩ := h
          exact ⟨h1, r, e, h2, ih _ _ (fun e h m L k => hk _ _ _ _ k) _ _ _ h3⟩
        · exact h.elim
      · rw [if_neg h1] at h ⊢
        rcases h with h | h
        · split at h
          · exact .inl (ih _ _ (fun e h m L k => hk _ _ _ _ k) _ _ _ h)
          · exact h.elim
        · split at h
          · exact .inr (ih _ _ (fun e h m L k => hk _ _ _ _ k) _ _ _ h)
          · exact h.elim
    · exact h.elim
theorem drq_mono {P : Program} {ops : Array Oper} : ∀ (l : List Oper) (K K' : Env → Prop) (hk : ∀ e, K e → K' e) (env : Env) (H : Heap) (m : Nat), drq P ops l K env H m → drq P ops l K' env H m := by
  intro l
  induction l with
  | nil => intro K K' hk env H m h; exact hk _ h
  | cons o rest ih =>
    intro K K' hk env H m h
    simp only [drq] at h ⊢
    split at h
    · exact ih _ _ hk _ _ _ h
    · by_cases h1 : q4o o.op = true
      · rw [if_pos h1] at h ⊢
        split at h
        · obtain ⟨h1, r, h2, h3⟩ := h
          exact ⟨h1, r, h2, ih _ _ hk _ _ _ h3⟩
        · exact h.elim
      · rw [if_neg h1] at h ⊢
        split at h
        · exact ih _ _ hk _ _ _ h
        · exact h.elim
    · exact h.elim
theorem pwCode_mono {P : Program} {m0 : Nat} {Q Q' : Ex → Env → Heap → Nat → Prop} (hq : ∀ ex env H m, Q ex env H m → Q' ex env H m) (c : Code) : ∀ {env : Env} {H : Heap} {m : Nat}, q0i P m0 c Q env H m → q0i P m0 c Q' env H m := by
  induction c generalizing Q Q' with
  | skip => intro env H m h; exact hq _ _ _ _ h
  | region id ops draw =>
    intro env H m h
    cases draw with
    | false => exact pwOps_mono hq _ _ _ _ h
    | true =>
      rcases h with h | ⟨l1, l2, h1, h2, h3, h4⟩ | ⟨h1, h2⟩
      · exact .inl ⟨h.1, h.2.imp (dr_mono _ _ _ (fun e h m L k => ⟨k.1, hq _ _ _ _ k.2⟩) _ _ _) (dr_mono _ _ _ (fun e h m L k => ⟨k.1, hq _ _ _ _ k.2⟩) _ _ _)⟩
      · exact .inr (.inl ⟨l1, l2, h1, h2, h3, dr_mono _ _ _ (fun e h m L k => ⟨k.1, pwOps_mono hq _ _ _ _ k.2⟩) _ _ _ h4⟩)
      · exact .inr (.inr ⟨h1, drq_mono _ _ _ (fun e k H' m' a b => hq _ _ _ _ (k H' m' a b)) _ _ _ h2⟩)
  | seq x y ihx ihy =>
    intro env H m h
    refine ihx (Q := Ex.then (q0i P m0 y Q) Q) (Q' := Ex.then (q0i P m0 y Q') Q') ?_ h
    intro ex env H m h
    cases ex with
    | normal => exact ihy hq h
    | exit i => exact hq _ _ _ _ h
    | ret => exact hq _ _ _ _ h
    | pan v => exact hq _ _ _ _ h
  | cond c x y ihx ihy =>
    intro env H m h
    simp only [q0i] at h ⊢
    split at h
    · exact ⟨fun e => ihx hq (h.1 e), fun e => ihy hq (h.2 e)⟩
    · exact h.elim
  | block id x ih =>
    intro env H m h
    refine ih (Q := Ex.inBlock id Q) (Q' := Ex.inBlock id Q') ?_ h
    intro ex env H m h
    cases ex with
    | normal => exact hq _ _ _ _ h
    | exit i =>
      simp only [Ex.inBlock] at h ⊢
      split
      · rename_i e; rw [if_pos e] at h; exact hq _ _ _ _ h
      · rename_i e; rw [if_neg e] at h; exact hq _ _ _ _ h
    | ret => exact hq _ _ _ _ h
    | pan v => exact hq _ _ _ _ h
  | loop x ih =>
    intro env H m h
    obtain ⟨I, n, h1, h2⟩ := h
    refine ⟨I, n, h1, fun n env H m hI => ih ?_ (h2 n env H m hI)⟩
    intro ex env H m h
    cases ex with
    | normal => exact h
    | exit i => exact hq _ _ _ _ h
    | ret => exact hq _ _ _ _ h
    | pan v => exact hq _ _ _ _ h
  | exit id => intro env H m h; exact hq _ _ _ _ h
  | ret => intro env H m h; exact hq _ _ _ _ h
  | rangeFunc f p x y ihx ihy => intro env H m h; exact h.elim
  | scope x ih => intro env H m h; exact h.elim
  | label l => intro env H m h; exact h.elim
  | goto l => intro env H m h; exact h.elim
  | refuse s => intro env H m h; exact h.elim
def envL (l : List (Nat × PV)) : Env := fun t => match l.find? (fun x => x.1 == t) with
  | some x => x.2
  | none => .any
def q3h (l : List (Nat × HE)) : Heap := fun t => match l.find? (fun x => x.1 == t) with
  | some x => some x.2
  | none => none
/-- What stays known: these temporaries, and no own box but these. -/
def Keep (m0 : Nat) (env : Env) (H : Heap) (m : Nat) (E : List (Nat × PV)) (G : List (Nat × HE)) (m' : Nat) : Prop :=
  m0 ≤ m' ∧ (∀ x ∈ E, env x.1 = x.2 ∧ Bd (LV (q3h G)) x.2) ∧ (∀ x ∈ G, H x.1 = some x.2 ∧ m0 ≤ x.1 ∧ x.1 < m' ∧ (match x.2 with
    | .box l => ∀ p ∈ l, Bd (LV (q3h G)) p
    | .row _ _ els => ∀ r ∈ els, ∀ p ∈ r, Bd (LV (q3h G)) p))
theorem q8r {G : List (Nat × HE)} {i : Nat} {h : HE} (e : q3h G i = some h) : (i, h) ∈ G := by
  unfold q3h at e
  split at e
  · rename_i x hx
    cases e
    have h1 := List.find?_some hx
    have h2 := List.mem_of_find?_eq_some hx
    have : x.1 = i := by simpa using h1
    subst this
    exact h2
  · cases e
theorem wk_of_keep {m0 : Nat} {env : Env} {H : Heap} {m : Nat} {E : List (Nat × PV)} {G : List (Nat × HE)} {m' : Nat} (hH : ∀ i, i < m0 → H i = none) (h : Keep m0 env H m E G m') : Wk m0 env H m (envL E) (q3h G) m' := by
  obtain ⟨h1, h2, h3⟩ := h
  refine ⟨h1, fun i => ?_, fun i hi => ?_, fun t => ?_, fun i l hl => ?_, fun i e sz els hl => ?_⟩
  · cases hg : q3h G i with
    | none =>
      by_cases hi : i < m0
      · exact .inl (hH i hi).symm
      · exact .inr ⟨Nat.le_of_not_lt hi, rfl⟩
    | some x => exact .inl (h3 _ (q8r hg)).1.symm
  · cases hg : q3h G i with
    | none => rfl
    | some x => have := (h3 _ (q8r hg)).2.2.1; simp only at this; omega
  · unfold envL
    split
    · rename_i x hx
      have h4 := List.find?_some hx
      have h5 := List.mem_of_find?_eq_some hx
      have : x.1 = t := by simpa using h4
      subst this
      obtain ⟨h6, h7⟩ := h2 x h5
      exact .inr ⟨h6.symm, by rw [h6]; exact h7⟩
    · exact .inl rfl
  · have := (h3 _ (q8r hl)).2.2.2; exact this
  · have := (h3 _ (q8r hl)).2.2.2; exact this
/-- Once more, with less to go. -/
def q4c {S : Type} (m0 : Nat) (μ : S → Nat) (Inv : S → Prop) (E : S → List (Nat × PV)) (G : S → List (Nat × HE)) (mm : S → Nat) (s : S) (env : Env) (H : Heap) (m : Nat) : Prop :=
  ∃ s', μ s' < μ s ∧ Inv s' ∧ Keep m0 env H m (E s') (G s') (mm s')
theorem q3g {P : Program} {x : Code} {Q : Ex → Env → Heap → Nat → Prop} {env : Env} {H : Heap} {m : Nat} {S : Type} (μ : S → Nat) (Inv : S → Prop) (E : S → List (Nat × PV)) (G : S → List (Nat × HE)) (mm : S → Nat) (s0 : S) (h0 : Inv s0)
    (hk : Keep 0 env H m (E s0) (G s0) (mm s0)) (hr : ∀ s, Inv s → q0i P 0 x (Ex.then (q4c 0 μ Inv E G mm s) Q) (envL (E s)) (q3h (G s)) (mm s)) : q0i P 0 (.loop x) Q env H m := by
  refine ⟨fun n env H m => ∃ s, μ s = n ∧ Inv s ∧ env = envL (E s) ∧ H = q3h (G s) ∧ m = mm s, μ s0, ⟨_, _, _, wk_of_keep (fun i hi => absurd hi (Nat.not_lt_zero i)) hk, s0, rfl, h0, rfl, rfl, rfl⟩, ?_⟩
  rintro n env H m ⟨s, rfl, hs, rfl, rfl, rfl⟩
  have := hr s hs
  refine pwCode_mono (fun ex env' H' m' hq => ?_) x this
  cases ex with
  | normal =>
    obtain ⟨s', h1, h2, h3⟩ := hq
    exact ⟨μ s', h1, _, _, _, wk_of_keep (fun i hi => absurd hi (Nat.not_lt_zero i)) h3, s', rfl, h2, rfl, rfl, rfl⟩
  | exit i => exact hq
  | ret => exact hq
  | pan v => exact hq
def KE (S : Nat → Prop) (env : Env) (E : List (Nat × PV)) : Prop := ∀ x ∈ E, env x.1 = x.2 ∧ Bd S x.2
theorem q2d {S : Nat → Prop} {env : Env} : KE S env [] := fun x h => by cases h
theorem q1n {S : Nat → Prop} {env : Env} {t : Nat} {v : PV} {E : List (Nat × PV)} (h : env t = v) (hb : Bd S v) (k : KE S env E) : KE S env ((t, v) :: E) := fun x hx => by
  rcases List.mem_cons.1 hx with rfl | hx
  · exact ⟨h, hb⟩
  · exact k x hx
def KG (S : Nat → Prop) (H : Heap) (m' : Nat) (G : List (Nat × HE)) : Prop := ∀ x ∈ G, H x.1 = some x.2 ∧ x.1 < m' ∧ (match x.2 with
    | .box l => ∀ p ∈ l, Bd S p
    | .row _ _ els => ∀ r ∈ els, ∀ p ∈ r, Bd S p)
theorem q2f {S : Nat → Prop} {H : Heap} {m' : Nat} : KG S H m' [] := fun x h => by cases h
theorem q2g {S : Nat → Prop} {H : Heap} {m' i : Nat} {l : List PV} {G : List (Nat × HE)} (h : H i = some (.box l)) (hi : i < m') (hb : BdL S l) (k : KG S H m' G) : KG S H m' ((i, .box l) :: G) := fun x hx => by
  rcases List.mem_cons.1 hx with rfl | hx
  · exact ⟨h, hi, hb⟩
  · exact k x hx
theorem q2e {S : Nat → Prop} {H : Heap} {m' i e sz : Nat} {els : List (List PV)} {G : List (Nat × HE)} (h : H i = some (.row e sz els)) (hi : i < m') (hb : Bd S (.sl els)) (k : KG S H m' G) : KG S H m' ((i, .row e sz els) :: G) := fun x hx => by
  rcases List.mem_cons.1 hx with rfl | hx
  · exact ⟨h, hi, by cases hb with | sl _ hb => exact hb⟩
  · exact k x hx
theorem q2q {env : Env} {H : Heap} {m : Nat} {E : List (Nat × PV)} {G : List (Nat × HE)} {m' : Nat} (h : KE (LV (q3h G)) env E) (k : KG (LV (q3h G)) H m' G) : Keep 0 env H m E G m' := ⟨Nat.zero_le _, h, fun x hx => ⟨(k x hx).1, Nat.zero_le _, (k x hx).2⟩⟩
@[go_sem] theorem LV_cons (i j : Nat) (x : HE) (G : List (Nat × HE)) : LV (q3h ((i, x) :: G)) j = if j = i then True else LV (q3h G) j := by
  unfold LV q3h
  simp only [List.find?_cons]
  by_cases h : j = i
  · subst h; simp
  · rw [if_neg h]; have : (i == j) = false := by simpa using Ne.symm h
    rw [this]
@[go_sem ↓] theorem envL_cons (t : Nat) (v : PV) (l : List (Nat × PV)) (u : Nat) : envL ((t, v) :: l) u = if u = t then v else envL l u := by
  simp only [envL, List.find?_cons]
  by_cases h : u = t
  · subst h; simp
  · rw [if_neg h]; have : (t == u) = false := by simpa using Ne.symm h
    rw [this]
@[go_sem ↓] theorem envL_nil (u : Nat) : envL [] u = .any := rfl
@[go_sem ↓] theorem heapL_cons (t : Nat) (v : HE) (l : List (Nat × HE)) (u : Nat) : q3h ((t, v) :: l) u = if u = t then some v else q3h l u := by
  simp only [q3h, List.find?_cons]
  by_cases h : u = t
  · subst h; simp
  · rw [if_neg h]; have : (t == u) = false := by simpa using Ne.symm h
    rw [this]
@[go_sem ↓] theorem heapL_nil (u : Nat) : q3h [] u = none := rfl
/-- A loop in a function that was handed boxes of its caller: these stay as they are, and no other box is known. -/
def q3z (m0 : Nat) (G : List (Nat × HE)) (env : Env) (H : Heap) (E : List (Nat × PV)) : Prop := (∀ i, i < m0 → H i = q3h G i) ∧ KE (LV (q3h G)) env E
def q3n {S : Type} (m0 : Nat) (G : List (Nat × HE)) (μ : S → Nat) (Inv : S → Prop) (E : S → List (Nat × PV)) (s : S) (env : Env) (H : Heap) (m : Nat) : Prop := ∃ s', μ s' < μ s ∧ Inv s' ∧ m0 ≤ m ∧ q3z m0 G env H (E s')
theorem pc_loopK {P : Program} {x : Code} {Q : Ex → Env → Heap → Nat → Prop} {env : Env} {H : Heap} {m m0 : Nat} {S : Type} (G : List (Nat × HE)) (hG : ∀ i, m0 ≤ i → q3h G i = none) (hB : ∀ i l, q3h G i = some (.box l) → ∀ p ∈ l, Bd (LV (q3h G)) p) (hR : ∀ i e sz els, q3h G i ≠ some (.row e sz els))
    (μ : S → Nat) (Inv : S → Prop) (E : S → List (Nat × PV)) (s0 : S) (h0 : Inv s0) (hm : m0 ≤ m) (hk : q3z m0 G env H (E s0)) (hr : ∀ s, Inv s → q0i P m0 x (Ex.then (q3n m0 G μ Inv E s) Q) (envL (E s)) (q3h G) m0) : q0i P m0 (.loop x) Q env H m := by
  have wk : ∀ {env : Env} {H : Heap} {m : Nat} {s : S}, m0 ≤ m → q3z m0 G env H (E s) → Wk m0 env H m (envL (E s)) (q3h G) m0 := by
    rintro env H m s hm ⟨h1, h2⟩
    refine ⟨Nat.le_refl _, fun i => ?_, hG, fun t => ?_, hB, fun i e sz els h => absurd h (hR i e sz els)⟩
    · by_cases hi : i < m0
      · exact .inl (h1 i hi).symm
      · exact .inr ⟨Nat.le_of_not_lt hi, hG i (Nat.le_of_not_lt hi)⟩
    · unfold envL
      split
      · rename_i x hx
        have h4 := List.find?_some hx
        have h5 := List.mem_of_find?_eq_some hx
        have : x.1 = t := by simpa using h4
        subst this
        obtain ⟨h6, h7⟩ := h2 x h5
        exact .inr ⟨h6.symm, by rw [h6]; exact h7⟩
      · exact .inl rfl
  refine ⟨fun n env H m => ∃ s, μ s = n ∧ Inv s ∧ env = envL (E s) ∧ H = q3h G ∧ m = m0, μ s0, ⟨_, _, _, wk hm hk, s0, rfl, h0, rfl, rfl, rfl⟩, ?_⟩
  rintro n env H m ⟨s, rfl, hs, rfl, rfl, rfl⟩
  have := hr s hs
  refine pwCode_mono (fun ex env' H' m' hq => ?_) x this
  cases ex with
  | normal =>
    obtain ⟨s', h1, h2, h3, h4⟩ := hq
    exact ⟨μ s', h1, _, _, _, wk h3 h4, s', rfl, h2, rfl, rfl, rfl⟩
  | exit i => exact hq
  | ret => exact hq
  | pan v => exact hq
theorem againK {S : Type} {m0 : Nat} {G : List (Nat × HE)} {μ : S → Nat} {Inv : S → Prop} {E : S → List (Nat × PV)} {s : S} {env : Env} {H : Heap} {m : Nat} (s' : S) (h2 : Inv s') (h1 : μ s' < μ s) (h3 : m0 ≤ m) (h4 : ∀ i, i < m0 → H i = q3h G i) (h5 : KE (LV (q3h G)) env (E s')) : q3n m0 G μ Inv E s env H m := ⟨s', h1, h2, h3, h4, h5⟩
theorem hset_heapL (i : Nat) (x : HE) : hset (fun _ => none) i (some x) = q3h [(i, x)] := by
  funext j
  unfold hset q3h
  simp only [List.find?_cons, List.find?_nil]
  by_cases h : j = i
  · subst h; simp
  · rw [if_neg h]; have : (i == j) = false := by simpa using Ne.symm h
    rw [this]
attribute [irreducible] Nm gW goOn q1k q1f q1u panGo wGo drGo drOn q1o q2h q1d resGo
attribute [go_sem] Eff.app Eff.cnt eInt q9z hset PV.cells? q2r panicP q8y q7v resOne
attribute [go_sem ↓] evOp evBs nwOf
attribute [go_sem] q7o evIndex evLen evMin evAppend evSlice
@[go_sem] theorem evBin_shl (P : Program) (t : TypeId) (k k' : IntKind) (a b : Int) : q4a P .shl t (.int k a) (.int k' b) = q9z .shl k a b := rfl
@[go_sem] theorem evBin_shr (P : Program) (t : TypeId) (k k' : IntKind) (a b : Int) : q4a P .shr t (.int k a) (.int k' b) = q9z .shr k a b := rfl
@[go_sem] theorem evBin_eqb (P : Program) (t : TypeId) (a b : Bool) : q4a P .eql t (.bool a) (.bool b) = match P.underlying t with
  | some .bool => some (.bool (a == b))
  | _ => none := rfl
@[go_sem] theorem evBin_neb (P : Program) (t : TypeId) (a b : Bool) : q4a P .neq t (.bool a) (.bool b) = match P.underlying t with
  | some .bool => some (.bool (!(a == b)))
  | _ => none := rfl
@[go_sem] theorem evBin_add (P : Program) (t : TypeId) (k : IntKind) (a b : Int) : q4a P .add t (.int k a) (.int k b) = eInt .add k a b := by simp [q4a]
@[go_sem] theorem evBin_sub (P : Program) (t : TypeId) (k : IntKind) (a b : Int) : q4a P .sub t (.int k a) (.int k b) = eInt .sub k a b := by simp [q4a]
@[go_sem] theorem evBin_mul (P : Program) (t : TypeId) (k : IntKind) (a b : Int) : q4a P .mul t (.int k a) (.int k b) = eInt .mul k a b := by simp [q4a]
@[go_sem] theorem evBin_quo (P : Program) (t : TypeId) (k : IntKind) (a b : Int) : q4a P .quo t (.int k a) (.int k b) = eInt .quo k a b := by simp [q4a]
@[go_sem] theorem evBin_rem (P : Program) (t : TypeId) (k : IntKind) (a b : Int) : q4a P .rem t (.int k a) (.int k b) = eInt .rem k a b := by simp [q4a]
@[go_sem] theorem evBin_eql (P : Program) (t : TypeId) (k : IntKind) (a b : Int) : q4a P .eql t (.int k a) (.int k b) = eInt .eql k a b := by simp [q4a]
@[go_sem] theorem evBin_neq (P : Program) (t : TypeId) (k : IntKind) (a b : Int) : q4a P .neq t (.int k a) (.int k b) = eInt .neq k a b := by simp [q4a]
@[go_sem] theorem evBin_lss (P : Program) (t : TypeId) (k : IntKind) (a b : Int) : q4a P .lss t (.int k a) (.int k b) = eInt .lss k a b := by simp [q4a]
@[go_sem] theorem evBin_leq (P : Program) (t : TypeId) (k : IntKind) (a b : Int) : q4a P .leq t (.int k a) (.int k b) = eInt .leq k a b := by simp [q4a]
@[go_sem] theorem evBin_gtr (P : Program) (t : TypeId) (k : IntKind) (a b : Int) : q4a P .gtr t (.int k a) (.int k b) = eInt .gtr k a b := by simp [q4a]
@[go_sem] theorem evBin_geq (P : Program) (t : TypeId) (k : IntKind) (a b : Int) : q4a P .geq t (.int k a) (.int k b) = eInt .geq k a b := by simp [q4a]
@[go_sem] theorem nn_nat (n : Nat) : (0 ≤ (n : Int)) = True := by simp
@[go_sem ↓] theorem rho_tmp (e : Env) (t : Nat) : rho e (.tmp t) = e t := rfl
@[go_sem ↓] theorem rho_const (e : Env) (v : Value) : rho e (.const v) = cv v := rfl
@[go_sem ↓] theorem rho_func (e : Env) (f : FuncId) : rho e (.func f) = .fn (.func f) [] [] := rfl
@[go_sem ↓] theorem upd_some (e : Env) (d t : Nat) (v : PV) : upd e (some d) v t = if t = d then v else e t := rfl
@[go_sem ↓] theorem upd_none (e : Env) (v : PV) : upd e none v = e := rfl
@[go_sem] theorem initEnv_at (args : List PV) (t : Nat) : q5n args t = args.getD t .undef := rfl
@[go_sem] theorem cv_bool (b : Bool) : cv (.bool b) = .bool b := rfl
@[go_sem] theorem cv_int (k : IntKind) (n : Int) : cv (.int k n) = .int k n := rfl
@[go_sem] theorem cv_slice : cv (.slice none 0 0) = .nilsl := rfl
@[go_sem] theorem cv_nilFunc : cv .nilFunc = .nilfn := rfl
@[go_sem] theorem strip_bool (H : Heap) (b : Bool) : strip H (.bool b) = .bool b := rfl
@[go_sem] theorem strip_int (H : Heap) (k : IntKind) (n : Int) : strip H (.int k n) = .int k n := rfl
@[go_sem] theorem strip_agg (H : Heap) (l : List PV) : strip H (.agg l) = .agg l := rfl
@[go_sem] theorem strip_tup (H : Heap) (l : List PV) : strip H (.tup l) = .tup l := rfl
@[go_sem] theorem strip_sl (H : Heap) (l : List (List PV)) : strip H (.sl l) = .sl l := rfl
@[go_sem] theorem strip_nilsl (H : Heap) : strip H .nilsl = .sl [] := rfl
@[go_sem] theorem strip_ref (H : Heap) (l : List PV) : strip H (.ref l) = .ref l := rfl
@[go_sem] theorem strip_ptr (H : Heap) (i o : Nat) : strip H (.ptr i o) = .ptr i o := rfl
@[go_sem] theorem strip_fn (H : Heap) (f : Fn) (a b : List PV) : strip H (.fn f a b) = .fn f a b := rfl
@[go_sem] theorem strip_ifc (H : Heap) (t : TypeId) (v : PV) : strip H (.ifc t v) = .ifc t v := rfl
@[go_sem] theorem strip_bs (H : Heap) (i n e z : Nat) : strip H (.bs i n e z) = .bs i n e z := rfl
@[go_sem] theorem strip_bz (H : Heap) : strip H .bz = .bz := rfl
@[go_sem] theorem strip_c0 (H : Heap) : strip H .c0 = .c0 := rfl
@[go_sem] theorem strip_gr (H : Heap) (id k : Nat) : strip H (.gr id k) = match H id with
    | some (.row _ _ els) => if els.length = k then .sl els else .any
    | _ => .any := rfl
@[go_sem] theorem sp0_bool (b : Bool) : sp0 (.bool b) = .bool b := rfl
@[go_sem] theorem sp0_int (k : IntKind) (n : Int) : sp0 (.int k n) = .int k n := rfl
@[go_sem] theorem sp0_agg (l : List PV) : sp0 (.agg l) = .agg l := rfl
@[go_sem] theorem sp0_tup (l : List PV) : sp0 (.tup l) = .tup l := rfl
@[go_sem] theorem sp0_sl (l : List (List PV)) : sp0 (.sl l) = .sl l := rfl
@[go_sem] theorem sp0_nilsl : sp0 .nilsl = .sl [] := rfl
@[go_sem] theorem sp0_ref (l : List PV) : sp0 (.ref l) = .ref l := rfl
@[go_sem] theorem sp0_ptr (i o : Nat) : sp0 (.ptr i o) = .ptr i o := rfl
@[go_sem] theorem sp0_fn (f : Fn) (a b : List PV) : sp0 (.fn f a b) = .fn f a b := rfl
attribute [go_sem ↓] reduceIte
attribute [go_sem] Nat.reduceMul Nat.reduceLeDiff Int.reduceToNat Int.reduceLE Int.reduceLT Int.reduceGT Int.reduceGE Int.reduceAdd Int.reduceSub Int.reduceMul Int.reduceNeg and_self and_true true_and eq_self Bool.false_eq_true
attribute [go_sem] List.getD_cons_zero List.getD_cons_succ Nat.reduceEqDiff ite_true ite_false if_true if_false Option.map_some Option.bind_some List.getElem?_toArray List.getElem?_cons_succ List.getElem?_cons_zero Nat.zero_add Nat.add_zero Nat.reduceAdd beq_self_eq_true Bool.not_true Bool.not_false Bool.not_not decide_true decide_false List.all_cons List.all_nil Bool.and_true Bool.true_and List.length_cons List.length_nil List.map_cons List.map_nil List.nil_append List.cons_append List.append_nil
@[go_sem] theorem bne_def {α : Type} [BEq α] (a b : α) : (a != b) = !(a == b) := rfl
end Go.Proofs.YteibeoipnjhicaaGreat
