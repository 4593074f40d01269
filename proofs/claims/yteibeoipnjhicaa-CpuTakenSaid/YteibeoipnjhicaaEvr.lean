import Derived.Test.YteibeoipnjhicaaEvq
import Derived.Attr
namespace Go.Proofs.Yteibeoipnjhicaa
open Go Go.RowKit
set_option linter.unusedVariables false
set_option linter.unusedSimpArgs false
/-! The pure machine, step by step. -/
section
variable {P : Program} {ops : Array Oper} {o : Oper} {rest : List Oper} {Q : Ex → Env → Heap → Nat → Prop} {env : Env} {H : Heap} {m m0 : Nat}
/-- 'a' comes to 'b'. -/
def Nm {α : Type} (a b : α) : Prop := a = b
theorem nm {α : Type} {a : α} : Nm a a := rfl
theorem pops_nil (h : Q .normal env H m) : pwOps P ops Q [] env H m := h
/-- On, behind what an operation has made. -/
def goOn (P : Program) (ops : Array Oper) (Q : Ex → Env → Heap → Nat → Prop) (rest : List Oper) (d : Option Tmp) (env : Env) (H : Heap) (m : Nat) : Option (PV × Eff) → Prop
  | some (r, e) => pwOps P ops Q rest (upd env d r) (e.app m H) (m + e.cnt)
  | none => False
def putGo (P : Program) (ops : Array Oper) (Q : Ex → Env → Heap → Nat → Prop) (rest : List Oper) (d : Option Tmp) (r : PV) (env : Env) (H : Heap) (m id off : Nat) (l : List PV) : Option HE → Prop
  | some (.box c) => ∀ l', splice c off l = l' → pwOps P ops Q rest (upd env d r) (hset H id (some (.box l'))) m
  | _ => False
def runGo (P : Program) (ops : Array Oper) (Q : Ex → Env → Heap → Nat → Prop) (rest : List Oper) (o : Oper) (env : Env) (H : Heap) (m : Nat) : Prop :=
  if isCall o.op = true then
    match calleeP (rho env) (strip H) o.op with
    | some (g, args) => entersP P g = true ∧ CSat P g args H m fun out H' m' => match out with
      | .ret v => pwOps P ops Q rest (upd env o.dst v) H' m'
      | .pan v => Q (.pan v) env H' m'
    | none => False
  else if isPanic o.op = true then
    match panicP (rho env) (strip H) o.op with
    | some p => Q (.pan p) env H m
    | none => False
  else (match evOp P (rho env) (strip H) H m o.op with
    | some (r, e) => pwOps P ops Q rest (upd env o.dst r) (e.app m H) (m + e.cnt)
    | none => False) ∨ (match evBs P (rho env) (strip H) H m o.op with
    | some (r, e) => pwOps P ops Q rest (upd env o.dst r) (e.app m H) (m + e.cnt)
    | none => False)
def gW (want : Bool) : PV → Option Bool
  | .bool b => some (b == want)
  | .undef => some false
  | _ => none
def wGo (a b : Prop) : Option Bool → Prop
  | some c => (c = true → a) ∧ (c = false → b)
  | none => False
theorem wGo_t {a b : Prop} (h : a) : wGo a b (some true) := ⟨fun _ => h, fun e => (by cases e)⟩
theorem wGo_f {a b : Prop} (h : b) : wGo a b (some false) := ⟨fun e => (by cases e), fun _ => h⟩
theorem wGo_b {a b : Prop} {c : Bool} (h : c = true → a) (k : c = false → b) : wGo a b (some c) := ⟨h, k⟩
theorem wGo_n {a b : Prop} {c : Bool} (h : c = false → a) (k : c = true → b) : wGo a b (some !c) := ⟨fun e => h (by simpa using e), fun e => k (by simpa using e)⟩
theorem pops_n (hg : o.guard = none) (h : runGo P ops Q rest o env H m) : pwOps P ops Q (o :: rest) env H m := by
  simp only [pwOps, pwOp, wantP, hg]; exact h
def dstAtL : List Oper → Nat → Option Tmp
  | [], _ => none
  | o :: _, 0 => o.dst
  | _ :: l, n + 1 => dstAtL l n
theorem dstAtL_eq : ∀ (l : List Oper) (j : Nat), (l.toArray[j]?).bind (·.dst) = dstAtL l j
  | [], j => by simp [dstAtL]
  | o :: l, 0 => by simp [dstAtL]
  | o :: l, j + 1 => by have := dstAtL_eq l j; simpa [dstAtL] using this
theorem pops_w {j d : Nat} {want : Bool} (hg : o.guard = some (j, want)) (hd : (ops[j]?).bind (·.dst) = some d) {v : _} (hx : Nm (env d) v) (h : wGo (runGo P ops Q rest o env H m) (pwOps P ops Q rest (upd env o.dst .undef) H m) (gW want v)) : pwOps P ops Q (o :: rest) env H m := by
  have := h
  rw [← hx] at this
  have hw : wantP ops env o = gW want (env d) := by simp only [wantP, hg, hd, gW]; rfl
  simp only [pwOps, pwOp]
  rw [hw]
  cases hw : gW want (env d) with
  | none => rw [hw] at this; exact this.elim
  | some b =>
    rw [hw] at this
    cases b with
    | true => exact this.1 rfl
    | false => exact this.2 rfl
theorem pops_w' {l : List Oper} {j d : Nat} {want : Bool} (hg : o.guard = some (j, want)) (hd : dstAtL l j = some d) {v : _} (h : wGo (runGo P l.toArray Q rest o env H m) (pwOps P l.toArray Q rest (upd env o.dst .undef) H m) (gW want v)) (hx : Nm (env d) v := by (try simp only [go_sem, *]); exact nm) : pwOps P l.toArray Q (o :: rest) env H m := pops_w hg ((dstAtL_eq l j).trans hd) hx h
theorem gw_u {a b : Prop} {want : Bool} (h : b) : wGo a b (gW want .undef) := ⟨fun e => (by cases e), fun _ => h⟩
theorem gw_tt {a b : Prop} (h : a) : wGo a b (gW true (.bool true)) := ⟨fun _ => h, fun e => (by cases e)⟩
theorem gw_tf {a b : Prop} (h : b) : wGo a b (gW true (.bool false)) := ⟨fun e => (by cases e), fun _ => h⟩
theorem gw_ft {a b : Prop} (h : b) : wGo a b (gW false (.bool true)) := ⟨fun e => (by cases e), fun _ => h⟩
theorem gw_ff {a b : Prop} (h : a) : wGo a b (gW false (.bool false)) := ⟨fun _ => h, fun e => (by cases e)⟩
theorem gw_tb {a b : Prop} {c : Bool} (h : c = true → a) (k : c = false → b) : wGo a b (gW true (.bool c)) := by cases c <;> exact ⟨fun e => (by first | exact h rfl | cases e), fun e => (by first | exact k rfl | cases e)⟩
theorem gw_fb {a b : Prop} {c : Bool} (h : c = false → a) (k : c = true → b) : wGo a b (gW false (.bool c)) := by cases c <;> exact ⟨fun e => (by first | exact h rfl | cases e), fun e => (by first | exact k rfl | cases e)⟩
theorem gw_tn {a b : Prop} {c : Bool} (h : c = false → a) (k : c = true → b) : wGo a b (gW true (.bool !c)) := by cases c <;> exact ⟨fun e => (by first | exact h rfl | cases e), fun e => (by first | exact k rfl | cases e)⟩
theorem gw_fn {a b : Prop} {c : Bool} (h : c = true → a) (k : c = false → b) : wGo a b (gW false (.bool !c)) := by cases c <;> exact ⟨fun e => (by first | exact h rfl | cases e), fun e => (by first | exact k rfl | cases e)⟩
theorem run_ev (hc : isCall o.op = false) (hp : isPanic o.op = false) {x : _} (h : goOn P ops Q rest o.dst env H m x) (hx : Nm (evOp P (rho env) (strip H) H m o.op) x := by (try simp only [go_sem, *]); exact nm) : runGo P ops Q rest o env H m := by
  have := h
  rw [← hx] at this
  simp only [runGo, hc, hp, Bool.false_eq_true, if_false]
  exact .inl this
theorem run_bs (hc : isCall o.op = false) (hp : isPanic o.op = false) {x : _} (h : goOn P ops Q rest o.dst env H m x) (hx : Nm (evBs P (rho env) (strip H) H m o.op) x := by (try simp only [go_sem, *]); exact nm) : runGo P ops Q rest o env H m := by
  have := h
  rw [← hx] at this
  simp only [runGo, hc, hp, Bool.false_eq_true, if_false]
  exact .inr this
theorem on_nop {d : Option Tmp} {r : PV} (h : pwOps P ops Q rest (upd env d r) H m) : goOn P ops Q rest d env H m (some (r, .nop)) := h
theorem on_new {d : Option Tmp} {r : PV} {l : List PV} {n : Nat} (h : pwOps P ops Q rest (upd env d r) (hset H m (some (.box l))) n) (hx : Nm (m + 1) n := by (try simp only [go_sem, *]); exact nm) : goOn P ops Q rest d env H m (some (r, .new l)) := by rw [← hx] at h; exact h
theorem on_born {d : Option Tmp} {r : PV} {e sz : Nat} {l : List (List PV)} {n : Nat} (h : pwOps P ops Q rest (upd env d r) (hset H m (some (.row e sz l))) n) (hx : Nm (m + 1) n := by (try simp only [go_sem, *]); exact nm) : goOn P ops Q rest d env H m (some (r, .born e sz l)) := by rw [← hx] at h; exact h
theorem on_grow {d : Option Tmp} {r : PV} {id e sz : Nat} {l : List (List PV)} (h : pwOps P ops Q rest (upd env d r) (hset H id (some (.row e sz l))) m) : goOn P ops Q rest d env H m (some (r, .grow id e sz l)) := h
theorem on_put {d : Option Tmp} {r : PV} {id off : Nat} {l : List PV} {y : Option HE} (h : putGo P ops Q rest d r env H m id off l y) (hx : Nm (H id) y := by (try simp only [go_sem, *]); exact nm) : goOn P ops Q rest d env H m (some (r, .put id off l)) := by
  have := h
  rw [← hx] at this
  unfold goOn
  cases hid : H id with
  | none => rw [hid] at this; exact this.elim
  | some y =>
    rw [hid] at this
    cases y with
    | row _ _ _ => exact this.elim
    | box c => simp only [Eff.app, hid]; exact this _ rfl
theorem put_box {d : Option Tmp} {r : PV} {id off : Nat} {l c : List PV} {l' : List PV} (h : pwOps P ops Q rest (upd env d r) (hset H id (some (.box l'))) m) (hx : Nm (splice c off l) l' := by (try simp only [go_sem, *]); exact nm) : putGo P ops Q rest d r env H m id off l (some (.box c)) := fun x e => by cases e; rw [hx]; exact h
def callGo (P : Program) (ops : Array Oper) (Q : Ex → Env → Heap → Nat → Prop) (rest : List Oper) (d : Option Tmp) (env : Env) (H : Heap) (m : Nat) : Option (FuncId × List PV) → Prop
  | some (g, args) => entersP P g = true ∧ CSat P g args H m fun out H' m' => match out with
    | .ret v => pwOps P ops Q rest (upd env d v) H' m'
    | .pan v => Q (.pan v) env H' m'
  | none => False
theorem run_call (hc : isCall o.op = true) {y : _} (h : callGo P ops Q rest o.dst env H m y) (hx : Nm (calleeP (rho env) (strip H) o.op) y := by (try simp only [go_sem, *]); exact nm) : runGo P ops Q rest o env H m := by
  have := h
  rw [← hx] at this
  simp only [runGo, hc, if_true]
  exact this
theorem call_pure {d : Option Tmp} {g : FuncId} {args : List PV} {r : PV} (hp : Pure P g args r) (h : pwOps P ops Q rest (upd env d r) H m) (hent : entersP P g = true := by first | assumption | kernel_rfl) : callGo P ops Q rest d env H m (some (g, args)) := ⟨hent, csat_of_pure hp h⟩
theorem call_csat {d : Option Tmp} {g : FuncId} {args : List PV} (hent : entersP P g = true) {Q' : Out → Heap → Nat → Prop} (hp : CSat P g args H m Q')
    (hr : ∀ r H' m', Q' (.ret r) H' m' → pwOps P ops Q rest (upd env d r) H' m') (hx : ∀ p H' m', Q' (.pan p) H' m' → Q (.pan p) env H' m') : callGo P ops Q rest d env H m (some (g, args)) := by
  refine ⟨hent, hp.mono ?_⟩
  intro out H' m' h
  cases out with
  | ret r => exact hr r H' m' h
  | pan p => exact hx p H' m' h
def panGo (Q : Ex → Env → Heap → Nat → Prop) (env : Env) (H : Heap) (m : Nat) : Option PV → Prop
  | some p => Q (.pan p) env H m
  | none => False
theorem run_panic (hc : isCall o.op = false) (hp : isPanic o.op = true) {y : _} (hx : Nm (panicP (rho env) (strip H) o.op) y) (h : panGo Q env H m y) : runGo P ops Q rest o env H m := by
  have := h
  rw [← hx] at this
  simp only [runGo, hc, hp, Bool.false_eq_true, if_false, if_true]
  exact this
theorem pan_some {p : PV} (h : Q (.pan p) env H m) : panGo Q env H m (some p) := h
variable {K : Env → Heap → Nat → List (Eff × List Rg) → Prop}
theorem dr_nil (h : K env H m []) : dr P ops [] K env H m := h
def drGo (P : Program) (ops : Array Oper) (K : Env → Heap → Nat → List (Eff × List Rg) → Prop) (rest : List Oper) (o : Oper) (env : Env) (H : Heap) (m : Nat) : Prop :=
  if isCall o.op = true then
    match calleeP (rho env) sp0 o.op with
    | some (g, args) => entersP P g = true ∧ ∃ r e, CallOk P g args m r e ∧ dr P ops rest (fun e' h n L => K e' h n ((e, []) :: L)) (upd env o.dst r) (e.app m H) (m + e.cnt)
    | none => False
  else (match evOp P (rho env) sp0 H m o.op with
    | some (r, e) => dr P ops rest (fun e' h n L => K e' h n ((e, rdOf P (rho env) o.op) :: L)) (upd env o.dst r) (e.app m H) (m + e.cnt)
    | none => False) ∨ (match nwOf P (rho env) sp0 o.op with
    | some (n, e, sz, fl) => dr P ops rest (fun e' h k L => K e' h k ((.new fl, []) :: L)) (upd env o.dst (.bs m n e sz)) ((Eff.new fl).app m H) (m + 1)
    | none => False)
theorem dr_n (hg : o.guard = none) (h : drGo P ops K rest o env H m) : dr P ops (o :: rest) K env H m := by
  simp only [dr, wantP, hg]; exact h
theorem dr_w {j d : Nat} {want : Bool} (hg : o.guard = some (j, want)) (hd : (ops[j]?).bind (·.dst) = some d) {v : _} (hx : Nm (env d) v) (h : wGo (drGo P ops K rest o env H m) (dr P ops rest (fun e h n L => K e h n ((.nop, []) :: L)) (upd env o.dst .undef) H m) (gW want v)) : dr P ops (o :: rest) K env H m := by
  have := h
  rw [← hx] at this
  have hw : wantP ops env o = gW want (env d) := by simp only [wantP, hg, hd, gW]; rfl
  simp only [dr]
  rw [hw]
  cases hw : gW want (env d) with
  | none => rw [hw] at this; exact this.elim
  | some b =>
    rw [hw] at this
    cases b with
    | true => exact this.1 rfl
    | false => exact this.2 rfl
theorem dr_w' {l : List Oper} {j d : Nat} {want : Bool} (hg : o.guard = some (j, want)) (hd : dstAtL l j = some d) {v : _} (h : wGo (drGo P l.toArray K rest o env H m) (dr P l.toArray rest (fun e h n L => K e h n ((.nop, []) :: L)) (upd env o.dst .undef) H m) (gW want v)) (hx : Nm (env d) v := by (try simp only [go_sem, *]); exact nm) : dr P l.toArray (o :: rest) K env H m := dr_w hg ((dstAtL_eq l j).trans hd) hx h
def drOn (P : Program) (ops : Array Oper) (K : Env → Heap → Nat → List (Eff × List Rg) → Prop) (rest : List Oper) (d : Option Tmp) (env : Env) (H : Heap) (m : Nat) (rd : List Rg) : Option (PV × Eff) → Prop
  | some (r, e) => dr P ops rest (fun e' h n L => K e' h n ((e, rd) :: L)) (upd env d r) (e.app m H) (m + e.cnt)
  | none => False
theorem dr_ev (hc : isCall o.op = false) {x : Option (PV × Eff)} {rd : List Rg} (h : drOn P ops K rest o.dst env H m rd x) (hx : Nm (evOp P (rho env) sp0 H m o.op) x := by (try simp only [go_sem, *]); exact nm) (hd : Nm (rdOf P (rho env) o.op) rd := by (try simp only [go_sem, *]); exact nm) : drGo P ops K rest o env H m := by
  have := h
  rw [← hx, ← hd] at this
  simp only [drGo, hc, Bool.false_eq_true, if_false]
  exact .inl this
theorem dr_nw (hc : isCall o.op = false) {n e sz : Nat} {fl : List PV} {k : Nat} (h : dr P ops rest (fun e' h k L => K e' h k ((.new fl, []) :: L)) (upd env o.dst (.bs m n e sz)) (hset H m (some (.box fl))) k) (hx : Nm (nwOf P (rho env) sp0 o.op) (some (n, e, sz, fl)) := by (try simp only [go_sem, *]); exact nm) (hk : Nm (m + 1) k := by (try simp only [go_sem, *]); exact nm) : drGo P ops K rest o env H m := by
  rw [← hk] at h
  simp only [drGo, hc, Bool.false_eq_true, if_false]
  refine .inr ?_
  rw [hx]; exact h
theorem dn_nop {d : Option Tmp} {r : PV} {rd : List Rg} (h : dr P ops rest (fun e' h n L => K e' h n ((.nop, rd) :: L)) (upd env d r) H m) : drOn P ops K rest d env H m rd (some (r, .nop)) := h
theorem dn_new {d : Option Tmp} {r : PV} {rd : List Rg} {l : List PV} {n : Nat} (h : dr P ops rest (fun e' h n L => K e' h n ((.new l, rd) :: L)) (upd env d r) (hset H m (some (.box l))) n) (hx : Nm (m + 1) n := by (try simp only [go_sem, *]); exact nm) : drOn P ops K rest d env H m rd (some (r, .new l)) := by rw [← hx] at h; exact h
theorem dn_born {d : Option Tmp} {r : PV} {rd : List Rg} {e sz : Nat} {l : List (List PV)} {n : Nat} (h : dr P ops rest (fun e' h n L => K e' h n ((.born e sz l, rd) :: L)) (upd env d r) (hset H m (some (.row e sz l))) n) (hx : Nm (m + 1) n := by (try simp only [go_sem, *]); exact nm) : drOn P ops K rest d env H m rd (some (r, .born e sz l)) := by rw [← hx] at h; exact h
theorem dn_grow {d : Option Tmp} {r : PV} {rd : List Rg} {id e sz : Nat} {l : List (List PV)} (h : dr P ops rest (fun e' h n L => K e' h n ((.grow id e sz l, rd) :: L)) (upd env d r) (hset H id (some (.row e sz l))) m) : drOn P ops K rest d env H m rd (some (r, .grow id e sz l)) := h
def dputGo (P : Program) (ops : Array Oper) (K : Env → Heap → Nat → List (Eff × List Rg) → Prop) (rest : List Oper) (d : Option Tmp) (r : PV) (env : Env) (H : Heap) (m id off : Nat) (l : List PV) (rd : List Rg) : Option HE → Prop
  | some (.box c) => ∀ l', splice c off l = l' → dr P ops rest (fun e' h n L => K e' h n ((.put id off l, rd) :: L)) (upd env d r) (hset H id (some (.box l'))) m
  | _ => False
theorem dn_put {d : Option Tmp} {r : PV} {id off : Nat} {l : List PV} {rd : List Rg} {y : Option HE} (h : dputGo P ops K rest d r env H m id off l rd y) (hx : Nm (H id) y := by (try simp only [go_sem, *]); exact nm) : drOn P ops K rest d env H m rd (some (r, .put id off l)) := by
  have := h
  rw [← hx] at this
  unfold drOn
  cases hid : H id with
  | none => rw [hid] at this; exact this.elim
  | some y =>
    rw [hid] at this
    cases y with
    | row _ _ _ => exact this.elim
    | box c => simp only [Eff.app, hid]; exact this _ rfl
theorem dput_box {d : Option Tmp} {r : PV} {id off : Nat} {l c : List PV} {rd : List Rg} {l' : List PV} (h : dr P ops rest (fun e' h n L => K e' h n ((.put id off l, rd) :: L)) (upd env d r) (hset H id (some (.box l'))) m) (hx : Nm (splice c off l) l' := by (try simp only [go_sem, *]); exact nm) : dputGo P ops K rest d r env H m id off l rd (some (.box c)) := fun x e => by cases e; rw [hx]; exact h
def dcallGo (P : Program) (ops : Array Oper) (K : Env → Heap → Nat → List (Eff × List Rg) → Prop) (rest : List Oper) (d : Option Tmp) (env : Env) (H : Heap) (m : Nat) : Option (FuncId × List PV) → Prop
  | some (g, args) => entersP P g = true ∧ ∃ r e, CallOk P g args m r e ∧ dr P ops rest (fun e' h n L => K e' h n ((e, []) :: L)) (upd env d r) (e.app m H) (m + e.cnt)
  | none => False
theorem dr_call (hc : isCall o.op = true) {y : _} (h : dcallGo P ops K rest o.dst env H m y) (hx : Nm (calleeP (rho env) sp0 o.op) y := by (try simp only [go_sem, *]); exact nm) : drGo P ops K rest o env H m := by
  have := h
  rw [← hx] at this
  simp only [drGo, hc, if_true]
  exact this
theorem dcall_pure {d : Option Tmp} {g : FuncId} {args : List PV} {r : PV} (hp : Pure P g args r) (h : dr P ops rest (fun e h n L => K e h n ((.nop, []) :: L)) (upd env d r) H m) (hent : entersP P g = true := by first | assumption | kernel_rfl) : dcallGo P ops K rest d env H m (some (g, args)) := ⟨hent, r, .nop, .inl ⟨hp, rfl⟩, h⟩
theorem dcall_born {d : Option Tmp} {g : FuncId} {args : List PV} {rf : Nat → PV} {e sz : Nat} {els : List (List PV)} {n : Nat} {r : PV} (hent : entersP P g = true) (hp : BornC P g args rf (.born e sz els)) (hr : Nm (rf m) r) (hx : Nm (m + 1) n) (h : dr P ops rest (fun e' h n L => K e' h n ((.born e sz els, []) :: L)) (upd env d r) (hset H m (some (.row e sz els))) n) : dcallGo P ops K rest d env H m (some (g, args)) := by
  rw [← hr, ← hx] at h
  exact ⟨hent, rf m, .born e sz els, .inr ⟨rf, hp, rfl⟩, h⟩
theorem dcall_new {d : Option Tmp} {g : FuncId} {args : List PV} {rf : Nat → PV} {fl : List PV} {n : Nat} {r : PV} (hp : BornC P g args rf (.new fl)) (h : dr P ops rest (fun e' h n L => K e' h n ((.new fl, []) :: L)) (upd env d r) (hset H m (some (.box fl))) n) (hr : Nm (rf m) r := by (try simp only [go_sem, *]); exact nm) (hx : Nm (m + 1) n := by (try simp only [go_sem, *]); exact nm) (hent : entersP P g = true := by first | assumption | kernel_rfl) : dcallGo P ops K rest d env H m (some (g, args)) := by
  rw [← hr, ← hx] at h
  exact ⟨hent, rf m, .new fl, .inr ⟨rf, hp, rfl⟩, h⟩
variable {Kq : Env → Prop}
theorem dq_nil (h : Kq env) : drq P ops [] Kq env H m := h
def dqGo (P : Program) (ops : Array Oper) (Kq : Env → Prop) (rest : List Oper) (o : Oper) (env : Env) (H : Heap) (m : Nat) : Prop :=
  if isCall o.op = true then
    match calleeP (rho env) sp0 o.op with
    | some (g, args) => entersP P g = true ∧ ∃ r, CallQ P g args H m r ∧ drq P ops rest Kq (upd env o.dst r) H m
    | none => False
  else match evOp P (rho env) sp0 H m o.op with
    | some (r, .nop) => drq P ops rest Kq (upd env o.dst r) H m
    | _ => False
theorem dq_n (hg : o.guard = none) (h : dqGo P ops Kq rest o env H m) : drq P ops (o :: rest) Kq env H m := by
  simp only [drq, wantP, hg]; exact h
theorem dq_w {j d : Nat} {want : Bool} (hg : o.guard = some (j, want)) (hd : (ops[j]?).bind (·.dst) = some d) {v : _} (hx : Nm (env d) v) (h : wGo (dqGo P ops Kq rest o env H m) (drq P ops rest Kq (upd env o.dst .undef) H m) (gW want v)) : drq P ops (o :: rest) Kq env H m := by
  have := h
  rw [← hx] at this
  have hw : wantP ops env o = gW want (env d) := by simp only [wantP, hg, hd, gW]; rfl
  simp only [drq]
  rw [hw]
  cases hw : gW want (env d) with
  | none => rw [hw] at this; exact this.elim
  | some b =>
    rw [hw] at this
    cases b with
    | true => exact this.1 rfl
    | false => exact this.2 rfl
theorem dq_w' {l : List Oper} {j d : Nat} {want : Bool} (hg : o.guard = some (j, want)) (hd : dstAtL l j = some d) {v : _} (h : wGo (dqGo P l.toArray Kq rest o env H m) (drq P l.toArray rest Kq (upd env o.dst .undef) H m) (gW want v)) (hx : Nm (env d) v := by (try simp only [go_sem, *]); exact nm) : drq P l.toArray (o :: rest) Kq env H m := dq_w hg ((dstAtL_eq l j).trans hd) hx h
theorem dq_ev (hc : isCall o.op = false) {r : PV} (h : drq P ops rest Kq (upd env o.dst r) H m) (hx : Nm (evOp P (rho env) sp0 H m o.op) (some (r, .nop)) := by (try simp only [go_sem, *]); exact nm) : dqGo P ops Kq rest o env H m := by
  simp only [dqGo, hc, Bool.false_eq_true, if_false]
  rw [hx]; exact h
def dqcGo (P : Program) (ops : Array Oper) (Kq : Env → Prop) (rest : List Oper) (d : Option Tmp) (env : Env) (H : Heap) (m : Nat) : Option (FuncId × List PV) → Prop
  | some (g, args) => entersP P g = true ∧ ∃ r, CallQ P g args H m r ∧ drq P ops rest Kq (upd env d r) H m
  | none => False
theorem dq_call (hc : isCall o.op = true) {y : _} (h : dqcGo P ops Kq rest o.dst env H m y) (hx : Nm (calleeP (rho env) sp0 o.op) y := by (try simp only [go_sem, *]); exact nm) : dqGo P ops Kq rest o env H m := by
  have := h
  rw [← hx] at this
  simp only [dqGo, hc, if_true]
  exact this
theorem callQ_pure {g : FuncId} {args : List PV} {r : PV} (h : Pure P g args r) : CallQ P g args H m r := fun H' m' _ _ => csat_of_pure h ⟨rfl, Nat.le_refl _, fun _ _ => rfl⟩
theorem dqc_pure {d : Option Tmp} {g : FuncId} {args : List PV} {r : PV} (hp : Pure P g args r) (h : drq P ops rest Kq (upd env d r) H m) (hent : entersP P g = true := by first | assumption | kernel_rfl) : dqcGo P ops Kq rest d env H m (some (g, args)) := ⟨hent, r, callQ_pure hp, h⟩
theorem dqc_q {d : Option Tmp} {g : FuncId} {args : List PV} {r : PV} (hp : CallQ P g args H m r) (h : drq P ops rest Kq (upd env d r) H m) (hent : entersP P g = true := by first | assumption | kernel_rfl) : dqcGo P ops Kq rest d env H m (some (g, args)) := ⟨hent, r, hp, h⟩
variable {x y c : Code}
theorem pc_skip (h : Q .normal env H m) : pwCode P m0 .skip Q env H m := h
theorem pc_region {id : Nat} {l : List Oper} (h : pwOps P l.toArray Q l env H m) : pwCode P m0 (.region id l.toArray false) Q env H m := h
theorem pc_draw {id : Nat} {l : List Oper} (hok : drawOk l.toArray = true) (h : dr P l.toArray l (fun env' H' m' L => okAll L = true ∧ Q .normal env' H' m') env H m) : pwCode P m0 (.region id l.toArray true) Q env H m := .inl ⟨hok, h⟩
theorem pc_drawL {id : Nat} {l : List Oper} (n : Nat) (ht : tailOk l.toArray (l.take n).length = true) (hok : drawOk (l.take n).toArray = true) (h : dr P (l.take n).toArray (l.take n) (fun env' H' m' L => okAll L = true ∧ pwOps P l.toArray Q (l.drop n) env' H' m') env H m) : pwCode P m0 (.region id l.toArray true) Q env H m := .inr (.inl ⟨l.take n, l.drop n, (List.take_append_drop n l).symm, ht, hok, h⟩)
theorem pc_drawQ {id : Nat} {l : List Oper} (hok : drawOk l.toArray = true) (h : drq P l.toArray l (fun env' => ∀ H' m', m ≤ m' → (∀ i, i < m → H' i = H i) → Q .normal env' H' m') env H m) : pwCode P m0 (.region id l.toArray true) Q env H m := .inr (.inr ⟨hok, h⟩)
theorem pc_seq (h : pwCode P m0 x (Ex.then (pwCode P m0 y Q) Q) env H m) : pwCode P m0 (.seq x y) Q env H m := h
theorem pc_block {id : Nat} (h : pwCode P m0 x (Ex.inBlock id Q) env H m) : pwCode P m0 (.block id x) Q env H m := h
theorem pc_exit {id : Nat} (h : Q (.exit id) env H m) : pwCode P m0 (.exit id) Q env H m := h
theorem pc_ret (h : Q .ret env H m) : pwCode P m0 .ret Q env H m := h
def condGo (a b : Prop) : PV → Prop
  | .bool c => (c = true → a) ∧ (c = false → b)
  | _ => False
theorem pc_cond {a : Operand} {v : _} (h : condGo (pwCode P m0 x Q env H m) (pwCode P m0 y Q env H m) v) (hx : Nm (rho env a) v := by (try simp only [go_sem, *]); exact nm) : pwCode P m0 (.cond a x y) Q env H m := by
  have := h
  rw [← hx] at this
  simp only [pwCode]
  cases hv : rho env a <;> rw [hv] at this <;> first | exact this.elim | exact this
theorem cd_t {a b : Prop} (h : a) : condGo a b (.bool true) := ⟨fun _ => h, fun e => (by cases e)⟩
theorem cd_f {a b : Prop} (h : b) : condGo a b (.bool false) := ⟨fun e => (by cases e), fun _ => h⟩
theorem cd_b {a b : Prop} {c : Bool} (h : c = true → a) (k : c = false → b) : condGo a b (.bool c) := ⟨h, k⟩
theorem cd_n {a b : Prop} {c : Bool} (h : c = false → a) (k : c = true → b) : condGo a b (.bool !c) := ⟨fun e => h (by simpa using e), fun e => k (by simpa using e)⟩
variable {next : Env → Heap → Nat → Prop}
theorem th_normal (h : next env H m) : Ex.then next Q .normal env H m := h
theorem th_exit {id : Nat} (h : Q (.exit id) env H m) : Ex.then next Q (.exit id) env H m := h
theorem th_ret (h : Q .ret env H m) : Ex.then next Q .ret env H m := h
theorem th_pan {p : PV} (h : Q (.pan p) env H m) : Ex.then next Q (.pan p) env H m := h
theorem bl_normal {id : Nat} (h : Q .normal env H m) : Ex.inBlock id Q .normal env H m := h
theorem bl_exit {id : Nat} (h : Q .normal env H m) : Ex.inBlock id Q (.exit id) env H m := by simp only [Ex.inBlock, if_true]; exact h
theorem bl_pass {id id' : Nat} (hne : (id' == id) = false) (h : Q (.exit id') env H m) : Ex.inBlock id Q (.exit id') env H m := by
  simp only [Ex.inBlock]; rw [if_neg (by simpa using hne)]; exact h
theorem bl_ret {id : Nat} (h : Q .ret env H m) : Ex.inBlock id Q .ret env H m := h
theorem bl_pan {id : Nat} {p : PV} (h : Q (.pan p) env H m) : Ex.inBlock id Q (.pan p) env H m := h
variable {rs : List ResultVar} {Q' : Out → Heap → Nat → Prop}
def resGo (Q' : Out → Heap → Nat → Prop) (H : Heap) (m : Nat) : Option PV → Prop
  | some r => Q' (.ret r) H m
  | none => False
theorem rt_ret {y : _} (h : resGo Q' H m y) (hx : Nm (resOf P rs env H) y := by (try simp only [go_sem, *]); exact nm) : retQ P rs Q' .ret env H m := by
  have := h
  rw [← hx] at this
  simp only [retQ]; exact this
theorem rt_normal {y : _} (h : resGo Q' H m y) (hx : Nm (resOf P rs env H) y := by (try simp only [go_sem, *]); exact nm) : retQ P rs Q' .normal env H m := by
  have := h
  rw [← hx] at this
  simp only [retQ]; exact this
theorem rs_some {r : PV} (h : Q' (.ret r) H m) : resGo Q' H m (some r) := h
theorem rt_pan {p : PV} (h : Q' (.pan p) H m) : retQ P rs Q' (.pan p) env H m := h
end
/-- Each of these names own blocks of S alone. -/
def BdL (S : Nat → Prop) (l : List PV) : Prop := ∀ p ∈ l, Bd S p
section
variable {S : Nat → Prop}
@[go_sem] theorem Bd_any : Bd S .any = True := eq_true .any
@[go_sem] theorem Bd_undef : Bd S .undef = True := eq_true .undef
@[go_sem] theorem Bd_nilif : Bd S .nilif = True := eq_true .nilif
@[go_sem] theorem Bd_nilfn : Bd S .nilfn = True := eq_true .nilfn
@[go_sem] theorem Bd_nilsl : Bd S .nilsl = True := eq_true .nilsl
@[go_sem] theorem Bd_bz : Bd S .bz = True := eq_true .bz
@[go_sem] theorem Bd_c0 : Bd S .c0 = True := eq_true .c0
@[go_sem] theorem Bd_bool (b : Bool) : Bd S (.bool b) = True := eq_true (.bool b)
@[go_sem] theorem Bd_int (k : IntKind) (n : Int) : Bd S (.int k n) = True := eq_true (.int k n)
@[go_sem] theorem Bd_str (s : ByteArray) : Bd S (.str s) = True := eq_true (.str s)
@[go_sem] theorem Bd_agg (l : List PV) : Bd S (.agg l) = BdL S l := propext ⟨fun h => by cases h with | agg _ h => exact h, fun h => .agg _ h⟩
@[go_sem] theorem Bd_tup (l : List PV) : Bd S (.tup l) = BdL S l := propext ⟨fun h => by cases h with | tup _ h => exact h, fun h => .tup _ h⟩
@[go_sem] theorem Bd_ref (l : List PV) : Bd S (.ref l) = BdL S l := propext ⟨fun h => by cases h with | ref _ h => exact h, fun h => .ref _ h⟩
@[go_sem] theorem Bd_ptr (i o : Nat) : Bd S (.ptr i o) = S i := propext ⟨fun h => by cases h with | ptr _ _ h => exact h, fun h => .ptr _ _ h⟩
@[go_sem] theorem Bd_gr (i k : Nat) : Bd S (.gr i k) = S i := propext ⟨fun h => by cases h with | gr _ _ h => exact h, fun h => .gr _ _ h⟩
@[go_sem] theorem Bd_bs (i k e z : Nat) : Bd S (.bs i k e z) = S i := propext ⟨fun h => by cases h with | bs _ _ _ _ h => exact h, fun h => .bs _ _ _ _ h⟩
@[go_sem] theorem Bd_fn (f : Fn) (a b : List PV) : Bd S (.fn f a b) = (BdL S a ∧ BdL S b) := propext ⟨fun h => by cases h with | fn _ _ _ h k => exact ⟨h, k⟩, fun h => .fn _ _ _ h.1 h.2⟩
@[go_sem] theorem Bd_ifc (t : TypeId) (v : PV) : Bd S (.ifc t v) = Bd S v := propext ⟨fun h => by cases h with | ifc _ _ h => exact h, fun h => .ifc _ _ h⟩
@[go_sem] theorem BdL_nil : BdL S [] = True := eq_true fun p h => by cases h
@[go_sem] theorem BdL_cons (p : PV) (l : List PV) : BdL S (p :: l) = (Bd S p ∧ BdL S l) := propext ⟨fun h => ⟨h p (by simp), fun q hq => h q (by simp [hq])⟩, fun h q hq => by
  rcases List.mem_cons.1 hq with rfl | hq
  · exact h.1
  · exact h.2 q hq⟩
@[go_sem] theorem BdL_app (l k : List PV) : BdL S (l ++ k) = (BdL S l ∧ BdL S k) := propext ⟨fun h => ⟨fun q hq => h q (by simp [hq]), fun q hq => h q (by simp [hq])⟩, fun h q hq => (List.mem_append.1 hq).elim (h.1 q) (h.2 q)⟩
@[go_sem] theorem Bd_sl0 : Bd S (.sl []) = True := eq_true (.sl _ fun e he => by cases he)
@[go_sem] theorem Bd_sl1 (a : List PV) (l : List (List PV)) : Bd S (.sl (a :: l)) = (BdL S a ∧ Bd S (.sl l)) := propext ⟨fun h => by cases h with | sl _ h => exact ⟨h a (by simp), .sl _ fun e he => h e (by simp [he])⟩, fun h => by
  cases h.2 with
  | sl _ k => exact .sl _ fun e he => (List.mem_cons.1 he).elim (fun q => q ▸ h.1) (fun q => k e q)⟩
theorem Bd_slm {α : Type} {f : α → List PV} (h : ∀ x, BdL S (f x)) (l : List α) : Bd S (.sl (List.map f l)) = True := eq_true (.sl _ fun e he => by obtain ⟨y, _, rfl⟩ := List.mem_map.1 he; exact h y)
@[go_sem] theorem Bd_sla (l k : List (List PV)) : Bd S (.sl (l ++ k)) = (Bd S (.sl l) ∧ Bd S (.sl k)) := propext ⟨fun h => by cases h with | sl _ h => exact ⟨.sl _ fun e he => h e (List.mem_append_left _ he), .sl _ fun e he => h e (List.mem_append_right _ he)⟩, fun h => by
  cases h.1 with
  | sl _ h1 => cases h.2 with
    | sl _ h2 => exact .sl _ fun e he => (List.mem_append.1 he).elim (h1 e) (h2 e)⟩
end
theorem noid_sl {α : Type} {f : α → List PV} (h : ∀ x, ∀ p ∈ f x, NoId p) (l : List α) : NoId (.sl (List.map f l)) := Bd.sl _ (fun e he => by obtain ⟨y, _, rfl⟩ := List.mem_map.1 he; exact h y)
theorem pureI {P : Program} {f : FuncId} {fn : Func} {c : Code} {args : List PV} {r : PV} {rs : List ResultVar} (hm : P.follows .mixedOrders = true) (ha : BdL (fun _ => False) args) (hr : NoId r) (hf : P.funcs[f]? = some fn) (hrs : fn.results = rs.toArray) (hb : fn.body = some c) (hn : args.length ≤ fn.ntmps)
    (hd : dstOk fn.ntmps c = true) (h : pwCode P 0 c (retQ P rs (fun out _ _ => out = .ret r)) (initEnv args) (fun _ => none) 0) : Pure P f args r := pure_of_csat ha hr (CSat_of_pw hm hf hb hn hd (by rw [hrs]; simpa using h))
/-- A contract over own boxes, by the code. -/
theorem csatI {P : Program} {f : FuncId} {fn : Func} {c : Code} {args : List PV} {H : Heap} {m : Nat} {Q : Out → Heap → Nat → Prop} {rs : List ResultVar} (hm : P.follows .mixedOrders = true) (hf : P.funcs[f]? = some fn) (hrs : fn.results = rs.toArray) (hb : fn.body = some c) (hn : args.length ≤ fn.ntmps)
    (hd : dstOk fn.ntmps c = true) (h : pwCode P m c (retQ P rs Q) (initEnv args) H m) : CSat P f args H m Q := CSat_of_pw hm hf hb hn hd (by rw [hrs]; simpa using h)
theorem pwOps_mono {P : Program} {ops : Array Oper} {Q Q' : Ex → Env → Heap → Nat → Prop} (hq : ∀ ex env H m, Q ex env H m → Q' ex env H m) : ∀ (l : List Oper) (env : Env) (H : Heap) (m : Nat), pwOps P ops Q l env H m → pwOps P ops Q' l env H m := by
  intro l
  induction l with
  | nil => intro env H m h; exact hq _ _ _ _ h
  | cons o rest ih =>
    intro env H m h
    simp only [pwOps, pwOp] at h ⊢
    split at h
    · by_cases h1 : isCall o.op = true
      · rw [if_pos h1] at h ⊢
        split at h
        · refine ⟨h.1, h.2.mono ?_⟩
          intro out H' m' k
          cases out with
          | ret v => exact ih _ _ _ k
          | pan v => exact hq _ _ _ _ k
        · exact h.elim
      · rw [if_neg h1] at h ⊢
        by_cases h2 : isPanic o.op = true
        · rw [if_pos h2] at h ⊢
          split at h
          · exact hq _ _ _ _ h
          · exact h.elim
        · rw [if_neg h2] at h ⊢
          rcases h with h | h
          · split at h
            · exact .inl (ih _ _ _ h)
            · exact h.elim
          · split at h
            · exact .inr (ih _ _ _ h)
            · exact h.elim
    · exact ih _ _ _ h
    · exact h.elim
theorem dr_mono {P : Program} {ops : Array Oper} : ∀ (l : List Oper) (K K' : Env → Heap → Nat → List (Eff × List Rg) → Prop) (hk : ∀ e h m L, K e h m L → K' e h m L) (env : Env) (H : Heap) (m : Nat), dr P ops l K env H m → dr P ops l K' env H m := by
  intro l
  induction l with
  | nil => intro K K' hk env H m h; exact hk _ _ _ _ h
  | cons o rest ih =>
    intro K K' hk env H m h
    simp only [dr] at h ⊢
    split at h
    · exact ih _ _ (fun e h m L k => hk _ _ _ _ k) _ _ _ h
    · by_cases h1 : isCall o.op = true
      · rw [if_pos h1] at h ⊢
        split at h
        · obtain ⟨h1, r, e, h2, h3⟩ := h
          exact ⟨h1, r, e, h2, ih _ _ (fun e h m L k => hk _ _ _ _ k) _ _ _ h3⟩
        · exact h.elim
      · rw [if_neg h1] at h ⊢
        rcases h with h | h
        · split at h
          · exact .inl (ih _ _ (fun e h m L k => hk _ _ _ _ k) _ _ _ h)
          · exact h.elim
        · split at h
          · exact .inr (ih _ _ (fun e h m L k => hk _ _ _ _ k) _ _ _ h)
          · exact h.elim
    · exact h.elim
theorem drq_mono {P : Program} {ops : Array Oper} : ∀ (l : List Oper) (K K' : Env → Prop) (hk : ∀ e, K e → K' e) (env : Env) (H : Heap) (m : Nat), drq P ops l K env H m → drq P ops l K' env H m := by
  intro l
  induction l with
  | nil => intro K K' hk env H m h; exact hk _ h
  | cons o rest ih =>
    intro K K' hk env H m h
    simp only [drq] at h ⊢
    split at h
    · exact ih _ _ hk _ _ _ h
    · by_cases h1 : isCall o.op = true
      · rw [if_pos h1] at h ⊢
        split at h
        · obtain ⟨h1, r, h2, h3⟩ := h
          exact ⟨h1, r, h2, ih _ _ hk _ _ _ h3⟩
        · exact h.elim
      · rw [if_neg h1] at h ⊢
        split at h
        · exact ih _ _ hk _ _ _ h
        · exact h.elim
    · exact h.elim
theorem pwCode_mono {P : Program} {m0 : Nat} {Q Q' : Ex → Env → Heap → Nat → Prop} (hq : ∀ ex env H m, Q ex env H m → Q' ex env H m) (c : Code) : ∀ {env : Env} {H : Heap} {m : Nat}, pwCode P m0 c Q env H m → pwCode P m0 c Q' env H m := by
  induction c generalizing Q Q' with
  | skip => intro env H m h; exact hq _ _ _ _ h
  | region id ops draw =>
    intro env H m h
    cases draw with
    | false => exact pwOps_mono hq _ _ _ _ h
    | true =>
      rcases h with h | ⟨l1, l2, h1, h2, h3, h4⟩ | ⟨h1, h2⟩
      · exact .inl ⟨h.1, dr_mono _ _ _ (fun e h m L k => ⟨k.1, hq _ _ _ _ k.2⟩) _ _ _ h.2⟩
      · exact .inr (.inl ⟨l1, l2, h1, h2, h3, dr_mono _ _ _ (fun e h m L k => ⟨k.1, pwOps_mono hq _ _ _ _ k.2⟩) _ _ _ h4⟩)
      · exact .inr (.inr ⟨h1, drq_mono _ _ _ (fun e k H' m' a b => hq _ _ _ _ (k H' m' a b)) _ _ _ h2⟩)
  | seq x y ihx ihy =>
    intro env H m h
    refine ihx (Q := Ex.then (pwCode P m0 y Q) Q) (Q' := Ex.then (pwCode P m0 y Q') Q') ?_ h
    intro ex env H m h
    cases ex with
    | normal => exact ihy hq h
    | exit i => exact hq _ _ _ _ h
    | ret => exact hq _ _ _ _ h
    | pan v => exact hq _ _ _ _ h
  | cond c x y ihx ihy =>
    intro env H m h
    simp only [pwCode] at h ⊢
    split at h
    · exact ⟨fun e => ihx hq (h.1 e), fun e => ihy hq (h.2 e)⟩
    · exact h.elim
  | block id x ih =>
    intro env H m h
    refine ih (Q := Ex.inBlock id Q) (Q' := Ex.inBlock id Q') ?_ h
    intro ex env H m h
    cases ex with
    | normal => exact hq _ _ _ _ h
    | exit i =>
      simp only [Ex.inBlock] at h ⊢
      split
      · rename_i e; rw [if_pos e] at h; exact hq _ _ _ _ h
      · rename_i e; rw [if_neg e] at h; exact hq _ _ _ _ h
    | ret => exact hq _ _ _ _ h
    | pan v => exact hq _ _ _ _ h
  | loop x ih =>
    intro env H m h
    obtain ⟨I, n, h1, h2⟩ := h
    refine ⟨I, n, h1, fun n env H m hI => ih ?_ (h2 n env H m hI)⟩
    intro ex env H m h
    cases ex with
    | normal => exact h
    | exit i => exact hq _ _ _ _ h
    | ret => exact hq _ _ _ _ h
    | pan v => exact hq _ _ _ _ h
  | exit id => intro env H m h; exact hq _ _ _ _ h
  | ret => intro env H m h; exact hq _ _ _ _ h
  | rangeFunc f p x y ihx ihy => intro env H m h; exact h.elim
  | scope x ih => intro env H m h; exact h.elim
  | label l => intro env H m h; exact h.elim
  | goto l => intro env H m h; exact h.elim
  | refuse s => intro env H m h; exact h.elim
/-! Loops. -/
def envL (l : List (Nat × PV)) : Env := fun t => match l.find? (fun x => x.1 == t) with
  | some x => x.2
  | none => .any
def heapL (l : List (Nat × HE)) : Heap := fun t => match l.find? (fun x => x.1 == t) with
  | some x => some x.2
  | none => none
/-- What stays known: these temporaries, and no own box but these. -/
def Keep (m0 : Nat) (env : Env) (H : Heap) (m : Nat) (E : List (Nat × PV)) (G : List (Nat × HE)) (m' : Nat) : Prop :=
  m0 ≤ m' ∧ (∀ x ∈ E, env x.1 = x.2 ∧ Bd (LV (heapL G)) x.2) ∧ (∀ x ∈ G, H x.1 = some x.2 ∧ m0 ≤ x.1 ∧ x.1 < m' ∧ (match x.2 with
    | .box l => ∀ p ∈ l, Bd (LV (heapL G)) p
    | .row _ _ els => ∀ r ∈ els, ∀ p ∈ r, Bd (LV (heapL G)) p))
theorem heapL_some {G : List (Nat × HE)} {i : Nat} {h : HE} (e : heapL G i = some h) : (i, h) ∈ G := by
  unfold heapL at e
  split at e
  · rename_i x hx
    cases e
    have h1 := List.find?_some hx
    have h2 := List.mem_of_find?_eq_some hx
    have : x.1 = i := by simpa using h1
    subst this
    exact h2
  · cases e
theorem wk_of_keep {m0 : Nat} {env : Env} {H : Heap} {m : Nat} {E : List (Nat × PV)} {G : List (Nat × HE)} {m' : Nat} (hH : ∀ i, i < m0 → H i = none) (h : Keep m0 env H m E G m') : Wk m0 env H m (envL E) (heapL G) m' := by
  obtain ⟨h1, h2, h3⟩ := h
  refine ⟨h1, fun i => ?_, fun i hi => ?_, fun t => ?_, fun i l hl => ?_, fun i e sz els hl => ?_⟩
  · cases hg : heapL G i with
    | none =>
      by_cases hi : i < m0
      · exact .inl (hH i hi).symm
      · exact .inr ⟨Nat.le_of_not_lt hi, rfl⟩
    | some x => exact .inl (h3 _ (heapL_some hg)).1.symm
  · cases hg : heapL G i with
    | none => rfl
    | some x => have := (h3 _ (heapL_some hg)).2.2.1; simp only at this; omega
  · unfold envL
    split
    · rename_i x hx
      have h4 := List.find?_some hx
      have h5 := List.mem_of_find?_eq_some hx
      have : x.1 = t := by simpa using h4
      subst this
      obtain ⟨h6, h7⟩ := h2 x h5
      exact .inr ⟨h6.symm, by rw [h6]; exact h7⟩
    · exact .inl rfl
  · have := (h3 _ (heapL_some hl)).2.2.2; exact this
  · have := (h3 _ (heapL_some hl)).2.2.2; exact this
/-- Once more, with less to go. -/
def Again {S : Type} (m0 : Nat) (μ : S → Nat) (Inv : S → Prop) (E : S → List (Nat × PV)) (G : S → List (Nat × HE)) (mm : S → Nat) (s : S) (env : Env) (H : Heap) (m : Nat) : Prop :=
  ∃ s', μ s' < μ s ∧ Inv s' ∧ Keep m0 env H m (E s') (G s') (mm s')
theorem pc_loop {P : Program} {x : Code} {Q : Ex → Env → Heap → Nat → Prop} {env : Env} {H : Heap} {m : Nat} {S : Type} (μ : S → Nat) (Inv : S → Prop) (E : S → List (Nat × PV)) (G : S → List (Nat × HE)) (mm : S → Nat) (s0 : S) (h0 : Inv s0)
    (hk : Keep 0 env H m (E s0) (G s0) (mm s0)) (hr : ∀ s, Inv s → pwCode P 0 x (Ex.then (Again 0 μ Inv E G mm s) Q) (envL (E s)) (heapL (G s)) (mm s)) : pwCode P 0 (.loop x) Q env H m := by
  refine ⟨fun n env H m => ∃ s, μ s = n ∧ Inv s ∧ env = envL (E s) ∧ H = heapL (G s) ∧ m = mm s, μ s0, ⟨_, _, _, wk_of_keep (fun i hi => absurd hi (Nat.not_lt_zero i)) hk, s0, rfl, h0, rfl, rfl, rfl⟩, ?_⟩
  rintro n env H m ⟨s, rfl, hs, rfl, rfl, rfl⟩
  have := hr s hs
  refine pwCode_mono (fun ex env' H' m' hq => ?_) x this
  cases ex with
  | normal =>
    obtain ⟨s', h1, h2, h3⟩ := hq
    exact ⟨μ s', h1, _, _, _, wk_of_keep (fun i hi => absurd hi (Nat.not_lt_zero i)) h3, s', rfl, h2, rfl, rfl, rfl⟩
  | exit i => exact hq
  | ret => exact hq
  | pan v => exact hq
def KE (S : Nat → Prop) (env : Env) (E : List (Nat × PV)) : Prop := ∀ x ∈ E, env x.1 = x.2 ∧ Bd S x.2
theorem ke_nil {S : Nat → Prop} {env : Env} : KE S env [] := fun x h => by cases h
theorem ke_cons {S : Nat → Prop} {env : Env} {t : Nat} {v : PV} {E : List (Nat × PV)} (h : env t = v) (hb : Bd S v) (k : KE S env E) : KE S env ((t, v) :: E) := fun x hx => by
  rcases List.mem_cons.1 hx with rfl | hx
  · exact ⟨h, hb⟩
  · exact k x hx
theorem keep0 {env : Env} {H : Heap} {m : Nat} {E : List (Nat × PV)} {m' : Nat} (h : KE (LV (heapL [])) env E) : Keep 0 env H m E [] m' := ⟨Nat.zero_le _, h, fun x hx => by cases hx⟩
def KG (S : Nat → Prop) (H : Heap) (m' : Nat) (G : List (Nat × HE)) : Prop := ∀ x ∈ G, H x.1 = some x.2 ∧ x.1 < m' ∧ (match x.2 with
    | .box l => ∀ p ∈ l, Bd S p
    | .row _ _ els => ∀ r ∈ els, ∀ p ∈ r, Bd S p)
theorem kg_nil {S : Nat → Prop} {H : Heap} {m' : Nat} : KG S H m' [] := fun x h => by cases h
theorem kg_box {S : Nat → Prop} {H : Heap} {m' i : Nat} {l : List PV} {G : List (Nat × HE)} (h : H i = some (.box l)) (hi : i < m') (hb : BdL S l) (k : KG S H m' G) : KG S H m' ((i, .box l) :: G) := fun x hx => by
  rcases List.mem_cons.1 hx with rfl | hx
  · exact ⟨h, hi, hb⟩
  · exact k x hx
theorem kg_row {S : Nat → Prop} {H : Heap} {m' i e sz : Nat} {els : List (List PV)} {G : List (Nat × HE)} (h : H i = some (.row e sz els)) (hi : i < m') (hb : Bd S (.sl els)) (k : KG S H m' G) : KG S H m' ((i, .row e sz els) :: G) := fun x hx => by
  rcases List.mem_cons.1 hx with rfl | hx
  · exact ⟨h, hi, by cases hb with | sl _ hb => exact hb⟩
  · exact k x hx
theorem keepI {env : Env} {H : Heap} {m : Nat} {E : List (Nat × PV)} {G : List (Nat × HE)} {m' : Nat} (h : KE (LV (heapL G)) env E) (k : KG (LV (heapL G)) H m' G) : Keep 0 env H m E G m' := ⟨Nat.zero_le _, h, fun x hx => ⟨(k x hx).1, Nat.zero_le _, (k x hx).2⟩⟩
theorem lv_here {i : Nat} {x : HE} {G : List (Nat × HE)} : LV (heapL ((i, x) :: G)) i := by simp [LV, heapL]
theorem lv_there {i j : Nat} {x : HE} {G : List (Nat × HE)} (h : LV (heapL G) i) : LV (heapL ((j, x) :: G)) i := by
  unfold LV heapL at *
  simp only [List.find?_cons]
  cases hj : (j == i)
  · exact h
  · simp
@[go_sem] theorem LV_cons (i j : Nat) (x : HE) (G : List (Nat × HE)) : LV (heapL ((i, x) :: G)) j = if j = i then True else LV (heapL G) j := by
  unfold LV heapL
  simp only [List.find?_cons]
  by_cases h : j = i
  · subst h; simp
  · rw [if_neg h]; have : (i == j) = false := by simpa using Ne.symm h
    rw [this]
@[go_sem ↓] theorem envL_cons (t : Nat) (v : PV) (l : List (Nat × PV)) (u : Nat) : envL ((t, v) :: l) u = if u = t then v else envL l u := by
  simp only [envL, List.find?_cons]
  by_cases h : u = t
  · subst h; simp
  · rw [if_neg h]; have : (t == u) = false := by simpa using Ne.symm h
    rw [this]
@[go_sem ↓] theorem envL_nil (u : Nat) : envL [] u = .any := rfl
@[go_sem ↓] theorem heapL_cons (t : Nat) (v : HE) (l : List (Nat × HE)) (u : Nat) : heapL ((t, v) :: l) u = if u = t then some v else heapL l u := by
  simp only [heapL, List.find?_cons]
  by_cases h : u = t
  · subst h; simp
  · rw [if_neg h]; have : (t == u) = false := by simpa using Ne.symm h
    rw [this]
@[go_sem ↓] theorem heapL_nil (u : Nat) : heapL [] u = none := rfl
/-- A loop in a function that was handed boxes of its caller: these stay as they are, and no other box is known. -/
def KeepK (m0 : Nat) (G : List (Nat × HE)) (env : Env) (H : Heap) (E : List (Nat × PV)) : Prop := (∀ i, i < m0 → H i = heapL G i) ∧ KE (LV (heapL G)) env E
def AgainK {S : Type} (m0 : Nat) (G : List (Nat × HE)) (μ : S → Nat) (Inv : S → Prop) (E : S → List (Nat × PV)) (s : S) (env : Env) (H : Heap) (m : Nat) : Prop := ∃ s', μ s' < μ s ∧ Inv s' ∧ m0 ≤ m ∧ KeepK m0 G env H (E s')
theorem pc_loopK {P : Program} {x : Code} {Q : Ex → Env → Heap → Nat → Prop} {env : Env} {H : Heap} {m m0 : Nat} {S : Type} (G : List (Nat × HE)) (hG : ∀ i, m0 ≤ i → heapL G i = none) (hB : ∀ i l, heapL G i = some (.box l) → ∀ p ∈ l, Bd (LV (heapL G)) p) (hR : ∀ i e sz els, heapL G i ≠ some (.row e sz els))
    (μ : S → Nat) (Inv : S → Prop) (E : S → List (Nat × PV)) (s0 : S) (h0 : Inv s0) (hm : m0 ≤ m) (hk : KeepK m0 G env H (E s0)) (hr : ∀ s, Inv s → pwCode P m0 x (Ex.then (AgainK m0 G μ Inv E s) Q) (envL (E s)) (heapL G) m0) : pwCode P m0 (.loop x) Q env H m := by
  have wk : ∀ {env : Env} {H : Heap} {m : Nat} {s : S}, m0 ≤ m → KeepK m0 G env H (E s) → Wk m0 env H m (envL (E s)) (heapL G) m0 := by
    rintro env H m s hm ⟨h1, h2⟩
    refine ⟨Nat.le_refl _, fun i => ?_, hG, fun t => ?_, hB, fun i e sz els h => absurd h (hR i e sz els)⟩
    · by_cases hi : i < m0
      · exact .inl (h1 i hi).symm
      · exact .inr ⟨Nat.le_of_not_lt hi, hG i (Nat.le_of_not_lt hi)⟩
    · unfold envL
      split
      · rename_i x hx
        have h4 := List.find?_some hx
        have h5 := List.mem_of_find?_eq_some hx
        have : x.1 = t := by simpa using h4
        subst this
        obtain ⟨h6, h7⟩ := h2 x h5
        exact .inr ⟨h6.symm, by rw [h6]; exact h7⟩
      · exact .inl rfl
  refine ⟨fun n env H m => ∃ s, μ s = n ∧ Inv s ∧ env = envL (E s) ∧ H = heapL G ∧ m = m0, μ s0, ⟨_, _, _, wk hm hk, s0, rfl, h0, rfl, rfl, rfl⟩, ?_⟩
  rintro n env H m ⟨s, rfl, hs, rfl, rfl, rfl⟩
  have := hr s hs
  refine pwCode_mono (fun ex env' H' m' hq => ?_) x this
  cases ex with
  | normal =>
    obtain ⟨s', h1, h2, h3, h4⟩ := hq
    exact ⟨μ s', h1, _, _, _, wk h3 h4, s', rfl, h2, rfl, rfl, rfl⟩
  | exit i => exact hq
  | ret => exact hq
  | pan v => exact hq
theorem againK {S : Type} {m0 : Nat} {G : List (Nat × HE)} {μ : S → Nat} {Inv : S → Prop} {E : S → List (Nat × PV)} {s : S} {env : Env} {H : Heap} {m : Nat} (s' : S) (h2 : Inv s') (h1 : μ s' < μ s) (h3 : m0 ≤ m) (h4 : ∀ i, i < m0 → H i = heapL G i) (h5 : KE (LV (heapL G)) env (E s')) : AgainK m0 G μ Inv E s env H m := ⟨s', h1, h2, h3, h4, h5⟩
theorem hset_heapL (i : Nat) (x : HE) : hset (fun _ => none) i (some x) = heapL [(i, x)] := by
  funext j
  unfold hset heapL
  simp only [List.find?_cons, List.find?_nil]
  by_cases h : j = i
  · subst h; simp
  · rw [if_neg h]; have : (i == j) = false := by simpa using Ne.symm h
    rw [this]
attribute [irreducible] Nm gW goOn putGo runGo callGo panGo wGo drGo drOn dputGo dcallGo condGo resGo
attribute [go_sem] Eff.app Eff.cnt eInt eShift hset PV.cells? calleeP panicP resOf resAll resOne
attribute [go_sem ↓] evOp evBs nwOf
attribute [go_sem] evIndexAddr evIndex evLen evAppend evSlice
@[go_sem] theorem evBin_shl (P : Program) (t : TypeId) (k k' : IntKind) (a b : Int) : evBin P .shl t (.int k a) (.int k' b) = eShift .shl k a b := rfl
@[go_sem] theorem evBin_shr (P : Program) (t : TypeId) (k k' : IntKind) (a b : Int) : evBin P .shr t (.int k a) (.int k' b) = eShift .shr k a b := rfl
@[go_sem] theorem evBin_eqb (P : Program) (t : TypeId) (a b : Bool) : evBin P .eql t (.bool a) (.bool b) = match P.underlying t with
  | some .bool => some (.bool (a == b))
  | _ => none := rfl
@[go_sem] theorem evBin_neb (P : Program) (t : TypeId) (a b : Bool) : evBin P .neq t (.bool a) (.bool b) = match P.underlying t with
  | some .bool => some (.bool (!(a == b)))
  | _ => none := rfl
@[go_sem] theorem evBin_add (P : Program) (t : TypeId) (k : IntKind) (a b : Int) : evBin P .add t (.int k a) (.int k b) = eInt .add k a b := by simp [evBin]
@[go_sem] theorem evBin_sub (P : Program) (t : TypeId) (k : IntKind) (a b : Int) : evBin P .sub t (.int k a) (.int k b) = eInt .sub k a b := by simp [evBin]
@[go_sem] theorem evBin_mul (P : Program) (t : TypeId) (k : IntKind) (a b : Int) : evBin P .mul t (.int k a) (.int k b) = eInt .mul k a b := by simp [evBin]
@[go_sem] theorem evBin_quo (P : Program) (t : TypeId) (k : IntKind) (a b : Int) : evBin P .quo t (.int k a) (.int k b) = eInt .quo k a b := by simp [evBin]
@[go_sem] theorem evBin_rem (P : Program) (t : TypeId) (k : IntKind) (a b : Int) : evBin P .rem t (.int k a) (.int k b) = eInt .rem k a b := by simp [evBin]
@[go_sem] theorem evBin_and (P : Program) (t : TypeId) (k : IntKind) (a b : Int) : evBin P .and t (.int k a) (.int k b) = eInt .and k a b := by simp [evBin]
@[go_sem] theorem evBin_or (P : Program) (t : TypeId) (k : IntKind) (a b : Int) : evBin P .or t (.int k a) (.int k b) = eInt .or k a b := by simp [evBin]
@[go_sem] theorem evBin_xor (P : Program) (t : TypeId) (k : IntKind) (a b : Int) : evBin P .xor t (.int k a) (.int k b) = eInt .xor k a b := by simp [evBin]
@[go_sem] theorem evBin_andNot (P : Program) (t : TypeId) (k : IntKind) (a b : Int) : evBin P .andNot t (.int k a) (.int k b) = eInt .andNot k a b := by simp [evBin]
@[go_sem] theorem evBin_eql (P : Program) (t : TypeId) (k : IntKind) (a b : Int) : evBin P .eql t (.int k a) (.int k b) = eInt .eql k a b := by simp [evBin]
@[go_sem] theorem evBin_neq (P : Program) (t : TypeId) (k : IntKind) (a b : Int) : evBin P .neq t (.int k a) (.int k b) = eInt .neq k a b := by simp [evBin]
@[go_sem] theorem evBin_lss (P : Program) (t : TypeId) (k : IntKind) (a b : Int) : evBin P .lss t (.int k a) (.int k b) = eInt .lss k a b := by simp [evBin]
@[go_sem] theorem evBin_leq (P : Program) (t : TypeId) (k : IntKind) (a b : Int) : evBin P .leq t (.int k a) (.int k b) = eInt .leq k a b := by simp [evBin]
@[go_sem] theorem evBin_gtr (P : Program) (t : TypeId) (k : IntKind) (a b : Int) : evBin P .gtr t (.int k a) (.int k b) = eInt .gtr k a b := by simp [evBin]
@[go_sem] theorem evBin_geq (P : Program) (t : TypeId) (k : IntKind) (a b : Int) : evBin P .geq t (.int k a) (.int k b) = eInt .geq k a b := by simp [evBin]
@[go_sem] theorem nn_nat (n : Nat) : (0 ≤ (n : Int)) = True := by simp
@[go_sem] theorem nn_natd (n : Nat) : decide (0 ≤ (n : Int)) = true := by simp
@[go_sem ↓] theorem rho_tmp (e : Env) (t : Nat) : rho e (.tmp t) = e t := rfl
@[go_sem ↓] theorem rho_const (e : Env) (v : Value) : rho e (.const v) = cv v := rfl
@[go_sem ↓] theorem rho_func (e : Env) (f : FuncId) : rho e (.func f) = .fn (.func f) [] [] := rfl
@[go_sem ↓] theorem upd_some (e : Env) (d t : Nat) (v : PV) : upd e (some d) v t = if t = d then v else e t := rfl
@[go_sem ↓] theorem upd_none (e : Env) (v : PV) : upd e none v = e := rfl
@[go_sem] theorem initEnv_at (args : List PV) (t : Nat) : initEnv args t = args.getD t .undef := rfl
@[go_sem] theorem cv_bool (b : Bool) : cv (.bool b) = .bool b := rfl
@[go_sem] theorem cv_int (k : IntKind) (n : Int) : cv (.int k n) = .int k n := rfl
@[go_sem] theorem cv_slice : cv (.slice none 0 0) = .nilsl := rfl
@[go_sem] theorem cv_nilFunc : cv .nilFunc = .nilfn := rfl
@[go_sem] theorem strip_bool (H : Heap) (b : Bool) : strip H (.bool b) = .bool b := rfl
@[go_sem] theorem strip_int (H : Heap) (k : IntKind) (n : Int) : strip H (.int k n) = .int k n := rfl
@[go_sem] theorem strip_agg (H : Heap) (l : List PV) : strip H (.agg l) = .agg l := rfl
@[go_sem] theorem strip_tup (H : Heap) (l : List PV) : strip H (.tup l) = .tup l := rfl
@[go_sem] theorem strip_sl (H : Heap) (l : List (List PV)) : strip H (.sl l) = .sl l := rfl
@[go_sem] theorem strip_nilsl (H : Heap) : strip H .nilsl = .sl [] := rfl
@[go_sem] theorem strip_ref (H : Heap) (l : List PV) : strip H (.ref l) = .ref l := rfl
@[go_sem] theorem strip_ptr (H : Heap) (i o : Nat) : strip H (.ptr i o) = .ptr i o := rfl
@[go_sem] theorem strip_fn (H : Heap) (f : Fn) (a b : List PV) : strip H (.fn f a b) = .fn f a b := rfl
@[go_sem] theorem strip_ifc (H : Heap) (t : TypeId) (v : PV) : strip H (.ifc t v) = .ifc t v := rfl
@[go_sem] theorem strip_bs (H : Heap) (i n e z : Nat) : strip H (.bs i n e z) = .bs i n e z := rfl
@[go_sem] theorem strip_bz (H : Heap) : strip H .bz = .bz := rfl
@[go_sem] theorem strip_c0 (H : Heap) : strip H .c0 = .c0 := rfl
@[go_sem] theorem strip_gr (H : Heap) (id k : Nat) : strip H (.gr id k) = match H id with
    | some (.row _ _ els) => if els.length = k then .sl els else .any
    | _ => .any := rfl
@[go_sem] theorem sp0_bool (b : Bool) : sp0 (.bool b) = .bool b := rfl
@[go_sem] theorem sp0_int (k : IntKind) (n : Int) : sp0 (.int k n) = .int k n := rfl
@[go_sem] theorem sp0_agg (l : List PV) : sp0 (.agg l) = .agg l := rfl
@[go_sem] theorem sp0_tup (l : List PV) : sp0 (.tup l) = .tup l := rfl
@[go_sem] theorem sp0_sl (l : List (List PV)) : sp0 (.sl l) = .sl l := rfl
@[go_sem] theorem sp0_nilsl : sp0 .nilsl = .sl [] := rfl
@[go_sem] theorem sp0_ref (l : List PV) : sp0 (.ref l) = .ref l := rfl
@[go_sem] theorem sp0_ptr (i o : Nat) : sp0 (.ptr i o) = .ptr i o := rfl
@[go_sem] theorem sp0_fn (f : Fn) (a b : List PV) : sp0 (.fn f a b) = .fn f a b := rfl
attribute [go_sem ↓] reduceIte
attribute [go_sem] Nat.reduceMul Nat.reduceLeDiff Int.reduceToNat Int.reduceLE Int.reduceLT Int.reduceGT Int.reduceGE Int.reduceAdd Int.reduceSub Int.reduceMul Int.reduceNeg and_self and_true true_and eq_self Bool.false_eq_true
attribute [go_sem] List.getD_cons_zero List.getD_cons_succ Nat.reduceEqDiff ite_true ite_false if_true if_false Option.map_some Option.bind_some List.getElem?_toArray List.getElem?_cons_succ List.getElem?_cons_zero Nat.zero_add Nat.add_zero Nat.reduceAdd
  beq_self_eq_true Bool.not_true Bool.not_false Bool.not_not decide_true decide_false
  List.all_cons List.all_nil Bool.and_true Bool.true_and List.length_cons List.length_nil
  List.map_cons List.map_nil List.nil_append List.cons_append List.append_nil
@[go_sem] theorem bne_def {α : Type} [BEq α] (a b : α) : (a != b) = !(a == b) := rfl
@[go_sem] theorem bt_t (b : Bool) : (b == true) = b := by cases b <;> rfl
@[go_sem] theorem bt_f (b : Bool) : (b == false) = !b := by cases b <;> rfl
end Go.Proofs.Yteibeoipnjhicaa
