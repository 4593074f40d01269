import Derived.Test.YteibeoipnjhicaaGreatEvr
import Derived.Test.YteibeoipnjhicaaGreatProg
namespace Go.Proofs.YteibeoipnjhicaaGreat
open Go Go.RowKit
set_option linter.unusedVariables false
set_option linter.unusedSimpArgs false
def u64 (x : Int) : List PV := [.int .u64 x]
def arr (n : Nat) (f : Nat → List PV) : List PV := (List.range n).flatMap f
theorem q5y (S : Nat → Prop) (x : Int) : ∀ p ∈ u64 x, Bd S p := by intro p hp; simp only [u64, List.mem_cons, List.not_mem_nil, or_false] at hp; subst hp; exact Bd.int _ _
@[go_sem] theorem u64_bdL (S : Nat → Prop) (x : Int) : BdL S (u64 x) = True := eq_true (q5y S x)
@[go_sem] theorem u64_bdS (S : Nat → Prop) (l : List Int) : Bd S (.sl (List.map u64 l)) = True := Bd_slm (q5y S) l
@[go_sem] theorem u64_len (x : Int) : (u64 x).length = 1 := rfl
@[go_sem] theorem u64_cut (x : Int) : cut Tryz.prog 22 (u64 x) 0 = some (.int .u64 x) := by kernel_rfl
structure Pr where
  cat : Int
  lev : Int
  deriving DecidableEq, Inhabited
def Pr.enc (x : Pr) : List PV := [.int .u64 x.cat] ++ [.int .i64 x.lev]
@[go_sem] theorem Pr.len (x : Pr) : (Pr.enc x).length = 2 := by kernel_rfl
@[go_sem] theorem Pr.cells (x : Pr) : PV.cells? (.agg (Pr.enc x)) = some (Pr.enc x) := rfl
@[go_sem] theorem cut_Pr_0 (x : Pr) : cut Tryz.prog 84 (Pr.enc x) 0 = some (.agg (Pr.enc x)) := by kernel_rfl
@[go_sem] theorem field_Pr_0_0 : q2v Tryz.prog 84 0 = some (22, 0) := by kernel_rfl
@[go_sem] theorem field_Pr_0_1 : q2v Tryz.prog 84 1 = some (3, 1) := by kernel_rfl
@[go_sem] theorem build_Pr_0_0_1 (cat : Int) (lev : Int) : q4l Tryz.prog 84 [(0, .int .u64 cat), (1, .int .i64 lev)] = some (.agg (Pr.enc ⟨cat, lev⟩)) := by kernel_rfl
@[go_sem] theorem cut_Pr_cat_0 (x : Pr) : cut Tryz.prog 22 (Pr.enc x) 0 = some (.int .u64 x.cat) := by kernel_rfl
@[go_sem] theorem cut_Pr_lev_0 (x : Pr) : cut Tryz.prog 3 (Pr.enc x) 1 = some (.int .i64 x.lev) := by kernel_rfl
theorem Pr.bdl (S : Nat → Prop) (x : Pr) : ∀ p ∈ Pr.enc x, Bd S p := by
  unfold Pr.enc
  simp only [List.mem_append, or_imp, forall_and, List.forall_mem_cons, List.not_mem_nil, false_imp_iff, implies_true, and_true, List.forall_mem_nil, List.cons_append, List.nil_append, arr, List.mem_flatMap, forall_exists_index, and_imp]
  and_intros <;> first | exact Bd.int _ _ | exact Bd.bool _ | exact Bd.sl _ (by intro e he; obtain ⟨y, _, rfl⟩ := List.mem_map.1 he; first | with_reducible exact q5y _ _ | with_reducible exact Pr.bdl _ _ | with_reducible exact Mp.bdl _ _ | with_reducible exact Ob.bdl _ _) | with_reducible exact Rf.bdl _ _ | with_reducible exact Wt.bdl _ _ | with_reducible exact Sp.bdl _ _ | with_reducible exact Th.bdl _ _ | with_reducible exact Gt.bdl _ _ | (intro p i _ hp; first | (simp only [List.mem_cons, List.not_mem_nil, or_false] at hp; subst hp; first | exact Bd.int _ _ | exact Bd.sl _ (by intro e he; obtain ⟨y, _, rfl⟩ := List.mem_map.1 he; exact Pr.bdl _ _)))
@[go_sem] theorem Pr.bdL (S : Nat → Prop) (x : Pr) : BdL S (Pr.enc x) = True := eq_true (Pr.bdl S x)
@[go_sem] theorem Pr.bdS (S : Nat → Prop) (l : List Pr) : Bd S (.sl (List.map Pr.enc l)) = True := Bd_slm (Pr.bdl S) l
structure Mp where
  va : Int
  n : Int
  cont : Int
  seg : Int
  off : Int
  write : Bool
  deriving DecidableEq, Inhabited
def Mp.enc (x : Mp) : List PV := [.int .i64 x.va] ++ [.int .i64 x.n] ++ [.int .u64 x.cont] ++ [.int .u64 x.seg] ++ [.int .i64 x.off] ++ [.bool x.write]
@[go_sem] theorem Mp.len (x : Mp) : (Mp.enc x).length = 6 := by kernel_rfl
@[go_sem] theorem Mp.cells (x : Mp) : PV.cells? (.agg (Mp.enc x)) = some (Mp.enc x) := rfl
@[go_sem] theorem cut_Mp_0 (x : Mp) : cut Tryz.prog 118 (Mp.enc x) 0 = some (.agg (Mp.enc x)) := by kernel_rfl
@[go_sem] theorem field_Mp_0_0 : q2v Tryz.prog 118 0 = some (3, 0) := by kernel_rfl
@[go_sem] theorem field_Mp_0_1 : q2v Tryz.prog 118 1 = some (3, 1) := by kernel_rfl
@[go_sem] theorem field_Mp_0_4 : q2v Tryz.prog 118 4 = some (3, 4) := by kernel_rfl
@[go_sem] theorem cut_Mp_va_0 (x : Mp) : cut Tryz.prog 3 (Mp.enc x) 0 = some (.int .i64 x.va) := by kernel_rfl
@[go_sem] theorem cut_Mp_n_0 (x : Mp) : cut Tryz.prog 3 (Mp.enc x) 1 = some (.int .i64 x.n) := by kernel_rfl
@[go_sem] theorem cut_Mp_off_0 (x : Mp) : cut Tryz.prog 3 (Mp.enc x) 4 = some (.int .i64 x.off) := by kernel_rfl
theorem Mp.bdl (S : Nat → Prop) (x : Mp) : ∀ p ∈ Mp.enc x, Bd S p := by
  unfold Mp.enc
  simp only [List.mem_append, or_imp, forall_and, List.forall_mem_cons, List.not_mem_nil, false_imp_iff, implies_true, and_true, List.forall_mem_nil, List.cons_append, List.nil_append, arr, List.mem_flatMap, forall_exists_index, and_imp]
  and_intros <;> first | exact Bd.int _ _ | exact Bd.bool _ | exact Bd.sl _ (by intro e he; obtain ⟨y, _, rfl⟩ := List.mem_map.1 he; first | with_reducible exact q5y _ _ | with_reducible exact Pr.bdl _ _ | with_reducible exact Mp.bdl _ _ | with_reducible exact Ob.bdl _ _) | with_reducible exact Rf.bdl _ _ | with_reducible exact Wt.bdl _ _ | with_reducible exact Sp.bdl _ _ | with_reducible exact Th.bdl _ _ | with_reducible exact Gt.bdl _ _ | (intro p i _ hp; first | (simp only [List.mem_cons, List.not_mem_nil, or_false] at hp; subst hp; first | exact Bd.int _ _ | exact Bd.sl _ (by intro e he; obtain ⟨y, _, rfl⟩ := List.mem_map.1 he; exact Pr.bdl _ _)))
@[go_sem] theorem Mp.bdL (S : Nat → Prop) (x : Mp) : BdL S (Mp.enc x) = True := eq_true (Mp.bdl S x)
@[go_sem] theorem Mp.bdS (S : Nat → Prop) (l : List Mp) : Bd S (.sl (List.map Mp.enc l)) = True := Bd_slm (Mp.bdl S) l
structure Rf where
  cont : Int
  id : Int
  deriving DecidableEq, Inhabited
def Rf.enc (x : Rf) : List PV := [.int .u64 x.cont] ++ [.int .u64 x.id]
def Rf.zero : Rf := ⟨0, 0⟩
@[go_sem] theorem Rf.cells (x : Rf) : PV.cells? (.agg (Rf.enc x)) = some (Rf.enc x) := rfl
@[go_sem] theorem cut_Rf_0 (x : Rf) : cut Tryz.prog 47 (Rf.enc x) 0 = some (.agg (Rf.enc x)) := by kernel_rfl
@[go_sem] theorem field_Rf_0_0 : q2v Tryz.prog 47 0 = some (22, 0) := by kernel_rfl
@[go_sem] theorem field_Rf_0_1 : q2v Tryz.prog 47 1 = some (22, 1) := by kernel_rfl
@[go_sem] theorem cut_Rf_cont_0 (x : Rf) : cut Tryz.prog 22 (Rf.enc x) 0 = some (.int .u64 x.cont) := by kernel_rfl
@[go_sem] theorem cut_Rf_id_0 (x : Rf) : cut Tryz.prog 22 (Rf.enc x) 1 = some (.int .u64 x.id) := by kernel_rfl
theorem Rf.bdl (S : Nat → Prop) (x : Rf) : ∀ p ∈ Rf.enc x, Bd S p := by
  unfold Rf.enc
  simp only [List.mem_append, or_imp, forall_and, List.forall_mem_cons, List.not_mem_nil, false_imp_iff, implies_true, and_true, List.forall_mem_nil, List.cons_append, List.nil_append, arr, List.mem_flatMap, forall_exists_index, and_imp]
  and_intros <;> first | exact Bd.int _ _ | exact Bd.bool _ | exact Bd.sl _ (by intro e he; obtain ⟨y, _, rfl⟩ := List.mem_map.1 he; first | with_reducible exact q5y _ _ | with_reducible exact Pr.bdl _ _ | with_reducible exact Mp.bdl _ _ | with_reducible exact Ob.bdl _ _) | with_reducible exact Rf.bdl _ _ | with_reducible exact Wt.bdl _ _ | with_reducible exact Sp.bdl _ _ | with_reducible exact Th.bdl _ _ | with_reducible exact Gt.bdl _ _ | (intro p i _ hp; first | (simp only [List.mem_cons, List.not_mem_nil, or_false] at hp; subst hp; first | exact Bd.int _ _ | exact Bd.sl _ (by intro e he; obtain ⟨y, _, rfl⟩ := List.mem_map.1 he; exact Pr.bdl _ _)))
@[go_sem] theorem Rf.bdL (S : Nat → Prop) (x : Rf) : BdL S (Rf.enc x) = True := eq_true (Rf.bdl S x)
structure Wt where
  ref : Rf
  index : Int
  val : Int
  dev : Bool
  deriving DecidableEq, Inhabited
def Wt.enc (x : Wt) : List PV := Rf.enc x.ref ++ [.int .u64 x.index] ++ [.int .u64 x.val] ++ [.bool x.dev]
def Wt.zero : Wt := ⟨Rf.zero, 0, 0, false⟩
@[go_sem] theorem Wt.cells (x : Wt) : PV.cells? (.agg (Wt.enc x)) = some (Wt.enc x) := rfl
@[go_sem] theorem build_Wt_0_  : q4l Tryz.prog 49 [] = some (.agg (Wt.enc Wt.zero)) := by kernel_rfl
theorem Wt.bdl (S : Nat → Prop) (x : Wt) : ∀ p ∈ Wt.enc x, Bd S p := by
  unfold Wt.enc
  simp only [List.mem_append, or_imp, forall_and, List.forall_mem_cons, List.not_mem_nil, false_imp_iff, implies_true, and_true, List.forall_mem_nil, List.cons_append, List.nil_append, arr, List.mem_flatMap, forall_exists_index, and_imp]
  and_intros <;> first | exact Bd.int _ _ | exact Bd.bool _ | exact Bd.sl _ (by intro e he; obtain ⟨y, _, rfl⟩ := List.mem_map.1 he; first | with_reducible exact q5y _ _ | with_reducible exact Pr.bdl _ _ | with_reducible exact Mp.bdl _ _ | with_reducible exact Ob.bdl _ _) | with_reducible exact Rf.bdl _ _ | with_reducible exact Wt.bdl _ _ | with_reducible exact Sp.bdl _ _ | with_reducible exact Th.bdl _ _ | with_reducible exact Gt.bdl _ _ | (intro p i _ hp; first | (simp only [List.mem_cons, List.not_mem_nil, or_false] at hp; subst hp; first | exact Bd.int _ _ | exact Bd.sl _ (by intro e he; obtain ⟨y, _, rfl⟩ := List.mem_map.1 he; exact Pr.bdl _ _)))
structure Sp where
  lo : Int
  hi : Int
  deriving DecidableEq, Inhabited
def Sp.enc (x : Sp) : List PV := [.int .u64 x.lo] ++ [.int .u64 x.hi]
def Sp.zero : Sp := ⟨0, 0⟩
@[go_sem] theorem Sp.cells (x : Sp) : PV.cells? (.agg (Sp.enc x)) = some (Sp.enc x) := rfl
@[go_sem] theorem field_Sp_0_0 : q2v Tryz.prog 51 0 = some (22, 0) := by kernel_rfl
@[go_sem] theorem field_Sp_0_1 : q2v Tryz.prog 51 1 = some (22, 1) := by kernel_rfl
@[go_sem] theorem cut_Sp_lo_0 (x : Sp) : cut Tryz.prog 22 (Sp.enc x) 0 = some (.int .u64 x.lo) := by kernel_rfl
@[go_sem] theorem cut_Sp_hi_0 (x : Sp) : cut Tryz.prog 22 (Sp.enc x) 1 = some (.int .u64 x.hi) := by kernel_rfl
theorem Sp.bdl (S : Nat → Prop) (x : Sp) : ∀ p ∈ Sp.enc x, Bd S p := by
  unfold Sp.enc
  simp only [List.mem_append, or_imp, forall_and, List.forall_mem_cons, List.not_mem_nil, false_imp_iff, implies_true, and_true, List.forall_mem_nil, List.cons_append, List.nil_append, arr, List.mem_flatMap, forall_exists_index, and_imp]
  and_intros <;> first | exact Bd.int _ _ | exact Bd.bool _ | exact Bd.sl _ (by intro e he; obtain ⟨y, _, rfl⟩ := List.mem_map.1 he; first | with_reducible exact q5y _ _ | with_reducible exact Pr.bdl _ _ | with_reducible exact Mp.bdl _ _ | with_reducible exact Ob.bdl _ _) | with_reducible exact Rf.bdl _ _ | with_reducible exact Wt.bdl _ _ | with_reducible exact Sp.bdl _ _ | with_reducible exact Th.bdl _ _ | with_reducible exact Gt.bdl _ _ | (intro p i _ hp; first | (simp only [List.mem_cons, List.not_mem_nil, or_false] at hp; subst hp; first | exact Bd.int _ _ | exact Bd.sl _ (by intro e he; obtain ⟨y, _, rfl⟩ := List.mem_map.1 he; exact Pr.bdl _ _)))
@[go_sem] theorem Sp.bdL (S : Nat → Prop) (x : Sp) : BdL S (Sp.enc x) = True := eq_true (Sp.bdl S x)
structure Th where
  regs : Nat → Int
  pc : Int
  clear : List Pr
  space : Rf
  handler : Int
  vector : Int
  state : Int
  wait : Wt
  alerts : List Int
  span : Sp
  labs : Nat → List Pr
  deriving Inhabited
def Th.enc (x : Th) : List PV := arr 16 (fun i => [.int .u64 (x.regs i)]) ++ [.int .u64 x.pc] ++ [.sl (List.map Pr.enc x.clear)] ++ Rf.enc x.space ++ [.int .u64 x.handler] ++ [.int .u64 x.vector] ++ [.int .i64 x.state] ++ Wt.enc x.wait ++ [.sl (List.map u64 x.alerts)] ++ Sp.enc x.span ++ arr 4 (fun i => [.sl (List.map Pr.enc (x.labs i))])
def Th.zero : Th := ⟨fun _ => 0, 0, [], Rf.zero, 0, 0, 0, Wt.zero, [], Sp.zero, fun _ => []⟩
@[go_sem] theorem Th.len (x : Th) : (Th.enc x).length = 35 := by kernel_rfl
@[go_sem] theorem Th.cells (x : Th) : PV.cells? (.agg (Th.enc x)) = some (Th.enc x) := rfl
@[go_sem] theorem field_Th_0_0 : q2v Tryz.prog 54 0 = some (45, 0) := by kernel_rfl
@[go_sem] theorem field_Th_0_1 : q2v Tryz.prog 54 1 = some (22, 16) := by kernel_rfl
@[go_sem] theorem field_Th_0_2 : q2v Tryz.prog 54 2 = some (43, 17) := by kernel_rfl
@[go_sem] theorem field_Th_0_3 : q2v Tryz.prog 54 3 = some (47, 18) := by kernel_rfl
@[go_sem] theorem field_Th_0_4 : q2v Tryz.prog 54 4 = some (22, 20) := by kernel_rfl
@[go_sem] theorem field_Th_0_5 : q2v Tryz.prog 54 5 = some (22, 21) := by kernel_rfl
@[go_sem] theorem field_Th_0_6 : q2v Tryz.prog 54 6 = some (3, 22) := by kernel_rfl
@[go_sem] theorem field_Th_0_7 : q2v Tryz.prog 54 7 = some (49, 23) := by kernel_rfl
@[go_sem] theorem field_Th_0_8 : q2v Tryz.prog 54 8 = some (41, 28) := by kernel_rfl
@[go_sem] theorem field_Th_0_9 : q2v Tryz.prog 54 9 = some (51, 29) := by kernel_rfl
@[go_sem] theorem field_Th_0_10 : q2v Tryz.prog 54 10 = some (52, 31) := by kernel_rfl
@[go_sem] theorem cut_Th_regs_0 (x : Th) : cut Tryz.prog 45 (Th.enc x) 0 = some (.agg (arr 16 (fun i => [.int .u64 (x.regs i)]))) := by kernel_rfl
@[go_sem] theorem cut_Th_pc_0 (x : Th) : cut Tryz.prog 22 (Th.enc x) 16 = some (.int .u64 x.pc) := by kernel_rfl
@[go_sem] theorem cut_Th_clear_0 (x : Th) : cut Tryz.prog 43 (Th.enc x) 17 = some (.sl (List.map Pr.enc x.clear)) := by kernel_rfl
@[go_sem] theorem cut_Th_space_0 (x : Th) : cut Tryz.prog 47 (Th.enc x) 18 = some (.agg (Rf.enc x.space)) := by kernel_rfl
@[go_sem] theorem cut_Th_handler_0 (x : Th) : cut Tryz.prog 22 (Th.enc x) 20 = some (.int .u64 x.handler) := by kernel_rfl
@[go_sem] theorem cut_Th_vector_0 (x : Th) : cut Tryz.prog 22 (Th.enc x) 21 = some (.int .u64 x.vector) := by kernel_rfl
@[go_sem] theorem cut_Th_state_0 (x : Th) : cut Tryz.prog 3 (Th.enc x) 22 = some (.int .i64 x.state) := by kernel_rfl
@[go_sem] theorem cut_Th_wait_0 (x : Th) : cut Tryz.prog 49 (Th.enc x) 23 = some (.agg (Wt.enc x.wait)) := by kernel_rfl
@[go_sem] theorem cut_Th_alerts_0 (x : Th) : cut Tryz.prog 41 (Th.enc x) 28 = some (.sl (List.map u64 x.alerts)) := by kernel_rfl
@[go_sem] theorem cut_Th_span_0 (x : Th) : cut Tryz.prog 51 (Th.enc x) 29 = some (.agg (Sp.enc x.span)) := by kernel_rfl
@[go_sem] theorem cut_Th_labs_at0 (x : Th) : cut Tryz.prog 43 (Th.enc x) 31 = some (.sl (List.map Pr.enc (x.labs 0))) := by kernel_rfl
@[go_sem] theorem cut_Th_labs_at1 (x : Th) : cut Tryz.prog 43 (Th.enc x) 32 = some (.sl (List.map Pr.enc (x.labs 1))) := by kernel_rfl
@[go_sem] theorem cut_Th_labs_at2 (x : Th) : cut Tryz.prog 43 (Th.enc x) 33 = some (.sl (List.map Pr.enc (x.labs 2))) := by kernel_rfl
@[go_sem] theorem cut_Th_labs_at3 (x : Th) : cut Tryz.prog 43 (Th.enc x) 34 = some (.sl (List.map Pr.enc (x.labs 3))) := by kernel_rfl
theorem Th.bdl (S : Nat → Prop) (x : Th) : ∀ p ∈ Th.enc x, Bd S p := by
  unfold Th.enc
  simp only [List.mem_append, or_imp, forall_and, List.forall_mem_cons, List.not_mem_nil, false_imp_iff, implies_true, and_true, List.forall_mem_nil, List.cons_append, List.nil_append, arr, List.mem_flatMap, forall_exists_index, and_imp]
  and_intros <;> first | exact Bd.int _ _ | exact Bd.bool _ | exact Bd.sl _ (by intro e he; obtain ⟨y, _, rfl⟩ := List.mem_map.1 he; first | with_reducible exact q5y _ _ | with_reducible exact Pr.bdl _ _ | with_reducible exact Mp.bdl _ _ | with_reducible exact Ob.bdl _ _) | with_reducible exact Rf.bdl _ _ | with_reducible exact Wt.bdl _ _ | with_reducible exact Sp.bdl _ _ | with_reducible exact Th.bdl _ _ | with_reducible exact Gt.bdl _ _ | (intro p i _ hp; first | (simp only [List.mem_cons, List.not_mem_nil, or_false] at hp; subst hp; first | exact Bd.int _ _ | exact Bd.sl _ (by intro e he; obtain ⟨y, _, rfl⟩ := List.mem_map.1 he; exact Pr.bdl _ _)))
@[go_sem] theorem Th.bdL (S : Nat → Prop) (x : Th) : BdL S (Th.enc x) = True := eq_true (Th.bdl S x)
structure Gt where
  grant : List Pr
  clear : List Pr
  space : Rf
  pc : Int
  arg : Int
  deriving Inhabited
def Gt.enc (x : Gt) : List PV := [.sl (List.map Pr.enc x.grant)] ++ [.sl (List.map Pr.enc x.clear)] ++ Rf.enc x.space ++ [.int .u64 x.pc] ++ [.int .u64 x.arg]
def Gt.zero : Gt := ⟨[], [], Rf.zero, 0, 0⟩
@[go_sem] theorem Gt.len (x : Gt) : (Gt.enc x).length = 6 := by kernel_rfl
@[go_sem] theorem Gt.cells (x : Gt) : PV.cells? (.agg (Gt.enc x)) = some (Gt.enc x) := rfl
@[go_sem] theorem field_Gt_0_0 : q2v Tryz.prog 56 0 = some (43, 0) := by kernel_rfl
@[go_sem] theorem field_Gt_0_1 : q2v Tryz.prog 56 1 = some (43, 1) := by kernel_rfl
@[go_sem] theorem field_Gt_0_2 : q2v Tryz.prog 56 2 = some (47, 2) := by kernel_rfl
@[go_sem] theorem field_Gt_0_3 : q2v Tryz.prog 56 3 = some (22, 4) := by kernel_rfl
@[go_sem] theorem field_Gt_0_4 : q2v Tryz.prog 56 4 = some (22, 5) := by kernel_rfl
@[go_sem] theorem cut_Gt_grant_0 (x : Gt) : cut Tryz.prog 43 (Gt.enc x) 0 = some (.sl (List.map Pr.enc x.grant)) := by kernel_rfl
@[go_sem] theorem cut_Gt_clear_0 (x : Gt) : cut Tryz.prog 43 (Gt.enc x) 1 = some (.sl (List.map Pr.enc x.clear)) := by kernel_rfl
@[go_sem] theorem cut_Gt_space_0 (x : Gt) : cut Tryz.prog 47 (Gt.enc x) 2 = some (.agg (Rf.enc x.space)) := by kernel_rfl
@[go_sem] theorem cut_Gt_pc_0 (x : Gt) : cut Tryz.prog 22 (Gt.enc x) 4 = some (.int .u64 x.pc) := by kernel_rfl
@[go_sem] theorem cut_Gt_arg_0 (x : Gt) : cut Tryz.prog 22 (Gt.enc x) 5 = some (.int .u64 x.arg) := by kernel_rfl
theorem Gt.bdl (S : Nat → Prop) (x : Gt) : ∀ p ∈ Gt.enc x, Bd S p := by
  unfold Gt.enc
  simp only [List.mem_append, or_imp, forall_and, List.forall_mem_cons, List.not_mem_nil, false_imp_iff, implies_true, and_true, List.forall_mem_nil, List.cons_append, List.nil_append, arr, List.mem_flatMap, forall_exists_index, and_imp]
  and_intros <;> first | exact Bd.int _ _ | exact Bd.bool _ | exact Bd.sl _ (by intro e he; obtain ⟨y, _, rfl⟩ := List.mem_map.1 he; first | with_reducible exact q5y _ _ | with_reducible exact Pr.bdl _ _ | with_reducible exact Mp.bdl _ _ | with_reducible exact Ob.bdl _ _) | with_reducible exact Rf.bdl _ _ | with_reducible exact Wt.bdl _ _ | with_reducible exact Sp.bdl _ _ | with_reducible exact Th.bdl _ _ | with_reducible exact Gt.bdl _ _ | (intro p i _ hp; first | (simp only [List.mem_cons, List.not_mem_nil, or_false] at hp; subst hp; first | exact Bd.int _ _ | exact Bd.sl _ (by intro e he; obtain ⟨y, _, rfl⟩ := List.mem_map.1 he; exact Pr.bdl _ _)))
@[go_sem] theorem Gt.bdL (S : Nat → Prop) (x : Gt) : BdL S (Gt.enc x) = True := eq_true (Gt.bdl S x)
structure Ob where
  id : Int
  kind : Int
  label : List Pr
  quota : Int
  fixed : Bool
  links : List Int
  data : List Int
  maps : List Mp
  thread : Th
  gate : Gt
  inn : List Int
  out : List Int
  deriving Inhabited
def Ob.enc (x : Ob) : List PV := [.int .u64 x.id] ++ [.int .i64 x.kind] ++ [.sl (List.map Pr.enc x.label)] ++ [.int .i64 x.quota] ++ [.bool x.fixed] ++ [.sl (List.map u64 x.links)] ++ [.sl (List.map u64 x.data)] ++ [.sl (List.map Mp.enc x.maps)] ++ Th.enc x.thread ++ Gt.enc x.gate ++ [.sl (List.map u64 x.inn)] ++ [.sl (List.map u64 x.out)]
def Ob.zero : Ob := ⟨0, 0, [], 0, false, [], [], [], Th.zero, Gt.zero, [], []⟩
@[go_sem] theorem Ob.len (x : Ob) : (Ob.enc x).length = 51 := by kernel_rfl
@[go_sem] theorem Ob.cells (x : Ob) : PV.cells? (.agg (Ob.enc x)) = some (Ob.enc x) := rfl
@[go_sem] theorem cut_Ob_0 (x : Ob) : cut Tryz.prog 58 (Ob.enc x) 0 = some (.agg (Ob.enc x)) := by kernel_rfl
@[go_sem] theorem zeros_Ob_0 : zeros Tryz.prog 58 = some (Ob.enc Ob.zero) := by kernel_rfl
@[go_sem] theorem field_Ob_0_0 : q2v Tryz.prog 58 0 = some (22, 0) := by kernel_rfl
@[go_sem] theorem field_Ob_0_1 : q2v Tryz.prog 58 1 = some (3, 1) := by kernel_rfl
@[go_sem] theorem field_Ob_0_2 : q2v Tryz.prog 58 2 = some (43, 2) := by kernel_rfl
@[go_sem] theorem field_Ob_0_3 : q2v Tryz.prog 58 3 = some (3, 3) := by kernel_rfl
@[go_sem] theorem field_Ob_0_4 : q2v Tryz.prog 58 4 = some (4, 4) := by kernel_rfl
@[go_sem] theorem field_Ob_0_5 : q2v Tryz.prog 58 5 = some (41, 5) := by kernel_rfl
@[go_sem] theorem field_Ob_0_6 : q2v Tryz.prog 58 6 = some (41, 6) := by kernel_rfl
@[go_sem] theorem field_Ob_0_7 : q2v Tryz.prog 58 7 = some (44, 7) := by kernel_rfl
@[go_sem] theorem field_Ob_0_8 : q2v Tryz.prog 58 8 = some (54, 8) := by kernel_rfl
@[go_sem] theorem field_Ob_0_9 : q2v Tryz.prog 58 9 = some (56, 43) := by kernel_rfl
@[go_sem] theorem field_Ob_0_10 : q2v Tryz.prog 58 10 = some (41, 49) := by kernel_rfl
@[go_sem] theorem field_Ob_0_11 : q2v Tryz.prog 58 11 = some (41, 50) := by kernel_rfl
@[go_sem] theorem build_Ob_0_0_1_3 (id : Int) (kind : Int) (quota : Int) : q4l Tryz.prog 58 [(0, .int .u64 id), (1, .int .i64 kind), (3, .int .i64 quota)] = some (.agg (Ob.enc ⟨id, kind, [], quota, false, [], [], [], Th.zero, Gt.zero, [], []⟩)) := by kernel_rfl
@[go_sem] theorem build_Ob_0_0_1_2_3_4 (id : Int) (kind : Int) (label : List Pr) (quota : Int) (fixed : Bool) : q4l Tryz.prog 58 [(0, .int .u64 id), (1, .int .i64 kind), (2, .sl (List.map Pr.enc label)), (3, .int .i64 quota), (4, .bool fixed)] = some (.agg (Ob.enc ⟨id, kind, label, quota, fixed, [], [], [], Th.zero, Gt.zero, [], []⟩)) := by kernel_rfl
@[go_sem] theorem build_Ob_0_  : q4l Tryz.prog 58 [] = some (.agg (Ob.enc Ob.zero)) := by kernel_rfl
@[go_sem] theorem cut_Ob_id_0 (x : Ob) : cut Tryz.prog 22 (Ob.enc x) 0 = some (.int .u64 x.id) := by kernel_rfl
@[go_sem] theorem cut_Ob_kind_0 (x : Ob) : cut Tryz.prog 3 (Ob.enc x) 1 = some (.int .i64 x.kind) := by kernel_rfl
@[go_sem] theorem cut_Ob_label_0 (x : Ob) : cut Tryz.prog 43 (Ob.enc x) 2 = some (.sl (List.map Pr.enc x.label)) := by kernel_rfl
@[go_sem] theorem cut_Ob_quota_0 (x : Ob) : cut Tryz.prog 3 (Ob.enc x) 3 = some (.int .i64 x.quota) := by kernel_rfl
@[go_sem] theorem cut_Ob_fixed_0 (x : Ob) : cut Tryz.prog 4 (Ob.enc x) 4 = some (.bool x.fixed) := by kernel_rfl
@[go_sem] theorem cut_Ob_links_0 (x : Ob) : cut Tryz.prog 41 (Ob.enc x) 5 = some (.sl (List.map u64 x.links)) := by kernel_rfl
@[go_sem] theorem spl_Ob_links (x : Ob) (v : List Int) : splice (Ob.enc x) 5 ([.sl (List.map u64 v)]) = Ob.enc { x with links := v } := by kernel_rfl
@[go_sem] theorem cut_Ob_data_0 (x : Ob) : cut Tryz.prog 41 (Ob.enc x) 6 = some (.sl (List.map u64 x.data)) := by kernel_rfl
@[go_sem] theorem spl_Ob_data (x : Ob) (v : List Int) : splice (Ob.enc x) 6 ([.sl (List.map u64 v)]) = Ob.enc { x with data := v } := by kernel_rfl
@[go_sem] theorem cut_Ob_maps_0 (x : Ob) : cut Tryz.prog 44 (Ob.enc x) 7 = some (.sl (List.map Mp.enc x.maps)) := by kernel_rfl
@[go_sem] theorem spl_Ob_maps (x : Ob) (v : List Mp) : splice (Ob.enc x) 7 ([.sl (List.map Mp.enc v)]) = Ob.enc { x with maps := v } := by kernel_rfl
@[go_sem] theorem cut_Ob_thread_0 (x : Ob) : cut Tryz.prog 54 (Ob.enc x) 8 = some (.agg (Th.enc x.thread)) := by kernel_rfl
@[go_sem] theorem spl_Ob_thread (x : Ob) (v : Th) : splice (Ob.enc x) 8 (Th.enc v) = Ob.enc { x with thread := v } := by kernel_rfl
@[go_sem] theorem cut_Ob_thread_span_0 (x : Ob) : cut Tryz.prog 51 (Ob.enc x) 37 = some (.agg (Sp.enc x.thread.span)) := by kernel_rfl
@[go_sem] theorem cut_Ob_gate_0 (x : Ob) : cut Tryz.prog 56 (Ob.enc x) 43 = some (.agg (Gt.enc x.gate)) := by kernel_rfl
@[go_sem] theorem spl_Ob_gate (x : Ob) (v : Gt) : splice (Ob.enc x) 43 (Gt.enc v) = Ob.enc { x with gate := v } := by kernel_rfl
@[go_sem] theorem cut_Ob_gate_grant_0 (x : Ob) : cut Tryz.prog 43 (Ob.enc x) 43 = some (.sl (List.map Pr.enc x.gate.grant)) := by kernel_rfl
@[go_sem] theorem cut_Ob_gate_clear_0 (x : Ob) : cut Tryz.prog 43 (Ob.enc x) 44 = some (.sl (List.map Pr.enc x.gate.clear)) := by kernel_rfl
@[go_sem] theorem cut_Ob_inn_0 (x : Ob) : cut Tryz.prog 41 (Ob.enc x) 49 = some (.sl (List.map u64 x.inn)) := by kernel_rfl
@[go_sem] theorem spl_Ob_inn (x : Ob) (v : List Int) : splice (Ob.enc x) 49 ([.sl (List.map u64 v)]) = Ob.enc { x with inn := v } := by kernel_rfl
@[go_sem] theorem spl0_Ob_inn (x : Ob) : splice (Ob.enc x) 49 [.sl []] = Ob.enc { x with inn := [] } := by kernel_rfl
@[go_sem] theorem cut_Ob_out_0 (x : Ob) : cut Tryz.prog 41 (Ob.enc x) 50 = some (.sl (List.map u64 x.out)) := by kernel_rfl
@[go_sem] theorem spl_Ob_out (x : Ob) (v : List Int) : splice (Ob.enc x) 50 ([.sl (List.map u64 v)]) = Ob.enc { x with out := v } := by kernel_rfl
@[go_sem] theorem spl_Ob_ (x v : Ob) : splice (Ob.enc x) 0 (Ob.enc v) = Ob.enc v := by kernel_rfl
theorem Ob.bdl (S : Nat → Prop) (x : Ob) : ∀ p ∈ Ob.enc x, Bd S p := by
  unfold Ob.enc
  simp only [List.mem_append, or_imp, forall_and, List.forall_mem_cons, List.not_mem_nil, false_imp_iff, implies_true, and_true, List.forall_mem_nil, List.cons_append, List.nil_append, arr, List.mem_flatMap, forall_exists_index, and_imp]
  and_intros <;> first | exact Bd.int _ _ | exact Bd.bool _ | exact Bd.sl _ (by intro e he; obtain ⟨y, _, rfl⟩ := List.mem_map.1 he; first | with_reducible exact q5y _ _ | with_reducible exact Pr.bdl _ _ | with_reducible exact Mp.bdl _ _ | with_reducible exact Ob.bdl _ _) | with_reducible exact Rf.bdl _ _ | with_reducible exact Wt.bdl _ _ | with_reducible exact Sp.bdl _ _ | with_reducible exact Th.bdl _ _ | with_reducible exact Gt.bdl _ _ | (intro p i _ hp; first | (simp only [List.mem_cons, List.not_mem_nil, or_false] at hp; subst hp; first | exact Bd.int _ _ | exact Bd.sl _ (by intro e he; obtain ⟨y, _, rfl⟩ := List.mem_map.1 he; exact Pr.bdl _ _)))
@[go_sem] theorem Ob.bdL (S : Nat → Prop) (x : Ob) : BdL S (Ob.enc x) = True := eq_true (Ob.bdl S x)
@[go_sem] theorem Ob.bdS (S : Nat → Prop) (l : List Ob) : Bd S (.sl (List.map Ob.enc l)) = True := Bd_slm (Ob.bdl S) l
structure Wd where
  time : Int
  key : Int
  root : Int
  objects : List Ob
  deriving Inhabited
def Wd.enc (x : Wd) : List PV := [.int .i64 x.time] ++ [.int .u64 x.key] ++ [.int .u64 x.root] ++ [.sl (List.map Ob.enc x.objects)]
def Wd.zero : Wd := ⟨0, 0, 0, []⟩
@[go_sem] theorem Wd.len (x : Wd) : (Wd.enc x).length = 4 := by kernel_rfl
@[go_sem] theorem Wd.cells (x : Wd) : PV.cells? (.agg (Wd.enc x)) = some (Wd.enc x) := rfl
@[go_sem] theorem cut_Wd_0 (x : Wd) : cut Tryz.prog 25 (Wd.enc x) 0 = some (.agg (Wd.enc x)) := by kernel_rfl
@[go_sem] theorem zeros_Wd_0 : zeros Tryz.prog 25 = some (Wd.enc Wd.zero) := by kernel_rfl
@[go_sem] theorem field_Wd_0_0 : q2v Tryz.prog 25 0 = some (3, 0) := by kernel_rfl
@[go_sem] theorem field_Wd_0_1 : q2v Tryz.prog 25 1 = some (22, 1) := by kernel_rfl
@[go_sem] theorem field_Wd_0_2 : q2v Tryz.prog 25 2 = some (22, 2) := by kernel_rfl
@[go_sem] theorem field_Wd_0_3 : q2v Tryz.prog 25 3 = some (23, 3) := by kernel_rfl
@[go_sem] theorem cut_Wd_time_0 (x : Wd) : cut Tryz.prog 3 (Wd.enc x) 0 = some (.int .i64 x.time) := by kernel_rfl
@[go_sem] theorem cut_Wd_key_0 (x : Wd) : cut Tryz.prog 22 (Wd.enc x) 1 = some (.int .u64 x.key) := by kernel_rfl
@[go_sem] theorem cut_Wd_root_0 (x : Wd) : cut Tryz.prog 22 (Wd.enc x) 2 = some (.int .u64 x.root) := by kernel_rfl
@[go_sem] theorem cut_Wd_objects_0 (x : Wd) : cut Tryz.prog 23 (Wd.enc x) 3 = some (.sl (List.map Ob.enc x.objects)) := by kernel_rfl
@[go_sem] theorem spl_Wd_objects (x : Wd) (v : List Ob) : splice (Wd.enc x) 3 ([.sl (List.map Ob.enc v)]) = Wd.enc { x with objects := v } := by kernel_rfl
@[go_sem] theorem spl0_Wd_objects (x : Wd) : splice (Wd.enc x) 3 [.sl []] = Wd.enc { x with objects := [] } := by kernel_rfl
@[go_sem] theorem spl_Wd_ (x v : Wd) : splice (Wd.enc x) 0 (Wd.enc v) = Wd.enc v := by kernel_rfl
theorem Wd.bdl (S : Nat → Prop) (x : Wd) : ∀ p ∈ Wd.enc x, Bd S p := by
  unfold Wd.enc
  simp only [List.mem_append, or_imp, forall_and, List.forall_mem_cons, List.not_mem_nil, false_imp_iff, implies_true, and_true, List.forall_mem_nil, List.cons_append, List.nil_append, arr, List.mem_flatMap, forall_exists_index, and_imp]
  and_intros <;> first | exact Bd.int _ _ | exact Bd.bool _ | exact Bd.sl _ (by intro e he; obtain ⟨y, _, rfl⟩ := List.mem_map.1 he; first | with_reducible exact q5y _ _ | with_reducible exact Pr.bdl _ _ | with_reducible exact Mp.bdl _ _ | with_reducible exact Ob.bdl _ _) | with_reducible exact Rf.bdl _ _ | with_reducible exact Wt.bdl _ _ | with_reducible exact Sp.bdl _ _ | with_reducible exact Th.bdl _ _ | with_reducible exact Gt.bdl _ _ | (intro p i _ hp; first | (simp only [List.mem_cons, List.not_mem_nil, or_false] at hp; subst hp; first | exact Bd.int _ _ | exact Bd.sl _ (by intro e he; obtain ⟨y, _, rfl⟩ := List.mem_map.1 he; exact Pr.bdl _ _)))
@[go_sem] theorem Wd.bdL (S : Nat → Prop) (x : Wd) : BdL S (Wd.enc x) = True := eq_true (Wd.bdl S x)
structure Ls where
  things : List Ob
  idf : PV
  deriving Inhabited
def Ls.enc (x : Ls) : List PV := [.sl (List.map Ob.enc x.things)] ++ [x.idf]
def Ls.zero : Ls := ⟨[], .nilfn⟩
@[go_sem] theorem Ls.len (x : Ls) : (Ls.enc x).length = 2 := by kernel_rfl
@[go_sem] theorem Ls.cells (x : Ls) : PV.cells? (.agg (Ls.enc x)) = some (Ls.enc x) := rfl
@[go_sem] theorem cut_Ls_0 (x : Ls) : cut Tryz.prog 165 (Ls.enc x) 0 = some (.agg (Ls.enc x)) := by kernel_rfl
@[go_sem] theorem zeros_Ls_0 : zeros Tryz.prog 165 = some (Ls.enc Ls.zero) := by kernel_rfl
@[go_sem] theorem field_Ls_0_0 : q2v Tryz.prog 165 0 = some (23, 0) := by kernel_rfl
@[go_sem] theorem field_Ls_0_1 : q2v Tryz.prog 165 1 = some (163, 1) := by kernel_rfl
@[go_sem] theorem build_Ls_0_0_1 (things : List Ob) (g : FuncId) : q4l Tryz.prog 165 [(0, .sl (List.map Ob.enc things)), (1, .fn (.func g) [] [])] = some (.agg (Ls.enc ⟨things, .fn (.func g) [] []⟩)) := by kernel_rfl
@[go_sem] theorem cut_Ls_things_0 (x : Ls) : cut Tryz.prog 23 (Ls.enc x) 0 = some (.sl (List.map Ob.enc x.things)) := by kernel_rfl
@[go_sem] theorem cut_Ls_idf_0 (x : Ls) : cut Tryz.prog 163 (Ls.enc x) 1 = some (x.idf) := by kernel_rfl
@[go_sem] theorem spl_Ls_ (x v : Ls) : splice (Ls.enc x) 0 (Ls.enc v) = Ls.enc v := by kernel_rfl
@[go_sem] theorem cellsOf_api_Pair : Tryz.prog.cellsOf 84 = 2 := by kernel_rfl
@[go_sem] theorem info_api_Pair : (Tryz.prog.info? 84).isSome = true := by kernel_rfl
@[go_sem] theorem cellsOf_uint64 : Tryz.prog.cellsOf 22 = 1 := by kernel_rfl
@[go_sem] theorem info_uint64 : (Tryz.prog.info? 22).isSome = true := by kernel_rfl
@[go_sem] theorem aggT_uint64 : aggT Tryz.prog 22 = some false := by kernel_rfl
attribute [go_sem] Tryz.underlying22
attribute [go_sem] Tryz.underlying3
@[go_sem] theorem cellsOf_api_Errno : Tryz.prog.cellsOf 33 = 1 := by kernel_rfl
@[go_sem] theorem info_api_Errno : (Tryz.prog.info? 33).isSome = true := by kernel_rfl
@[go_sem] theorem aggT_api_Errno : aggT Tryz.prog 33 = some false := by kernel_rfl
attribute [go_sem] Tryz.underlying33
@[go_sem] theorem cellsOf_api_Map : Tryz.prog.cellsOf 118 = 6 := by kernel_rfl
@[go_sem] theorem info_api_Map : (Tryz.prog.info? 118).isSome = true := by kernel_rfl
@[go_sem] theorem cellsOf_bool : Tryz.prog.cellsOf 4 = 1 := by kernel_rfl
@[go_sem] theorem info_bool : (Tryz.prog.info? 4).isSome = true := by kernel_rfl
attribute [go_sem] Tryz.underlying4
@[go_sem] theorem cellsOf_api_Thread : Tryz.prog.cellsOf 54 = 35 := by kernel_rfl
@[go_sem] theorem info_api_Thread : (Tryz.prog.info? 54).isSome = true := by kernel_rfl
attribute [go_sem] Tryz.underlying45
@[go_sem] theorem cellsOf_api_Label : Tryz.prog.cellsOf 43 = 1 := by kernel_rfl
@[go_sem] theorem info_api_Label : (Tryz.prog.info? 43).isSome = true := by kernel_rfl
attribute [go_sem] Tryz.underlying43
@[go_sem] theorem cellsOf___uint64 : Tryz.prog.cellsOf 41 = 1 := by kernel_rfl
@[go_sem] theorem info___uint64 : (Tryz.prog.info? 41).isSome = true := by kernel_rfl
attribute [go_sem] Tryz.underlying41
attribute [go_sem] Tryz.underlying52
@[go_sem] theorem cellsOf_api_Gate : Tryz.prog.cellsOf 56 = 6 := by kernel_rfl
@[go_sem] theorem info_api_Gate : (Tryz.prog.info? 56).isSome = true := by kernel_rfl
@[go_sem] theorem cellsOf_api_Object : Tryz.prog.cellsOf 58 = 51 := by kernel_rfl
@[go_sem] theorem info_api_Object : (Tryz.prog.info? 58).isSome = true := by kernel_rfl
@[go_sem] theorem cellsOf___api_Map : Tryz.prog.cellsOf 44 = 1 := by kernel_rfl
@[go_sem] theorem info___api_Map : (Tryz.prog.info? 44).isSome = true := by kernel_rfl
attribute [go_sem] Tryz.underlying44
@[go_sem] theorem cellsOf_api_World : Tryz.prog.cellsOf 25 = 4 := by kernel_rfl
@[go_sem] theorem info_api_World : (Tryz.prog.info? 25).isSome = true := by kernel_rfl
@[go_sem] theorem aggT_api_World : aggT Tryz.prog 25 = some true := by kernel_rfl
@[go_sem] theorem cellsOf___api_Object : Tryz.prog.cellsOf 23 = 1 := by kernel_rfl
@[go_sem] theorem info___api_Object : (Tryz.prog.info? 23).isSome = true := by kernel_rfl
attribute [go_sem] Tryz.underlying23
@[go_sem] theorem q8u : Tryz.prog.cellsOf 165 = 2 := by kernel_rfl
@[go_sem] theorem q9l : (Tryz.prog.info? 165).isSome = true := by kernel_rfl
attribute [go_sem] Tryz.underlying163
@[go_sem] theorem bs1_api_Label (x : Pr) : q3u Tryz.prog 43 1 [(0, .agg (Pr.enc x))] = some (.sl [Pr.enc x]) := by kernel_rfl
-- api_Label
@[go_sem] theorem bs1___uint64 (x : Int) : q3u Tryz.prog 41 1 [(0, .int .u64 x)] = some (.sl [u64 x]) := by kernel_rfl
@[go_sem] theorem bs0___uint64 : q3u Tryz.prog 41 0 [] = some .nilsl := by kernel_rfl
-- __uint64
-- __api_Map
@[go_sem] theorem bs1___api_Object (x : Ob) : q3u Tryz.prog 23 1 [(0, .agg (Ob.enc x))] = some (.sl [Ob.enc x]) := by kernel_rfl
-- __api_Object
theorem Pr.eqL (a b : Pr) : eqL (Pr.enc a) (Pr.enc b) = decide (a = b) := by
  rcases a with ⟨_, _⟩; rcases b with ⟨_, _⟩; rw [Bool.eq_iff_iff]; simp [Pr.enc, Go.Proofs.YteibeoipnjhicaaGreat.eqL, eqLeaf, and_assoc]
@[go_sem] theorem neq_Pr_0 (a b : Pr) : q4a Tryz.prog .neq 84 (.agg (Pr.enc a)) (.agg (Pr.enc b)) = some (.bool (!decide (a = b))) := by
  have h : q4a Tryz.prog .neq 84 (.agg (Pr.enc a)) (.agg (Pr.enc b)) = some (.bool (!eqL (Pr.enc a) (Pr.enc b))) := by kernel_rfl
  rw [h, Pr.eqL]
theorem Mp.eqL (a b : Mp) : eqL (Mp.enc a) (Mp.enc b) = decide (a = b) := by
  rcases a with ⟨_, _, _, _, _, _⟩; rcases b with ⟨_, _, _, _, _, _⟩; rw [Bool.eq_iff_iff]; simp [Mp.enc, Go.Proofs.YteibeoipnjhicaaGreat.eqL, eqLeaf, and_assoc]
@[go_sem] theorem neq_Mp_0 (a b : Mp) : q4a Tryz.prog .neq 118 (.agg (Mp.enc a)) (.agg (Mp.enc b)) = some (.bool (!decide (a = b))) := by
  have h : q4a Tryz.prog .neq 118 (.agg (Mp.enc a)) (.agg (Mp.enc b)) = some (.bool (!eqL (Mp.enc a) (Mp.enc b))) := by kernel_rfl
  rw [h, Mp.eqL]
theorem Rf.eqL (a b : Rf) : eqL (Rf.enc a) (Rf.enc b) = decide (a = b) := by
  rcases a with ⟨_, _⟩; rcases b with ⟨_, _⟩; rw [Bool.eq_iff_iff]; simp [Rf.enc, Go.Proofs.YteibeoipnjhicaaGreat.eqL, eqLeaf, and_assoc]
@[go_sem] theorem eql_Rf_0 (a b : Rf) : q4a Tryz.prog .eql 47 (.agg (Rf.enc a)) (.agg (Rf.enc b)) = some (.bool (decide (a = b))) := by
  have h : q4a Tryz.prog .eql 47 (.agg (Rf.enc a)) (.agg (Rf.enc b)) = some (.bool (eqL (Rf.enc a) (Rf.enc b))) := by kernel_rfl
  rw [h, Rf.eqL]
theorem Wt.eqL (a b : Wt) : eqL (Wt.enc a) (Wt.enc b) = decide (a = b) := by
  rcases a with ⟨⟨_, _⟩, _, _, _⟩; rcases b with ⟨⟨_, _⟩, _, _, _⟩; rw [Bool.eq_iff_iff]; simp [Wt.enc, Rf.enc, Go.Proofs.YteibeoipnjhicaaGreat.eqL, eqLeaf, and_assoc]
@[go_sem] theorem eql_Wt_0 (a b : Wt) : q4a Tryz.prog .eql 49 (.agg (Wt.enc a)) (.agg (Wt.enc b)) = some (.bool (decide (a = b))) := by
  have h : q4a Tryz.prog .eql 49 (.agg (Wt.enc a)) (.agg (Wt.enc b)) = some (.bool (eqL (Wt.enc a) (Wt.enc b))) := by kernel_rfl
  rw [h, Wt.eqL]
@[go_sem] theorem neq_Wt_0 (a b : Wt) : q4a Tryz.prog .neq 49 (.agg (Wt.enc a)) (.agg (Wt.enc b)) = some (.bool (!decide (a = b))) := by
  have h : q4a Tryz.prog .neq 49 (.agg (Wt.enc a)) (.agg (Wt.enc b)) = some (.bool (!eqL (Wt.enc a) (Wt.enc b))) := by kernel_rfl
  rw [h, Wt.eqL]
theorem Sp.eqL (a b : Sp) : eqL (Sp.enc a) (Sp.enc b) = decide (a = b) := by
  rcases a with ⟨_, _⟩; rcases b with ⟨_, _⟩; rw [Bool.eq_iff_iff]; simp [Sp.enc, Go.Proofs.YteibeoipnjhicaaGreat.eqL, eqLeaf, and_assoc]
@[go_sem] theorem eql_Sp_0 (a b : Sp) : q4a Tryz.prog .eql 51 (.agg (Sp.enc a)) (.agg (Sp.enc b)) = some (.bool (decide (a = b))) := by
  have h : q4a Tryz.prog .eql 51 (.agg (Sp.enc a)) (.agg (Sp.enc b)) = some (.bool (eqL (Sp.enc a) (Sp.enc b))) := by kernel_rfl
  rw [h, Sp.eqL]
@[go_sem] theorem eInfo_u64 : eInfo Tryz.prog 22 = some (1, 8) := by kernel_rfl
@[go_sem] theorem eInfo_Pr : eInfo Tryz.prog 84 = some (2, 16) := by kernel_rfl
@[go_sem] theorem eInfo_Ob : eInfo Tryz.prog 58 = some (51, 632) := by kernel_rfl
def regsEq (f g : Nat → Int) : Bool := (List.range 16).all fun i => f i == g i
@[go_sem] theorem eql_regs (f g : Nat → Int) : q4a Tryz.prog .eql 45 (.agg (arr 16 fun i => [.int .u64 (f i)])) (.agg (arr 16 fun i => [.int .u64 (g i)])) = some (.bool (regsEq f g)) := by kernel_rfl
theorem enc_snoc {α : Type} (f : α → List PV) (l : List α) (x : α) : List.map f l ++ [f x] = List.map f (l ++ [x]) := by simp
@[go_sem] theorem snoc_u64 (l : List Int) (x : Int) : List.map u64 l ++ [u64 x] = List.map u64 (l ++ [x]) := enc_snoc _ _ _
@[go_sem] theorem snoc_Pr_enc (l : List Pr) (x : Pr) : List.map Pr.enc l ++ [Pr.enc x] = List.map Pr.enc (l ++ [x]) := enc_snoc _ _ _
@[go_sem] theorem snoc_Ob_enc (l : List Ob) (x : Ob) : List.map Ob.enc l ++ [Ob.enc x] = List.map Ob.enc (l ++ [x]) := enc_snoc _ _ _
attribute [go_sem] List.length_map List.getElem?_map Int.toNat_natCast
end Go.Proofs.YteibeoipnjhicaaGreat
