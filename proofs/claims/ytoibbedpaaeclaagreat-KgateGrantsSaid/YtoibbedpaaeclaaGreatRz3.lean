import Derived.Test.YtoibbedpaaeclaaGreatRz2
import Derived.Test.YtoibbedpaaeclaaGreatProg
import Derived.Deep.Slices
import Derived.Lib.SmallJoins
import Derived.ChangeOld
import Derived.WalkKit
import Derived.OpenShut
section
namespace Go.Proofs.YtoibbedpaaeclaaGreat
open Go Go.RowKit
set_option linter.unusedVariables false
set_option linter.unusedSimpArgs false
def u64 (x : Int) : List PV := [.int .u64 x]
def arr (n : Nat) (f : Nat → List PV) : List PV := (List.range n).flatMap f
theorem q6i (S : Nat → Prop) (x : Int) : ∀ p ∈ u64 x, Bd S p := by intro p hp; simp only [u64, List.mem_cons, List.not_mem_nil, or_false] at hp; subst hp; exact Bd.int _ _
@[go_sem] theorem u64_bdL (S : Nat → Prop) (x : Int) : BdL S (u64 x) = True := eq_true (q6i S x)
@[go_sem] theorem u64_bdS (S : Nat → Prop) (l : List Int) : Bd S (.sl (List.map u64 l)) = True := Bd_slm (q6i S) l
@[go_sem] theorem u64_len (x : Int) : (u64 x).length = 1 := rfl
@[go_sem] theorem u64_cut (x : Int) : cut Tryz.prog 22 (u64 x) 0 = some (.int .u64 x) := by kernel_rfl
structure Pr where
  cat : Int
  lev : Int
  deriving DecidableEq, Inhabited
def Pr.enc (x : Pr) : List PV := [.int .u64 x.cat] ++ [.int .i64 x.lev]
def Pr.zero : Pr := ⟨0, 0⟩
@[go_sem] theorem Pr.len (x : Pr) : (Pr.enc x).length = 2 := by kernel_rfl
@[go_sem] theorem Pr.cells (x : Pr) : PV.cells? (.agg (Pr.enc x)) = some (Pr.enc x) := rfl
@[go_sem] theorem cut_Pr_0 (x : Pr) : cut Tryz.prog 76 (Pr.enc x) 0 = some (.agg (Pr.enc x)) := by kernel_rfl
@[go_sem] theorem zeros_Pr_0 : zeros Tryz.prog 76 = some (Pr.enc Pr.zero) := by kernel_rfl
@[go_sem] theorem field_Pr_0_0 : q1p Tryz.prog 76 0 = some (22, 0) := by kernel_rfl
@[go_sem] theorem field_Pr_0_1 : q1p Tryz.prog 76 1 = some (3, 1) := by kernel_rfl
@[go_sem] theorem build_Pr_0_0 (cat : Int) : q3z Tryz.prog 76 [(0, .int .u64 cat)] = some (.agg (Pr.enc ⟨cat, 0⟩)) := by kernel_rfl
@[go_sem] theorem build_Pr_0_0_1 (cat : Int) (lev : Int) : q3z Tryz.prog 76 [(0, .int .u64 cat), (1, .int .i64 lev)] = some (.agg (Pr.enc ⟨cat, lev⟩)) := by kernel_rfl
@[go_sem] theorem cut_Pr_cat_0 (x : Pr) : cut Tryz.prog 22 (Pr.enc x) 0 = some (.int .u64 x.cat) := by kernel_rfl
@[go_sem] theorem cut_Pr_lev_0 (x : Pr) : cut Tryz.prog 3 (Pr.enc x) 1 = some (.int .i64 x.lev) := by kernel_rfl
@[go_sem] theorem spl_Pr_ (x v : Pr) : splice (Pr.enc x) 0 (Pr.enc v) = Pr.enc v := by kernel_rfl
theorem Pr.bdl (S : Nat → Prop) (x : Pr) : ∀ p ∈ Pr.enc x, Bd S p := by
  unfold Pr.enc
  simp only [List.mem_append, or_imp, forall_and, List.forall_mem_cons, List.not_mem_nil, false_imp_iff, implies_true, and_true, List.forall_mem_nil, List.cons_append, List.nil_append, arr, List.mem_flatMap, forall_exists_index, and_imp]
  and_intros <;> first | exact Bd.int _ _ | exact Bd.bool _ | exact Bd.sl _ (by intro e he; obtain ⟨y, _, rfl⟩ := List.mem_map.1 he; first | with_reducible exact q6i _ _ | with_reducible exact Pr.bdl _ _ | with_reducible exact Mp.bdl _ _ | with_reducible exact Ob.bdl _ _) | with_reducible exact Rf.bdl _ _ | with_reducible exact Wt.bdl _ _ | with_reducible exact Sp.bdl _ _ | with_reducible exact Th.bdl _ _ | with_reducible exact Gt.bdl _ _ | (intro p i _ hp; first | (simp only [List.mem_cons, List.not_mem_nil, or_false] at hp; subst hp; first | exact Bd.int _ _ | exact Bd.sl _ (by intro e he; obtain ⟨y, _, rfl⟩ := List.mem_map.1 he; exact Pr.bdl _ _)))
@[go_sem] theorem Pr.bdL (S : Nat → Prop) (x : Pr) : BdL S (Pr.enc x) = True := eq_true (Pr.bdl S x)
@[go_sem] theorem Pr.bdS (S : Nat → Prop) (l : List Pr) : Bd S (.sl (List.map Pr.enc l)) = True := Bd_slm (Pr.bdl S) l
structure Mp where
  va : Int
  n : Int
  cont : Int
  seg : Int
  off : Int
  write : Bool
  deriving DecidableEq, Inhabited
def Mp.enc (x : Mp) : List PV := [.int .i64 x.va] ++ [.int .i64 x.n] ++ [.int .u64 x.cont] ++ [.int .u64 x.seg] ++ [.int .i64 x.off] ++ [.bool x.write]
@[go_sem] theorem Mp.len (x : Mp) : (Mp.enc x).length = 6 := by kernel_rfl
@[go_sem] theorem Mp.cells (x : Mp) : PV.cells? (.agg (Mp.enc x)) = some (Mp.enc x) := rfl
@[go_sem] theorem cut_Mp_0 (x : Mp) : cut Tryz.prog 186 (Mp.enc x) 0 = some (.agg (Mp.enc x)) := by kernel_rfl
@[go_sem] theorem field_Mp_0_0 : q1p Tryz.prog 186 0 = some (3, 0) := by kernel_rfl
@[go_sem] theorem field_Mp_0_1 : q1p Tryz.prog 186 1 = some (3, 1) := by kernel_rfl
@[go_sem] theorem field_Mp_0_4 : q1p Tryz.prog 186 4 = some (3, 4) := by kernel_rfl
@[go_sem] theorem cut_Mp_va_0 (x : Mp) : cut Tryz.prog 3 (Mp.enc x) 0 = some (.int .i64 x.va) := by kernel_rfl
@[go_sem] theorem cut_Mp_n_0 (x : Mp) : cut Tryz.prog 3 (Mp.enc x) 1 = some (.int .i64 x.n) := by kernel_rfl
@[go_sem] theorem cut_Mp_off_0 (x : Mp) : cut Tryz.prog 3 (Mp.enc x) 4 = some (.int .i64 x.off) := by kernel_rfl
theorem Mp.bdl (S : Nat → Prop) (x : Mp) : ∀ p ∈ Mp.enc x, Bd S p := by
  unfold Mp.enc
  simp only [List.mem_append, or_imp, forall_and, List.forall_mem_cons, List.not_mem_nil, false_imp_iff, implies_true, and_true, List.forall_mem_nil, List.cons_append, List.nil_append, arr, List.mem_flatMap, forall_exists_index, and_imp]
  and_intros <;> first | exact Bd.int _ _ | exact Bd.bool _ | exact Bd.sl _ (by intro e he; obtain ⟨y, _, rfl⟩ := List.mem_map.1 he; first | with_reducible exact q6i _ _ | with_reducible exact Pr.bdl _ _ | with_reducible exact Mp.bdl _ _ | with_reducible exact Ob.bdl _ _) | with_reducible exact Rf.bdl _ _ | with_reducible exact Wt.bdl _ _ | with_reducible exact Sp.bdl _ _ | with_reducible exact Th.bdl _ _ | with_reducible exact Gt.bdl _ _ | (intro p i _ hp; first | (simp only [List.mem_cons, List.not_mem_nil, or_false] at hp; subst hp; first | exact Bd.int _ _ | exact Bd.sl _ (by intro e he; obtain ⟨y, _, rfl⟩ := List.mem_map.1 he; exact Pr.bdl _ _)))
@[go_sem] theorem Mp.bdL (S : Nat → Prop) (x : Mp) : BdL S (Mp.enc x) = True := eq_true (Mp.bdl S x)
@[go_sem] theorem Mp.bdS (S : Nat → Prop) (l : List Mp) : Bd S (.sl (List.map Mp.enc l)) = True := Bd_slm (Mp.bdl S) l
structure Rf where
  cont : Int
  id : Int
  deriving DecidableEq, Inhabited
def Rf.enc (x : Rf) : List PV := [.int .u64 x.cont] ++ [.int .u64 x.id]
def Rf.zero : Rf := ⟨0, 0⟩
@[go_sem] theorem Rf.len (x : Rf) : (Rf.enc x).length = 2 := by kernel_rfl
@[go_sem] theorem Rf.cells (x : Rf) : PV.cells? (.agg (Rf.enc x)) = some (Rf.enc x) := rfl
@[go_sem] theorem cut_Rf_0 (x : Rf) : cut Tryz.prog 60 (Rf.enc x) 0 = some (.agg (Rf.enc x)) := by kernel_rfl
@[go_sem] theorem field_Rf_0_0 : q1p Tryz.prog 60 0 = some (22, 0) := by kernel_rfl
@[go_sem] theorem field_Rf_0_1 : q1p Tryz.prog 60 1 = some (22, 1) := by kernel_rfl
@[go_sem] theorem cut_Rf_cont_0 (x : Rf) : cut Tryz.prog 22 (Rf.enc x) 0 = some (.int .u64 x.cont) := by kernel_rfl
@[go_sem] theorem cut_Rf_id_0 (x : Rf) : cut Tryz.prog 22 (Rf.enc x) 1 = some (.int .u64 x.id) := by kernel_rfl
theorem Rf.bdl (S : Nat → Prop) (x : Rf) : ∀ p ∈ Rf.enc x, Bd S p := by
  unfold Rf.enc
  simp only [List.mem_append, or_imp, forall_and, List.forall_mem_cons, List.not_mem_nil, false_imp_iff, implies_true, and_true, List.forall_mem_nil, List.cons_append, List.nil_append, arr, List.mem_flatMap, forall_exists_index, and_imp]
  and_intros <;> first | exact Bd.int _ _ | exact Bd.bool _ | exact Bd.sl _ (by intro e he; obtain ⟨y, _, rfl⟩ := List.mem_map.1 he; first | with_reducible exact q6i _ _ | with_reducible exact Pr.bdl _ _ | with_reducible exact Mp.bdl _ _ | with_reducible exact Ob.bdl _ _) | with_reducible exact Rf.bdl _ _ | with_reducible exact Wt.bdl _ _ | with_reducible exact Sp.bdl _ _ | with_reducible exact Th.bdl _ _ | with_reducible exact Gt.bdl _ _ | (intro p i _ hp; first | (simp only [List.mem_cons, List.not_mem_nil, or_false] at hp; subst hp; first | exact Bd.int _ _ | exact Bd.sl _ (by intro e he; obtain ⟨y, _, rfl⟩ := List.mem_map.1 he; exact Pr.bdl _ _)))
@[go_sem] theorem Rf.bdL (S : Nat → Prop) (x : Rf) : BdL S (Rf.enc x) = True := eq_true (Rf.bdl S x)
structure Wt where
  ref : Rf
  index : Int
  val : Int
  dev : Bool
  deriving DecidableEq, Inhabited
def Wt.enc (x : Wt) : List PV := Rf.enc x.ref ++ [.int .u64 x.index] ++ [.int .u64 x.val] ++ [.bool x.dev]
def Wt.zero : Wt := ⟨Rf.zero, 0, 0, false⟩
@[go_sem] theorem Wt.cells (x : Wt) : PV.cells? (.agg (Wt.enc x)) = some (Wt.enc x) := rfl
@[go_sem] theorem build_Wt_0_  : q3z Tryz.prog 62 [] = some (.agg (Wt.enc Wt.zero)) := by kernel_rfl
theorem Wt.bdl (S : Nat → Prop) (x : Wt) : ∀ p ∈ Wt.enc x, Bd S p := by
  unfold Wt.enc
  simp only [List.mem_append, or_imp, forall_and, List.forall_mem_cons, List.not_mem_nil, false_imp_iff, implies_true, and_true, List.forall_mem_nil, List.cons_append, List.nil_append, arr, List.mem_flatMap, forall_exists_index, and_imp]
  and_intros <;> first | exact Bd.int _ _ | exact Bd.bool _ | exact Bd.sl _ (by intro e he; obtain ⟨y, _, rfl⟩ := List.mem_map.1 he; first | with_reducible exact q6i _ _ | with_reducible exact Pr.bdl _ _ | with_reducible exact Mp.bdl _ _ | with_reducible exact Ob.bdl _ _) | with_reducible exact Rf.bdl _ _ | with_reducible exact Wt.bdl _ _ | with_reducible exact Sp.bdl _ _ | with_reducible exact Th.bdl _ _ | with_reducible exact Gt.bdl _ _ | (intro p i _ hp; first | (simp only [List.mem_cons, List.not_mem_nil, or_false] at hp; subst hp; first | exact Bd.int _ _ | exact Bd.sl _ (by intro e he; obtain ⟨y, _, rfl⟩ := List.mem_map.1 he; exact Pr.bdl _ _)))
structure Sp where
  lo : Int
  hi : Int
  deriving DecidableEq, Inhabited
def Sp.enc (x : Sp) : List PV := [.int .u64 x.lo] ++ [.int .u64 x.hi]
def Sp.zero : Sp := ⟨0, 0⟩
@[go_sem] theorem Sp.cells (x : Sp) : PV.cells? (.agg (Sp.enc x)) = some (Sp.enc x) := rfl
@[go_sem] theorem field_Sp_0_0 : q1p Tryz.prog 64 0 = some (22, 0) := by kernel_rfl
@[go_sem] theorem field_Sp_0_1 : q1p Tryz.prog 64 1 = some (22, 1) := by kernel_rfl
@[go_sem] theorem cut_Sp_lo_0 (x : Sp) : cut Tryz.prog 22 (Sp.enc x) 0 = some (.int .u64 x.lo) := by kernel_rfl
@[go_sem] theorem cut_Sp_hi_0 (x : Sp) : cut Tryz.prog 22 (Sp.enc x) 1 = some (.int .u64 x.hi) := by kernel_rfl
theorem Sp.bdl (S : Nat → Prop) (x : Sp) : ∀ p ∈ Sp.enc x, Bd S p := by
  unfold Sp.enc
  simp only [List.mem_append, or_imp, forall_and, List.forall_mem_cons, List.not_mem_nil, false_imp_iff, implies_true, and_true, List.forall_mem_nil, List.cons_append, List.nil_append, arr, List.mem_flatMap, forall_exists_index, and_imp]
  and_intros <;> first | exact Bd.int _ _ | exact Bd.bool _ | exact Bd.sl _ (by intro e he; obtain ⟨y, _, rfl⟩ := List.mem_map.1 he; first | with_reducible exact q6i _ _ | with_reducible exact Pr.bdl _ _ | with_reducible exact Mp.bdl _ _ | with_reducible exact Ob.bdl _ _) | with_reducible exact Rf.bdl _ _ | with_reducible exact Wt.bdl _ _ | with_reducible exact Sp.bdl _ _ | with_reducible exact Th.bdl _ _ | with_reducible exact Gt.bdl _ _ | (intro p i _ hp; first | (simp only [List.mem_cons, List.not_mem_nil, or_false] at hp; subst hp; first | exact Bd.int _ _ | exact Bd.sl _ (by intro e he; obtain ⟨y, _, rfl⟩ := List.mem_map.1 he; exact Pr.bdl _ _)))
@[go_sem] theorem Sp.bdL (S : Nat → Prop) (x : Sp) : BdL S (Sp.enc x) = True := eq_true (Sp.bdl S x)
structure Th where
  regs : Nat → Int
  pc : Int
  clear : List Pr
  space : Rf
  handler : Int
  vector : Int
  state : Int
  wait : Wt
  alerts : List Int
  span : Sp
  labs : Nat → List Pr
  deriving Inhabited
def Th.enc (x : Th) : List PV := arr 16 (fun i => [.int .u64 (x.regs i)]) ++ [.int .u64 x.pc] ++ [.sl (List.map Pr.enc x.clear)] ++ Rf.enc x.space ++ [.int .u64 x.handler] ++ [.int .u64 x.vector] ++ [.int .i64 x.state] ++ Wt.enc x.wait ++ [.sl (List.map u64 x.alerts)] ++ Sp.enc x.span ++ arr 4 (fun i => [.sl (List.map Pr.enc (x.labs i))])
def Th.zero : Th := ⟨fun _ => 0, 0, [], Rf.zero, 0, 0, 0, Wt.zero, [], Sp.zero, fun _ => []⟩
@[go_sem] theorem Th.len (x : Th) : (Th.enc x).length = 35 := by kernel_rfl
@[go_sem] theorem Th.cells (x : Th) : PV.cells? (.agg (Th.enc x)) = some (Th.enc x) := rfl
@[go_sem] theorem field_Th_0_0 : q1p Tryz.prog 67 0 = some (58, 0) := by kernel_rfl
@[go_sem] theorem field_Th_0_1 : q1p Tryz.prog 67 1 = some (22, 16) := by kernel_rfl
@[go_sem] theorem field_Th_0_2 : q1p Tryz.prog 67 2 = some (26, 17) := by kernel_rfl
@[go_sem] theorem field_Th_0_3 : q1p Tryz.prog 67 3 = some (60, 18) := by kernel_rfl
@[go_sem] theorem field_Th_0_4 : q1p Tryz.prog 67 4 = some (22, 20) := by kernel_rfl
@[go_sem] theorem field_Th_0_5 : q1p Tryz.prog 67 5 = some (22, 21) := by kernel_rfl
@[go_sem] theorem field_Th_0_6 : q1p Tryz.prog 67 6 = some (3, 22) := by kernel_rfl
@[go_sem] theorem field_Th_0_7 : q1p Tryz.prog 67 7 = some (62, 23) := by kernel_rfl
@[go_sem] theorem field_Th_0_8 : q1p Tryz.prog 67 8 = some (23, 28) := by kernel_rfl
@[go_sem] theorem field_Th_0_9 : q1p Tryz.prog 67 9 = some (64, 29) := by kernel_rfl
@[go_sem] theorem field_Th_0_10 : q1p Tryz.prog 67 10 = some (65, 31) := by kernel_rfl
@[go_sem] theorem cut_Th_regs_0 (x : Th) : cut Tryz.prog 58 (Th.enc x) 0 = some (.agg (arr 16 (fun i => [.int .u64 (x.regs i)]))) := by kernel_rfl
@[go_sem] theorem cut_Th_pc_0 (x : Th) : cut Tryz.prog 22 (Th.enc x) 16 = some (.int .u64 x.pc) := by kernel_rfl
@[go_sem] theorem cut_Th_clear_0 (x : Th) : cut Tryz.prog 26 (Th.enc x) 17 = some (.sl (List.map Pr.enc x.clear)) := by kernel_rfl
@[go_sem] theorem cut_Th_space_0 (x : Th) : cut Tryz.prog 60 (Th.enc x) 18 = some (.agg (Rf.enc x.space)) := by kernel_rfl
@[go_sem] theorem cut_Th_handler_0 (x : Th) : cut Tryz.prog 22 (Th.enc x) 20 = some (.int .u64 x.handler) := by kernel_rfl
@[go_sem] theorem cut_Th_vector_0 (x : Th) : cut Tryz.prog 22 (Th.enc x) 21 = some (.int .u64 x.vector) := by kernel_rfl
@[go_sem] theorem cut_Th_state_0 (x : Th) : cut Tryz.prog 3 (Th.enc x) 22 = some (.int .i64 x.state) := by kernel_rfl
@[go_sem] theorem cut_Th_wait_0 (x : Th) : cut Tryz.prog 62 (Th.enc x) 23 = some (.agg (Wt.enc x.wait)) := by kernel_rfl
@[go_sem] theorem cut_Th_alerts_0 (x : Th) : cut Tryz.prog 23 (Th.enc x) 28 = some (.sl (List.map u64 x.alerts)) := by kernel_rfl
@[go_sem] theorem cut_Th_span_0 (x : Th) : cut Tryz.prog 64 (Th.enc x) 29 = some (.agg (Sp.enc x.span)) := by kernel_rfl
@[go_sem] theorem cut_Th_labs_at0 (x : Th) : cut Tryz.prog 26 (Th.enc x) 31 = some (.sl (List.map Pr.enc (x.labs 0))) := by kernel_rfl
@[go_sem] theorem cut_Th_labs_at1 (x : Th) : cut Tryz.prog 26 (Th.enc x) 32 = some (.sl (List.map Pr.enc (x.labs 1))) := by kernel_rfl
@[go_sem] theorem cut_Th_labs_at2 (x : Th) : cut Tryz.prog 26 (Th.enc x) 33 = some (.sl (List.map Pr.enc (x.labs 2))) := by kernel_rfl
@[go_sem] theorem cut_Th_labs_at3 (x : Th) : cut Tryz.prog 26 (Th.enc x) 34 = some (.sl (List.map Pr.enc (x.labs 3))) := by kernel_rfl
theorem Th.bdl (S : Nat → Prop) (x : Th) : ∀ p ∈ Th.enc x, Bd S p := by
  unfold Th.enc
  simp only [List.mem_append, or_imp, forall_and, List.forall_mem_cons, List.not_mem_nil, false_imp_iff, implies_true, and_true, List.forall_mem_nil, List.cons_append, List.nil_append, arr, List.mem_flatMap, forall_exists_index, and_imp]
  and_intros <;> first | exact Bd.int _ _ | exact Bd.bool _ | exact Bd.sl _ (by intro e he; obtain ⟨y, _, rfl⟩ := List.mem_map.1 he; first | with_reducible exact q6i _ _ | with_reducible exact Pr.bdl _ _ | with_reducible exact Mp.bdl _ _ | with_reducible exact Ob.bdl _ _) | with_reducible exact Rf.bdl _ _ | with_reducible exact Wt.bdl _ _ | with_reducible exact Sp.bdl _ _ | with_reducible exact Th.bdl _ _ | with_reducible exact Gt.bdl _ _ | (intro p i _ hp; first | (simp only [List.mem_cons, List.not_mem_nil, or_false] at hp; subst hp; first | exact Bd.int _ _ | exact Bd.sl _ (by intro e he; obtain ⟨y, _, rfl⟩ := List.mem_map.1 he; exact Pr.bdl _ _)))
@[go_sem] theorem Th.bdL (S : Nat → Prop) (x : Th) : BdL S (Th.enc x) = True := eq_true (Th.bdl S x)
structure Gt where
  grant : List Pr
  clear : List Pr
  space : Rf
  pc : Int
  arg : Int
  deriving Inhabited
def Gt.enc (x : Gt) : List PV := [.sl (List.map Pr.enc x.grant)] ++ [.sl (List.map Pr.enc x.clear)] ++ Rf.enc x.space ++ [.int .u64 x.pc] ++ [.int .u64 x.arg]
def Gt.zero : Gt := ⟨[], [], Rf.zero, 0, 0⟩
@[go_sem] theorem Gt.len (x : Gt) : (Gt.enc x).length = 6 := by kernel_rfl
@[go_sem] theorem Gt.cells (x : Gt) : PV.cells? (.agg (Gt.enc x)) = some (Gt.enc x) := rfl
@[go_sem] theorem zeros_Gt_0 : zeros Tryz.prog 69 = some (Gt.enc Gt.zero) := by kernel_rfl
@[go_sem] theorem field_Gt_0_0 : q1p Tryz.prog 69 0 = some (26, 0) := by kernel_rfl
@[go_sem] theorem field_Gt_0_1 : q1p Tryz.prog 69 1 = some (26, 1) := by kernel_rfl
@[go_sem] theorem field_Gt_0_2 : q1p Tryz.prog 69 2 = some (60, 2) := by kernel_rfl
@[go_sem] theorem field_Gt_0_3 : q1p Tryz.prog 69 3 = some (22, 4) := by kernel_rfl
@[go_sem] theorem field_Gt_0_4 : q1p Tryz.prog 69 4 = some (22, 5) := by kernel_rfl
@[go_sem] theorem cut_Gt_grant_0 (x : Gt) : cut Tryz.prog 26 (Gt.enc x) 0 = some (.sl (List.map Pr.enc x.grant)) := by kernel_rfl
@[go_sem] theorem cut_Gt_clear_0 (x : Gt) : cut Tryz.prog 26 (Gt.enc x) 1 = some (.sl (List.map Pr.enc x.clear)) := by kernel_rfl
@[go_sem] theorem cut_Gt_space_0 (x : Gt) : cut Tryz.prog 60 (Gt.enc x) 2 = some (.agg (Rf.enc x.space)) := by kernel_rfl
@[go_sem] theorem cut_Gt_pc_0 (x : Gt) : cut Tryz.prog 22 (Gt.enc x) 4 = some (.int .u64 x.pc) := by kernel_rfl
@[go_sem] theorem cut_Gt_arg_0 (x : Gt) : cut Tryz.prog 22 (Gt.enc x) 5 = some (.int .u64 x.arg) := by kernel_rfl
@[go_sem] theorem spl_Gt_ (x v : Gt) : splice (Gt.enc x) 0 (Gt.enc v) = Gt.enc v := by kernel_rfl
theorem Gt.bdl (S : Nat → Prop) (x : Gt) : ∀ p ∈ Gt.enc x, Bd S p := by
  unfold Gt.enc
  simp only [List.mem_append, or_imp, forall_and, List.forall_mem_cons, List.not_mem_nil, false_imp_iff, implies_true, and_true, List.forall_mem_nil, List.cons_append, List.nil_append, arr, List.mem_flatMap, forall_exists_index, and_imp]
  and_intros <;> first | exact Bd.int _ _ | exact Bd.bool _ | exact Bd.sl _ (by intro e he; obtain ⟨y, _, rfl⟩ := List.mem_map.1 he; first | with_reducible exact q6i _ _ | with_reducible exact Pr.bdl _ _ | with_reducible exact Mp.bdl _ _ | with_reducible exact Ob.bdl _ _) | with_reducible exact Rf.bdl _ _ | with_reducible exact Wt.bdl _ _ | with_reducible exact Sp.bdl _ _ | with_reducible exact Th.bdl _ _ | with_reducible exact Gt.bdl _ _ | (intro p i _ hp; first | (simp only [List.mem_cons, List.not_mem_nil, or_false] at hp; subst hp; first | exact Bd.int _ _ | exact Bd.sl _ (by intro e he; obtain ⟨y, _, rfl⟩ := List.mem_map.1 he; exact Pr.bdl _ _)))
@[go_sem] theorem Gt.bdL (S : Nat → Prop) (x : Gt) : BdL S (Gt.enc x) = True := eq_true (Gt.bdl S x)
structure Ob where
  id : Int
  kind : Int
  label : List Pr
  quota : Int
  fixed : Bool
  links : List Int
  data : List Int
  maps : List Mp
  thread : Th
  gate : Gt
  inn : List Int
  out : List Int
  deriving Inhabited
def Ob.enc (x : Ob) : List PV := [.int .u64 x.id] ++ [.int .i64 x.kind] ++ [.sl (List.map Pr.enc x.label)] ++ [.int .i64 x.quota] ++ [.bool x.fixed] ++ [.sl (List.map u64 x.links)] ++ [.sl (List.map u64 x.data)] ++ [.sl (List.map Mp.enc x.maps)] ++ Th.enc x.thread ++ Gt.enc x.gate ++ [.sl (List.map u64 x.inn)] ++ [.sl (List.map u64 x.out)]
def Ob.zero : Ob := ⟨0, 0, [], 0, false, [], [], [], Th.zero, Gt.zero, [], []⟩
@[go_sem] theorem Ob.len (x : Ob) : (Ob.enc x).length = 51 := by kernel_rfl
@[go_sem] theorem Ob.cells (x : Ob) : PV.cells? (.agg (Ob.enc x)) = some (Ob.enc x) := rfl
@[go_sem] theorem cut_Ob_0 (x : Ob) : cut Tryz.prog 71 (Ob.enc x) 0 = some (.agg (Ob.enc x)) := by kernel_rfl
@[go_sem] theorem zeros_Ob_0 : zeros Tryz.prog 71 = some (Ob.enc Ob.zero) := by kernel_rfl
@[go_sem] theorem field_Ob_0_0 : q1p Tryz.prog 71 0 = some (22, 0) := by kernel_rfl
@[go_sem] theorem field_Ob_0_1 : q1p Tryz.prog 71 1 = some (3, 1) := by kernel_rfl
@[go_sem] theorem field_Ob_0_2 : q1p Tryz.prog 71 2 = some (26, 2) := by kernel_rfl
@[go_sem] theorem field_Ob_0_3 : q1p Tryz.prog 71 3 = some (3, 3) := by kernel_rfl
@[go_sem] theorem field_Ob_0_4 : q1p Tryz.prog 71 4 = some (4, 4) := by kernel_rfl
@[go_sem] theorem field_Ob_0_5 : q1p Tryz.prog 71 5 = some (23, 5) := by kernel_rfl
@[go_sem] theorem field_Ob_0_6 : q1p Tryz.prog 71 6 = some (23, 6) := by kernel_rfl
@[go_sem] theorem field_Ob_0_7 : q1p Tryz.prog 71 7 = some (57, 7) := by kernel_rfl
@[go_sem] theorem field_Ob_0_8 : q1p Tryz.prog 71 8 = some (67, 8) := by kernel_rfl
@[go_sem] theorem field_Ob_0_9 : q1p Tryz.prog 71 9 = some (69, 43) := by kernel_rfl
@[go_sem] theorem field_Ob_0_10 : q1p Tryz.prog 71 10 = some (23, 49) := by kernel_rfl
@[go_sem] theorem field_Ob_0_11 : q1p Tryz.prog 71 11 = some (23, 50) := by kernel_rfl
@[go_sem] theorem build_Ob_0_0_1_3 (id : Int) (kind : Int) (quota : Int) : q3z Tryz.prog 71 [(0, .int .u64 id), (1, .int .i64 kind), (3, .int .i64 quota)] = some (.agg (Ob.enc ⟨id, kind, [], quota, false, [], [], [], Th.zero, Gt.zero, [], []⟩)) := by kernel_rfl
@[go_sem] theorem build_Ob_0_0_1_2_3_4 (id : Int) (kind : Int) (label : List Pr) (quota : Int) (fixed : Bool) : q3z Tryz.prog 71 [(0, .int .u64 id), (1, .int .i64 kind), (2, .sl (List.map Pr.enc label)), (3, .int .i64 quota), (4, .bool fixed)] = some (.agg (Ob.enc ⟨id, kind, label, quota, fixed, [], [], [], Th.zero, Gt.zero, [], []⟩)) := by kernel_rfl
@[go_sem] theorem build_Ob_0_  : q3z Tryz.prog 71 [] = some (.agg (Ob.enc Ob.zero)) := by kernel_rfl
@[go_sem] theorem cut_Ob_id_0 (x : Ob) : cut Tryz.prog 22 (Ob.enc x) 0 = some (.int .u64 x.id) := by kernel_rfl
@[go_sem] theorem cut_Ob_kind_0 (x : Ob) : cut Tryz.prog 3 (Ob.enc x) 1 = some (.int .i64 x.kind) := by kernel_rfl
@[go_sem] theorem cut_Ob_label_0 (x : Ob) : cut Tryz.prog 26 (Ob.enc x) 2 = some (.sl (List.map Pr.enc x.label)) := by kernel_rfl
@[go_sem] theorem cut_Ob_quota_0 (x : Ob) : cut Tryz.prog 3 (Ob.enc x) 3 = some (.int .i64 x.quota) := by kernel_rfl
@[go_sem] theorem cut_Ob_fixed_0 (x : Ob) : cut Tryz.prog 4 (Ob.enc x) 4 = some (.bool x.fixed) := by kernel_rfl
@[go_sem] theorem cut_Ob_links_0 (x : Ob) : cut Tryz.prog 23 (Ob.enc x) 5 = some (.sl (List.map u64 x.links)) := by kernel_rfl
@[go_sem] theorem spl_Ob_links (x : Ob) (v : List Int) : splice (Ob.enc x) 5 ([.sl (List.map u64 v)]) = Ob.enc { x with links := v } := by kernel_rfl
@[go_sem] theorem cut_Ob_data_0 (x : Ob) : cut Tryz.prog 23 (Ob.enc x) 6 = some (.sl (List.map u64 x.data)) := by kernel_rfl
@[go_sem] theorem spl_Ob_data (x : Ob) (v : List Int) : splice (Ob.enc x) 6 ([.sl (List.map u64 v)]) = Ob.enc { x with data := v } := by kernel_rfl
@[go_sem] theorem cut_Ob_maps_0 (x : Ob) : cut Tryz.prog 57 (Ob.enc x) 7 = some (.sl (List.map Mp.enc x.maps)) := by kernel_rfl
@[go_sem] theorem spl_Ob_maps (x : Ob) (v : List Mp) : splice (Ob.enc x) 7 ([.sl (List.map Mp.enc v)]) = Ob.enc { x with maps := v } := by kernel_rfl
@[go_sem] theorem cut_Ob_thread_0 (x : Ob) : cut Tryz.prog 67 (Ob.enc x) 8 = some (.agg (Th.enc x.thread)) := by kernel_rfl
@[go_sem] theorem spl_Ob_thread (x : Ob) (v : Th) : splice (Ob.enc x) 8 (Th.enc v) = Ob.enc { x with thread := v } := by kernel_rfl
@[go_sem] theorem cut_Ob_thread_regs_at3 (x : Ob) : cut Tryz.prog 22 (Ob.enc x) 11 = some (.int .u64 (x.thread.regs 3)) := by kernel_rfl
@[go_sem] theorem cut_Ob_thread_pc_0 (x : Ob) : cut Tryz.prog 22 (Ob.enc x) 24 = some (.int .u64 x.thread.pc) := by kernel_rfl
@[go_sem] theorem cut_Ob_thread_space_0 (x : Ob) : cut Tryz.prog 60 (Ob.enc x) 26 = some (.agg (Rf.enc x.thread.space)) := by kernel_rfl
@[go_sem] theorem cut_Ob_thread_span_0 (x : Ob) : cut Tryz.prog 64 (Ob.enc x) 37 = some (.agg (Sp.enc x.thread.span)) := by kernel_rfl
@[go_sem] theorem cut_Ob_gate_0 (x : Ob) : cut Tryz.prog 69 (Ob.enc x) 43 = some (.agg (Gt.enc x.gate)) := by kernel_rfl
@[go_sem] theorem spl_Ob_gate (x : Ob) (v : Gt) : splice (Ob.enc x) 43 (Gt.enc v) = Ob.enc { x with gate := v } := by kernel_rfl
@[go_sem] theorem cut_Ob_gate_grant_0 (x : Ob) : cut Tryz.prog 26 (Ob.enc x) 43 = some (.sl (List.map Pr.enc x.gate.grant)) := by kernel_rfl
@[go_sem] theorem cut_Ob_gate_clear_0 (x : Ob) : cut Tryz.prog 26 (Ob.enc x) 44 = some (.sl (List.map Pr.enc x.gate.clear)) := by kernel_rfl
@[go_sem] theorem cut_Ob_gate_space_0 (x : Ob) : cut Tryz.prog 60 (Ob.enc x) 45 = some (.agg (Rf.enc x.gate.space)) := by kernel_rfl
@[go_sem] theorem cut_Ob_gate_pc_0 (x : Ob) : cut Tryz.prog 22 (Ob.enc x) 47 = some (.int .u64 x.gate.pc) := by kernel_rfl
@[go_sem] theorem cut_Ob_gate_arg_0 (x : Ob) : cut Tryz.prog 22 (Ob.enc x) 48 = some (.int .u64 x.gate.arg) := by kernel_rfl
@[go_sem] theorem cut_Ob_inn_0 (x : Ob) : cut Tryz.prog 23 (Ob.enc x) 49 = some (.sl (List.map u64 x.inn)) := by kernel_rfl
@[go_sem] theorem spl_Ob_inn (x : Ob) (v : List Int) : splice (Ob.enc x) 49 ([.sl (List.map u64 v)]) = Ob.enc { x with inn := v } := by kernel_rfl
@[go_sem] theorem cut_Ob_out_0 (x : Ob) : cut Tryz.prog 23 (Ob.enc x) 50 = some (.sl (List.map u64 x.out)) := by kernel_rfl
@[go_sem] theorem spl_Ob_out (x : Ob) (v : List Int) : splice (Ob.enc x) 50 ([.sl (List.map u64 v)]) = Ob.enc { x with out := v } := by kernel_rfl
@[go_sem] theorem spl_Ob_ (x v : Ob) : splice (Ob.enc x) 0 (Ob.enc v) = Ob.enc v := by kernel_rfl
theorem Ob.bdl (S : Nat → Prop) (x : Ob) : ∀ p ∈ Ob.enc x, Bd S p := by
  unfold Ob.enc
  simp only [List.mem_append, or_imp, forall_and, List.forall_mem_cons, List.not_mem_nil, false_imp_iff, implies_true, and_true, List.forall_mem_nil, List.cons_append, List.nil_append, arr, List.mem_flatMap, forall_exists_index, and_imp]
  and_intros <;> first | exact Bd.int _ _ | exact Bd.bool _ | exact Bd.sl _ (by intro e he; obtain ⟨y, _, rfl⟩ := List.mem_map.1 he; first | with_reducible exact q6i _ _ | with_reducible exact Pr.bdl _ _ | with_reducible exact Mp.bdl _ _ | with_reducible exact Ob.bdl _ _) | with_reducible exact Rf.bdl _ _ | with_reducible exact Wt.bdl _ _ | with_reducible exact Sp.bdl _ _ | with_reducible exact Th.bdl _ _ | with_reducible exact Gt.bdl _ _ | (intro p i _ hp; first | (simp only [List.mem_cons, List.not_mem_nil, or_false] at hp; subst hp; first | exact Bd.int _ _ | exact Bd.sl _ (by intro e he; obtain ⟨y, _, rfl⟩ := List.mem_map.1 he; exact Pr.bdl _ _)))
@[go_sem] theorem Ob.bdL (S : Nat → Prop) (x : Ob) : BdL S (Ob.enc x) = True := eq_true (Ob.bdl S x)
@[go_sem] theorem Ob.bdS (S : Nat → Prop) (l : List Ob) : Bd S (.sl (List.map Ob.enc l)) = True := Bd_slm (Ob.bdl S) l
structure Wd where
  time : Int
  key : Int
  root : Int
  objects : List Ob
  deriving Inhabited
def Wd.enc (x : Wd) : List PV := [.int .i64 x.time] ++ [.int .u64 x.key] ++ [.int .u64 x.root] ++ [.sl (List.map Ob.enc x.objects)]
def Wd.zero : Wd := ⟨0, 0, 0, []⟩
@[go_sem] theorem Wd.len (x : Wd) : (Wd.enc x).length = 4 := by kernel_rfl
@[go_sem] theorem Wd.cells (x : Wd) : PV.cells? (.agg (Wd.enc x)) = some (Wd.enc x) := rfl
@[go_sem] theorem cut_Wd_0 (x : Wd) : cut Tryz.prog 33 (Wd.enc x) 0 = some (.agg (Wd.enc x)) := by kernel_rfl
@[go_sem] theorem zeros_Wd_0 : zeros Tryz.prog 33 = some (Wd.enc Wd.zero) := by kernel_rfl
@[go_sem] theorem field_Wd_0_0 : q1p Tryz.prog 33 0 = some (3, 0) := by kernel_rfl
@[go_sem] theorem field_Wd_0_1 : q1p Tryz.prog 33 1 = some (22, 1) := by kernel_rfl
@[go_sem] theorem field_Wd_0_2 : q1p Tryz.prog 33 2 = some (22, 2) := by kernel_rfl
@[go_sem] theorem field_Wd_0_3 : q1p Tryz.prog 33 3 = some (31, 3) := by kernel_rfl
@[go_sem] theorem cut_Wd_time_0 (x : Wd) : cut Tryz.prog 3 (Wd.enc x) 0 = some (.int .i64 x.time) := by kernel_rfl
@[go_sem] theorem cut_Wd_key_0 (x : Wd) : cut Tryz.prog 22 (Wd.enc x) 1 = some (.int .u64 x.key) := by kernel_rfl
@[go_sem] theorem cut_Wd_root_0 (x : Wd) : cut Tryz.prog 22 (Wd.enc x) 2 = some (.int .u64 x.root) := by kernel_rfl
@[go_sem] theorem cut_Wd_objects_0 (x : Wd) : cut Tryz.prog 31 (Wd.enc x) 3 = some (.sl (List.map Ob.enc x.objects)) := by kernel_rfl
@[go_sem] theorem spl_Wd_objects (x : Wd) (v : List Ob) : splice (Wd.enc x) 3 ([.sl (List.map Ob.enc v)]) = Wd.enc { x with objects := v } := by kernel_rfl
@[go_sem] theorem spl_Wd_ (x v : Wd) : splice (Wd.enc x) 0 (Wd.enc v) = Wd.enc v := by kernel_rfl
theorem Wd.bdl (S : Nat → Prop) (x : Wd) : ∀ p ∈ Wd.enc x, Bd S p := by
  unfold Wd.enc
  simp only [List.mem_append, or_imp, forall_and, List.forall_mem_cons, List.not_mem_nil, false_imp_iff, implies_true, and_true, List.forall_mem_nil, List.cons_append, List.nil_append, arr, List.mem_flatMap, forall_exists_index, and_imp]
  and_intros <;> first | exact Bd.int _ _ | exact Bd.bool _ | exact Bd.sl _ (by intro e he; obtain ⟨y, _, rfl⟩ := List.mem_map.1 he; first | with_reducible exact q6i _ _ | with_reducible exact Pr.bdl _ _ | with_reducible exact Mp.bdl _ _ | with_reducible exact Ob.bdl _ _) | with_reducible exact Rf.bdl _ _ | with_reducible exact Wt.bdl _ _ | with_reducible exact Sp.bdl _ _ | with_reducible exact Th.bdl _ _ | with_reducible exact Gt.bdl _ _ | (intro p i _ hp; first | (simp only [List.mem_cons, List.not_mem_nil, or_false] at hp; subst hp; first | exact Bd.int _ _ | exact Bd.sl _ (by intro e he; obtain ⟨y, _, rfl⟩ := List.mem_map.1 he; exact Pr.bdl _ _)))
@[go_sem] theorem Wd.bdL (S : Nat → Prop) (x : Wd) : BdL S (Wd.enc x) = True := eq_true (Wd.bdl S x)
structure Ls where
  things : List Ob
  idf : PV
  deriving Inhabited
def Ls.enc (x : Ls) : List PV := [.sl (List.map Ob.enc x.things)] ++ [x.idf]
def Ls.zero : Ls := ⟨[], .nilfn⟩
@[go_sem] theorem Ls.len (x : Ls) : (Ls.enc x).length = 2 := by kernel_rfl
@[go_sem] theorem Ls.cells (x : Ls) : PV.cells? (.agg (Ls.enc x)) = some (Ls.enc x) := rfl
@[go_sem] theorem cut_Ls_0 (x : Ls) : cut Tryz.prog 180 (Ls.enc x) 0 = some (.agg (Ls.enc x)) := by kernel_rfl
@[go_sem] theorem zeros_Ls_0 : zeros Tryz.prog 180 = some (Ls.enc Ls.zero) := by kernel_rfl
@[go_sem] theorem field_Ls_0_0 : q1p Tryz.prog 180 0 = some (31, 0) := by kernel_rfl
@[go_sem] theorem field_Ls_0_1 : q1p Tryz.prog 180 1 = some (178, 1) := by kernel_rfl
@[go_sem] theorem build_Ls_0_0_1 (things : List Ob) (g : FuncId) : q3z Tryz.prog 180 [(0, .sl (List.map Ob.enc things)), (1, .fn (.func g) [] [])] = some (.agg (Ls.enc ⟨things, .fn (.func g) [] []⟩)) := by kernel_rfl
@[go_sem] theorem cut_Ls_things_0 (x : Ls) : cut Tryz.prog 31 (Ls.enc x) 0 = some (.sl (List.map Ob.enc x.things)) := by kernel_rfl
@[go_sem] theorem cut_Ls_idf_0 (x : Ls) : cut Tryz.prog 178 (Ls.enc x) 1 = some (x.idf) := by kernel_rfl
@[go_sem] theorem spl_Ls_ (x v : Ls) : splice (Ls.enc x) 0 (Ls.enc v) = Ls.enc v := by kernel_rfl
@[go_sem] theorem cellsOf_api_Pair : Tryz.prog.cellsOf 76 = 2 := by kernel_rfl
@[go_sem] theorem info_api_Pair : (Tryz.prog.info? 76).isSome = true := by kernel_rfl
@[go_sem] theorem cellsOf_uint64 : Tryz.prog.cellsOf 22 = 1 := by kernel_rfl
@[go_sem] theorem info_uint64 : (Tryz.prog.info? 22).isSome = true := by kernel_rfl
@[go_sem] theorem aggT_uint64 : aggT Tryz.prog 22 = some false := by kernel_rfl
attribute [go_sem] Tryz.underlying22
attribute [go_sem] Tryz.underlying3
@[go_sem] theorem cellsOf_api_Errno : Tryz.prog.cellsOf 50 = 1 := by kernel_rfl
@[go_sem] theorem info_api_Errno : (Tryz.prog.info? 50).isSome = true := by kernel_rfl
@[go_sem] theorem aggT_api_Errno : aggT Tryz.prog 50 = some false := by kernel_rfl
attribute [go_sem] Tryz.underlying50
@[go_sem] theorem cellsOf_api_Map : Tryz.prog.cellsOf 186 = 6 := by kernel_rfl
@[go_sem] theorem info_api_Map : (Tryz.prog.info? 186).isSome = true := by kernel_rfl
@[go_sem] theorem cellsOf_bool : Tryz.prog.cellsOf 4 = 1 := by kernel_rfl
@[go_sem] theorem info_bool : (Tryz.prog.info? 4).isSome = true := by kernel_rfl
attribute [go_sem] Tryz.underlying4
@[go_sem] theorem cellsOf_api_Ref : Tryz.prog.cellsOf 60 = 2 := by kernel_rfl
@[go_sem] theorem info_api_Ref : (Tryz.prog.info? 60).isSome = true := by kernel_rfl
@[go_sem] theorem cellsOf_api_Thread : Tryz.prog.cellsOf 67 = 35 := by kernel_rfl
@[go_sem] theorem info_api_Thread : (Tryz.prog.info? 67).isSome = true := by kernel_rfl
attribute [go_sem] Tryz.underlying58
@[go_sem] theorem cellsOf_api_Label : Tryz.prog.cellsOf 26 = 1 := by kernel_rfl
@[go_sem] theorem info_api_Label : (Tryz.prog.info? 26).isSome = true := by kernel_rfl
attribute [go_sem] Tryz.underlying26
@[go_sem] theorem cellsOf___uint64 : Tryz.prog.cellsOf 23 = 1 := by kernel_rfl
@[go_sem] theorem info___uint64 : (Tryz.prog.info? 23).isSome = true := by kernel_rfl
attribute [go_sem] Tryz.underlying23
attribute [go_sem] Tryz.underlying65
@[go_sem] theorem cellsOf_api_Gate : Tryz.prog.cellsOf 69 = 6 := by kernel_rfl
@[go_sem] theorem info_api_Gate : (Tryz.prog.info? 69).isSome = true := by kernel_rfl
@[go_sem] theorem cellsOf_api_Object : Tryz.prog.cellsOf 71 = 51 := by kernel_rfl
@[go_sem] theorem info_api_Object : (Tryz.prog.info? 71).isSome = true := by kernel_rfl
@[go_sem] theorem cellsOf___api_Map : Tryz.prog.cellsOf 57 = 1 := by kernel_rfl
@[go_sem] theorem info___api_Map : (Tryz.prog.info? 57).isSome = true := by kernel_rfl
attribute [go_sem] Tryz.underlying57
@[go_sem] theorem cellsOf_api_World : Tryz.prog.cellsOf 33 = 4 := by kernel_rfl
@[go_sem] theorem info_api_World : (Tryz.prog.info? 33).isSome = true := by kernel_rfl
@[go_sem] theorem aggT_api_World : aggT Tryz.prog 33 = some true := by kernel_rfl
@[go_sem] theorem cellsOf___api_Object : Tryz.prog.cellsOf 31 = 1 := by kernel_rfl
@[go_sem] theorem info___api_Object : (Tryz.prog.info? 31).isSome = true := by kernel_rfl
attribute [go_sem] Tryz.underlying31
@[go_sem] theorem q9p : Tryz.prog.cellsOf 180 = 2 := by kernel_rfl
@[go_sem] theorem x0l : (Tryz.prog.info? 180).isSome = true := by kernel_rfl
attribute [go_sem] Tryz.underlying178
@[go_sem] theorem bs1_api_Label (x : Pr) : q2r Tryz.prog 26 1 [(0, .agg (Pr.enc x))] = some (.sl [Pr.enc x]) := by kernel_rfl
@[go_sem] theorem bs0_api_Label : q2r Tryz.prog 26 0 [] = some .nilsl := by kernel_rfl
-- api_Label
@[go_sem] theorem bs1___uint64 (x : Int) : q2r Tryz.prog 23 1 [(0, .int .u64 x)] = some (.sl [u64 x]) := by kernel_rfl
-- __uint64
-- __api_Map
@[go_sem] theorem bs1___api_Object (x : Ob) : q2r Tryz.prog 31 1 [(0, .agg (Ob.enc x))] = some (.sl [Ob.enc x]) := by kernel_rfl
-- __api_Object
theorem Pr.eqL (a b : Pr) : eqL (Pr.enc a) (Pr.enc b) = decide (a = b) := by
  rcases a with ⟨_, _⟩; rcases b with ⟨_, _⟩; rw [Bool.eq_iff_iff]; simp [Pr.enc, Go.Proofs.YtoibbedpaaeclaaGreat.eqL, eqLeaf, and_assoc]
@[go_sem] theorem neq_Pr_0 (a b : Pr) : q3f Tryz.prog .neq 76 (.agg (Pr.enc a)) (.agg (Pr.enc b)) = some (.bool (!decide (a = b))) := by
  have h : q3f Tryz.prog .neq 76 (.agg (Pr.enc a)) (.agg (Pr.enc b)) = some (.bool (!eqL (Pr.enc a) (Pr.enc b))) := by kernel_rfl
  rw [h, Pr.eqL]
theorem Mp.eqL (a b : Mp) : eqL (Mp.enc a) (Mp.enc b) = decide (a = b) := by
  rcases a with ⟨_, _, _, _, _, _⟩; rcases b with ⟨_, _, _, _, _, _⟩; rw [Bool.eq_iff_iff]; simp [Mp.enc, Go.Proofs.YtoibbedpaaeclaaGreat.eqL, eqLeaf, and_assoc]
@[go_sem] theorem neq_Mp_0 (a b : Mp) : q3f Tryz.prog .neq 186 (.agg (Mp.enc a)) (.agg (Mp.enc b)) = some (.bool (!decide (a = b))) := by
  have h : q3f Tryz.prog .neq 186 (.agg (Mp.enc a)) (.agg (Mp.enc b)) = some (.bool (!eqL (Mp.enc a) (Mp.enc b))) := by kernel_rfl
  rw [h, Mp.eqL]
theorem Rf.eqL (a b : Rf) : eqL (Rf.enc a) (Rf.enc b) = decide (a = b) := by
  rcases a with ⟨_, _⟩; rcases b with ⟨_, _⟩; rw [Bool.eq_iff_iff]; simp [Rf.enc, Go.Proofs.YtoibbedpaaeclaaGreat.eqL, eqLeaf, and_assoc]
@[go_sem] theorem eql_Rf_0 (a b : Rf) : q3f Tryz.prog .eql 60 (.agg (Rf.enc a)) (.agg (Rf.enc b)) = some (.bool (decide (a = b))) := by
  have h : q3f Tryz.prog .eql 60 (.agg (Rf.enc a)) (.agg (Rf.enc b)) = some (.bool (eqL (Rf.enc a) (Rf.enc b))) := by kernel_rfl
  rw [h, Rf.eqL]
@[go_sem] theorem neq_Rf_0 (a b : Rf) : q3f Tryz.prog .neq 60 (.agg (Rf.enc a)) (.agg (Rf.enc b)) = some (.bool (!decide (a = b))) := by
  have h : q3f Tryz.prog .neq 60 (.agg (Rf.enc a)) (.agg (Rf.enc b)) = some (.bool (!eqL (Rf.enc a) (Rf.enc b))) := by kernel_rfl
  rw [h, Rf.eqL]
theorem Wt.eqL (a b : Wt) : eqL (Wt.enc a) (Wt.enc b) = decide (a = b) := by
  rcases a with ⟨⟨_, _⟩, _, _, _⟩; rcases b with ⟨⟨_, _⟩, _, _, _⟩; rw [Bool.eq_iff_iff]; simp [Wt.enc, Rf.enc, Go.Proofs.YtoibbedpaaeclaaGreat.eqL, eqLeaf, and_assoc]
@[go_sem] theorem eql_Wt_0 (a b : Wt) : q3f Tryz.prog .eql 62 (.agg (Wt.enc a)) (.agg (Wt.enc b)) = some (.bool (decide (a = b))) := by
  have h : q3f Tryz.prog .eql 62 (.agg (Wt.enc a)) (.agg (Wt.enc b)) = some (.bool (eqL (Wt.enc a) (Wt.enc b))) := by kernel_rfl
  rw [h, Wt.eqL]
@[go_sem] theorem neq_Wt_0 (a b : Wt) : q3f Tryz.prog .neq 62 (.agg (Wt.enc a)) (.agg (Wt.enc b)) = some (.bool (!decide (a = b))) := by
  have h : q3f Tryz.prog .neq 62 (.agg (Wt.enc a)) (.agg (Wt.enc b)) = some (.bool (!eqL (Wt.enc a) (Wt.enc b))) := by kernel_rfl
  rw [h, Wt.eqL]
theorem Sp.eqL (a b : Sp) : eqL (Sp.enc a) (Sp.enc b) = decide (a = b) := by
  rcases a with ⟨_, _⟩; rcases b with ⟨_, _⟩; rw [Bool.eq_iff_iff]; simp [Sp.enc, Go.Proofs.YtoibbedpaaeclaaGreat.eqL, eqLeaf, and_assoc]
@[go_sem] theorem eql_Sp_0 (a b : Sp) : q3f Tryz.prog .eql 64 (.agg (Sp.enc a)) (.agg (Sp.enc b)) = some (.bool (decide (a = b))) := by
  have h : q3f Tryz.prog .eql 64 (.agg (Sp.enc a)) (.agg (Sp.enc b)) = some (.bool (eqL (Sp.enc a) (Sp.enc b))) := by kernel_rfl
  rw [h, Sp.eqL]
@[go_sem] theorem eInfo_u64 : eInfo Tryz.prog 22 = some (1, 8) := by kernel_rfl
@[go_sem] theorem eInfo_Pr : eInfo Tryz.prog 76 = some (2, 16) := by kernel_rfl
def regsEq (f g : Nat → Int) : Bool := (List.range 16).all fun i => f i == g i
@[go_sem] theorem eql_regs (f g : Nat → Int) : q3f Tryz.prog .eql 58 (.agg (arr 16 fun i => [.int .u64 (f i)])) (.agg (arr 16 fun i => [.int .u64 (g i)])) = some (.bool (regsEq f g)) := by kernel_rfl
theorem enc_snoc {α : Type} (f : α → List PV) (l : List α) (x : α) : List.map f l ++ [f x] = List.map f (l ++ [x]) := by simp
@[go_sem] theorem snoc_u64 (l : List Int) (x : Int) : List.map u64 l ++ [u64 x] = List.map u64 (l ++ [x]) := enc_snoc _ _ _
@[go_sem] theorem snoc_Pr_enc (l : List Pr) (x : Pr) : List.map Pr.enc l ++ [Pr.enc x] = List.map Pr.enc (l ++ [x]) := enc_snoc _ _ _
attribute [go_sem] List.length_map List.getElem?_map Int.toNat_natCast
end Go.Proofs.YtoibbedpaaeclaaGreat
end

section
namespace Go.Proofs.YtoibbedpaaeclaaGreat
open Go Go.RowKit Go.ChangeShapes Go.WideShapes Go.Joins
set_option linter.unusedVariables false
set_option linter.unusedSimpArgs false
abbrev NoM : Nat → Nat → Prop := fun _ _ => False
def q4j {α : Type} (P : Program) (t : TypeId) (en : α → List PV) (wf : α → Prop) : Prop :=
  ∀ (H : Type) (enc : TypeId × Value → H) (w : World) (base : Nat) (spare : Nat → Bool) (held : Bool) (fuel : Nat) (cs : List Value) (x : DataW H × List MemPlace), DataW.trod enc P w base spare held fuel t cs = some x →
    ∃ y, wf y ∧ ∀ σ L, CR w NoM σ L cs (en y)
section
variable {P : Program} {t e : TypeId}
theorem cr_one {w : World} {M σ L} {v : Value} {p : PV} (h : VR w M σ L v p) (ho : v.oneCell' = true) : CR w M σ L [v] [p] := by
  refine ⟨rfl, fun u hu => by simp at hu; subst hu; exact ho, fun i u q hu hq => ?_⟩
  cases i with
  | zero => simp at hu hq; subst hu; subst hq; exact h
  | succ i => simp at hu
theorem cr_app {w : World} {M σ L} {cs ds : List Value} {l k : List PV} (h : CR w M σ L cs l) (h' : CR w M σ L ds k) : CR w M σ L (cs ++ ds) (l ++ k) := by
  refine ⟨by simp [h.len, h'.len], fun v hv => (List.mem_append.1 hv).elim (h.one v) (h'.one v), fun i v p hv hp => ?_⟩
  by_cases hi : i < cs.length
  · rw [List.getElem?_append_left hi] at hv
    rw [List.getElem?_append_left (by rw [← h.len]; exact hi)] at hp
    exact h.rel i v p hv hp
  · rw [List.getElem?_append_right (by omega)] at hv
    rw [List.getElem?_append_right (by rw [← h.len]; omega), ← h.len] at hp
    exact h'.rel _ v p hv hp
theorem cr_nil {w : World} {M σ L} : CR w M σ L [] [] := ⟨rfl, fun v hv => (by cases hv), fun i v p hv => by simp at hv⟩
theorem q1v {k : IntKind} (ht : P.underlying t = some (.int k)) : q4j P t (fun n => [.int k n]) (fun n => k.min ≤ n ∧ n ≤ k.max) := by
  intro H enc w base spare held fuel cs x h
  obtain ⟨n, rfl, _, hw⟩ := DataW.trod_int ht h
  exact ⟨n, by simpa [Lit.wf] using hw, fun σ L => cr_one (.int k n) rfl⟩
theorem x0g (ht : P.underlying t = some .bool) : q4j P t (fun b => [.bool b]) (fun _ => True) := by
  intro H enc w base spare held fuel cs x h
  obtain ⟨b, rfl, _⟩ := DataW.trod_bool ht h
  exact ⟨b, trivial, fun σ L => cr_one (.bool b) rfl⟩
theorem q4r {α β : Type} {en : α → List PV} {wf : α → Prop} {f : β → α} (g : α → β) (hg : ∀ x, f (g x) = x) (h : q4j P t en wf) : q4j P t (fun y => en (f y)) (fun y => wf (f y)) := by
  intro H enc w base spare held fuel cs x hx
  obtain ⟨y, hw, hk⟩ := h H enc w base spare held fuel cs x hx
  exact ⟨g y, by show wf (f (g y)); rw [hg]; exact hw, fun σ L => by show CR w NoM σ L cs (en (f (g y))); rw [hg]; exact hk σ L⟩
theorem q3y {α : Type} {en en' : α → List PV} {wf wf' : α → Prop} (h : q4j P t en wf) (he : ∀ y, en y = en' y) (hw : ∀ y, wf y → wf' y) : q4j P t en' wf' := by
  intro H enc w base spare held fuel cs x hx
  obtain ⟨y, h1, h2⟩ := h H enc w base spare held fuel cs x hx
  exact ⟨y, hw y h1, fun σ L => by rw [← he]; exact h2 σ L⟩
theorem flat_get {α : Type} {f : α → List PV} {sz : Nat} (hsz : ∀ y, (f y).length = sz) (h0 : 0 < sz) : ∀ (l : List α) (q : Nat) (p : PV), (l.map f).flatten[q]? = some p → ∃ y, l[q / sz]? = some y ∧ (f y)[q % sz]? = some p := by
  intro l
  induction l with
  | nil => intro q p h; simp at h
  | cons a l ih =>
    intro q p h
    rw [List.map_cons, List.flatten_cons] at h
    by_cases hq : q < sz
    · rw [List.getElem?_append_left (by rw [hsz]; exact hq)] at h
      exact ⟨a, by rw [Nat.div_eq_of_lt hq]; rfl, by rw [Nat.mod_eq_of_lt hq]; exact h⟩
    · rw [List.getElem?_append_right (by rw [hsz]; omega), hsz] at h
      obtain ⟨y, h1, h2⟩ := ih _ _ h
      have e1 : q / sz = (q - sz) / sz + 1 := by rw [Nat.div_eq_sub_div h0 (by omega)]
      have e2 : q % sz = (q - sz) % sz := by rw [Nat.mod_eq_sub_mod (by omega)]
      exact ⟨y, by rw [e1]; exact h1, by rw [e2]; exact h2⟩
theorem addr_none {w : World} {a : Addr} {v : Value} (h : w.cell? a = some v) : a.spot = none := by
  unfold World.cell? at h
  split at h
  · cases hs : a.spot with
    | none => rfl
    | some n => rw [hs] at h; simp at h
  · cases h
theorem q3g {α : Type} [Inhabited α] {en : α → List PV} {wf : α → Prop} {sz : Nat} (ht : P.underlying t = some (.slice e)) (hsz : ∀ y, (en y).length = sz) (hs : P.cellsOf e = sz) (h0 : 0 < sz) (h : q4j P e en wf) :
    q4j P t (fun l : List α => [.sl (l.map en)]) (fun l => (∀ y ∈ l, wf y) ∧ l.length ≤ maxLen) := by
  intro H enc w base spare held fuel cs x hx
  rcases Go.Deep.open_slice ht hx with ⟨rfl, _⟩ | ⟨a, len, cap, m, n, D, Pl, rfl, _, hl, hm, hmm, _, he⟩
  · exact ⟨[], ⟨by simp, by simp⟩, fun σ L => cr_one (.sl0 none 0) rfl⟩
  · have hle : len ≤ m := by rw [hmm]; split <;> omega
    have each : ∀ i, i < len → ∃ y, wf y ∧ ∃ cs', (∀ j u, cs'[j]? = some u → w.cell? (a.add (i * sz + j)) = some u) ∧ ∀ σ L, CR w NoM σ L cs' (en y) := by
      intro i hi
      obtain ⟨cs', h1, h2⟩ := he i (by omega)
      obtain ⟨y, hw, hk⟩ := h H enc w base spare held n cs' _ h2
      rw [hs] at h1
      obtain ⟨g1, g2, g3⟩ := World.cells?_some h1
      refine ⟨y, hw, cs', fun j u hj => ?_, hk⟩
      have hjl : j < sz := by rw [← g2]; exact (List.getElem?_eq_some_iff.1 hj).1
      have := g3 j hjl
      rw [Go.Deep.add_add] at this
      rw [this]
      exact hj
    obtain ⟨f, hf⟩ := Go.Deep.choose_lt each
    refine ⟨(List.range len).map f, ⟨?_, by simp; unfold maxLen at hm ⊢; omega⟩, fun σ L => cr_one ?_ rfl⟩
    · intro y hy
      obtain ⟨i, hi, rfl⟩ := List.mem_map.1 hy
      exact (hf i (by simpa using hi)).1
    · rcases Nat.eq_zero_or_pos len with rfl | hpos
      · exact .sl0 _ _
      · obtain ⟨b, o, sp⟩ := a
        have hspot : sp = none := by
          obtain ⟨_, cs', g1, g2⟩ := hf 0 hpos
          have hl' := (g2 (fun _ => ⟨0, 0, 0, 0, 0⟩) (fun _ => True)).len
          rw [hsz] at hl'
          have h5 := g1 0 _ (List.getElem?_eq_getElem (by omega))
          rw [Nat.zero_mul, Nat.zero_add] at h5
          have h6 := addr_none h5
          simpa [Addr.add] using h6
        subst hspot
        have hlen : (List.map en ((List.range len).map f)).length = len := by simp
        have key : ∀ q p, (List.map en ((List.range len).map f)).flatten[q]? = some p → ∃ v, w.cell? ⟨b, o + q, none⟩ = some v ∧ v.oneCell' = true ∧ VR w NoM σ L v p := by
          intro q p hq
          obtain ⟨y, g1, g2⟩ := flat_get hsz h0 _ q p hq
          rw [List.getElem?_map] at g1
          obtain ⟨i, hi, rfl⟩ := Option.map_eq_some_iff.1 g1
          have hil : q / sz < len := by have := (List.getElem?_eq_some_iff.1 hi).1; simpa using this
          have : i = q / sz := by have := (List.getElem?_eq_some_iff.1 hi).2; simp at this; omega
          subst this
          obtain ⟨_, cs', k1, k2⟩ := hf _ hil
          have kc := k2 σ L
          have hlt : q % sz < cs'.length := by rw [kc.len]; exact (List.getElem?_eq_some_iff.1 g2).1
          have hu := List.getElem?_eq_getElem hlt
          refine ⟨cs'[q % sz], ?_, kc.one _ (List.getElem_mem _), kc.rel _ _ _ hu g2⟩
          have := k1 _ _ hu
          have e1 : q / sz * sz + q % sz = q := Nat.div_add_mod' q sz
          rw [e1] at this
          have e2 : (⟨b, o, none⟩ : Addr).add q = ⟨b, o + q, none⟩ := by unfold Addr.add; split <;> simp_all
          rw [e2] at this
          exact this
        have := VR.sl (w := w) (M := NoM) (σ := σ) (L := L) b o sz cap (List.map en ((List.range len).map f)) (by rw [hlen]; exact hl) (fun e he => by obtain ⟨y, _, rfl⟩ := List.mem_map.1 he; exact hsz y)
          (fun q => (w.cell? ⟨b, o + q, none⟩).getD (.bool false)) (fun q p hq => by obtain ⟨v, k1, k2, k3⟩ := key q p hq; rw [k1]; exact ⟨rfl, fun h => h, k2⟩) (fun q p hq => by obtain ⟨v, k1, k2, k3⟩ := key q p hq; rw [k1]; exact k3)
        rw [hlen] at this
        exact this
/-- A struct's fields from an offset on. -/
def OpensRs {α : Type} (P : Program) (fs : List Field) (off sz : Nat) (en : α → List PV) (wf : α → Prop) : Prop :=
  ∀ (H : Type) (enc : TypeId × Value → H) (w : World) (base : Nat) (spare : Nat → Bool) (held : Bool) (n : Nat) (cs : List Value), cs.length = off + sz →
    (∀ f ∈ fs, ∃ x : DataW H × List MemPlace, DataW.trod enc P w base spare held n f.type ((cs.drop f.offset).take (P.cellsOf f.type)) = some x) →
    ∃ y, wf y ∧ ∀ σ L, CR w NoM σ L (cs.drop off) (en y)
theorem q4q {α : Type} {f : Field} {off sz : Nat} {en : α → List PV} {wf : α → Prop} (ho : f.offset = off) (hs : P.cellsOf f.type = sz) (h : q4j P f.type en wf) : OpensRs P [f] off sz en wf := by
  intro H enc w base spare held n cs hl hf
  obtain ⟨x, hx⟩ := hf f (by simp)
  obtain ⟨y, hw, hk⟩ := h H enc w base spare held n _ x hx
  refine ⟨y, hw, fun σ L => ?_⟩
  have := hk σ L
  rw [ho, hs, List.take_of_length_le (by simp; omega)] at this
  exact this
theorem q1e {α β : Type} {f : Field} {fs : List Field} {off s sz : Nat} {en : α → List PV} {en' : β → List PV} {wf : α → Prop} {wf' : β → Prop} (ho : f.offset = off) (hs : P.cellsOf f.type = s) (h : q4j P f.type en wf) (h' : OpensRs P fs (off + s) sz en' wf') :
    OpensRs P (f :: fs) off (s + sz) (fun y : α × β => en y.1 ++ en' y.2) (fun y => wf y.1 ∧ wf' y.2) := by
  intro H enc w base spare held n cs hl hf
  obtain ⟨x, hx⟩ := hf f (by simp)
  obtain ⟨y, hw, hk⟩ := h H enc w base spare held n _ x hx
  obtain ⟨y', hw', hk'⟩ := h' H enc w base spare held n cs (by omega) (fun g hg => hf g (by simp [hg]))
  refine ⟨(y, y'), ⟨hw, hw'⟩, fun σ L => ?_⟩
  have h1 := hk σ L
  rw [ho, hs] at h1
  have h2 := cr_app h1 (hk' σ L)
  rwa [← List.drop_drop, List.take_append_drop] at h2
theorem q3q {α : Type} {fs : Array Field} {sz : Nat} {en : α → List PV} {wf : α → Prop} (ht : P.underlying t = some (.struct fs)) (hs : P.cellsOf t = sz) (h : OpensRs P fs.toList 0 sz en wf) : q4j P t en wf := by
  intro H enc w base spare held fuel cs x hx
  obtain ⟨xs, n, _, _, hl, hlen, hf⟩ := DataW.trod_struct ht hx
  obtain ⟨y, hw, hk⟩ := h H enc w base spare held n cs (by omega) (fun f hf' => by
    obtain ⟨i, hi⟩ := List.getElem?_of_mem hf'
    rw [Array.getElem?_toList] at hi
    have hil : i < xs.length := by rw [hlen]; exact (Array.getElem?_eq_some_iff.1 hi).1
    exact ⟨xs[i], by rw [hf i f hi]; exact List.getElem?_eq_getElem hil⟩)
  exact ⟨y, hw, fun σ L => by have := hk σ L; rwa [List.drop_zero] at this⟩
theorem q8o {α : Type} [Inhabited α] {n : Nat} {en : α → List PV} {wf : α → Prop} (ht : P.underlying t = some (.array n e)) (hc : P.cellsOf t = n) (h1 : P.cellsOf e = 1) (h : q4j P e en wf) : q4j P t (fun f : Nat → α => arr n (fun i => en (f i))) (fun f => ∀ i, i < n → wf (f i)) := by
  intro H enc w base spare held fuel cs x hx
  obtain ⟨xs, m, _, _, hl, hlen, hf⟩ := DataW.trod_array ht hx
  rw [hc] at hl
  have each : ∀ i, i < n → ∃ y, wf y ∧ ∀ σ L, CR w NoM σ L ((cs.drop i).take 1) (en y) := by
    intro i hi
    have hil : i < xs.length := by omega
    have := hf i hi
    rw [List.getElem?_eq_getElem hil, h1, Nat.mul_one] at this
    exact h H enc w base spare held m _ _ this
  obtain ⟨f, hf'⟩ := Go.Deep.choose_lt each
  refine ⟨f, fun i hi => (hf' i hi).1, fun σ L => ?_⟩
  have key : ∀ k, k ≤ n → CR w NoM σ L (cs.take k) (arr k (fun i => en (f i))) := by
    intro k
    induction k with
    | zero => intro _; exact cr_nil
    | succ k ih =>
      intro hk
      have h2 := cr_app (ih (by omega)) ((hf' k (by omega)).2 σ L)
      have e1 : arr (k + 1) (fun i => en (f i)) = arr k (fun i => en (f i)) ++ en (f k) := by simp [arr, List.range_succ]
      have e2 : cs.take (k + 1) = cs.take k ++ (cs.drop k).take 1 := by rw [List.take_add]
      rw [e1, e2]; exact h2
  have := key n (Nat.le_refl _)
  rwa [List.take_of_length_le (by omega)] at this
theorem vr_aggc {w : World} {M σ L} {cs : Array Value} {l : List PV} (h : CR w M σ L (Value.agg cs).cells.toList l) : VR w M σ L (.agg cs) (.agg l) := by
  have := VR.agg (w := w) (M := M) (σ := σ) (L := L) cs.toList l h.len h.one h.rel
  simpa using this
/-- An argument that a row hands over. -/
theorem openedR_struct {fs : Array Field} {α : Type} {en : α → List PV} {wf : α → Prop} {H : Type} {enc : TypeId × Value → H} {w : World} {spare : Nat → Bool} {held : Bool} {r : Reach} {b0 : Nat} {v : Value} {dt : DataW H} {p : List MemPlace}
    (ht : P.underlying t = some (.struct fs)) (h : q4j P t en wf) (hv : Value.okWide P w r b0 t v) (hd : DataW.Trod enc P w 0 spare held t v dt p) : ∃ y : α, wf y ∧ ∀ σ L, VR w NoM σ L v (.agg (en y)) := by
  obtain ⟨cs, rfl, hsz⟩ := okWide_struct ht hv
  obtain ⟨fuel, hf⟩ := hd
  obtain ⟨y, hw, hk⟩ := h H enc w 0 spare held fuel _ _ hf
  exact ⟨y, hw, fun σ L => vr_aggc (hk σ L)⟩
theorem vl_nil {w : World} {M σ L} : VL w M σ L [] [] := ⟨rfl, fun i v p hv => by simp at hv⟩
theorem vl_cons {w : World} {M σ L} {v : Value} {p : PV} {vs : List Value} {ps : List PV} (h : VR w M σ L v p) (k : VL w M σ L vs ps) : VL w M σ L (v :: vs) (p :: ps) := by
  refine ⟨by simp [k.1], fun i u q hu hq => ?_⟩
  cases i with
  | zero => simp at hu hq; subst hu; subst hq; exact h
  | succ i => exact k.2 i u q (by simpa using hu) (by simpa using hq)
end
end Go.Proofs.YtoibbedpaaeclaaGreat
end

section
namespace Go.Proofs.YtoibbedpaaeclaaGreat
open Go Go.RowKit
set_option linter.unusedVariables false
set_option linter.unusedSimpArgs false
def U (n : Int) : Prop := IntKind.u64.min ≤ n ∧ n ≤ IntKind.u64.max
def I (n : Int) : Prop := IntKind.i64.min ≤ n ∧ n ≤ IntKind.i64.max
theorem U.of {n : Int} (h : (Lit.int .u64 n).wf = true) : U n := by simp only [Lit.wf, Bool.and_eq_true, decide_eq_true_eq] at h; exact h
def Pr.wf (x : Pr) : Prop := (U x.cat) ∧ (I x.lev)
theorem Pr.opens : q4j Tryz.prog 76 Pr.enc Pr.wf := q3y (q4r (f := fun x : Pr => (x.cat, x.lev)) (fun y => ⟨y.1, y.2⟩) (fun _ => rfl) (q3q Tryz.underlying76 (by kernel_rfl) (q1e (s := 1) rfl (by kernel_rfl) (q1v (k := .u64) Tryz.underlying22) (q4q (sz := 1) rfl (by kernel_rfl) (q1v (k := .i64) Tryz.underlying3))))) (fun y => by kernel_rfl) (fun y h => h)
def Mp.wf (x : Mp) : Prop := (I x.va) ∧ (I x.n) ∧ (U x.cont) ∧ (U x.seg) ∧ (I x.off) ∧ True
theorem Mp.opens : q4j Tryz.prog 186 Mp.enc Mp.wf := q3y (q4r (f := fun x : Mp => (x.va, x.n, x.cont, x.seg, x.off, x.write)) (fun y => ⟨y.1, y.2.1, y.2.2.1, y.2.2.2.1, y.2.2.2.2.1, y.2.2.2.2.2⟩) (fun _ => rfl) (q3q Tryz.underlying186 (by kernel_rfl) (q1e (s := 1) rfl (by kernel_rfl) (q1v (k := .i64) Tryz.underlying3) (q1e (s := 1) rfl (by kernel_rfl) (q1v (k := .i64) Tryz.underlying3) (q1e (s := 1) rfl (by kernel_rfl) (q1v (k := .u64) Tryz.underlying22) (q1e (s := 1) rfl (by kernel_rfl) (q1v (k := .u64) Tryz.underlying22) (q1e (s := 1) rfl (by kernel_rfl) (q1v (k := .i64) Tryz.underlying3) (q4q (sz := 1) rfl (by kernel_rfl) (x0g Tryz.underlying4))))))))) (fun y => by kernel_rfl) (fun y h => h)
def Rf.wf (x : Rf) : Prop := (U x.cont) ∧ (U x.id)
theorem Rf.opens : q4j Tryz.prog 60 Rf.enc Rf.wf := q3y (q4r (f := fun x : Rf => (x.cont, x.id)) (fun y => ⟨y.1, y.2⟩) (fun _ => rfl) (q3q Tryz.underlying60 (by kernel_rfl) (q1e (s := 1) rfl (by kernel_rfl) (q1v (k := .u64) Tryz.underlying22) (q4q (sz := 1) rfl (by kernel_rfl) (q1v (k := .u64) Tryz.underlying22))))) (fun y => by kernel_rfl) (fun y h => h)
def Wt.wf (x : Wt) : Prop := (Rf.wf x.ref) ∧ (U x.index) ∧ (U x.val) ∧ True
theorem Wt.opens : q4j Tryz.prog 62 Wt.enc Wt.wf := q3y (q4r (f := fun x : Wt => (x.ref, x.index, x.val, x.dev)) (fun y => ⟨y.1, y.2.1, y.2.2.1, y.2.2.2⟩) (fun _ => rfl) (q3q Tryz.underlying62 (by kernel_rfl) (q1e (s := 2) rfl (by kernel_rfl) Rf.opens (q1e (s := 1) rfl (by kernel_rfl) (q1v (k := .u64) Tryz.underlying22) (q1e (s := 1) rfl (by kernel_rfl) (q1v (k := .u64) Tryz.underlying22) (q4q (sz := 1) rfl (by kernel_rfl) (x0g Tryz.underlying4))))))) (fun y => by kernel_rfl) (fun y h => h)
def Sp.wf (x : Sp) : Prop := (U x.lo) ∧ (U x.hi)
theorem Sp.opens : q4j Tryz.prog 64 Sp.enc Sp.wf := q3y (q4r (f := fun x : Sp => (x.lo, x.hi)) (fun y => ⟨y.1, y.2⟩) (fun _ => rfl) (q3q Tryz.underlying64 (by kernel_rfl) (q1e (s := 1) rfl (by kernel_rfl) (q1v (k := .u64) Tryz.underlying22) (q4q (sz := 1) rfl (by kernel_rfl) (q1v (k := .u64) Tryz.underlying22))))) (fun y => by kernel_rfl) (fun y h => h)
def Th.wf (x : Th) : Prop := (∀ i, i < 16 → (U (x.regs i))) ∧ (U x.pc) ∧ ((∀ y ∈ x.clear, Pr.wf y) ∧ x.clear.length ≤ maxLen) ∧ (Rf.wf x.space) ∧ (U x.handler) ∧ (U x.vector) ∧ (I x.state) ∧ (Wt.wf x.wait) ∧ ((∀ y ∈ x.alerts, U y) ∧ x.alerts.length ≤ maxLen) ∧ (Sp.wf x.span) ∧ (∀ i, i < 4 → ((∀ y ∈ (x.labs i), Pr.wf y) ∧ (x.labs i).length ≤ maxLen))
theorem Th.opens : q4j Tryz.prog 67 Th.enc Th.wf := q3y (q4r (f := fun x : Th => (x.regs, x.pc, x.clear, x.space, x.handler, x.vector, x.state, x.wait, x.alerts, x.span, x.labs)) (fun y => ⟨y.1, y.2.1, y.2.2.1, y.2.2.2.1, y.2.2.2.2.1, y.2.2.2.2.2.1, y.2.2.2.2.2.2.1, y.2.2.2.2.2.2.2.1, y.2.2.2.2.2.2.2.2.1, y.2.2.2.2.2.2.2.2.2.1, y.2.2.2.2.2.2.2.2.2.2⟩) (fun _ => rfl) (q3q Tryz.underlying67 (by kernel_rfl) (q1e (s := 16) rfl (by kernel_rfl) (q8o (n := 16) Tryz.underlying58 (by kernel_rfl) (by kernel_rfl) (q1v (k := .u64) Tryz.underlying22)) (q1e (s := 1) rfl (by kernel_rfl) (q1v (k := .u64) Tryz.underlying22) (q1e (s := 1) rfl (by kernel_rfl) (q3g (sz := 2) Tryz.underlying26 Pr.len (by kernel_rfl) (by decide) Pr.opens) (q1e (s := 2) rfl (by kernel_rfl) Rf.opens (q1e (s := 1) rfl (by kernel_rfl) (q1v (k := .u64) Tryz.underlying22) (q1e (s := 1) rfl (by kernel_rfl) (q1v (k := .u64) Tryz.underlying22) (q1e (s := 1) rfl (by kernel_rfl) (q1v (k := .i64) Tryz.underlying3) (q1e (s := 5) rfl (by kernel_rfl) Wt.opens (q1e (s := 1) rfl (by kernel_rfl) (q3g (sz := 1) Tryz.underlying23 u64_len (by kernel_rfl) (by decide) (q1v (k := .u64) Tryz.underlying22)) (q1e (s := 2) rfl (by kernel_rfl) Sp.opens (q4q (sz := 4) rfl (by kernel_rfl) (q8o (n := 4) Tryz.underlying65 (by kernel_rfl) (by kernel_rfl) (q3g (sz := 2) Tryz.underlying26 Pr.len (by kernel_rfl) (by decide) Pr.opens))))))))))))))) (fun y => by kernel_rfl) (fun y h => h)
def Gt.wf (x : Gt) : Prop := ((∀ y ∈ x.grant, Pr.wf y) ∧ x.grant.length ≤ maxLen) ∧ ((∀ y ∈ x.clear, Pr.wf y) ∧ x.clear.length ≤ maxLen) ∧ (Rf.wf x.space) ∧ (U x.pc) ∧ (U x.arg)
theorem Gt.opens : q4j Tryz.prog 69 Gt.enc Gt.wf := q3y (q4r (f := fun x : Gt => (x.grant, x.clear, x.space, x.pc, x.arg)) (fun y => ⟨y.1, y.2.1, y.2.2.1, y.2.2.2.1, y.2.2.2.2⟩) (fun _ => rfl) (q3q Tryz.underlying69 (by kernel_rfl) (q1e (s := 1) rfl (by kernel_rfl) (q3g (sz := 2) Tryz.underlying26 Pr.len (by kernel_rfl) (by decide) Pr.opens) (q1e (s := 1) rfl (by kernel_rfl) (q3g (sz := 2) Tryz.underlying26 Pr.len (by kernel_rfl) (by decide) Pr.opens) (q1e (s := 2) rfl (by kernel_rfl) Rf.opens (q1e (s := 1) rfl (by kernel_rfl) (q1v (k := .u64) Tryz.underlying22) (q4q (sz := 1) rfl (by kernel_rfl) (q1v (k := .u64) Tryz.underlying22)))))))) (fun y => by kernel_rfl) (fun y h => h)
def Ob.wf (x : Ob) : Prop := (U x.id) ∧ (I x.kind) ∧ ((∀ y ∈ x.label, Pr.wf y) ∧ x.label.length ≤ maxLen) ∧ (I x.quota) ∧ True ∧ ((∀ y ∈ x.links, U y) ∧ x.links.length ≤ maxLen) ∧ ((∀ y ∈ x.data, U y) ∧ x.data.length ≤ maxLen) ∧ ((∀ y ∈ x.maps, Mp.wf y) ∧ x.maps.length ≤ maxLen) ∧ (Th.wf x.thread) ∧ (Gt.wf x.gate) ∧ ((∀ y ∈ x.inn, U y) ∧ x.inn.length ≤ maxLen) ∧ ((∀ y ∈ x.out, U y) ∧ x.out.length ≤ maxLen)
theorem Ob.opens : q4j Tryz.prog 71 Ob.enc Ob.wf := q3y (q4r (f := fun x : Ob => (x.id, x.kind, x.label, x.quota, x.fixed, x.links, x.data, x.maps, x.thread, x.gate, x.inn, x.out)) (fun y => ⟨y.1, y.2.1, y.2.2.1, y.2.2.2.1, y.2.2.2.2.1, y.2.2.2.2.2.1, y.2.2.2.2.2.2.1, y.2.2.2.2.2.2.2.1, y.2.2.2.2.2.2.2.2.1, y.2.2.2.2.2.2.2.2.2.1, y.2.2.2.2.2.2.2.2.2.2.1, y.2.2.2.2.2.2.2.2.2.2.2⟩) (fun _ => rfl) (q3q Tryz.underlying71 (by kernel_rfl) (q1e (s := 1) rfl (by kernel_rfl) (q1v (k := .u64) Tryz.underlying22) (q1e (s := 1) rfl (by kernel_rfl) (q1v (k := .i64) Tryz.underlying3) (q1e (s := 1) rfl (by kernel_rfl) (q3g (sz := 2) Tryz.underlying26 Pr.len (by kernel_rfl) (by decide) Pr.opens) (q1e (s := 1) rfl (by kernel_rfl) (q1v (k := .i64) Tryz.underlying3) (q1e (s := 1) rfl (by kernel_rfl) (x0g Tryz.underlying4) (q1e (s := 1) rfl (by kernel_rfl) (q3g (sz := 1) Tryz.underlying23 u64_len (by kernel_rfl) (by decide) (q1v (k := .u64) Tryz.underlying22)) (q1e (s := 1) rfl (by kernel_rfl) (q3g (sz := 1) Tryz.underlying23 u64_len (by kernel_rfl) (by decide) (q1v (k := .u64) Tryz.underlying22)) (q1e (s := 1) rfl (by kernel_rfl) (q3g (sz := 6) Tryz.underlying57 Mp.len (by kernel_rfl) (by decide) Mp.opens) (q1e (s := 35) rfl (by kernel_rfl) Th.opens (q1e (s := 6) rfl (by kernel_rfl) Gt.opens (q1e (s := 1) rfl (by kernel_rfl) (q3g (sz := 1) Tryz.underlying23 u64_len (by kernel_rfl) (by decide) (q1v (k := .u64) Tryz.underlying22)) (q4q (sz := 1) rfl (by kernel_rfl) (q3g (sz := 1) Tryz.underlying23 u64_len (by kernel_rfl) (by decide) (q1v (k := .u64) Tryz.underlying22)))))))))))))))) (fun y => by kernel_rfl) (fun y h => h)
def Wd.wf (x : Wd) : Prop := (I x.time) ∧ (U x.key) ∧ (U x.root) ∧ ((∀ y ∈ x.objects, Ob.wf y) ∧ x.objects.length ≤ maxLen)
theorem Wd.opens : q4j Tryz.prog 33 Wd.enc Wd.wf := q3y (q4r (f := fun x : Wd => (x.time, x.key, x.root, x.objects)) (fun y => ⟨y.1, y.2.1, y.2.2.1, y.2.2.2⟩) (fun _ => rfl) (q3q Tryz.underlying33 (by kernel_rfl) (q1e (s := 1) rfl (by kernel_rfl) (q1v (k := .i64) Tryz.underlying3) (q1e (s := 1) rfl (by kernel_rfl) (q1v (k := .u64) Tryz.underlying22) (q1e (s := 1) rfl (by kernel_rfl) (q1v (k := .u64) Tryz.underlying22) (q4q (sz := 1) rfl (by kernel_rfl) (q3g (sz := 51) Tryz.underlying31 Ob.len (by kernel_rfl) (by decide) Ob.opens))))))) (fun y => by kernel_rfl) (fun y h => h)
end Go.Proofs.YtoibbedpaaeclaaGreat
end

section
namespace Go.Proofs.YtoibbedpaaeclaaGreat
open Go Go.RowKit
set_option linter.unusedVariables false
set_option linter.unusedSimpArgs false
theorem q2a (k : Nat) (h : k < 9223372036854775807) : IntKind.i64.wrap ((k : Int) + 1) = ((k + 1 : Nat) : Int) := by
  rw [IntKind.wrap_i64]; omega
theorem x0n (k : Nat) (h : k < 9223372036854775807) : IntKind.i64.wrap (((k + 1 : Nat) : Int) - 1) = (k : Int) := by
  rw [IntKind.wrap_i64]; omega
theorem gt_prev (k : Nat) : decide (((k + 1 : Nat) : Int) > 0) = true := decide_eq_true (by omega)
@[go_sem] theorem gt_zero : decide (((0 : Nat) : Int) > 0) = false := rfl
@[go_sem] theorem wrap_lit {n : Int} (h1 : -9223372036854775808 ≤ n) (h2 : n ≤ 9223372036854775807) : IntKind.i64.wrap n = n := by rw [IntKind.wrap_i64]; omega
theorem q2b {α : Type} {l : List α} {k : Nat} (h : k < l.length) : ∃ x, l[k]? = some x := ⟨l[k], by simp [h]⟩
theorem q3w {α : Type} {l : List α} {k : Nat} {x : α} (h : l[k]? = some x) : k < l.length := (List.getElem?_eq_some_iff.1 h).1
theorem q2h {k n : Nat} (h : k < n) : decide ((k : Int) < (n : Int)) = true := decide_eq_true (by omega)
theorem q1q {k n : Nat} (h : n ≤ k) : decide ((k : Int) < (n : Int)) = false := decide_eq_false (by omega)
theorem q4h {α : Type} {l : List α} {k : Nat} {x : α} (h : l[k]? = some x) : l.take (k + 1) = l.take k ++ [x] := by
  rw [List.take_add_one, h]; rfl
theorem c0 : ((0 : Nat) : Int) = 0 := rfl
theorem c1 : ((1 : Nat) : Int) = 1 := rfl
theorem c2 : ((2 : Nat) : Int) = 2 := rfl
theorem c3 : ((3 : Nat) : Int) = 3 := rfl
@[go_sem] theorem c16 : ((16 : Nat) : Int) = 16 := rfl
@[go_sem] theorem c4 : ((4 : Nat) : Int) = 4 := rfl
@[go_sem] theorem cut_drop {P : Program} {t : TypeId} {l : List PV} {o : Nat} (h : o ≤ l.length) : cut P t (l.drop o) 0 = cut P t l o := by
  unfold cut
  cases aggT P t with
  | none => rfl
  | some b =>
    cases b with
    | true =>
      simp only [List.length_drop, Nat.zero_add, List.drop_zero]
      by_cases h1 : o + P.cellsOf t ≤ l.length
      · rw [if_pos h1, if_pos (by omega)]
      · rw [if_neg h1, if_neg (by omega)]
    | false => simp
attribute [go_sem] List.drop_zero List.drop_drop
def allB (n : Nat) (f : Nat → Bool) : Bool := (List.range n).all f
theorem q2m {n : Nat} {f : Nat → Bool} (h : ∀ j, j < n → f j = true) : allB n f = true := by simp only [allB, List.all_eq_true, List.mem_range]; exact h
theorem q2o {n k : Nat} {f : Nat → Bool} (hk : k < n) (h : f k = false) : allB n f = false := by
  rw [Bool.eq_false_iff]
  intro e
  simp only [allB, List.all_eq_true, List.mem_range] at e
  rw [e k hk] at h; cases h
theorem allB_iff {n : Nat} {f : Nat → Bool} : allB n f = true ↔ ∀ j, j < n → f j = true := by simp only [allB, List.all_eq_true, List.mem_range]
theorem q5d {n : Nat} {f : Nat → Bool} (h : ∀ j, j < n → f j = true) (k : f n = true) : ∀ j, j < n + 1 → f j = true := by
  intro j hj
  rcases Nat.lt_or_ge j n with h1 | h1
  · exact h j h1
  · have : j = n := by omega
    subst this; exact k
theorem q1u {a b : Bool} (h : a = b) : Out.ret (.bool a) = Out.ret (.bool b) := by rw [h]
theorem again {S : Type} {m0 : Nat} {μ : S → Nat} {Inv : S → Prop} {E : S → List (Nat × PV)} {G : S → List (Nat × HE)} {mm : S → Nat} {s : S} {env : Env} {H : Heap} {m : Nat} (s' : S) (h2 : Inv s') (h1 : μ s' < μ s) (h3 : Keep m0 env H m (E s') (G s') (mm s')) : q3i m0 μ Inv E G mm s env H m := ⟨s', h1, h2, h3⟩
def accV {α : Type} (id : Nat) : List α → PV
  | [] => .nilsl
  | a :: l => .gr id (l.length + 1)
def accG {α : Type} (id e sz : Nat) (f : α → List PV) : List α → List (Nat × HE)
  | [] => []
  | a :: l => [(id, .row e sz (List.map f (a :: l)))]
def accM {α : Type} (b id : Nat) : List α → Nat
  | [] => b
  | a :: l => id + 1
theorem q3a {α : Type} (id : Nat) : accV id ([] : List α) = .nilsl := rfl
theorem q3c {α : Type} (id e sz : Nat) (f : α → List PV) : accG id e sz f [] = [] := rfl
theorem q3b {α : Type} (b id : Nat) : accM b id ([] : List α) = b := rfl
theorem q3t {α : Type} {id : Nat} {l : List α} (h : l ≠ []) : accV id l = .gr id l.length := by cases l with
  | nil => exact absurd rfl h
  | cons a l => rfl
theorem q3v {α : Type} {id e sz : Nat} {f : α → List PV} {l : List α} (h : l ≠ []) : accG id e sz f l = [(id, .row e sz (List.map f l))] := by cases l with
  | nil => exact absurd rfl h
  | cons a l => rfl
theorem q3u {α : Type} {b id : Nat} {l : List α} (h : l ≠ []) : accM b id l = id + 1 := by cases l with
  | nil => exact absurd rfl h
  | cons a l => rfl
theorem snoc_ne {α : Type} (l : List α) (x : α) : l ++ [x] ≠ [] := by simp
theorem q3n {α : Type} (id : Nat) (l : List α) (x : α) : accV id (l ++ [x]) = .gr id (l.length + 1) := by rw [q3t (snoc_ne l x)]; simp
theorem q3p {α : Type} (id e sz : Nat) (f : α → List PV) (l : List α) (x : α) : accG id e sz f (l ++ [x]) = [(id, .row e sz (List.map f (l ++ [x])))] := q3v (snoc_ne l x)
theorem q3o {α : Type} (b id : Nat) (l : List α) (x : α) : accM b id (l ++ [x]) = id + 1 := q3u (snoc_ne l x)
@[go_sem] theorem one_max : (1 ≤ maxLen) = True := by simp [maxLen]
theorem q6o {k : Nat} (h : k < 1000000) : (k + 1 ≤ maxLen) = True := by simp [maxLen]; omega
theorem q8d {k b : Nat} (h : k < 1000000) (hb : b ≤ 1000) : ((k + 1) * b ≤ 140737488355328) = True := by
  rw [eq_iff_iff, iff_true]
  exact Nat.le_trans (Nat.mul_le_mul (by omega : k + 1 ≤ 1000000) hb) (by decide)
theorem q5g {α : Type} (l : List α) : l = [] ∨ l ≠ [] := by cases l <;> simp
end Go.Proofs.YtoibbedpaaeclaaGreat
end

section
namespace Go.Proofs.YtoibbedpaaeclaaGreat
open Go Go.RowKit
set_option linter.unusedVariables false
set_option linter.unusedSimpArgs false
set_option maxHeartbeats 4000000
set_option maxRecDepth 100000
attribute [local irreducible] q0i dr q0d Ex.then Ex.inBlock retQ q1n q2d q2c Pure CSat evOp q1i rdOf upd hset strip sp0 cut envL q1g q3i Keep BdL evBs q2n q2s
def q5y (n : Int) : Bool := decide (n ≥ 0) && decide (n ≤ 5)
def q6r (n : Int) : Int := if q5y n = true then n else 2
def levLeq (a b : Int) : Bool := decide (q6r a ≤ q6r b)
theorem level_fit (n : Int) : Pure Tryz.prog 278 [.int .i64 n] (.bool (q5y n)) := by
  refine q2p (by kernel_rfl) (by simp only [go_sem, *]) (by simp only [go_sem, *]) Tryz.func278 Tryz.results278 rfl (by simp [Tryz.ntmps278]) (by kernel_rfl) ?_
  repeat' (first | (show q0i ..; first | refine q0c ?_ | refine q0e rfl ?_ | refine q1a rfl rfl ?_) | (show q0k ..; refine q0f rfl rfl ?_) | (show goOn ..; refine q0g ?_) | (show wGo ..; first | refine q3h ?_ | refine q3r ?_ | refine q9r (fun _ => ?_) (fun _ => ?_)) | (show q0d ..; first | refine q0h ?_ | refine q0b ?_ | refine q0t ?_) | refine q0a ?_ | (show retQ ..; refine q0u ?_) | refine q0n ?_)
  all_goals (refine q1u ?_; simp_all [q5y] <;> omega)
theorem r01_fit (n : Int) : Pure Tryz.prog 58 [.int .i64 n] (.bool (q5y n)) := by
  refine q2p (by kernel_rfl) (by simp only [go_sem, *]) (by simp only [go_sem, *]) Tryz.func58 Tryz.results58 rfl (by simp [Tryz.ntmps58]) (by kernel_rfl) ?_
  repeat' (first | (show q0i ..; first | refine q0c ?_ | refine q0e rfl ?_ | refine q1a rfl rfl ?_) | (show q0k ..; refine q0f rfl rfl ?_) | (show goOn ..; refine q0g ?_) | (show wGo ..; first | refine q3h ?_ | refine q3r ?_ | refine q9r (fun _ => ?_) (fun _ => ?_)) | (show q0d ..; first | refine q0h ?_ | refine q0b ?_ | refine q0t ?_) | refine q0a ?_ | (show retQ ..; refine q0u ?_) | refine q0n ?_)
  all_goals (refine q1u ?_; simp_all [q5y] <;> omega)
theorem r01_of (n : Int) : Pure Tryz.prog 119 [.int .i64 n] (.int .i64 (q6r n)) := by
  refine q2p (by kernel_rfl) (by simp only [go_sem, *]) (by simp only [go_sem, *]) Tryz.func119 Tryz.results119 rfl (by simp [Tryz.ntmps119]) (by kernel_rfl) ?_
  repeat' (first | (show q0i ..; first | refine q0c ?_ | refine q0e rfl ?_ | refine q1a rfl rfl ?_) | (show q0k ..; refine q0f rfl rfl ?_) | (show goOn ..; refine q0g ?_) | (show wGo ..; first | refine q4b ?_ | refine q4y ?_ | refine gw_fb (fun _ => ?_) (fun _ => ?_)) | (show q0d ..; first | refine q0h ?_ | refine q0b ?_ | refine q0t ?_ | refine q0s ?_ | refine q0j ?_) | (show q0o ..; first | refine cd_t ?_ | refine cd_b (fun _ => ?_) (fun _ => ?_)) | refine q0a ?_ | refine q2j ?_ | (show retQ ..; refine q0u ?_) | refine q0n ?_)
  all_goals (simp_all [q6r, q5y] <;> omega)
theorem r01_leq (a b : Int) : Pure Tryz.prog 59 [.int .i64 a, .int .i64 b] (.bool (levLeq a b)) := by
  refine q2p (by kernel_rfl) (by simp only [go_sem, *]) (by simp only [go_sem, *]) Tryz.func59 Tryz.results59 rfl (by simp [Tryz.ntmps59]) (by kernel_rfl) ?_
  repeat' (first | (show q0i ..; first | refine q0c ?_ | refine q0e rfl ?_) | (show q0k ..; first | refine q0f rfl rfl ?_ | refine q0l rfl ?_) | (show goOn ..; refine q0g ?_) | (show q1k ..; (refine q0r (r := ?_) ?_ ?_; rotate_left 1; (focus exact r01_of _))) | (show q0d ..; first | refine q0h ?_ | refine q0b ?_ | refine q0t ?_) | refine q0a ?_ | (show retQ ..; refine q0u ?_) | refine q0n ?_)
  all_goals rfl
def q6a (l : List Pr) (k : Nat) : Bool := match l[k]? with
  | none => true
  | some x => q5y x.lev && !(x.lev == 2) && (match k with
    | 0 => true
    | j + 1 => match l[j]? with
      | some y => !decide (y.cat ≥ x.cat)
      | none => true)
def q2x (l : List Pr) : Bool := allB l.length (q6a l)
end Go.Proofs.YtoibbedpaaeclaaGreat
end

section
namespace Go.Proofs.YtoibbedpaaeclaaGreat
open Go Go.RowKit
set_option linter.unusedVariables false
set_option linter.unusedSimpArgs false
set_option maxHeartbeats 4000000
set_option maxRecDepth 100000
attribute [local irreducible] q0i dr q0d Ex.then Ex.inBlock retQ q1n q2d q2c Pure CSat evOp q1i rdOf upd hset strip sp0 cut envL q1g q3i Keep BdL evBs q2n q2s
theorem eq_no {α : Type} [DecidableEq α] {l k : List α} {n : Nat} {x y : α} (hx : l[n]? = some x) (hy : k[n]? = some y) (h : x ≠ y) : decide (l = k) = false := decide_eq_false fun e => by
  subst e; rw [hx] at hy; exact h (Option.some.inj hy)
theorem eq_yes {α : Type} [DecidableEq α] {l k : List α} {n : Nat} (hl : l.length = k.length) (hn : l.length ≤ n) (h : l.take n = k.take n) : decide (l = k) = true := by
  rw [List.take_of_length_le hn, List.take_of_length_le (by omega)] at h
  exact decide_eq_true h
theorem eq_len {α : Type} [DecidableEq α] {l k : List α} (hl : ¬ l.length = k.length) : decide (l = k) = false := decide_eq_false fun e => hl (by rw [e])
theorem eq_step {α : Type} {l k : List α} {n : Nat} {x : α} (hx : l[n]? = some x) (hy : k[n]? = some x) (h : l.take n = k.take n) : l.take (n + 1) = k.take (n + 1) := by rw [q4h hx, q4h hy, h]
theorem q7t (l k : List Pr) (hl : l.length ≤ 9223372036854775807) : Pure Tryz.prog 43 [.sl (l.map Pr.enc), .sl (k.map Pr.enc)] (.bool (decide (l = k))) := by
  refine q2p (by kernel_rfl) (by simp only [go_sem, *]) (by simp only [go_sem, *]) Tryz.func43 Tryz.results43 rfl (by simp [Tryz.ntmps43]) (by kernel_rfl) ?_
  by_cases hlen : l.length = k.length
  · repeat' (first | (show q0i ..; first | refine q0c ?_ | refine q0e rfl ?_) | (show q0k ..; refine q0f rfl rfl ?_) | (show goOn ..; refine q0g ?_) | (show q0d ..; first | refine q0h ?_ | refine q0b ?_ | refine q0s ?_ | refine q0m ?_ | refine q0j ?_) | (show q0o ..; refine cd_f ?_) | refine q0a ?_)
    refine q2l (S := Nat) (fun n => l.length - n) (fun n => n ≤ l.length ∧ l.take n = k.take n) (fun n => [(0, .sl (l.map Pr.enc)), (1, .sl (k.map Pr.enc)), (5, .int .i64 n)]) (fun _ => []) (fun _ => 0) 0 ⟨Nat.zero_le _, rfl⟩ (by (refine q1l ?_ ?_ <;> repeat' (first | exact q0v | exact q0y | refine q0p (by (try simp only [go_sem, *]); try rfl) (by simp only [go_sem, *]) ?_ | refine q0z (by (try simp only [go_sem, *]); try rfl) (by omega) (by simp only [go_sem, *]) ?_ | refine q0x (by (try simp only [go_sem, *]); try rfl) (by omega) (by simp only [go_sem, *]) ?_))) ?_
    rintro n ⟨hn, hs⟩
    rcases Nat.lt_or_ge n l.length with hlt | hge
    · obtain ⟨x, hx⟩ := q2b hlt
      obtain ⟨y, hy⟩ := q2b (hlen ▸ hlt : n < k.length)
      have h0 := q2h (hlen ▸ hlt : n < k.length)
      have h4 := q2a n (by omega)
      by_cases hxy : x = y
      · subst hxy
        repeat' (first | (show q0i ..; first | refine q0c ?_ | refine q0e rfl ?_) | (show q0k ..; refine q0f rfl rfl ?_) | (show goOn ..; refine q0g ?_) | (show dr ..; first | refine q1y ?_ | refine dr_n rfl ?_) | (show drGo ..; refine q2t rfl ?_) | (show drOn ..; refine q1z ?_) | (refine And.intro (by kernel_rfl : q1n _ = true) ?_) | (show q0d ..; first | refine q0h ?_ | refine q0b ?_ | refine q1o (by kernel_rfl) ?_ | refine q0s ?_ | refine q0m ?_ | refine q0j ?_) | (show q0o ..; first | refine cd_t ?_ | refine cd_f ?_) | refine q0a ?_ | refine q0q ?_)
        all_goals first
          | (rename_i hc; simp at hc; done)
          | (refine again (n + 1) ⟨by omega, eq_step hx hy hs⟩ (by omega) (by (refine q1l ?_ ?_ <;> repeat' (first | exact q0v | exact q0y | refine q0p (by (try simp only [go_sem, *]); try rfl) (by simp only [go_sem, *]) ?_ | refine q0z (by (try simp only [go_sem, *]); try rfl) (by omega) (by simp only [go_sem, *]) ?_ | refine q0x (by (try simp only [go_sem, *]); try rfl) (by omega) (by simp only [go_sem, *]) ?_))))
      · have hq : (x == y) = false := by simpa using hxy
        have hd : decide (x = y) = false := decide_eq_false hxy
        repeat' (first | (show q0i ..; first | refine q0c ?_ | refine q0e rfl ?_) | (show q0k ..; refine q0f rfl rfl ?_) | (show goOn ..; refine q0g ?_) | (show dr ..; first | refine q1y ?_ | refine dr_n rfl ?_) | (show drGo ..; refine q2t rfl ?_) | (show drOn ..; refine q1z ?_) | (refine And.intro (by kernel_rfl : q1n _ = true) ?_) | (show q0d ..; first | refine q0h ?_ | refine q0b ?_ | refine q1o (by kernel_rfl) ?_ | refine q0t ?_ | refine q0s ?_ | refine q0m ?_ | refine q0j ?_) | (show q0o ..; refine cd_t ?_) | refine q0a ?_ | refine q2j ?_ | refine q3k ?_ | (show retQ ..; refine q0u ?_) | refine q0n ?_)
        all_goals exact q1u (eq_no hx hy hxy).symm
    · have h0 := q1q (by omega : k.length ≤ n)
      repeat' (first | (show q0i ..; first | refine q0c ?_ | refine q0e rfl ?_) | (show q0k ..; refine q0f rfl rfl ?_) | (show goOn ..; refine q0g ?_) | (show q0d ..; first | refine q0h ?_ | refine q0b ?_ | refine q0t ?_ | refine q1s ?_ | refine q0j ?_) | (show q0o ..; refine cd_f ?_) | refine q0a ?_ | refine q1r ?_ | refine q1t ?_ | (show retQ ..; refine q0u ?_) | refine q0n ?_)
      exact q1u (eq_yes hlen hge hs).symm
  · have hlen' : ((l.length : Int) == (k.length : Int)) = false := by simp; omega
    repeat' (first | (show q0i ..; first | refine q0c ?_ | refine q0e rfl ?_) | (show q0k ..; refine q0f rfl rfl ?_) | (show goOn ..; refine q0g ?_) | (show q0d ..; first | refine q0h ?_ | refine q0b ?_ | refine q0t ?_ | refine q0j ?_) | (show q0o ..; refine cd_t ?_) | refine q0a ?_ | refine q2j ?_ | (show retQ ..; refine q0u ?_) | refine q0n ?_)
    exact q1u (eq_len hlen).symm
theorem r2_cats (l k : List Int) (hl : l.length ≤ 9223372036854775807) : Pure Tryz.prog 67 [.sl (l.map u64), .sl (k.map u64)] (.bool (decide (l = k))) := by
  refine q2p (by kernel_rfl) (by simp only [go_sem, *]) (by simp only [go_sem, *]) Tryz.func67 Tryz.results67 rfl (by simp [Tryz.ntmps67]) (by kernel_rfl) ?_
  by_cases hlen : l.length = k.length
  · repeat' (first | (show q0i ..; first | refine q0c ?_ | refine q0e rfl ?_) | (show q0k ..; refine q0f rfl rfl ?_) | (show goOn ..; refine q0g ?_) | (show q0d ..; first | refine q0h ?_ | refine q0b ?_ | refine q0s ?_ | refine q0m ?_ | refine q0j ?_) | (show q0o ..; refine cd_f ?_) | refine q0a ?_)
    refine q2l (S := Nat) (fun n => l.length - n) (fun n => n ≤ l.length ∧ l.take n = k.take n) (fun n => [(0, .sl (l.map u64)), (1, .sl (k.map u64)), (5, .int .i64 n)]) (fun _ => []) (fun _ => 0) 0 ⟨Nat.zero_le _, rfl⟩ (by (refine q1l ?_ ?_ <;> repeat' (first | exact q0v | exact q0y | refine q0p (by (try simp only [go_sem, *]); try rfl) (by simp only [go_sem, *]) ?_ | refine q0z (by (try simp only [go_sem, *]); try rfl) (by omega) (by simp only [go_sem, *]) ?_ | refine q0x (by (try simp only [go_sem, *]); try rfl) (by omega) (by simp only [go_sem, *]) ?_))) ?_
    rintro n ⟨hn, hs⟩
    rcases Nat.lt_or_ge n l.length with hlt | hge
    · obtain ⟨x, hx⟩ := q2b hlt
      obtain ⟨y, hy⟩ := q2b (hlen ▸ hlt : n < k.length)
      have h0 := q2h (hlen ▸ hlt : n < k.length)
      have h4 := q2a n (by omega)
      by_cases hxy : x = y
      · subst hxy
        repeat' (first | (show q0i ..; first | refine q0c ?_ | refine q0e rfl ?_) | (show q0k ..; refine q0f rfl rfl ?_) | (show goOn ..; refine q0g ?_) | (show dr ..; first | refine q1y ?_ | refine dr_n rfl ?_) | (show drGo ..; refine q2t rfl ?_) | (show drOn ..; refine q1z ?_) | (refine And.intro (by kernel_rfl : q1n _ = true) ?_) | (show q0d ..; first | refine q0h ?_ | refine q0b ?_ | refine q1o (by kernel_rfl) ?_ | refine q0s ?_ | refine q0m ?_ | refine q0j ?_) | (show q0o ..; first | refine cd_t ?_ | refine cd_f ?_) | refine q0a ?_ | refine q0q ?_)
        all_goals first
          | (rename_i hc; simp at hc; done)
          | (refine again (n + 1) ⟨by omega, eq_step hx hy hs⟩ (by omega) (by (refine q1l ?_ ?_ <;> repeat' (first | exact q0v | exact q0y | refine q0p (by (try simp only [go_sem, *]); try rfl) (by simp only [go_sem, *]) ?_ | refine q0z (by (try simp only [go_sem, *]); try rfl) (by omega) (by simp only [go_sem, *]) ?_ | refine q0x (by (try simp only [go_sem, *]); try rfl) (by omega) (by simp only [go_sem, *]) ?_))))
      · have hq : (x == y) = false := by simpa using hxy
        have hd : decide (x = y) = false := decide_eq_false hxy
        repeat' (first | (show q0i ..; first | refine q0c ?_ | refine q0e rfl ?_) | (show q0k ..; refine q0f rfl rfl ?_) | (show goOn ..; refine q0g ?_) | (show dr ..; first | refine q1y ?_ | refine dr_n rfl ?_) | (show drGo ..; refine q2t rfl ?_) | (show drOn ..; refine q1z ?_) | (refine And.intro (by kernel_rfl : q1n _ = true) ?_) | (show q0d ..; first | refine q0h ?_ | refine q0b ?_ | refine q1o (by kernel_rfl) ?_ | refine q0t ?_ | refine q0s ?_ | refine q0m ?_ | refine q0j ?_) | (show q0o ..; refine cd_t ?_) | refine q0a ?_ | refine q2j ?_ | refine q3k ?_ | (show retQ ..; refine q0u ?_) | refine q0n ?_)
        all_goals exact q1u (eq_no hx hy hxy).symm
    · have h0 := q1q (by omega : k.length ≤ n)
      repeat' (first | (show q0i ..; first | refine q0c ?_ | refine q0e rfl ?_) | (show q0k ..; refine q0f rfl rfl ?_) | (show goOn ..; refine q0g ?_) | (show q0d ..; first | refine q0h ?_ | refine q0b ?_ | refine q0t ?_ | refine q1s ?_ | refine q0j ?_) | (show q0o ..; refine cd_f ?_) | refine q0a ?_ | refine q1r ?_ | refine q1t ?_ | (show retQ ..; refine q0u ?_) | refine q0n ?_)
      exact q1u (eq_yes hlen hge hs).symm
  · have hlen' : ((l.length : Int) == (k.length : Int)) = false := by simp; omega
    repeat' (first | (show q0i ..; first | refine q0c ?_ | refine q0e rfl ?_) | (show q0k ..; refine q0f rfl rfl ?_) | (show goOn ..; refine q0g ?_) | (show q0d ..; first | refine q0h ?_ | refine q0b ?_ | refine q0t ?_ | refine q0j ?_) | (show q0o ..; refine cd_t ?_) | refine q0a ?_ | refine q2j ?_ | (show retQ ..; refine q0u ?_) | refine q0n ?_)
    exact q1u (eq_len hlen).symm
theorem r12_same (l k : List Mp) (hl : l.length ≤ 9223372036854775807) : Pure Tryz.prog 68 [.sl (l.map Mp.enc), .sl (k.map Mp.enc)] (.bool (decide (l = k))) := by
  refine q2p (by kernel_rfl) (by simp only [go_sem, *]) (by simp only [go_sem, *]) Tryz.func68 Tryz.results68 rfl (by simp [Tryz.ntmps68]) (by kernel_rfl) ?_
  by_cases hlen : l.length = k.length
  · repeat' (first | (show q0i ..; first | refine q0c ?_ | refine q0e rfl ?_) | (show q0k ..; refine q0f rfl rfl ?_) | (show goOn ..; refine q0g ?_) | (show q0d ..; first | refine q0h ?_ | refine q0b ?_ | refine q0s ?_ | refine q0m ?_ | refine q0j ?_) | (show q0o ..; refine cd_f ?_) | refine q0a ?_)
    refine q2l (S := Nat) (fun n => l.length - n) (fun n => n ≤ l.length ∧ l.take n = k.take n) (fun n => [(0, .sl (l.map Mp.enc)), (1, .sl (k.map Mp.enc)), (5, .int .i64 n)]) (fun _ => []) (fun _ => 0) 0 ⟨Nat.zero_le _, rfl⟩ (by (refine q1l ?_ ?_ <;> repeat' (first | exact q0v | exact q0y | refine q0p (by (try simp only [go_sem, *]); try rfl) (by simp only [go_sem, *]) ?_ | refine q0z (by (try simp only [go_sem, *]); try rfl) (by omega) (by simp only [go_sem, *]) ?_ | refine q0x (by (try simp only [go_sem, *]); try rfl) (by omega) (by simp only [go_sem, *]) ?_))) ?_
    rintro n ⟨hn, hs⟩
    rcases Nat.lt_or_ge n l.length with hlt | hge
    · obtain ⟨x, hx⟩ := q2b hlt
      obtain ⟨y, hy⟩ := q2b (hlen ▸ hlt : n < k.length)
      have h0 := q2h (hlen ▸ hlt : n < k.length)
      have h4 := q2a n (by omega)
      by_cases hxy : x = y
      · subst hxy
        repeat' (first | (show q0i ..; first | refine q0c ?_ | refine q0e rfl ?_) | (show q0k ..; refine q0f rfl rfl ?_) | (show goOn ..; refine q0g ?_) | (show dr ..; first | refine q1y ?_ | refine dr_n rfl ?_) | (show drGo ..; refine q2t rfl ?_) | (show drOn ..; refine q1z ?_) | (refine And.intro (by kernel_rfl : q1n _ = true) ?_) | (show q0d ..; first | refine q0h ?_ | refine q0b ?_ | refine q1o (by kernel_rfl) ?_ | refine q0s ?_ | refine q0m ?_ | refine q0j ?_) | (show q0o ..; first | refine cd_t ?_ | refine cd_f ?_) | refine q0a ?_ | refine q0q ?_)
        all_goals first
          | (rename_i hc; simp at hc; done)
          | (refine again (n + 1) ⟨by omega, eq_step hx hy hs⟩ (by omega) (by (refine q1l ?_ ?_ <;> repeat' (first | exact q0v | exact q0y | refine q0p (by (try simp only [go_sem, *]); try rfl) (by simp only [go_sem, *]) ?_ | refine q0z (by (try simp only [go_sem, *]); try rfl) (by omega) (by simp only [go_sem, *]) ?_ | refine q0x (by (try simp only [go_sem, *]); try rfl) (by omega) (by simp only [go_sem, *]) ?_))))
      · have hq : (x == y) = false := by simpa using hxy
        have hd : decide (x = y) = false := decide_eq_false hxy
        repeat' (first | (show q0i ..; first | refine q0c ?_ | refine q0e rfl ?_) | (show q0k ..; refine q0f rfl rfl ?_) | (show goOn ..; refine q0g ?_) | (show dr ..; first | refine q1y ?_ | refine dr_n rfl ?_) | (show drGo ..; refine q2t rfl ?_) | (show drOn ..; refine q1z ?_) | (refine And.intro (by kernel_rfl : q1n _ = true) ?_) | (show q0d ..; first | refine q0h ?_ | refine q0b ?_ | refine q1o (by kernel_rfl) ?_ | refine q0t ?_ | refine q0s ?_ | refine q0m ?_ | refine q0j ?_) | (show q0o ..; refine cd_t ?_) | refine q0a ?_ | refine q2j ?_ | refine q3k ?_ | (show retQ ..; refine q0u ?_) | refine q0n ?_)
        all_goals exact q1u (eq_no hx hy hxy).symm
    · have h0 := q1q (by omega : k.length ≤ n)
      repeat' (first | (show q0i ..; first | refine q0c ?_ | refine q0e rfl ?_) | (show q0k ..; refine q0f rfl rfl ?_) | (show goOn ..; refine q0g ?_) | (show q0d ..; first | refine q0h ?_ | refine q0b ?_ | refine q0t ?_ | refine q1s ?_ | refine q0j ?_) | (show q0o ..; refine cd_f ?_) | refine q0a ?_ | refine q1r ?_ | refine q1t ?_ | (show retQ ..; refine q0u ?_) | refine q0n ?_)
      exact q1u (eq_yes hlen hge hs).symm
  · have hlen' : ((l.length : Int) == (k.length : Int)) = false := by simp; omega
    repeat' (first | (show q0i ..; first | refine q0c ?_ | refine q0e rfl ?_) | (show q0k ..; refine q0f rfl rfl ?_) | (show goOn ..; refine q0g ?_) | (show q0d ..; first | refine q0h ?_ | refine q0b ?_ | refine q0t ?_ | refine q0j ?_) | (show q0o ..; refine cd_t ?_) | refine q0a ?_ | refine q2j ?_ | (show retQ ..; refine q0u ?_) | refine q0n ?_)
    exact q1u (eq_len hlen).symm
end Go.Proofs.YtoibbedpaaeclaaGreat
end

section
namespace Go.Proofs.YtoibbedpaaeclaaGreat
open Go Go.RowKit
set_option linter.unusedVariables false
set_option linter.unusedSimpArgs false
set_option maxHeartbeats 4000000
set_option maxRecDepth 100000
attribute [local irreducible] q0i dr q0d Ex.then Ex.inBlock retQ q1n q2d q2c Pure CSat evOp q1i rdOf upd hset strip sp0 cut envL q1g q3i Keep BdL evBs q2n q2s
def own (l : List Pr) : List Int := (l.filter (fun p => p.lev == 0)).map (·.cat)
theorem own_yes {l : List Pr} {n : Nat} {x : Pr} (hx : l[n]? = some x) (h : (x.lev == 0) = true) : own (l.take (n + 1)) = own (l.take n) ++ [x.cat] := by
  rw [q4h hx]; simp [own, List.filter_append, List.filter_cons, h]
theorem own_no {l : List Pr} {n : Nat} {x : Pr} (hx : l[n]? = some x) (h : (x.lev == 0) = false) : own (l.take (n + 1)) = own (l.take n) := by
  rw [q4h hx]; simp [own, List.filter_append, List.filter_cons, h]
theorem own_len (l : List Pr) : (own l).length ≤ l.length := by simp [own]; exact List.length_filter_le _ _
theorem r2_owned (l : List Pr) (hl : l.length ≤ 900000) : Pure Tryz.prog 21 [.sl (l.map Pr.enc)] (.sl ((own l).map u64)) := by
  refine q2p (by kernel_rfl) (by simp only [go_sem, *]) (by simp only [go_sem, *]) Tryz.func21 Tryz.results21 rfl (by simp [Tryz.ntmps21]) (by kernel_rfl) ?_
  repeat' (first | (show q0i ..; first | refine q0c ?_ | refine q0e rfl ?_) | (show q0k ..; refine q0f rfl rfl ?_) | (show goOn ..; refine q0g ?_) | (show q0d ..; first | refine q0h ?_ | refine q0b ?_ | refine q0m ?_) | refine q0a ?_)
  refine q2l (S := Nat × List Int × Nat) (fun s => l.length - s.1) (fun s => s.1 ≤ l.length ∧ own (l.take s.1) = s.2.1) (fun s => [(0, .sl (l.map Pr.enc)), (3, accV s.2.2 s.2.1), (4, .int .i64 s.1)]) (fun s => accG s.2.2 22 1 u64 s.2.1) (fun s => accM 0 s.2.2 s.2.1) (0, [], 0) ⟨Nat.zero_le _, rfl⟩ (by simp only [q3a, q3c, q3b]; (refine q1l ?_ ?_ <;> repeat' (first | exact q0v | exact q0y | refine q0p (by (try simp only [go_sem, *]); try rfl) (by simp only [go_sem, *]) ?_ | refine q0z (by (try simp only [go_sem, *]); try rfl) (by omega) (by simp only [go_sem, *]) ?_ | refine q0x (by (try simp only [go_sem, *]); try rfl) (by omega) (by simp only [go_sem, *]) ?_))) ?_
  rintro ⟨n, acc, id⟩ ⟨hn, hs⟩
  simp only at hn hs
  have ha : acc.length < 1000000 := by rw [← hs]; have := own_len (l.take n); have := List.length_take_le n l; simp only [List.length_take] at *; omega
  have hb1 := q6o ha
  have hb2 := q8d (b := 8) ha (by decide)
  rcases Nat.lt_or_ge n l.length with hlt | hge
  · obtain ⟨x, hx⟩ := q2b hlt
    have h0 := q2h hlt
    have h4 := q2a n (by omega)
    rcases q5g acc with hnil | hne
    · subst hnil
      simp only [q3a, q3c, q3b]
      repeat' (first | (show q0i ..; first | refine q0c ?_ | refine q0e rfl ?_) | (show q0k ..; refine q0f rfl rfl ?_) | (show goOn ..; first | refine q0g ?_ | refine q7u ?_) | (show q0d ..; first | refine q0h ?_ | refine q0b ?_ | refine q0s ?_ | refine q0m ?_ | refine q0j ?_) | (show q0o ..; first | refine cd_t ?_ | refine cd_b (fun _ => ?_) (fun _ => ?_)) | refine q0a ?_ | refine q0q ?_)
      all_goals rename_i hc
      · refine again (n + 1, [] ++ [x.cat], 0) ⟨hlt, by rw [own_yes hx hc, hs]⟩ (by simp only; omega) ?_
        simp only [q3n, q3p, q3o]
        (refine q1l ?_ ?_ <;> repeat' (first | exact q0v | exact q0y | refine q0p (by (try simp only [go_sem, *]); try rfl) (by simp only [go_sem, *]) ?_ | refine q0z (by (try simp only [go_sem, *]); try rfl) (by omega) (by simp only [go_sem, *]) ?_ | refine q0x (by (try simp only [go_sem, *]); try rfl) (by omega) (by simp only [go_sem, *]) ?_))
      · refine again (n + 1, [], 0) ⟨hlt, by rw [own_no hx hc, hs]⟩ (by simp only; omega) ?_
        simp only [q3a, q3c, q3b]
        (refine q1l ?_ ?_ <;> repeat' (first | exact q0v | exact q0y | refine q0p (by (try simp only [go_sem, *]); try rfl) (by simp only [go_sem, *]) ?_ | refine q0z (by (try simp only [go_sem, *]); try rfl) (by omega) (by simp only [go_sem, *]) ?_ | refine q0x (by (try simp only [go_sem, *]); try rfl) (by omega) (by simp only [go_sem, *]) ?_))
    · simp only [q3t hne, q3v hne, q3u hne]
      repeat' (first | (show q0i ..; first | refine q0c ?_ | refine q0e rfl ?_) | (show q0k ..; refine q0f rfl rfl ?_) | (show goOn ..; first | refine q0g ?_ | refine q7a ?_) | (show q0d ..; first | refine q0h ?_ | refine q0b ?_ | refine q0s ?_ | refine q0m ?_ | refine q0j ?_) | (show q0o ..; first | refine cd_t ?_ | refine cd_b (fun _ => ?_) (fun _ => ?_)) | refine q0a ?_ | refine q0q ?_)
      all_goals rename_i hc
      · refine again (n + 1, acc ++ [x.cat], id) ⟨hlt, by rw [own_yes hx hc, hs]⟩ (by simp only; omega) ?_
        simp only [q3n, q3p, q3o]
        (refine q1l ?_ ?_ <;> repeat' (first | exact q0v | exact q0y | refine q0p (by (try simp only [go_sem, *]); try rfl) (by simp only [go_sem, *]) ?_ | refine q0z (by (try simp only [go_sem, *]); try rfl) (by omega) (by simp only [go_sem, *]) ?_ | refine q0x (by (try simp only [go_sem, *]); try rfl) (by omega) (by simp only [go_sem, *]) ?_))
      · refine again (n + 1, acc, id) ⟨hlt, by rw [own_no hx hc, hs]⟩ (by simp only; omega) ?_
        simp only [q3t hne, q3v hne, q3u hne]
        (refine q1l ?_ ?_ <;> repeat' (first | exact q0v | exact q0y | refine q0p (by (try simp only [go_sem, *]); try rfl) (by simp only [go_sem, *]) ?_ | refine q0z (by (try simp only [go_sem, *]); try rfl) (by omega) (by simp only [go_sem, *]) ?_ | refine q0x (by (try simp only [go_sem, *]); try rfl) (by omega) (by simp only [go_sem, *]) ?_))
  · have h0 := q1q hge
    have hs' : own l = acc := by rw [← hs, List.take_of_length_le hge]
    rcases q5g acc with hnil | hne
    · subst hnil
      simp only [q3a, q3c, q3b]
      repeat' (first | (show q0i ..; first | refine q0c ?_ | refine q0e rfl ?_) | (show q0k ..; refine q0f rfl rfl ?_) | (show goOn ..; refine q0g ?_) | (show q0d ..; first | refine q0h ?_ | refine q0b ?_ | refine q0t ?_ | refine q1s ?_ | refine q0j ?_) | (show q0o ..; refine cd_f ?_) | refine q0a ?_ | refine q1r ?_ | refine q1t ?_ | (show retQ ..; refine q0u ?_) | refine q0n ?_)
      rw [hs']; rfl
    · simp only [q3t hne, q3v hne, q3u hne]
      repeat' (first | (show q0i ..; first | refine q0c ?_ | refine q0e rfl ?_) | (show q0k ..; refine q0f rfl rfl ?_) | (show goOn ..; refine q0g ?_) | (show q0d ..; first | refine q0h ?_ | refine q0b ?_ | refine q0t ?_ | refine q1s ?_ | refine q0j ?_) | (show q0o ..; refine cd_f ?_) | refine q0a ?_ | refine q1r ?_ | refine q1t ?_ | (show retQ ..; refine q0u ?_) | refine q0n ?_)
      rw [hs']
end Go.Proofs.YtoibbedpaaeclaaGreat
end

section
namespace Go.Proofs.YtoibbedpaaeclaaGreat
open Go Go.RowKit
set_option linter.unusedVariables false
set_option linter.unusedSimpArgs false
set_option maxHeartbeats 8000000
set_option maxRecDepth 100000
attribute [local irreducible] q0i dr q0d Ex.then Ex.inBlock retQ q1n q2d q2c Pure CSat evOp q1i rdOf upd hset strip sp0 cut envL q1g q3i Keep BdL evBs q2n q2s
def spanFit (s : Sp) : Bool := decide (s.lo ≤ s.hi) && decide (s.hi ≤ 2305843009213693952)
theorem r7_fit (s : Sp) : Pure Tryz.prog 153 [.agg (Sp.enc s)] (.bool (spanFit s)) := by
  refine q2p (by kernel_rfl) (by simp only [go_sem, *]) (by simp only [go_sem, *]) Tryz.func153 Tryz.results153 rfl (by simp [Tryz.ntmps153]) (by kernel_rfl) ?_
  repeat' (first | (show q0i ..; first | refine q0c ?_ | refine q0e rfl ?_ | refine q1a rfl rfl ?_) | (show q0k ..; refine q0f rfl rfl ?_) | (show goOn ..; first | refine q0g ?_ | refine q1d ?_) | (show wGo ..; first | refine q3h ?_ | refine q3r ?_ | refine q9r (fun _ => ?_) (fun _ => ?_)) | (show q0d ..; first | refine q0h ?_ | refine q0b ?_ | refine q0t ?_) | refine q0a ?_ | (show retQ ..; refine q0u ?_) | refine q0n ?_)
  all_goals (refine q1u ?_; simp_all [spanFit] <;> omega)
def idOk (n : Int) : Bool := decide (n ≥ 1) && decide (n ≤ 2305843009213693952)
theorem r13_id (n : Int) : Pure Tryz.prog 100 [.int .u64 n] (.bool (idOk n)) := by
  refine q2p (by kernel_rfl) (by simp only [go_sem, *]) (by simp only [go_sem, *]) Tryz.func100 Tryz.results100 rfl (by simp [Tryz.ntmps100]) (by kernel_rfl) ?_
  repeat' (first | (show q0i ..; first | refine q0c ?_ | refine q0e rfl ?_ | refine q1a rfl rfl ?_) | (show q0k ..; refine q0f rfl rfl ?_) | (show goOn ..; refine q0g ?_) | (show wGo ..; first | refine q3h ?_ | refine q3r ?_ | refine q9r (fun _ => ?_) (fun _ => ?_)) | (show q0d ..; first | refine q0h ?_ | refine q0b ?_ | refine q0t ?_) | refine q0a ?_ | (show retQ ..; refine q0u ?_) | refine q0n ?_)
  all_goals (refine q1u ?_; simp_all [idOk] <;> omega)
theorem r2_fit (l : List Pr) (hl : l.length ≤ 9223372036854775807) : Pure Tryz.prog 20 [.sl (l.map Pr.enc)] (.bool (q2x l)) := by
  refine q2p (by kernel_rfl) (by simp only [go_sem, *]) (by simp only [go_sem, *]) Tryz.func20 Tryz.results20 rfl (by simp [Tryz.ntmps20]) (by kernel_rfl) ?_
  repeat' (first | (show q0i ..; first | refine q0c ?_ | refine q0e rfl ?_) | (show q0k ..; refine q0f rfl rfl ?_) | (show goOn ..; refine q0g ?_) | (show q0d ..; first | refine q0h ?_ | refine q0b ?_ | refine q0m ?_) | refine q0a ?_)
  refine q2l (S := Nat) (fun n => l.length - n) (fun n => n ≤ l.length ∧ ∀ j, j < n → q6a l j = true) (fun n => [(0, .sl (l.map Pr.enc)), (3, .int .i64 n)]) (fun _ => []) (fun _ => 0) 0 ⟨Nat.zero_le _, fun j hj => absurd hj (Nat.not_lt_zero j)⟩ (by (refine q1l ?_ ?_ <;> repeat' (first | exact q0v | exact q0y | refine q0p (by (try simp only [go_sem, *]); try rfl) (by simp only [go_sem, *]) ?_ | refine q0z (by (try simp only [go_sem, *]); try rfl) (by omega) (by simp only [go_sem, *]) ?_ | refine q0x (by (try simp only [go_sem, *]); try rfl) (by omega) (by simp only [go_sem, *]) ?_))) ?_
  rintro n ⟨hn, hs⟩
  rcases Nat.lt_or_ge n l.length with hlt | hge
  · obtain ⟨x, hx⟩ := q2b hlt
    have h0 := q2h hlt
    have h4 := q2a n (by omega)
    cases n with
    | zero =>
      have e : q6a l 0 = (q5y x.lev && !(x.lev == 2) && true) := by unfold q6a; rw [hx]
      repeat' (first | (show q0i ..; first | refine q0c ?_ | refine q0e rfl ?_) | (show q0k ..; refine q0f rfl rfl ?_) | (show goOn ..; refine q0g ?_) | (show wGo ..; first | refine q4b ?_ | refine q3r ?_ | refine q4y ?_ | refine gw_u ?_ | refine q9s (fun _ => ?_) (fun _ => ?_) | refine gw_fb (fun _ => ?_) (fun _ => ?_)) | (show dr ..; first | refine q1y ?_ | refine dr_n rfl ?_ | refine q5j rfl rfl ?_) | (show drGo ..; first | refine q2t rfl ?_ | refine q2k rfl ?_) | (show drOn ..; refine q1z ?_) | (show q2e ..; (refine q1f (r := ?_) ?_ ?_; rotate_left 1; (focus exact r01_fit _))) | (refine And.intro (by kernel_rfl : q1n _ = true) ?_) | (show q0d ..; first | refine q0h ?_ | refine q0b ?_ | refine q1o (by kernel_rfl) ?_ | refine q0t ?_ | refine q0s ?_ | refine q0m ?_ | refine q0j ?_) | (show q0o ..; first | refine cd_t ?_ | refine cd_f ?_) | refine q0a ?_ | refine q2j ?_ | refine q0q ?_ | refine q3k ?_ | (show retQ ..; refine q0u ?_) | refine q0n ?_)
      all_goals first | (refine q1u (q2o hlt ?_).symm; simp only [*, Bool.not_true, Bool.not_false, Bool.and_true, Bool.true_and, Bool.and_false, Bool.false_and, Bool.or_true, Bool.true_or, Bool.or_false, Bool.false_or, Bool.and_self, Bool.or_self, decide_true, decide_false, Bool.not_not, if_true, if_false, Bool.false_eq_true, eq_self]) | (refine again (0 + 1) ⟨?_, q5d hs ?_⟩ ?_ (by (refine q1l ?_ ?_ <;> repeat' (first | exact q0v | exact q0y | refine q0p (by (try simp only [go_sem, *]); try rfl) (by simp only [go_sem, *]) ?_ | refine q0z (by (try simp only [go_sem, *]); try rfl) (by omega) (by simp only [go_sem, *]) ?_ | refine q0x (by (try simp only [go_sem, *]); try rfl) (by omega) (by simp only [go_sem, *]) ?_))); (focus omega); (focus simp only [*, Bool.not_true, Bool.not_false, Bool.and_true, Bool.true_and, Bool.and_false, Bool.false_and, Bool.or_true, Bool.true_or, Bool.or_false, Bool.false_or, Bool.and_self, Bool.or_self, decide_true, decide_false, Bool.not_not, if_true, if_false, Bool.false_eq_true, eq_self]); (focus omega))
    | succ j =>
      obtain ⟨y, hy⟩ := q2b (by omega : j < l.length)
      have h5 := x0n j (by omega)
      have h6 := gt_prev j
      have e : q6a l (j + 1) = (q5y x.lev && !(x.lev == 2) && !decide (y.cat ≥ x.cat)) := by unfold q6a; rw [hx]; simp only [hy]
      repeat' (first | (show q0i ..; first | refine q0c ?_ | refine q0e rfl ?_) | (show q0k ..; refine q0f rfl rfl ?_) | (show goOn ..; refine q0g ?_) | (show wGo ..; first | refine q3h ?_ | refine q4b ?_ | refine q4y ?_ | refine gw_u ?_ | refine q9s (fun _ => ?_) (fun _ => ?_) | refine gw_fb (fun _ => ?_) (fun _ => ?_)) | (show dr ..; first | refine q1y ?_ | refine dr_n rfl ?_ | refine q5j rfl rfl ?_) | (show drGo ..; first | refine q2t rfl ?_ | refine q2k rfl ?_) | (show drOn ..; refine q1z ?_) | (show q2e ..; (refine q1f (r := ?_) ?_ ?_; rotate_left 1; (focus exact r01_fit _))) | (refine And.intro (by kernel_rfl : q1n _ = true) ?_) | (show q0d ..; first | refine q0h ?_ | refine q0b ?_ | refine q1o (by kernel_rfl) ?_ | refine q0t ?_ | refine q0s ?_ | refine q0m ?_ | refine q0j ?_) | (show q0o ..; first | refine cd_t ?_ | refine cd_b (fun _ => ?_) (fun _ => ?_)) | refine q0a ?_ | refine q2j ?_ | refine q0q ?_ | refine q3k ?_ | (show retQ ..; refine q0u ?_) | refine q0n ?_)
      all_goals first | (refine q1u (q2o hlt ?_).symm; simp only [*, Bool.not_true, Bool.not_false, Bool.and_true, Bool.true_and, Bool.and_false, Bool.false_and, Bool.or_true, Bool.true_or, Bool.or_false, Bool.false_or, Bool.and_self, Bool.or_self, decide_true, decide_false, Bool.not_not, if_true, if_false, Bool.false_eq_true, eq_self]) | (refine again (j + 1 + 1) ⟨?_, q5d hs ?_⟩ ?_ (by (refine q1l ?_ ?_ <;> repeat' (first | exact q0v | exact q0y | refine q0p (by (try simp only [go_sem, *]); try rfl) (by simp only [go_sem, *]) ?_ | refine q0z (by (try simp only [go_sem, *]); try rfl) (by omega) (by simp only [go_sem, *]) ?_ | refine q0x (by (try simp only [go_sem, *]); try rfl) (by omega) (by simp only [go_sem, *]) ?_))); (focus omega); (focus simp only [*, Bool.not_true, Bool.not_false, Bool.and_true, Bool.true_and, Bool.and_false, Bool.false_and, Bool.or_true, Bool.true_or, Bool.or_false, Bool.false_or, Bool.and_self, Bool.or_self, decide_true, decide_false, Bool.not_not, if_true, if_false, Bool.false_eq_true, eq_self]); (focus omega))
  · have h0 := q1q hge
    repeat' (first | (show q0i ..; first | refine q0c ?_ | refine q0e rfl ?_) | (show q0k ..; refine q0f rfl rfl ?_) | (show goOn ..; refine q0g ?_) | (show q0d ..; first | refine q0h ?_ | refine q0b ?_ | refine q0t ?_ | refine q1s ?_ | refine q0j ?_) | (show q0o ..; refine cd_f ?_) | refine q0a ?_ | refine q1r ?_ | refine q1t ?_ | (show retQ ..; refine q0u ?_) | refine q0n ?_)
    exact q1u (q2m fun j hj => hs j (by omega)).symm
def q7c (l : List Pr) (k : Nat) : Bool := match l[k]? with
  | some x => !(x.lev == 5)
  | none => true
def kept (l : List Pr) : Bool := allB l.length (q7c l) && (decide (l.length ≤ 16) && q2x l)
theorem q6t (l : List Pr) (hl : l.length ≤ 9223372036854775807) : Pure Tryz.prog 101 [.sl (l.map Pr.enc)] (.bool (kept l)) := by
  refine q2p (by kernel_rfl) (by simp only [go_sem, *]) (by simp only [go_sem, *]) Tryz.func101 Tryz.results101 rfl (by simp [Tryz.ntmps101]) (by kernel_rfl) ?_
  have hb := r2_fit l hl
  repeat' (first | (show q0i ..; first | refine q0c ?_ | refine q0e rfl ?_) | (show q0k ..; refine q0f rfl rfl ?_) | (show goOn ..; refine q0g ?_) | (show q0d ..; first | refine q0h ?_ | refine q0b ?_ | refine q0m ?_) | refine q0a ?_)
  refine q2l (S := Nat) (fun n => l.length - n) (fun n => n ≤ l.length ∧ ∀ j, j < n → q7c l j = true) (fun n => [(0, .sl (l.map Pr.enc)), (3, .int .i64 n)]) (fun _ => []) (fun _ => 0) 0 ⟨Nat.zero_le _, fun j hj => absurd hj (Nat.not_lt_zero j)⟩ (by (refine q1l ?_ ?_ <;> repeat' (first | exact q0v | exact q0y | refine q0p (by (try simp only [go_sem, *]); try rfl) (by simp only [go_sem, *]) ?_ | refine q0z (by (try simp only [go_sem, *]); try rfl) (by omega) (by simp only [go_sem, *]) ?_ | refine q0x (by (try simp only [go_sem, *]); try rfl) (by omega) (by simp only [go_sem, *]) ?_))) ?_
  rintro n ⟨hn, hs⟩
  rcases Nat.lt_or_ge n l.length with hlt | hge
  · obtain ⟨x, hx⟩ := q2b hlt
    have h0 := q2h hlt
    have h4 := q2a n (by omega)
    have e : q7c l n = !(x.lev == 5) := by unfold q7c; rw [hx]
    repeat' (first | (show q0i ..; first | refine q0c ?_ | refine q0e rfl ?_) | (show q0k ..; refine q0f rfl rfl ?_) | (show goOn ..; refine q0g ?_) | (show q0d ..; first | refine q0h ?_ | refine q0b ?_ | refine q0t ?_ | refine q0s ?_ | refine q0m ?_ | refine q0j ?_) | (show q0o ..; first | refine cd_t ?_ | refine cd_b (fun _ => ?_) (fun _ => ?_)) | refine q0a ?_ | refine q2j ?_ | refine q0q ?_ | refine q3k ?_ | (show retQ ..; refine q0u ?_) | refine q0n ?_)
    all_goals rename_i hc
    · refine q1u ?_
      have := q2o hlt (f := q7c l) (by rw [e, hc]; rfl)
      unfold kept; rw [this]; rfl
    · exact again (n + 1) ⟨by omega, q5d hs (by rw [e, hc]; rfl)⟩ (by omega) (by (refine q1l ?_ ?_ <;> repeat' (first | exact q0v | exact q0y | refine q0p (by (try simp only [go_sem, *]); try rfl) (by simp only [go_sem, *]) ?_ | refine q0z (by (try simp only [go_sem, *]); try rfl) (by omega) (by simp only [go_sem, *]) ?_ | refine q0x (by (try simp only [go_sem, *]); try rfl) (by omega) (by simp only [go_sem, *]) ?_)))
  · have h0 := q1q hge
    have hall : allB l.length (q7c l) = true := q2m fun j hj => hs j (by omega)
    have hle : decide ((l.length : Int) ≤ 16) = decide (l.length ≤ 16) := by simp; omega
    repeat' (first | (show q0i ..; first | refine q0c ?_ | refine q0e rfl ?_ | refine q1a rfl rfl ?_) | (show q0k ..; first | refine q0f rfl rfl ?_ | refine q0l rfl ?_) | (show goOn ..; refine q0g ?_) | (show q1k ..; (refine q0r (r := ?_) ?_ ?_; rotate_left 1; (focus exact hb))) | (show wGo ..; first | refine q3h ?_ | refine q3r ?_ | refine q9r (fun _ => ?_) (fun _ => ?_)) | (show q0d ..; first | refine q0h ?_ | refine q0b ?_ | refine q0t ?_ | refine q1s ?_ | refine q0j ?_) | (show q0o ..; refine cd_f ?_) | refine q0a ?_ | refine q1r ?_ | refine q1t ?_ | (show retQ ..; refine q0u ?_) | refine q0n ?_)
    all_goals (refine q1u ?_; unfold kept; simp only [*, Bool.not_true, Bool.not_false, Bool.and_true, Bool.true_and, Bool.and_false, Bool.false_and, Bool.or_true, Bool.true_or, Bool.or_false, Bool.false_or, Bool.and_self, Bool.or_self, decide_true, decide_false, Bool.not_not, if_true, if_false, Bool.false_eq_true, eq_self])
def risAt (l : List Int) (k : Nat) : Bool := match l[k]? with
  | none => true
  | some x => idOk x && (match k with
    | 0 => true
    | j + 1 => match l[j]? with
      | some y => !decide (y ≥ x)
      | none => true)
theorem r13_rising (l : List Int) (hl : l.length ≤ 9223372036854775807) : Pure Tryz.prog 103 [.sl (l.map u64)] (.bool (allB l.length (risAt l))) := by
  refine q2p (by kernel_rfl) (by simp only [go_sem, *]) (by simp only [go_sem, *]) Tryz.func103 Tryz.results103 rfl (by simp [Tryz.ntmps103]) (by kernel_rfl) ?_
  repeat' (first | (show q0i ..; first | refine q0c ?_ | refine q0e rfl ?_) | (show q0k ..; refine q0f rfl rfl ?_) | (show goOn ..; refine q0g ?_) | (show q0d ..; first | refine q0h ?_ | refine q0b ?_ | refine q0m ?_) | refine q0a ?_)
  refine q2l (S := Nat) (fun n => l.length - n) (fun n => n ≤ l.length ∧ ∀ j, j < n → risAt l j = true) (fun n => [(0, .sl (l.map u64)), (3, .int .i64 n)]) (fun _ => []) (fun _ => 0) 0 ⟨Nat.zero_le _, fun j hj => absurd hj (Nat.not_lt_zero j)⟩ (by (refine q1l ?_ ?_ <;> repeat' (first | exact q0v | exact q0y | refine q0p (by (try simp only [go_sem, *]); try rfl) (by simp only [go_sem, *]) ?_ | refine q0z (by (try simp only [go_sem, *]); try rfl) (by omega) (by simp only [go_sem, *]) ?_ | refine q0x (by (try simp only [go_sem, *]); try rfl) (by omega) (by simp only [go_sem, *]) ?_))) ?_
  rintro n ⟨hn, hs⟩
  rcases Nat.lt_or_ge n l.length with hlt | hge
  · obtain ⟨x, hx⟩ := q2b hlt
    have h0 := q2h hlt
    have h4 := q2a n (by omega)
    cases n with
    | zero =>
      have e : risAt l 0 = (idOk x && true) := by unfold risAt; rw [hx]
      repeat' (first | (show q0i ..; first | refine q0c ?_ | refine q0e rfl ?_) | (show q0k ..; refine q0f rfl rfl ?_) | (show goOn ..; refine q0g ?_) | (show wGo ..; first | refine q4b ?_ | refine q3r ?_ | refine q4y ?_ | refine gw_u ?_ | refine q9s (fun _ => ?_) (fun _ => ?_)) | (show dr ..; first | refine q1y ?_ | refine dr_n rfl ?_ | refine q5j rfl rfl ?_) | (show drGo ..; first | refine q2t rfl ?_ | refine q2k rfl ?_) | (show drOn ..; refine q1z ?_) | (show q2e ..; (refine q1f (r := ?_) ?_ ?_; rotate_left 1; (focus exact r13_id _))) | (refine And.intro (by kernel_rfl : q1n _ = true) ?_) | (show q0d ..; first | refine q0h ?_ | refine q0b ?_ | refine q1o (by kernel_rfl) ?_ | refine q0t ?_ | refine q0s ?_ | refine q0m ?_ | refine q0j ?_) | (show q0o ..; first | refine cd_t ?_ | refine cd_f ?_) | refine q0a ?_ | refine q2j ?_ | refine q0q ?_ | refine q3k ?_ | (show retQ ..; refine q0u ?_) | refine q0n ?_)
      all_goals first | (refine q1u (q2o hlt ?_).symm; simp only [*, Bool.not_true, Bool.not_false, Bool.and_true, Bool.true_and, Bool.and_false, Bool.false_and, Bool.or_true, Bool.true_or, Bool.or_false, Bool.false_or, Bool.and_self, Bool.or_self, decide_true, decide_false, Bool.not_not, if_true, if_false, Bool.false_eq_true, eq_self]) | (refine again (0 + 1) ⟨?_, q5d hs ?_⟩ ?_ (by (refine q1l ?_ ?_ <;> repeat' (first | exact q0v | exact q0y | refine q0p (by (try simp only [go_sem, *]); try rfl) (by simp only [go_sem, *]) ?_ | refine q0z (by (try simp only [go_sem, *]); try rfl) (by omega) (by simp only [go_sem, *]) ?_ | refine q0x (by (try simp only [go_sem, *]); try rfl) (by omega) (by simp only [go_sem, *]) ?_))); (focus omega); (focus simp only [*, Bool.not_true, Bool.not_false, Bool.and_true, Bool.true_and, Bool.and_false, Bool.false_and, Bool.or_true, Bool.true_or, Bool.or_false, Bool.false_or, Bool.and_self, Bool.or_self, decide_true, decide_false, Bool.not_not, if_true, if_false, Bool.false_eq_true, eq_self]); (focus omega))
    | succ j =>
      obtain ⟨y, hy⟩ := q2b (by omega : j < l.length)
      have h5 := x0n j (by omega)
      have h6 := gt_prev j
      have e : risAt l (j + 1) = (idOk x && !decide (y ≥ x)) := by unfold risAt; rw [hx]; simp only [hy]
      repeat' (first | (show q0i ..; first | refine q0c ?_ | refine q0e rfl ?_) | (show q0k ..; refine q0f rfl rfl ?_) | (show goOn ..; refine q0g ?_) | (show wGo ..; first | refine q3h ?_ | refine q4b ?_ | refine q4y ?_ | refine gw_u ?_ | refine q9s (fun _ => ?_) (fun _ => ?_)) | (show dr ..; first | refine q1y ?_ | refine dr_n rfl ?_ | refine q5j rfl rfl ?_) | (show drGo ..; first | refine q2t rfl ?_ | refine q2k rfl ?_) | (show drOn ..; refine q1z ?_) | (show q2e ..; (refine q1f (r := ?_) ?_ ?_; rotate_left 1; (focus exact r13_id _))) | (refine And.intro (by kernel_rfl : q1n _ = true) ?_) | (show q0d ..; first | refine q0h ?_ | refine q0b ?_ | refine q1o (by kernel_rfl) ?_ | refine q0t ?_ | refine q0s ?_ | refine q0m ?_ | refine q0j ?_) | (show q0o ..; first | refine cd_t ?_ | refine cd_b (fun _ => ?_) (fun _ => ?_)) | refine q0a ?_ | refine q2j ?_ | refine q0q ?_ | refine q3k ?_ | (show retQ ..; refine q0u ?_) | refine q0n ?_)
      all_goals first | (refine q1u (q2o hlt ?_).symm; simp only [*, Bool.not_true, Bool.not_false, Bool.and_true, Bool.true_and, Bool.and_false, Bool.false_and, Bool.or_true, Bool.true_or, Bool.or_false, Bool.false_or, Bool.and_self, Bool.or_self, decide_true, decide_false, Bool.not_not, if_true, if_false, Bool.false_eq_true, eq_self]) | (refine again (j + 1 + 1) ⟨?_, q5d hs ?_⟩ ?_ (by (refine q1l ?_ ?_ <;> repeat' (first | exact q0v | exact q0y | refine q0p (by (try simp only [go_sem, *]); try rfl) (by simp only [go_sem, *]) ?_ | refine q0z (by (try simp only [go_sem, *]); try rfl) (by omega) (by simp only [go_sem, *]) ?_ | refine q0x (by (try simp only [go_sem, *]); try rfl) (by omega) (by simp only [go_sem, *]) ?_))); (focus omega); (focus simp only [*, Bool.not_true, Bool.not_false, Bool.and_true, Bool.true_and, Bool.and_false, Bool.false_and, Bool.or_true, Bool.true_or, Bool.or_false, Bool.false_or, Bool.and_self, Bool.or_self, decide_true, decide_false, Bool.not_not, if_true, if_false, Bool.false_eq_true, eq_self]); (focus omega))
  · have h0 := q1q hge
    repeat' (first | (show q0i ..; first | refine q0c ?_ | refine q0e rfl ?_) | (show q0k ..; refine q0f rfl rfl ?_) | (show goOn ..; refine q0g ?_) | (show q0d ..; first | refine q0h ?_ | refine q0b ?_ | refine q0t ?_ | refine q1s ?_ | refine q0j ?_) | (show q0o ..; refine cd_f ?_) | refine q0a ?_ | refine q1r ?_ | refine q1t ?_ | (show retQ ..; refine q0u ?_) | refine q0n ?_)
    exact q1u (q2m fun j hj => hs j (by omega)).symm
end Go.Proofs.YtoibbedpaaeclaaGreat
end
