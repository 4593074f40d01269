import Derived.Test.YteibeoipnjhicaaEvr
import Derived.Test.YteibeoipnjhicaaProg
namespace Go.Proofs.Yteibeoipnjhicaa
open Go Go.RowKit
set_option linter.unusedVariables false
set_option linter.unusedSimpArgs false
/-! The program's structs, and their cells (printed by gen_enc.py). -/
def u64 (x : Int) : List PV := [.int .u64 x]
def arr (n : Nat) (f : Nat → List PV) : List PV := (List.range n).flatMap f

theorem u64_bdl (S : Nat → Prop) (x : Int) : ∀ p ∈ u64 x, Bd S p := by intro p hp; simp only [u64, List.mem_cons, List.not_mem_nil, or_false] at hp; subst hp; exact Bd.int _ _
@[go_sem] theorem u64_bdL (S : Nat → Prop) (x : Int) : BdL S (u64 x) = True := eq_true (u64_bdl S x)
@[go_sem] theorem u64_bdS (S : Nat → Prop) (l : List Int) : Bd S (.sl (List.map u64 l)) = True := Bd_slm (u64_bdl S) l
@[go_sem] theorem u64_len (x : Int) : (u64 x).length = 1 := rfl
@[go_sem] theorem u64_cut (x : Int) : cut Try.prog 22 (u64 x) 0 = some (.int .u64 x) := by kernel_rfl
structure Pr where
  cat : Int
  lev : Int
  deriving DecidableEq, Inhabited
def Pr.enc (x : Pr) : List PV := [.int .u64 x.cat] ++ [.int .i64 x.lev]
def Pr.zero : Pr := ⟨0, 0⟩
@[go_sem] theorem Pr.len (x : Pr) : (Pr.enc x).length = 2 := by kernel_rfl
@[go_sem] theorem Pr.cells (x : Pr) : PV.cells? (.agg (Pr.enc x)) = some (Pr.enc x) := rfl
@[go_sem] theorem cut_Pr_0 (x : Pr) : cut Try.prog 63 (Pr.enc x) 0 = some (.agg (Pr.enc x)) := by kernel_rfl
@[go_sem] theorem zeros_Pr_0 : zeros Try.prog 63 = some (Pr.enc Pr.zero) := by kernel_rfl
@[go_sem] theorem field_Pr_0_0 : fieldOf Try.prog 63 0 = some (22, 0) := by kernel_rfl
@[go_sem] theorem field_Pr_0_1 : fieldOf Try.prog 63 1 = some (3, 1) := by kernel_rfl
@[go_sem] theorem build_Pr_0_0 (cat : Int) : evBuild Try.prog 63 [(0, .int .u64 cat)] = some (.agg (Pr.enc ⟨cat, 0⟩)) := by kernel_rfl
@[go_sem] theorem build_Pr_0_0_1 (cat : Int) (lev : Int) : evBuild Try.prog 63 [(0, .int .u64 cat), (1, .int .i64 lev)] = some (.agg (Pr.enc ⟨cat, lev⟩)) := by kernel_rfl
@[go_sem] theorem cut_Pr_cat_0 (x : Pr) : cut Try.prog 22 (Pr.enc x) 0 = some (.int .u64 x.cat) := by kernel_rfl
@[go_sem] theorem spl_Pr_cat (x : Pr) (v : Int) : splice (Pr.enc x) 0 ([.int .u64 v]) = Pr.enc { x with cat := v } := by kernel_rfl
@[go_sem] theorem cut_Pr_lev_0 (x : Pr) : cut Try.prog 3 (Pr.enc x) 1 = some (.int .i64 x.lev) := by kernel_rfl
@[go_sem] theorem spl_Pr_lev (x : Pr) (v : Int) : splice (Pr.enc x) 1 ([.int .i64 v]) = Pr.enc { x with lev := v } := by kernel_rfl
@[go_sem] theorem spl_Pr_ (x v : Pr) : splice (Pr.enc x) 0 (Pr.enc v) = Pr.enc v := by kernel_rfl
theorem Pr.bdl (S : Nat → Prop) (x : Pr) : ∀ p ∈ Pr.enc x, Bd S p := by
  unfold Pr.enc
  simp only [List.mem_append, or_imp, forall_and, List.forall_mem_cons, List.not_mem_nil, false_imp_iff, implies_true, and_true, List.forall_mem_nil, List.cons_append, List.nil_append, arr, List.mem_flatMap, forall_exists_index, and_imp]
  and_intros <;> first | exact Bd.int _ _ | exact Bd.bool _ | exact Bd.sl _ (by intro e he; obtain ⟨y, _, rfl⟩ := List.mem_map.1 he; first | with_reducible exact u64_bdl _ _ | with_reducible exact Pr.bdl _ _ | with_reducible exact Mp.bdl _ _ | with_reducible exact Ob.bdl _ _) | with_reducible exact Rf.bdl _ _ | with_reducible exact Wt.bdl _ _ | with_reducible exact Sp.bdl _ _ | with_reducible exact Th.bdl _ _ | with_reducible exact Gt.bdl _ _ | (intro p i _ hp; first | (simp only [List.mem_cons, List.not_mem_nil, or_false] at hp; subst hp; first | exact Bd.int _ _ | exact Bd.sl _ (by intro e he; obtain ⟨y, _, rfl⟩ := List.mem_map.1 he; exact Pr.bdl _ _)))
@[go_sem] theorem Pr.bdL (S : Nat → Prop) (x : Pr) : BdL S (Pr.enc x) = True := eq_true (Pr.bdl S x)
@[go_sem] theorem Pr.bdS (S : Nat → Prop) (l : List Pr) : Bd S (.sl (List.map Pr.enc l)) = True := Bd_slm (Pr.bdl S) l
structure Mp where
  va : Int
  n : Int
  cont : Int
  seg : Int
  off : Int
  write : Bool
  deriving DecidableEq, Inhabited
def Mp.enc (x : Mp) : List PV := [.int .i64 x.va] ++ [.int .i64 x.n] ++ [.int .u64 x.cont] ++ [.int .u64 x.seg] ++ [.int .i64 x.off] ++ [.bool x.write]
def Mp.zero : Mp := ⟨0, 0, 0, 0, 0, false⟩
@[go_sem] theorem Mp.len (x : Mp) : (Mp.enc x).length = 6 := by kernel_rfl
@[go_sem] theorem Mp.cells (x : Mp) : PV.cells? (.agg (Mp.enc x)) = some (Mp.enc x) := rfl
@[go_sem] theorem cut_Mp_0 (x : Mp) : cut Try.prog 121 (Mp.enc x) 0 = some (.agg (Mp.enc x)) := by kernel_rfl
@[go_sem] theorem zeros_Mp_0 : zeros Try.prog 121 = some (Mp.enc Mp.zero) := by kernel_rfl
@[go_sem] theorem field_Mp_0_0 : fieldOf Try.prog 121 0 = some (3, 0) := by kernel_rfl
@[go_sem] theorem field_Mp_0_1 : fieldOf Try.prog 121 1 = some (3, 1) := by kernel_rfl
@[go_sem] theorem field_Mp_0_2 : fieldOf Try.prog 121 2 = some (22, 2) := by kernel_rfl
@[go_sem] theorem field_Mp_0_3 : fieldOf Try.prog 121 3 = some (22, 3) := by kernel_rfl
@[go_sem] theorem field_Mp_0_4 : fieldOf Try.prog 121 4 = some (3, 4) := by kernel_rfl
@[go_sem] theorem field_Mp_0_5 : fieldOf Try.prog 121 5 = some (4, 5) := by kernel_rfl
@[go_sem] theorem build_Mp_0_0_1_4 (va : Int) (n : Int) (off : Int) : evBuild Try.prog 121 [(0, .int .i64 va), (1, .int .i64 n), (4, .int .i64 off)] = some (.agg (Mp.enc ⟨va, n, 0, 0, off, false⟩)) := by kernel_rfl
@[go_sem] theorem build_Mp_0_0_1 (va : Int) (n : Int) : evBuild Try.prog 121 [(0, .int .i64 va), (1, .int .i64 n)] = some (.agg (Mp.enc ⟨va, n, 0, 0, 0, false⟩)) := by kernel_rfl
@[go_sem] theorem build_Mp_0_  : evBuild Try.prog 121 [] = some (.agg (Mp.enc Mp.zero)) := by kernel_rfl
@[go_sem] theorem cut_Mp_1 (x : Mp) : cut Try.prog 163 (Mp.enc x) 0 = some (.agg (Mp.enc x)) := by kernel_rfl
@[go_sem] theorem zeros_Mp_1 : zeros Try.prog 163 = some (Mp.enc Mp.zero) := by kernel_rfl
@[go_sem] theorem field_Mp_1_0 : fieldOf Try.prog 163 0 = some (3, 0) := by kernel_rfl
@[go_sem] theorem field_Mp_1_1 : fieldOf Try.prog 163 1 = some (3, 1) := by kernel_rfl
@[go_sem] theorem field_Mp_1_2 : fieldOf Try.prog 163 2 = some (22, 2) := by kernel_rfl
@[go_sem] theorem field_Mp_1_3 : fieldOf Try.prog 163 3 = some (22, 3) := by kernel_rfl
@[go_sem] theorem field_Mp_1_4 : fieldOf Try.prog 163 4 = some (3, 4) := by kernel_rfl
@[go_sem] theorem field_Mp_1_5 : fieldOf Try.prog 163 5 = some (4, 5) := by kernel_rfl
@[go_sem] theorem build_Mp_1_0_1_4 (va : Int) (n : Int) (off : Int) : evBuild Try.prog 163 [(0, .int .i64 va), (1, .int .i64 n), (4, .int .i64 off)] = some (.agg (Mp.enc ⟨va, n, 0, 0, off, false⟩)) := by kernel_rfl
@[go_sem] theorem build_Mp_1_0_1 (va : Int) (n : Int) : evBuild Try.prog 163 [(0, .int .i64 va), (1, .int .i64 n)] = some (.agg (Mp.enc ⟨va, n, 0, 0, 0, false⟩)) := by kernel_rfl
@[go_sem] theorem build_Mp_1_  : evBuild Try.prog 163 [] = some (.agg (Mp.enc Mp.zero)) := by kernel_rfl
@[go_sem] theorem cut_Mp_va_0 (x : Mp) : cut Try.prog 3 (Mp.enc x) 0 = some (.int .i64 x.va) := by kernel_rfl
@[go_sem] theorem spl_Mp_va (x : Mp) (v : Int) : splice (Mp.enc x) 0 ([.int .i64 v]) = Mp.enc { x with va := v } := by kernel_rfl
@[go_sem] theorem cut_Mp_n_0 (x : Mp) : cut Try.prog 3 (Mp.enc x) 1 = some (.int .i64 x.n) := by kernel_rfl
@[go_sem] theorem spl_Mp_n (x : Mp) (v : Int) : splice (Mp.enc x) 1 ([.int .i64 v]) = Mp.enc { x with n := v } := by kernel_rfl
@[go_sem] theorem cut_Mp_cont_0 (x : Mp) : cut Try.prog 22 (Mp.enc x) 2 = some (.int .u64 x.cont) := by kernel_rfl
@[go_sem] theorem spl_Mp_cont (x : Mp) (v : Int) : splice (Mp.enc x) 2 ([.int .u64 v]) = Mp.enc { x with cont := v } := by kernel_rfl
@[go_sem] theorem cut_Mp_seg_0 (x : Mp) : cut Try.prog 22 (Mp.enc x) 3 = some (.int .u64 x.seg) := by kernel_rfl
@[go_sem] theorem spl_Mp_seg (x : Mp) (v : Int) : splice (Mp.enc x) 3 ([.int .u64 v]) = Mp.enc { x with seg := v } := by kernel_rfl
@[go_sem] theorem cut_Mp_off_0 (x : Mp) : cut Try.prog 3 (Mp.enc x) 4 = some (.int .i64 x.off) := by kernel_rfl
@[go_sem] theorem spl_Mp_off (x : Mp) (v : Int) : splice (Mp.enc x) 4 ([.int .i64 v]) = Mp.enc { x with off := v } := by kernel_rfl
@[go_sem] theorem cut_Mp_write_0 (x : Mp) : cut Try.prog 4 (Mp.enc x) 5 = some (.bool x.write) := by kernel_rfl
@[go_sem] theorem spl_Mp_write (x : Mp) (v : Bool) : splice (Mp.enc x) 5 ([.bool v]) = Mp.enc { x with write := v } := by kernel_rfl
@[go_sem] theorem spl_Mp_ (x v : Mp) : splice (Mp.enc x) 0 (Mp.enc v) = Mp.enc v := by kernel_rfl
theorem Mp.bdl (S : Nat → Prop) (x : Mp) : ∀ p ∈ Mp.enc x, Bd S p := by
  unfold Mp.enc
  simp only [List.mem_append, or_imp, forall_and, List.forall_mem_cons, List.not_mem_nil, false_imp_iff, implies_true, and_true, List.forall_mem_nil, List.cons_append, List.nil_append, arr, List.mem_flatMap, forall_exists_index, and_imp]
  and_intros <;> first | exact Bd.int _ _ | exact Bd.bool _ | exact Bd.sl _ (by intro e he; obtain ⟨y, _, rfl⟩ := List.mem_map.1 he; first | with_reducible exact u64_bdl _ _ | with_reducible exact Pr.bdl _ _ | with_reducible exact Mp.bdl _ _ | with_reducible exact Ob.bdl _ _) | with_reducible exact Rf.bdl _ _ | with_reducible exact Wt.bdl _ _ | with_reducible exact Sp.bdl _ _ | with_reducible exact Th.bdl _ _ | with_reducible exact Gt.bdl _ _ | (intro p i _ hp; first | (simp only [List.mem_cons, List.not_mem_nil, or_false] at hp; subst hp; first | exact Bd.int _ _ | exact Bd.sl _ (by intro e he; obtain ⟨y, _, rfl⟩ := List.mem_map.1 he; exact Pr.bdl _ _)))
@[go_sem] theorem Mp.bdL (S : Nat → Prop) (x : Mp) : BdL S (Mp.enc x) = True := eq_true (Mp.bdl S x)
@[go_sem] theorem Mp.bdS (S : Nat → Prop) (l : List Mp) : Bd S (.sl (List.map Mp.enc l)) = True := Bd_slm (Mp.bdl S) l
structure Rf where
  cont : Int
  id : Int
  deriving DecidableEq, Inhabited
def Rf.enc (x : Rf) : List PV := [.int .u64 x.cont] ++ [.int .u64 x.id]
def Rf.zero : Rf := ⟨0, 0⟩
@[go_sem] theorem Rf.len (x : Rf) : (Rf.enc x).length = 2 := by kernel_rfl
@[go_sem] theorem Rf.cells (x : Rf) : PV.cells? (.agg (Rf.enc x)) = some (Rf.enc x) := rfl
@[go_sem] theorem cut_Rf_0 (x : Rf) : cut Try.prog 27 (Rf.enc x) 0 = some (.agg (Rf.enc x)) := by kernel_rfl
@[go_sem] theorem zeros_Rf_0 : zeros Try.prog 27 = some (Rf.enc Rf.zero) := by kernel_rfl
@[go_sem] theorem field_Rf_0_0 : fieldOf Try.prog 27 0 = some (22, 0) := by kernel_rfl
@[go_sem] theorem field_Rf_0_1 : fieldOf Try.prog 27 1 = some (22, 1) := by kernel_rfl
@[go_sem] theorem cut_Rf_cont_0 (x : Rf) : cut Try.prog 22 (Rf.enc x) 0 = some (.int .u64 x.cont) := by kernel_rfl
@[go_sem] theorem spl_Rf_cont (x : Rf) (v : Int) : splice (Rf.enc x) 0 ([.int .u64 v]) = Rf.enc { x with cont := v } := by kernel_rfl
@[go_sem] theorem cut_Rf_id_0 (x : Rf) : cut Try.prog 22 (Rf.enc x) 1 = some (.int .u64 x.id) := by kernel_rfl
@[go_sem] theorem spl_Rf_id (x : Rf) (v : Int) : splice (Rf.enc x) 1 ([.int .u64 v]) = Rf.enc { x with id := v } := by kernel_rfl
@[go_sem] theorem spl_Rf_ (x v : Rf) : splice (Rf.enc x) 0 (Rf.enc v) = Rf.enc v := by kernel_rfl
theorem Rf.bdl (S : Nat → Prop) (x : Rf) : ∀ p ∈ Rf.enc x, Bd S p := by
  unfold Rf.enc
  simp only [List.mem_append, or_imp, forall_and, List.forall_mem_cons, List.not_mem_nil, false_imp_iff, implies_true, and_true, List.forall_mem_nil, List.cons_append, List.nil_append, arr, List.mem_flatMap, forall_exists_index, and_imp]
  and_intros <;> first | exact Bd.int _ _ | exact Bd.bool _ | exact Bd.sl _ (by intro e he; obtain ⟨y, _, rfl⟩ := List.mem_map.1 he; first | with_reducible exact u64_bdl _ _ | with_reducible exact Pr.bdl _ _ | with_reducible exact Mp.bdl _ _ | with_reducible exact Ob.bdl _ _) | with_reducible exact Rf.bdl _ _ | with_reducible exact Wt.bdl _ _ | with_reducible exact Sp.bdl _ _ | with_reducible exact Th.bdl _ _ | with_reducible exact Gt.bdl _ _ | (intro p i _ hp; first | (simp only [List.mem_cons, List.not_mem_nil, or_false] at hp; subst hp; first | exact Bd.int _ _ | exact Bd.sl _ (by intro e he; obtain ⟨y, _, rfl⟩ := List.mem_map.1 he; exact Pr.bdl _ _)))
@[go_sem] theorem Rf.bdL (S : Nat → Prop) (x : Rf) : BdL S (Rf.enc x) = True := eq_true (Rf.bdl S x)
@[go_sem] theorem Rf.bdS (S : Nat → Prop) (l : List Rf) : Bd S (.sl (List.map Rf.enc l)) = True := Bd_slm (Rf.bdl S) l
structure Wt where
  ref : Rf
  index : Int
  val : Int
  dev : Bool
  deriving DecidableEq, Inhabited
def Wt.enc (x : Wt) : List PV := Rf.enc x.ref ++ [.int .u64 x.index] ++ [.int .u64 x.val] ++ [.bool x.dev]
def Wt.zero : Wt := ⟨Rf.zero, 0, 0, false⟩
@[go_sem] theorem Wt.len (x : Wt) : (Wt.enc x).length = 5 := by kernel_rfl
@[go_sem] theorem Wt.cells (x : Wt) : PV.cells? (.agg (Wt.enc x)) = some (Wt.enc x) := rfl
@[go_sem] theorem cut_Wt_0 (x : Wt) : cut Try.prog 29 (Wt.enc x) 0 = some (.agg (Wt.enc x)) := by kernel_rfl
@[go_sem] theorem zeros_Wt_0 : zeros Try.prog 29 = some (Wt.enc Wt.zero) := by kernel_rfl
@[go_sem] theorem field_Wt_0_0 : fieldOf Try.prog 29 0 = some (27, 0) := by kernel_rfl
@[go_sem] theorem field_Wt_0_1 : fieldOf Try.prog 29 1 = some (22, 2) := by kernel_rfl
@[go_sem] theorem field_Wt_0_2 : fieldOf Try.prog 29 2 = some (22, 3) := by kernel_rfl
@[go_sem] theorem field_Wt_0_3 : fieldOf Try.prog 29 3 = some (4, 4) := by kernel_rfl
@[go_sem] theorem build_Wt_0_  : evBuild Try.prog 29 [] = some (.agg (Wt.enc Wt.zero)) := by kernel_rfl
@[go_sem] theorem spl_Wt_ref (x : Wt) (v : Rf) : splice (Wt.enc x) 0 (Rf.enc v) = Wt.enc { x with ref := v } := by kernel_rfl
@[go_sem] theorem cut_Wt_ref_cont_0 (x : Wt) : cut Try.prog 22 (Wt.enc x) 0 = some (.int .u64 x.ref.cont) := by kernel_rfl
@[go_sem] theorem spl_Wt_ref_cont (x : Wt) (v : Int) : splice (Wt.enc x) 0 ([.int .u64 v]) = Wt.enc { x with ref := { x.ref with cont := v } } := by kernel_rfl
@[go_sem] theorem cut_Wt_ref_id_0 (x : Wt) : cut Try.prog 22 (Wt.enc x) 1 = some (.int .u64 x.ref.id) := by kernel_rfl
@[go_sem] theorem spl_Wt_ref_id (x : Wt) (v : Int) : splice (Wt.enc x) 1 ([.int .u64 v]) = Wt.enc { x with ref := { x.ref with id := v } } := by kernel_rfl
@[go_sem] theorem cut_Wt_index_0 (x : Wt) : cut Try.prog 22 (Wt.enc x) 2 = some (.int .u64 x.index) := by kernel_rfl
@[go_sem] theorem spl_Wt_index (x : Wt) (v : Int) : splice (Wt.enc x) 2 ([.int .u64 v]) = Wt.enc { x with index := v } := by kernel_rfl
@[go_sem] theorem cut_Wt_val_0 (x : Wt) : cut Try.prog 22 (Wt.enc x) 3 = some (.int .u64 x.val) := by kernel_rfl
@[go_sem] theorem spl_Wt_val (x : Wt) (v : Int) : splice (Wt.enc x) 3 ([.int .u64 v]) = Wt.enc { x with val := v } := by kernel_rfl
@[go_sem] theorem cut_Wt_dev_0 (x : Wt) : cut Try.prog 4 (Wt.enc x) 4 = some (.bool x.dev) := by kernel_rfl
@[go_sem] theorem spl_Wt_dev (x : Wt) (v : Bool) : splice (Wt.enc x) 4 ([.bool v]) = Wt.enc { x with dev := v } := by kernel_rfl
@[go_sem] theorem spl_Wt_ (x v : Wt) : splice (Wt.enc x) 0 (Wt.enc v) = Wt.enc v := by kernel_rfl
theorem Wt.bdl (S : Nat → Prop) (x : Wt) : ∀ p ∈ Wt.enc x, Bd S p := by
  unfold Wt.enc
  simp only [List.mem_append, or_imp, forall_and, List.forall_mem_cons, List.not_mem_nil, false_imp_iff, implies_true, and_true, List.forall_mem_nil, List.cons_append, List.nil_append, arr, List.mem_flatMap, forall_exists_index, and_imp]
  and_intros <;> first | exact Bd.int _ _ | exact Bd.bool _ | exact Bd.sl _ (by intro e he; obtain ⟨y, _, rfl⟩ := List.mem_map.1 he; first | with_reducible exact u64_bdl _ _ | with_reducible exact Pr.bdl _ _ | with_reducible exact Mp.bdl _ _ | with_reducible exact Ob.bdl _ _) | with_reducible exact Rf.bdl _ _ | with_reducible exact Wt.bdl _ _ | with_reducible exact Sp.bdl _ _ | with_reducible exact Th.bdl _ _ | with_reducible exact Gt.bdl _ _ | (intro p i _ hp; first | (simp only [List.mem_cons, List.not_mem_nil, or_false] at hp; subst hp; first | exact Bd.int _ _ | exact Bd.sl _ (by intro e he; obtain ⟨y, _, rfl⟩ := List.mem_map.1 he; exact Pr.bdl _ _)))
@[go_sem] theorem Wt.bdL (S : Nat → Prop) (x : Wt) : BdL S (Wt.enc x) = True := eq_true (Wt.bdl S x)
@[go_sem] theorem Wt.bdS (S : Nat → Prop) (l : List Wt) : Bd S (.sl (List.map Wt.enc l)) = True := Bd_slm (Wt.bdl S) l
structure Sp where
  lo : Int
  hi : Int
  deriving DecidableEq, Inhabited
def Sp.enc (x : Sp) : List PV := [.int .u64 x.lo] ++ [.int .u64 x.hi]
def Sp.zero : Sp := ⟨0, 0⟩
@[go_sem] theorem Sp.len (x : Sp) : (Sp.enc x).length = 2 := by kernel_rfl
@[go_sem] theorem Sp.cells (x : Sp) : PV.cells? (.agg (Sp.enc x)) = some (Sp.enc x) := rfl
@[go_sem] theorem cut_Sp_0 (x : Sp) : cut Try.prog 32 (Sp.enc x) 0 = some (.agg (Sp.enc x)) := by kernel_rfl
@[go_sem] theorem zeros_Sp_0 : zeros Try.prog 32 = some (Sp.enc Sp.zero) := by kernel_rfl
@[go_sem] theorem field_Sp_0_0 : fieldOf Try.prog 32 0 = some (22, 0) := by kernel_rfl
@[go_sem] theorem field_Sp_0_1 : fieldOf Try.prog 32 1 = some (22, 1) := by kernel_rfl
@[go_sem] theorem cut_Sp_lo_0 (x : Sp) : cut Try.prog 22 (Sp.enc x) 0 = some (.int .u64 x.lo) := by kernel_rfl
@[go_sem] theorem spl_Sp_lo (x : Sp) (v : Int) : splice (Sp.enc x) 0 ([.int .u64 v]) = Sp.enc { x with lo := v } := by kernel_rfl
@[go_sem] theorem cut_Sp_hi_0 (x : Sp) : cut Try.prog 22 (Sp.enc x) 1 = some (.int .u64 x.hi) := by kernel_rfl
@[go_sem] theorem spl_Sp_hi (x : Sp) (v : Int) : splice (Sp.enc x) 1 ([.int .u64 v]) = Sp.enc { x with hi := v } := by kernel_rfl
@[go_sem] theorem spl_Sp_ (x v : Sp) : splice (Sp.enc x) 0 (Sp.enc v) = Sp.enc v := by kernel_rfl
theorem Sp.bdl (S : Nat → Prop) (x : Sp) : ∀ p ∈ Sp.enc x, Bd S p := by
  unfold Sp.enc
  simp only [List.mem_append, or_imp, forall_and, List.forall_mem_cons, List.not_mem_nil, false_imp_iff, implies_true, and_true, List.forall_mem_nil, List.cons_append, List.nil_append, arr, List.mem_flatMap, forall_exists_index, and_imp]
  and_intros <;> first | exact Bd.int _ _ | exact Bd.bool _ | exact Bd.sl _ (by intro e he; obtain ⟨y, _, rfl⟩ := List.mem_map.1 he; first | with_reducible exact u64_bdl _ _ | with_reducible exact Pr.bdl _ _ | with_reducible exact Mp.bdl _ _ | with_reducible exact Ob.bdl _ _) | with_reducible exact Rf.bdl _ _ | with_reducible exact Wt.bdl _ _ | with_reducible exact Sp.bdl _ _ | with_reducible exact Th.bdl _ _ | with_reducible exact Gt.bdl _ _ | (intro p i _ hp; first | (simp only [List.mem_cons, List.not_mem_nil, or_false] at hp; subst hp; first | exact Bd.int _ _ | exact Bd.sl _ (by intro e he; obtain ⟨y, _, rfl⟩ := List.mem_map.1 he; exact Pr.bdl _ _)))
@[go_sem] theorem Sp.bdL (S : Nat → Prop) (x : Sp) : BdL S (Sp.enc x) = True := eq_true (Sp.bdl S x)
@[go_sem] theorem Sp.bdS (S : Nat → Prop) (l : List Sp) : Bd S (.sl (List.map Sp.enc l)) = True := Bd_slm (Sp.bdl S) l
structure Th where
  regs : Nat → Int
  pc : Int
  clear : List Pr
  space : Rf
  handler : Int
  vector : Int
  state : Int
  wait : Wt
  alerts : List Int
  span : Sp
  labs : Nat → List Pr
  deriving Inhabited
def Th.enc (x : Th) : List PV := arr 16 (fun i => [.int .u64 (x.regs i)]) ++ [.int .u64 x.pc] ++ [.sl (List.map Pr.enc x.clear)] ++ Rf.enc x.space ++ [.int .u64 x.handler] ++ [.int .u64 x.vector] ++ [.int .i64 x.state] ++ Wt.enc x.wait ++ [.sl (List.map u64 x.alerts)] ++ Sp.enc x.span ++ arr 4 (fun i => [.sl (List.map Pr.enc (x.labs i))])
def Th.zero : Th := ⟨fun _ => 0, 0, [], Rf.zero, 0, 0, 0, Wt.zero, [], Sp.zero, fun _ => []⟩
@[go_sem] theorem Th.len (x : Th) : (Th.enc x).length = 35 := by kernel_rfl
@[go_sem] theorem Th.cells (x : Th) : PV.cells? (.agg (Th.enc x)) = some (Th.enc x) := rfl
@[go_sem] theorem cut_Th_0 (x : Th) : cut Try.prog 35 (Th.enc x) 0 = some (.agg (Th.enc x)) := by kernel_rfl
@[go_sem] theorem zeros_Th_0 : zeros Try.prog 35 = some (Th.enc Th.zero) := by kernel_rfl
@[go_sem] theorem field_Th_0_0 : fieldOf Try.prog 35 0 = some (23, 0) := by kernel_rfl
@[go_sem] theorem field_Th_0_1 : fieldOf Try.prog 35 1 = some (22, 16) := by kernel_rfl
@[go_sem] theorem field_Th_0_2 : fieldOf Try.prog 35 2 = some (25, 17) := by kernel_rfl
@[go_sem] theorem field_Th_0_3 : fieldOf Try.prog 35 3 = some (27, 18) := by kernel_rfl
@[go_sem] theorem field_Th_0_4 : fieldOf Try.prog 35 4 = some (22, 20) := by kernel_rfl
@[go_sem] theorem field_Th_0_5 : fieldOf Try.prog 35 5 = some (22, 21) := by kernel_rfl
@[go_sem] theorem field_Th_0_6 : fieldOf Try.prog 35 6 = some (3, 22) := by kernel_rfl
@[go_sem] theorem field_Th_0_7 : fieldOf Try.prog 35 7 = some (29, 23) := by kernel_rfl
@[go_sem] theorem field_Th_0_8 : fieldOf Try.prog 35 8 = some (30, 28) := by kernel_rfl
@[go_sem] theorem field_Th_0_9 : fieldOf Try.prog 35 9 = some (32, 29) := by kernel_rfl
@[go_sem] theorem field_Th_0_10 : fieldOf Try.prog 35 10 = some (33, 31) := by kernel_rfl
@[go_sem] theorem build_Th_0_  : evBuild Try.prog 35 [] = some (.agg (Th.enc Th.zero)) := by kernel_rfl
@[go_sem] theorem cut_Th_regs_0 (x : Th) : cut Try.prog 23 (Th.enc x) 0 = some (.agg (arr 16 (fun i => [.int .u64 (x.regs i)]))) := by kernel_rfl
@[go_sem] theorem cut_Th_regs_at0 (x : Th) : cut Try.prog 22 (Th.enc x) 0 = some (.int .u64 (x.regs 0)) := by kernel_rfl
@[go_sem] theorem cut_Th_regs_at1 (x : Th) : cut Try.prog 22 (Th.enc x) 1 = some (.int .u64 (x.regs 1)) := by kernel_rfl
@[go_sem] theorem cut_Th_regs_at2 (x : Th) : cut Try.prog 22 (Th.enc x) 2 = some (.int .u64 (x.regs 2)) := by kernel_rfl
@[go_sem] theorem cut_Th_regs_at3 (x : Th) : cut Try.prog 22 (Th.enc x) 3 = some (.int .u64 (x.regs 3)) := by kernel_rfl
@[go_sem] theorem cut_Th_regs_at4 (x : Th) : cut Try.prog 22 (Th.enc x) 4 = some (.int .u64 (x.regs 4)) := by kernel_rfl
@[go_sem] theorem cut_Th_regs_at5 (x : Th) : cut Try.prog 22 (Th.enc x) 5 = some (.int .u64 (x.regs 5)) := by kernel_rfl
@[go_sem] theorem cut_Th_regs_at6 (x : Th) : cut Try.prog 22 (Th.enc x) 6 = some (.int .u64 (x.regs 6)) := by kernel_rfl
@[go_sem] theorem cut_Th_regs_at7 (x : Th) : cut Try.prog 22 (Th.enc x) 7 = some (.int .u64 (x.regs 7)) := by kernel_rfl
@[go_sem] theorem cut_Th_regs_at8 (x : Th) : cut Try.prog 22 (Th.enc x) 8 = some (.int .u64 (x.regs 8)) := by kernel_rfl
@[go_sem] theorem cut_Th_regs_at9 (x : Th) : cut Try.prog 22 (Th.enc x) 9 = some (.int .u64 (x.regs 9)) := by kernel_rfl
@[go_sem] theorem cut_Th_regs_at10 (x : Th) : cut Try.prog 22 (Th.enc x) 10 = some (.int .u64 (x.regs 10)) := by kernel_rfl
@[go_sem] theorem cut_Th_regs_at11 (x : Th) : cut Try.prog 22 (Th.enc x) 11 = some (.int .u64 (x.regs 11)) := by kernel_rfl
@[go_sem] theorem cut_Th_regs_at12 (x : Th) : cut Try.prog 22 (Th.enc x) 12 = some (.int .u64 (x.regs 12)) := by kernel_rfl
@[go_sem] theorem cut_Th_regs_at13 (x : Th) : cut Try.prog 22 (Th.enc x) 13 = some (.int .u64 (x.regs 13)) := by kernel_rfl
@[go_sem] theorem cut_Th_regs_at14 (x : Th) : cut Try.prog 22 (Th.enc x) 14 = some (.int .u64 (x.regs 14)) := by kernel_rfl
@[go_sem] theorem cut_Th_regs_at15 (x : Th) : cut Try.prog 22 (Th.enc x) 15 = some (.int .u64 (x.regs 15)) := by kernel_rfl
@[go_sem] theorem spl_Th_regs (x : Th) (v : Nat → Int) : splice (Th.enc x) 0 (arr 16 (fun i => [.int .u64 (v i)])) = Th.enc { x with regs := v } := by kernel_rfl
@[go_sem] theorem cut_Th_pc_0 (x : Th) : cut Try.prog 22 (Th.enc x) 16 = some (.int .u64 x.pc) := by kernel_rfl
@[go_sem] theorem spl_Th_pc (x : Th) (v : Int) : splice (Th.enc x) 16 ([.int .u64 v]) = Th.enc { x with pc := v } := by kernel_rfl
@[go_sem] theorem cut_Th_clear_0 (x : Th) : cut Try.prog 25 (Th.enc x) 17 = some (.sl (List.map Pr.enc x.clear)) := by kernel_rfl
@[go_sem] theorem spl_Th_clear (x : Th) (v : List Pr) : splice (Th.enc x) 17 ([.sl (List.map Pr.enc v)]) = Th.enc { x with clear := v } := by kernel_rfl
@[go_sem] theorem spl0_Th_clear (x : Th) : splice (Th.enc x) 17 [.sl []] = Th.enc { x with clear := [] } := by kernel_rfl
@[go_sem] theorem cut_Th_space_0 (x : Th) : cut Try.prog 27 (Th.enc x) 18 = some (.agg (Rf.enc x.space)) := by kernel_rfl
@[go_sem] theorem spl_Th_space (x : Th) (v : Rf) : splice (Th.enc x) 18 (Rf.enc v) = Th.enc { x with space := v } := by kernel_rfl
@[go_sem] theorem cut_Th_space_cont_0 (x : Th) : cut Try.prog 22 (Th.enc x) 18 = some (.int .u64 x.space.cont) := by kernel_rfl
@[go_sem] theorem spl_Th_space_cont (x : Th) (v : Int) : splice (Th.enc x) 18 ([.int .u64 v]) = Th.enc { x with space := { x.space with cont := v } } := by kernel_rfl
@[go_sem] theorem cut_Th_space_id_0 (x : Th) : cut Try.prog 22 (Th.enc x) 19 = some (.int .u64 x.space.id) := by kernel_rfl
@[go_sem] theorem spl_Th_space_id (x : Th) (v : Int) : splice (Th.enc x) 19 ([.int .u64 v]) = Th.enc { x with space := { x.space with id := v } } := by kernel_rfl
@[go_sem] theorem cut_Th_handler_0 (x : Th) : cut Try.prog 22 (Th.enc x) 20 = some (.int .u64 x.handler) := by kernel_rfl
@[go_sem] theorem spl_Th_handler (x : Th) (v : Int) : splice (Th.enc x) 20 ([.int .u64 v]) = Th.enc { x with handler := v } := by kernel_rfl
@[go_sem] theorem cut_Th_vector_0 (x : Th) : cut Try.prog 22 (Th.enc x) 21 = some (.int .u64 x.vector) := by kernel_rfl
@[go_sem] theorem spl_Th_vector (x : Th) (v : Int) : splice (Th.enc x) 21 ([.int .u64 v]) = Th.enc { x with vector := v } := by kernel_rfl
@[go_sem] theorem cut_Th_state_0 (x : Th) : cut Try.prog 3 (Th.enc x) 22 = some (.int .i64 x.state) := by kernel_rfl
@[go_sem] theorem spl_Th_state (x : Th) (v : Int) : splice (Th.enc x) 22 ([.int .i64 v]) = Th.enc { x with state := v } := by kernel_rfl
@[go_sem] theorem cut_Th_wait_0 (x : Th) : cut Try.prog 29 (Th.enc x) 23 = some (.agg (Wt.enc x.wait)) := by kernel_rfl
@[go_sem] theorem spl_Th_wait (x : Th) (v : Wt) : splice (Th.enc x) 23 (Wt.enc v) = Th.enc { x with wait := v } := by kernel_rfl
@[go_sem] theorem cut_Th_wait_ref_0 (x : Th) : cut Try.prog 27 (Th.enc x) 23 = some (.agg (Rf.enc x.wait.ref)) := by kernel_rfl
@[go_sem] theorem spl_Th_wait_ref (x : Th) (v : Rf) : splice (Th.enc x) 23 (Rf.enc v) = Th.enc { x with wait := { x.wait with ref := v } } := by kernel_rfl
@[go_sem] theorem cut_Th_wait_ref_cont_0 (x : Th) : cut Try.prog 22 (Th.enc x) 23 = some (.int .u64 x.wait.ref.cont) := by kernel_rfl
@[go_sem] theorem spl_Th_wait_ref_cont (x : Th) (v : Int) : splice (Th.enc x) 23 ([.int .u64 v]) = Th.enc { x with wait := { x.wait with ref := { x.wait.ref with cont := v } } } := by kernel_rfl
@[go_sem] theorem cut_Th_wait_ref_id_0 (x : Th) : cut Try.prog 22 (Th.enc x) 24 = some (.int .u64 x.wait.ref.id) := by kernel_rfl
@[go_sem] theorem spl_Th_wait_ref_id (x : Th) (v : Int) : splice (Th.enc x) 24 ([.int .u64 v]) = Th.enc { x with wait := { x.wait with ref := { x.wait.ref with id := v } } } := by kernel_rfl
@[go_sem] theorem cut_Th_wait_index_0 (x : Th) : cut Try.prog 22 (Th.enc x) 25 = some (.int .u64 x.wait.index) := by kernel_rfl
@[go_sem] theorem spl_Th_wait_index (x : Th) (v : Int) : splice (Th.enc x) 25 ([.int .u64 v]) = Th.enc { x with wait := { x.wait with index := v } } := by kernel_rfl
@[go_sem] theorem cut_Th_wait_val_0 (x : Th) : cut Try.prog 22 (Th.enc x) 26 = some (.int .u64 x.wait.val) := by kernel_rfl
@[go_sem] theorem spl_Th_wait_val (x : Th) (v : Int) : splice (Th.enc x) 26 ([.int .u64 v]) = Th.enc { x with wait := { x.wait with val := v } } := by kernel_rfl
@[go_sem] theorem cut_Th_wait_dev_0 (x : Th) : cut Try.prog 4 (Th.enc x) 27 = some (.bool x.wait.dev) := by kernel_rfl
@[go_sem] theorem spl_Th_wait_dev (x : Th) (v : Bool) : splice (Th.enc x) 27 ([.bool v]) = Th.enc { x with wait := { x.wait with dev := v } } := by kernel_rfl
@[go_sem] theorem cut_Th_alerts_0 (x : Th) : cut Try.prog 30 (Th.enc x) 28 = some (.sl (List.map u64 x.alerts)) := by kernel_rfl
@[go_sem] theorem spl_Th_alerts (x : Th) (v : List Int) : splice (Th.enc x) 28 ([.sl (List.map u64 v)]) = Th.enc { x with alerts := v } := by kernel_rfl
@[go_sem] theorem spl0_Th_alerts (x : Th) : splice (Th.enc x) 28 [.sl []] = Th.enc { x with alerts := [] } := by kernel_rfl
@[go_sem] theorem cut_Th_span_0 (x : Th) : cut Try.prog 32 (Th.enc x) 29 = some (.agg (Sp.enc x.span)) := by kernel_rfl
@[go_sem] theorem spl_Th_span (x : Th) (v : Sp) : splice (Th.enc x) 29 (Sp.enc v) = Th.enc { x with span := v } := by kernel_rfl
@[go_sem] theorem cut_Th_span_lo_0 (x : Th) : cut Try.prog 22 (Th.enc x) 29 = some (.int .u64 x.span.lo) := by kernel_rfl
@[go_sem] theorem spl_Th_span_lo (x : Th) (v : Int) : splice (Th.enc x) 29 ([.int .u64 v]) = Th.enc { x with span := { x.span with lo := v } } := by kernel_rfl
@[go_sem] theorem cut_Th_span_hi_0 (x : Th) : cut Try.prog 22 (Th.enc x) 30 = some (.int .u64 x.span.hi) := by kernel_rfl
@[go_sem] theorem spl_Th_span_hi (x : Th) (v : Int) : splice (Th.enc x) 30 ([.int .u64 v]) = Th.enc { x with span := { x.span with hi := v } } := by kernel_rfl
@[go_sem] theorem cut_Th_labs_0 (x : Th) : cut Try.prog 33 (Th.enc x) 31 = some (.agg (arr 4 (fun i => [.sl (List.map Pr.enc (x.labs i))]))) := by kernel_rfl
@[go_sem] theorem cut_Th_labs_at0 (x : Th) : cut Try.prog 25 (Th.enc x) 31 = some (.sl (List.map Pr.enc (x.labs 0))) := by kernel_rfl
@[go_sem] theorem cut_Th_labs_at1 (x : Th) : cut Try.prog 25 (Th.enc x) 32 = some (.sl (List.map Pr.enc (x.labs 1))) := by kernel_rfl
@[go_sem] theorem cut_Th_labs_at2 (x : Th) : cut Try.prog 25 (Th.enc x) 33 = some (.sl (List.map Pr.enc (x.labs 2))) := by kernel_rfl
@[go_sem] theorem cut_Th_labs_at3 (x : Th) : cut Try.prog 25 (Th.enc x) 34 = some (.sl (List.map Pr.enc (x.labs 3))) := by kernel_rfl
@[go_sem] theorem spl_Th_labs (x : Th) (v : Nat → List Pr) : splice (Th.enc x) 31 (arr 4 (fun i => [.sl (List.map Pr.enc (v i))])) = Th.enc { x with labs := v } := by kernel_rfl
@[go_sem] theorem spl_Th_ (x v : Th) : splice (Th.enc x) 0 (Th.enc v) = Th.enc v := by kernel_rfl
theorem Th.bdl (S : Nat → Prop) (x : Th) : ∀ p ∈ Th.enc x, Bd S p := by
  unfold Th.enc
  simp only [List.mem_append, or_imp, forall_and, List.forall_mem_cons, List.not_mem_nil, false_imp_iff, implies_true, and_true, List.forall_mem_nil, List.cons_append, List.nil_append, arr, List.mem_flatMap, forall_exists_index, and_imp]
  and_intros <;> first | exact Bd.int _ _ | exact Bd.bool _ | exact Bd.sl _ (by intro e he; obtain ⟨y, _, rfl⟩ := List.mem_map.1 he; first | with_reducible exact u64_bdl _ _ | with_reducible exact Pr.bdl _ _ | with_reducible exact Mp.bdl _ _ | with_reducible exact Ob.bdl _ _) | with_reducible exact Rf.bdl _ _ | with_reducible exact Wt.bdl _ _ | with_reducible exact Sp.bdl _ _ | with_reducible exact Th.bdl _ _ | with_reducible exact Gt.bdl _ _ | (intro p i _ hp; first | (simp only [List.mem_cons, List.not_mem_nil, or_false] at hp; subst hp; first | exact Bd.int _ _ | exact Bd.sl _ (by intro e he; obtain ⟨y, _, rfl⟩ := List.mem_map.1 he; exact Pr.bdl _ _)))
@[go_sem] theorem Th.bdL (S : Nat → Prop) (x : Th) : BdL S (Th.enc x) = True := eq_true (Th.bdl S x)
@[go_sem] theorem Th.bdS (S : Nat → Prop) (l : List Th) : Bd S (.sl (List.map Th.enc l)) = True := Bd_slm (Th.bdl S) l
structure Gt where
  grant : List Pr
  clear : List Pr
  space : Rf
  pc : Int
  arg : Int
  deriving Inhabited
def Gt.enc (x : Gt) : List PV := [.sl (List.map Pr.enc x.grant)] ++ [.sl (List.map Pr.enc x.clear)] ++ Rf.enc x.space ++ [.int .u64 x.pc] ++ [.int .u64 x.arg]
def Gt.zero : Gt := ⟨[], [], Rf.zero, 0, 0⟩
@[go_sem] theorem Gt.len (x : Gt) : (Gt.enc x).length = 6 := by kernel_rfl
@[go_sem] theorem Gt.cells (x : Gt) : PV.cells? (.agg (Gt.enc x)) = some (Gt.enc x) := rfl
@[go_sem] theorem cut_Gt_0 (x : Gt) : cut Try.prog 51 (Gt.enc x) 0 = some (.agg (Gt.enc x)) := by kernel_rfl
@[go_sem] theorem zeros_Gt_0 : zeros Try.prog 51 = some (Gt.enc Gt.zero) := by kernel_rfl
@[go_sem] theorem field_Gt_0_0 : fieldOf Try.prog 51 0 = some (25, 0) := by kernel_rfl
@[go_sem] theorem field_Gt_0_1 : fieldOf Try.prog 51 1 = some (25, 1) := by kernel_rfl
@[go_sem] theorem field_Gt_0_2 : fieldOf Try.prog 51 2 = some (27, 2) := by kernel_rfl
@[go_sem] theorem field_Gt_0_3 : fieldOf Try.prog 51 3 = some (22, 4) := by kernel_rfl
@[go_sem] theorem field_Gt_0_4 : fieldOf Try.prog 51 4 = some (22, 5) := by kernel_rfl
@[go_sem] theorem build_Gt_0_  : evBuild Try.prog 51 [] = some (.agg (Gt.enc Gt.zero)) := by kernel_rfl
@[go_sem] theorem cut_Gt_grant_0 (x : Gt) : cut Try.prog 25 (Gt.enc x) 0 = some (.sl (List.map Pr.enc x.grant)) := by kernel_rfl
@[go_sem] theorem spl_Gt_grant (x : Gt) (v : List Pr) : splice (Gt.enc x) 0 ([.sl (List.map Pr.enc v)]) = Gt.enc { x with grant := v } := by kernel_rfl
@[go_sem] theorem spl0_Gt_grant (x : Gt) : splice (Gt.enc x) 0 [.sl []] = Gt.enc { x with grant := [] } := by kernel_rfl
@[go_sem] theorem cut_Gt_clear_0 (x : Gt) : cut Try.prog 25 (Gt.enc x) 1 = some (.sl (List.map Pr.enc x.clear)) := by kernel_rfl
@[go_sem] theorem spl_Gt_clear (x : Gt) (v : List Pr) : splice (Gt.enc x) 1 ([.sl (List.map Pr.enc v)]) = Gt.enc { x with clear := v } := by kernel_rfl
@[go_sem] theorem spl0_Gt_clear (x : Gt) : splice (Gt.enc x) 1 [.sl []] = Gt.enc { x with clear := [] } := by kernel_rfl
@[go_sem] theorem cut_Gt_space_0 (x : Gt) : cut Try.prog 27 (Gt.enc x) 2 = some (.agg (Rf.enc x.space)) := by kernel_rfl
@[go_sem] theorem spl_Gt_space (x : Gt) (v : Rf) : splice (Gt.enc x) 2 (Rf.enc v) = Gt.enc { x with space := v } := by kernel_rfl
@[go_sem] theorem cut_Gt_space_cont_0 (x : Gt) : cut Try.prog 22 (Gt.enc x) 2 = some (.int .u64 x.space.cont) := by kernel_rfl
@[go_sem] theorem spl_Gt_space_cont (x : Gt) (v : Int) : splice (Gt.enc x) 2 ([.int .u64 v]) = Gt.enc { x with space := { x.space with cont := v } } := by kernel_rfl
@[go_sem] theorem cut_Gt_space_id_0 (x : Gt) : cut Try.prog 22 (Gt.enc x) 3 = some (.int .u64 x.space.id) := by kernel_rfl
@[go_sem] theorem spl_Gt_space_id (x : Gt) (v : Int) : splice (Gt.enc x) 3 ([.int .u64 v]) = Gt.enc { x with space := { x.space with id := v } } := by kernel_rfl
@[go_sem] theorem cut_Gt_pc_0 (x : Gt) : cut Try.prog 22 (Gt.enc x) 4 = some (.int .u64 x.pc) := by kernel_rfl
@[go_sem] theorem spl_Gt_pc (x : Gt) (v : Int) : splice (Gt.enc x) 4 ([.int .u64 v]) = Gt.enc { x with pc := v } := by kernel_rfl
@[go_sem] theorem cut_Gt_arg_0 (x : Gt) : cut Try.prog 22 (Gt.enc x) 5 = some (.int .u64 x.arg) := by kernel_rfl
@[go_sem] theorem spl_Gt_arg (x : Gt) (v : Int) : splice (Gt.enc x) 5 ([.int .u64 v]) = Gt.enc { x with arg := v } := by kernel_rfl
@[go_sem] theorem spl_Gt_ (x v : Gt) : splice (Gt.enc x) 0 (Gt.enc v) = Gt.enc v := by kernel_rfl
theorem Gt.bdl (S : Nat → Prop) (x : Gt) : ∀ p ∈ Gt.enc x, Bd S p := by
  unfold Gt.enc
  simp only [List.mem_append, or_imp, forall_and, List.forall_mem_cons, List.not_mem_nil, false_imp_iff, implies_true, and_true, List.forall_mem_nil, List.cons_append, List.nil_append, arr, List.mem_flatMap, forall_exists_index, and_imp]
  and_intros <;> first | exact Bd.int _ _ | exact Bd.bool _ | exact Bd.sl _ (by intro e he; obtain ⟨y, _, rfl⟩ := List.mem_map.1 he; first | with_reducible exact u64_bdl _ _ | with_reducible exact Pr.bdl _ _ | with_reducible exact Mp.bdl _ _ | with_reducible exact Ob.bdl _ _) | with_reducible exact Rf.bdl _ _ | with_reducible exact Wt.bdl _ _ | with_reducible exact Sp.bdl _ _ | with_reducible exact Th.bdl _ _ | with_reducible exact Gt.bdl _ _ | (intro p i _ hp; first | (simp only [List.mem_cons, List.not_mem_nil, or_false] at hp; subst hp; first | exact Bd.int _ _ | exact Bd.sl _ (by intro e he; obtain ⟨y, _, rfl⟩ := List.mem_map.1 he; exact Pr.bdl _ _)))
@[go_sem] theorem Gt.bdL (S : Nat → Prop) (x : Gt) : BdL S (Gt.enc x) = True := eq_true (Gt.bdl S x)
@[go_sem] theorem Gt.bdS (S : Nat → Prop) (l : List Gt) : Bd S (.sl (List.map Gt.enc l)) = True := Bd_slm (Gt.bdl S) l
structure Ob where
  id : Int
  kind : Int
  label : List Pr
  quota : Int
  fixed : Bool
  links : List Int
  data : List Int
  maps : List Mp
  thread : Th
  gate : Gt
  inn : List Int
  out : List Int
  deriving Inhabited
def Ob.enc (x : Ob) : List PV := [.int .u64 x.id] ++ [.int .i64 x.kind] ++ [.sl (List.map Pr.enc x.label)] ++ [.int .i64 x.quota] ++ [.bool x.fixed] ++ [.sl (List.map u64 x.links)] ++ [.sl (List.map u64 x.data)] ++ [.sl (List.map Mp.enc x.maps)] ++ Th.enc x.thread ++ Gt.enc x.gate ++ [.sl (List.map u64 x.inn)] ++ [.sl (List.map u64 x.out)]
def Ob.zero : Ob := ⟨0, 0, [], 0, false, [], [], [], Th.zero, Gt.zero, [], []⟩
@[go_sem] theorem Ob.len (x : Ob) : (Ob.enc x).length = 51 := by kernel_rfl
@[go_sem] theorem Ob.cells (x : Ob) : PV.cells? (.agg (Ob.enc x)) = some (Ob.enc x) := rfl
@[go_sem] theorem cut_Ob_0 (x : Ob) : cut Try.prog 53 (Ob.enc x) 0 = some (.agg (Ob.enc x)) := by kernel_rfl
@[go_sem] theorem zeros_Ob_0 : zeros Try.prog 53 = some (Ob.enc Ob.zero) := by kernel_rfl
@[go_sem] theorem field_Ob_0_0 : fieldOf Try.prog 53 0 = some (22, 0) := by kernel_rfl
@[go_sem] theorem field_Ob_0_1 : fieldOf Try.prog 53 1 = some (3, 1) := by kernel_rfl
@[go_sem] theorem field_Ob_0_2 : fieldOf Try.prog 53 2 = some (25, 2) := by kernel_rfl
@[go_sem] theorem field_Ob_0_3 : fieldOf Try.prog 53 3 = some (3, 3) := by kernel_rfl
@[go_sem] theorem field_Ob_0_4 : fieldOf Try.prog 53 4 = some (4, 4) := by kernel_rfl
@[go_sem] theorem field_Ob_0_5 : fieldOf Try.prog 53 5 = some (30, 5) := by kernel_rfl
@[go_sem] theorem field_Ob_0_6 : fieldOf Try.prog 53 6 = some (30, 6) := by kernel_rfl
@[go_sem] theorem field_Ob_0_7 : fieldOf Try.prog 53 7 = some (49, 7) := by kernel_rfl
@[go_sem] theorem field_Ob_0_8 : fieldOf Try.prog 53 8 = some (35, 8) := by kernel_rfl
@[go_sem] theorem field_Ob_0_9 : fieldOf Try.prog 53 9 = some (51, 43) := by kernel_rfl
@[go_sem] theorem field_Ob_0_10 : fieldOf Try.prog 53 10 = some (30, 49) := by kernel_rfl
@[go_sem] theorem field_Ob_0_11 : fieldOf Try.prog 53 11 = some (30, 50) := by kernel_rfl
@[go_sem] theorem build_Ob_0_0_1_3 (id : Int) (kind : Int) (quota : Int) : evBuild Try.prog 53 [(0, .int .u64 id), (1, .int .i64 kind), (3, .int .i64 quota)] = some (.agg (Ob.enc ⟨id, kind, [], quota, false, [], [], [], Th.zero, Gt.zero, [], []⟩)) := by kernel_rfl
@[go_sem] theorem build_Ob_0_0_1_3_2 (id : Int) (kind : Int) (quota : Int) (label : List Pr) : evBuild Try.prog 53 [(0, .int .u64 id), (1, .int .i64 kind), (3, .int .i64 quota), (2, .sl (List.map Pr.enc label))] = some (.agg (Ob.enc ⟨id, kind, label, quota, false, [], [], [], Th.zero, Gt.zero, [], []⟩)) := by kernel_rfl
@[go_sem] theorem build_Ob_0_0_1_3_6 (id : Int) (kind : Int) (quota : Int) (data : List Int) : evBuild Try.prog 53 [(0, .int .u64 id), (1, .int .i64 kind), (3, .int .i64 quota), (6, .sl (List.map u64 data))] = some (.agg (Ob.enc ⟨id, kind, [], quota, false, [], data, [], Th.zero, Gt.zero, [], []⟩)) := by kernel_rfl
@[go_sem] theorem build_Ob_0_0_1_2_3_4 (id : Int) (kind : Int) (label : List Pr) (quota : Int) (fixed : Bool) : evBuild Try.prog 53 [(0, .int .u64 id), (1, .int .i64 kind), (2, .sl (List.map Pr.enc label)), (3, .int .i64 quota), (4, .bool fixed)] = some (.agg (Ob.enc ⟨id, kind, label, quota, fixed, [], [], [], Th.zero, Gt.zero, [], []⟩)) := by kernel_rfl
@[go_sem] theorem build_Ob_0_0_1_3_4 (id : Int) (kind : Int) (quota : Int) (fixed : Bool) : evBuild Try.prog 53 [(0, .int .u64 id), (1, .int .i64 kind), (3, .int .i64 quota), (4, .bool fixed)] = some (.agg (Ob.enc ⟨id, kind, [], quota, fixed, [], [], [], Th.zero, Gt.zero, [], []⟩)) := by kernel_rfl
@[go_sem] theorem build_Ob_0_  : evBuild Try.prog 53 [] = some (.agg (Ob.enc Ob.zero)) := by kernel_rfl
@[go_sem] theorem build_Ob_0_0_1_2_3_6 (id : Int) (kind : Int) (label : List Pr) (quota : Int) (data : List Int) : evBuild Try.prog 53 [(0, .int .u64 id), (1, .int .i64 kind), (2, .sl (List.map Pr.enc label)), (3, .int .i64 quota), (6, .sl (List.map u64 data))] = some (.agg (Ob.enc ⟨id, kind, label, quota, false, [], data, [], Th.zero, Gt.zero, [], []⟩)) := by kernel_rfl
@[go_sem] theorem cut_Ob_id_0 (x : Ob) : cut Try.prog 22 (Ob.enc x) 0 = some (.int .u64 x.id) := by kernel_rfl
@[go_sem] theorem spl_Ob_id (x : Ob) (v : Int) : splice (Ob.enc x) 0 ([.int .u64 v]) = Ob.enc { x with id := v } := by kernel_rfl
@[go_sem] theorem cut_Ob_kind_0 (x : Ob) : cut Try.prog 3 (Ob.enc x) 1 = some (.int .i64 x.kind) := by kernel_rfl
@[go_sem] theorem spl_Ob_kind (x : Ob) (v : Int) : splice (Ob.enc x) 1 ([.int .i64 v]) = Ob.enc { x with kind := v } := by kernel_rfl
@[go_sem] theorem cut_Ob_label_0 (x : Ob) : cut Try.prog 25 (Ob.enc x) 2 = some (.sl (List.map Pr.enc x.label)) := by kernel_rfl
@[go_sem] theorem spl_Ob_label (x : Ob) (v : List Pr) : splice (Ob.enc x) 2 ([.sl (List.map Pr.enc v)]) = Ob.enc { x with label := v } := by kernel_rfl
@[go_sem] theorem spl0_Ob_label (x : Ob) : splice (Ob.enc x) 2 [.sl []] = Ob.enc { x with label := [] } := by kernel_rfl
@[go_sem] theorem cut_Ob_quota_0 (x : Ob) : cut Try.prog 3 (Ob.enc x) 3 = some (.int .i64 x.quota) := by kernel_rfl
@[go_sem] theorem spl_Ob_quota (x : Ob) (v : Int) : splice (Ob.enc x) 3 ([.int .i64 v]) = Ob.enc { x with quota := v } := by kernel_rfl
@[go_sem] theorem cut_Ob_fixed_0 (x : Ob) : cut Try.prog 4 (Ob.enc x) 4 = some (.bool x.fixed) := by kernel_rfl
@[go_sem] theorem spl_Ob_fixed (x : Ob) (v : Bool) : splice (Ob.enc x) 4 ([.bool v]) = Ob.enc { x with fixed := v } := by kernel_rfl
@[go_sem] theorem cut_Ob_links_0 (x : Ob) : cut Try.prog 30 (Ob.enc x) 5 = some (.sl (List.map u64 x.links)) := by kernel_rfl
@[go_sem] theorem spl_Ob_links (x : Ob) (v : List Int) : splice (Ob.enc x) 5 ([.sl (List.map u64 v)]) = Ob.enc { x with links := v } := by kernel_rfl
@[go_sem] theorem spl0_Ob_links (x : Ob) : splice (Ob.enc x) 5 [.sl []] = Ob.enc { x with links := [] } := by kernel_rfl
@[go_sem] theorem cut_Ob_data_0 (x : Ob) : cut Try.prog 30 (Ob.enc x) 6 = some (.sl (List.map u64 x.data)) := by kernel_rfl
@[go_sem] theorem spl_Ob_data (x : Ob) (v : List Int) : splice (Ob.enc x) 6 ([.sl (List.map u64 v)]) = Ob.enc { x with data := v } := by kernel_rfl
@[go_sem] theorem spl0_Ob_data (x : Ob) : splice (Ob.enc x) 6 [.sl []] = Ob.enc { x with data := [] } := by kernel_rfl
@[go_sem] theorem cut_Ob_maps_0 (x : Ob) : cut Try.prog 49 (Ob.enc x) 7 = some (.sl (List.map Mp.enc x.maps)) := by kernel_rfl
@[go_sem] theorem spl_Ob_maps (x : Ob) (v : List Mp) : splice (Ob.enc x) 7 ([.sl (List.map Mp.enc v)]) = Ob.enc { x with maps := v } := by kernel_rfl
@[go_sem] theorem spl0_Ob_maps (x : Ob) : splice (Ob.enc x) 7 [.sl []] = Ob.enc { x with maps := [] } := by kernel_rfl
@[go_sem] theorem cut_Ob_thread_0 (x : Ob) : cut Try.prog 35 (Ob.enc x) 8 = some (.agg (Th.enc x.thread)) := by kernel_rfl
@[go_sem] theorem spl_Ob_thread (x : Ob) (v : Th) : splice (Ob.enc x) 8 (Th.enc v) = Ob.enc { x with thread := v } := by kernel_rfl
@[go_sem] theorem cut_Ob_thread_regs_0 (x : Ob) : cut Try.prog 23 (Ob.enc x) 8 = some (.agg (arr 16 (fun i => [.int .u64 (x.thread.regs i)]))) := by kernel_rfl
@[go_sem] theorem cut_Ob_thread_regs_at0 (x : Ob) : cut Try.prog 22 (Ob.enc x) 8 = some (.int .u64 (x.thread.regs 0)) := by kernel_rfl
@[go_sem] theorem cut_Ob_thread_regs_at1 (x : Ob) : cut Try.prog 22 (Ob.enc x) 9 = some (.int .u64 (x.thread.regs 1)) := by kernel_rfl
@[go_sem] theorem cut_Ob_thread_regs_at2 (x : Ob) : cut Try.prog 22 (Ob.enc x) 10 = some (.int .u64 (x.thread.regs 2)) := by kernel_rfl
@[go_sem] theorem cut_Ob_thread_regs_at3 (x : Ob) : cut Try.prog 22 (Ob.enc x) 11 = some (.int .u64 (x.thread.regs 3)) := by kernel_rfl
@[go_sem] theorem cut_Ob_thread_regs_at4 (x : Ob) : cut Try.prog 22 (Ob.enc x) 12 = some (.int .u64 (x.thread.regs 4)) := by kernel_rfl
@[go_sem] theorem cut_Ob_thread_regs_at5 (x : Ob) : cut Try.prog 22 (Ob.enc x) 13 = some (.int .u64 (x.thread.regs 5)) := by kernel_rfl
@[go_sem] theorem cut_Ob_thread_regs_at6 (x : Ob) : cut Try.prog 22 (Ob.enc x) 14 = some (.int .u64 (x.thread.regs 6)) := by kernel_rfl
@[go_sem] theorem cut_Ob_thread_regs_at7 (x : Ob) : cut Try.prog 22 (Ob.enc x) 15 = some (.int .u64 (x.thread.regs 7)) := by kernel_rfl
@[go_sem] theorem cut_Ob_thread_regs_at8 (x : Ob) : cut Try.prog 22 (Ob.enc x) 16 = some (.int .u64 (x.thread.regs 8)) := by kernel_rfl
@[go_sem] theorem cut_Ob_thread_regs_at9 (x : Ob) : cut Try.prog 22 (Ob.enc x) 17 = some (.int .u64 (x.thread.regs 9)) := by kernel_rfl
@[go_sem] theorem cut_Ob_thread_regs_at10 (x : Ob) : cut Try.prog 22 (Ob.enc x) 18 = some (.int .u64 (x.thread.regs 10)) := by kernel_rfl
@[go_sem] theorem cut_Ob_thread_regs_at11 (x : Ob) : cut Try.prog 22 (Ob.enc x) 19 = some (.int .u64 (x.thread.regs 11)) := by kernel_rfl
@[go_sem] theorem cut_Ob_thread_regs_at12 (x : Ob) : cut Try.prog 22 (Ob.enc x) 20 = some (.int .u64 (x.thread.regs 12)) := by kernel_rfl
@[go_sem] theorem cut_Ob_thread_regs_at13 (x : Ob) : cut Try.prog 22 (Ob.enc x) 21 = some (.int .u64 (x.thread.regs 13)) := by kernel_rfl
@[go_sem] theorem cut_Ob_thread_regs_at14 (x : Ob) : cut Try.prog 22 (Ob.enc x) 22 = some (.int .u64 (x.thread.regs 14)) := by kernel_rfl
@[go_sem] theorem cut_Ob_thread_regs_at15 (x : Ob) : cut Try.prog 22 (Ob.enc x) 23 = some (.int .u64 (x.thread.regs 15)) := by kernel_rfl
@[go_sem] theorem spl_Ob_thread_regs (x : Ob) (v : Nat → Int) : splice (Ob.enc x) 8 (arr 16 (fun i => [.int .u64 (v i)])) = Ob.enc { x with thread := { x.thread with regs := v } } := by kernel_rfl
@[go_sem] theorem cut_Ob_thread_pc_0 (x : Ob) : cut Try.prog 22 (Ob.enc x) 24 = some (.int .u64 x.thread.pc) := by kernel_rfl
@[go_sem] theorem spl_Ob_thread_pc (x : Ob) (v : Int) : splice (Ob.enc x) 24 ([.int .u64 v]) = Ob.enc { x with thread := { x.thread with pc := v } } := by kernel_rfl
@[go_sem] theorem cut_Ob_thread_clear_0 (x : Ob) : cut Try.prog 25 (Ob.enc x) 25 = some (.sl (List.map Pr.enc x.thread.clear)) := by kernel_rfl
@[go_sem] theorem spl_Ob_thread_clear (x : Ob) (v : List Pr) : splice (Ob.enc x) 25 ([.sl (List.map Pr.enc v)]) = Ob.enc { x with thread := { x.thread with clear := v } } := by kernel_rfl
@[go_sem] theorem spl0_Ob_thread_clear (x : Ob) : splice (Ob.enc x) 25 [.sl []] = Ob.enc { x with thread := { x.thread with clear := [] } } := by kernel_rfl
@[go_sem] theorem cut_Ob_thread_space_0 (x : Ob) : cut Try.prog 27 (Ob.enc x) 26 = some (.agg (Rf.enc x.thread.space)) := by kernel_rfl
@[go_sem] theorem spl_Ob_thread_space (x : Ob) (v : Rf) : splice (Ob.enc x) 26 (Rf.enc v) = Ob.enc { x with thread := { x.thread with space := v } } := by kernel_rfl
@[go_sem] theorem cut_Ob_thread_space_cont_0 (x : Ob) : cut Try.prog 22 (Ob.enc x) 26 = some (.int .u64 x.thread.space.cont) := by kernel_rfl
@[go_sem] theorem spl_Ob_thread_space_cont (x : Ob) (v : Int) : splice (Ob.enc x) 26 ([.int .u64 v]) = Ob.enc { x with thread := { x.thread with space := { x.thread.space with cont := v } } } := by kernel_rfl
@[go_sem] theorem cut_Ob_thread_space_id_0 (x : Ob) : cut Try.prog 22 (Ob.enc x) 27 = some (.int .u64 x.thread.space.id) := by kernel_rfl
@[go_sem] theorem spl_Ob_thread_space_id (x : Ob) (v : Int) : splice (Ob.enc x) 27 ([.int .u64 v]) = Ob.enc { x with thread := { x.thread with space := { x.thread.space with id := v } } } := by kernel_rfl
@[go_sem] theorem cut_Ob_thread_handler_0 (x : Ob) : cut Try.prog 22 (Ob.enc x) 28 = some (.int .u64 x.thread.handler) := by kernel_rfl
@[go_sem] theorem spl_Ob_thread_handler (x : Ob) (v : Int) : splice (Ob.enc x) 28 ([.int .u64 v]) = Ob.enc { x with thread := { x.thread with handler := v } } := by kernel_rfl
@[go_sem] theorem cut_Ob_thread_vector_0 (x : Ob) : cut Try.prog 22 (Ob.enc x) 29 = some (.int .u64 x.thread.vector) := by kernel_rfl
@[go_sem] theorem spl_Ob_thread_vector (x : Ob) (v : Int) : splice (Ob.enc x) 29 ([.int .u64 v]) = Ob.enc { x with thread := { x.thread with vector := v } } := by kernel_rfl
@[go_sem] theorem cut_Ob_thread_state_0 (x : Ob) : cut Try.prog 3 (Ob.enc x) 30 = some (.int .i64 x.thread.state) := by kernel_rfl
@[go_sem] theorem spl_Ob_thread_state (x : Ob) (v : Int) : splice (Ob.enc x) 30 ([.int .i64 v]) = Ob.enc { x with thread := { x.thread with state := v } } := by kernel_rfl
@[go_sem] theorem cut_Ob_thread_wait_0 (x : Ob) : cut Try.prog 29 (Ob.enc x) 31 = some (.agg (Wt.enc x.thread.wait)) := by kernel_rfl
@[go_sem] theorem spl_Ob_thread_wait (x : Ob) (v : Wt) : splice (Ob.enc x) 31 (Wt.enc v) = Ob.enc { x with thread := { x.thread with wait := v } } := by kernel_rfl
@[go_sem] theorem cut_Ob_thread_wait_ref_0 (x : Ob) : cut Try.prog 27 (Ob.enc x) 31 = some (.agg (Rf.enc x.thread.wait.ref)) := by kernel_rfl
@[go_sem] theorem spl_Ob_thread_wait_ref (x : Ob) (v : Rf) : splice (Ob.enc x) 31 (Rf.enc v) = Ob.enc { x with thread := { x.thread with wait := { x.thread.wait with ref := v } } } := by kernel_rfl
@[go_sem] theorem cut_Ob_thread_wait_ref_cont_0 (x : Ob) : cut Try.prog 22 (Ob.enc x) 31 = some (.int .u64 x.thread.wait.ref.cont) := by kernel_rfl
@[go_sem] theorem spl_Ob_thread_wait_ref_cont (x : Ob) (v : Int) : splice (Ob.enc x) 31 ([.int .u64 v]) = Ob.enc { x with thread := { x.thread with wait := { x.thread.wait with ref := { x.thread.wait.ref with cont := v } } } } := by kernel_rfl
@[go_sem] theorem cut_Ob_thread_wait_ref_id_0 (x : Ob) : cut Try.prog 22 (Ob.enc x) 32 = some (.int .u64 x.thread.wait.ref.id) := by kernel_rfl
@[go_sem] theorem spl_Ob_thread_wait_ref_id (x : Ob) (v : Int) : splice (Ob.enc x) 32 ([.int .u64 v]) = Ob.enc { x with thread := { x.thread with wait := { x.thread.wait with ref := { x.thread.wait.ref with id := v } } } } := by kernel_rfl
@[go_sem] theorem cut_Ob_thread_wait_index_0 (x : Ob) : cut Try.prog 22 (Ob.enc x) 33 = some (.int .u64 x.thread.wait.index) := by kernel_rfl
@[go_sem] theorem spl_Ob_thread_wait_index (x : Ob) (v : Int) : splice (Ob.enc x) 33 ([.int .u64 v]) = Ob.enc { x with thread := { x.thread with wait := { x.thread.wait with index := v } } } := by kernel_rfl
@[go_sem] theorem cut_Ob_thread_wait_val_0 (x : Ob) : cut Try.prog 22 (Ob.enc x) 34 = some (.int .u64 x.thread.wait.val) := by kernel_rfl
@[go_sem] theorem spl_Ob_thread_wait_val (x : Ob) (v : Int) : splice (Ob.enc x) 34 ([.int .u64 v]) = Ob.enc { x with thread := { x.thread with wait := { x.thread.wait with val := v } } } := by kernel_rfl
@[go_sem] theorem cut_Ob_thread_wait_dev_0 (x : Ob) : cut Try.prog 4 (Ob.enc x) 35 = some (.bool x.thread.wait.dev) := by kernel_rfl
@[go_sem] theorem spl_Ob_thread_wait_dev (x : Ob) (v : Bool) : splice (Ob.enc x) 35 ([.bool v]) = Ob.enc { x with thread := { x.thread with wait := { x.thread.wait with dev := v } } } := by kernel_rfl
@[go_sem] theorem cut_Ob_thread_alerts_0 (x : Ob) : cut Try.prog 30 (Ob.enc x) 36 = some (.sl (List.map u64 x.thread.alerts)) := by kernel_rfl
@[go_sem] theorem spl_Ob_thread_alerts (x : Ob) (v : List Int) : splice (Ob.enc x) 36 ([.sl (List.map u64 v)]) = Ob.enc { x with thread := { x.thread with alerts := v } } := by kernel_rfl
@[go_sem] theorem spl0_Ob_thread_alerts (x : Ob) : splice (Ob.enc x) 36 [.sl []] = Ob.enc { x with thread := { x.thread with alerts := [] } } := by kernel_rfl
@[go_sem] theorem cut_Ob_thread_span_0 (x : Ob) : cut Try.prog 32 (Ob.enc x) 37 = some (.agg (Sp.enc x.thread.span)) := by kernel_rfl
@[go_sem] theorem spl_Ob_thread_span (x : Ob) (v : Sp) : splice (Ob.enc x) 37 (Sp.enc v) = Ob.enc { x with thread := { x.thread with span := v } } := by kernel_rfl
@[go_sem] theorem cut_Ob_thread_span_lo_0 (x : Ob) : cut Try.prog 22 (Ob.enc x) 37 = some (.int .u64 x.thread.span.lo) := by kernel_rfl
@[go_sem] theorem spl_Ob_thread_span_lo (x : Ob) (v : Int) : splice (Ob.enc x) 37 ([.int .u64 v]) = Ob.enc { x with thread := { x.thread with span := { x.thread.span with lo := v } } } := by kernel_rfl
@[go_sem] theorem cut_Ob_thread_span_hi_0 (x : Ob) : cut Try.prog 22 (Ob.enc x) 38 = some (.int .u64 x.thread.span.hi) := by kernel_rfl
@[go_sem] theorem spl_Ob_thread_span_hi (x : Ob) (v : Int) : splice (Ob.enc x) 38 ([.int .u64 v]) = Ob.enc { x with thread := { x.thread with span := { x.thread.span with hi := v } } } := by kernel_rfl
@[go_sem] theorem cut_Ob_thread_labs_0 (x : Ob) : cut Try.prog 33 (Ob.enc x) 39 = some (.agg (arr 4 (fun i => [.sl (List.map Pr.enc (x.thread.labs i))]))) := by kernel_rfl
@[go_sem] theorem cut_Ob_thread_labs_at0 (x : Ob) : cut Try.prog 25 (Ob.enc x) 39 = some (.sl (List.map Pr.enc (x.thread.labs 0))) := by kernel_rfl
@[go_sem] theorem cut_Ob_thread_labs_at1 (x : Ob) : cut Try.prog 25 (Ob.enc x) 40 = some (.sl (List.map Pr.enc (x.thread.labs 1))) := by kernel_rfl
@[go_sem] theorem cut_Ob_thread_labs_at2 (x : Ob) : cut Try.prog 25 (Ob.enc x) 41 = some (.sl (List.map Pr.enc (x.thread.labs 2))) := by kernel_rfl
@[go_sem] theorem cut_Ob_thread_labs_at3 (x : Ob) : cut Try.prog 25 (Ob.enc x) 42 = some (.sl (List.map Pr.enc (x.thread.labs 3))) := by kernel_rfl
@[go_sem] theorem spl_Ob_thread_labs (x : Ob) (v : Nat → List Pr) : splice (Ob.enc x) 39 (arr 4 (fun i => [.sl (List.map Pr.enc (v i))])) = Ob.enc { x with thread := { x.thread with labs := v } } := by kernel_rfl
@[go_sem] theorem cut_Ob_gate_0 (x : Ob) : cut Try.prog 51 (Ob.enc x) 43 = some (.agg (Gt.enc x.gate)) := by kernel_rfl
@[go_sem] theorem spl_Ob_gate (x : Ob) (v : Gt) : splice (Ob.enc x) 43 (Gt.enc v) = Ob.enc { x with gate := v } := by kernel_rfl
@[go_sem] theorem cut_Ob_gate_grant_0 (x : Ob) : cut Try.prog 25 (Ob.enc x) 43 = some (.sl (List.map Pr.enc x.gate.grant)) := by kernel_rfl
@[go_sem] theorem spl_Ob_gate_grant (x : Ob) (v : List Pr) : splice (Ob.enc x) 43 ([.sl (List.map Pr.enc v)]) = Ob.enc { x with gate := { x.gate with grant := v } } := by kernel_rfl
@[go_sem] theorem spl0_Ob_gate_grant (x : Ob) : splice (Ob.enc x) 43 [.sl []] = Ob.enc { x with gate := { x.gate with grant := [] } } := by kernel_rfl
@[go_sem] theorem cut_Ob_gate_clear_0 (x : Ob) : cut Try.prog 25 (Ob.enc x) 44 = some (.sl (List.map Pr.enc x.gate.clear)) := by kernel_rfl
@[go_sem] theorem spl_Ob_gate_clear (x : Ob) (v : List Pr) : splice (Ob.enc x) 44 ([.sl (List.map Pr.enc v)]) = Ob.enc { x with gate := { x.gate with clear := v } } := by kernel_rfl
@[go_sem] theorem spl0_Ob_gate_clear (x : Ob) : splice (Ob.enc x) 44 [.sl []] = Ob.enc { x with gate := { x.gate with clear := [] } } := by kernel_rfl
@[go_sem] theorem cut_Ob_gate_space_0 (x : Ob) : cut Try.prog 27 (Ob.enc x) 45 = some (.agg (Rf.enc x.gate.space)) := by kernel_rfl
@[go_sem] theorem spl_Ob_gate_space (x : Ob) (v : Rf) : splice (Ob.enc x) 45 (Rf.enc v) = Ob.enc { x with gate := { x.gate with space := v } } := by kernel_rfl
@[go_sem] theorem cut_Ob_gate_space_cont_0 (x : Ob) : cut Try.prog 22 (Ob.enc x) 45 = some (.int .u64 x.gate.space.cont) := by kernel_rfl
@[go_sem] theorem spl_Ob_gate_space_cont (x : Ob) (v : Int) : splice (Ob.enc x) 45 ([.int .u64 v]) = Ob.enc { x with gate := { x.gate with space := { x.gate.space with cont := v } } } := by kernel_rfl
@[go_sem] theorem cut_Ob_gate_space_id_0 (x : Ob) : cut Try.prog 22 (Ob.enc x) 46 = some (.int .u64 x.gate.space.id) := by kernel_rfl
@[go_sem] theorem spl_Ob_gate_space_id (x : Ob) (v : Int) : splice (Ob.enc x) 46 ([.int .u64 v]) = Ob.enc { x with gate := { x.gate with space := { x.gate.space with id := v } } } := by kernel_rfl
@[go_sem] theorem cut_Ob_gate_pc_0 (x : Ob) : cut Try.prog 22 (Ob.enc x) 47 = some (.int .u64 x.gate.pc) := by kernel_rfl
@[go_sem] theorem spl_Ob_gate_pc (x : Ob) (v : Int) : splice (Ob.enc x) 47 ([.int .u64 v]) = Ob.enc { x with gate := { x.gate with pc := v } } := by kernel_rfl
@[go_sem] theorem cut_Ob_gate_arg_0 (x : Ob) : cut Try.prog 22 (Ob.enc x) 48 = some (.int .u64 x.gate.arg) := by kernel_rfl
@[go_sem] theorem spl_Ob_gate_arg (x : Ob) (v : Int) : splice (Ob.enc x) 48 ([.int .u64 v]) = Ob.enc { x with gate := { x.gate with arg := v } } := by kernel_rfl
@[go_sem] theorem cut_Ob_inn_0 (x : Ob) : cut Try.prog 30 (Ob.enc x) 49 = some (.sl (List.map u64 x.inn)) := by kernel_rfl
@[go_sem] theorem spl_Ob_inn (x : Ob) (v : List Int) : splice (Ob.enc x) 49 ([.sl (List.map u64 v)]) = Ob.enc { x with inn := v } := by kernel_rfl
@[go_sem] theorem spl0_Ob_inn (x : Ob) : splice (Ob.enc x) 49 [.sl []] = Ob.enc { x with inn := [] } := by kernel_rfl
@[go_sem] theorem cut_Ob_out_0 (x : Ob) : cut Try.prog 30 (Ob.enc x) 50 = some (.sl (List.map u64 x.out)) := by kernel_rfl
@[go_sem] theorem spl_Ob_out (x : Ob) (v : List Int) : splice (Ob.enc x) 50 ([.sl (List.map u64 v)]) = Ob.enc { x with out := v } := by kernel_rfl
@[go_sem] theorem spl0_Ob_out (x : Ob) : splice (Ob.enc x) 50 [.sl []] = Ob.enc { x with out := [] } := by kernel_rfl
@[go_sem] theorem spl_Ob_ (x v : Ob) : splice (Ob.enc x) 0 (Ob.enc v) = Ob.enc v := by kernel_rfl
theorem Ob.bdl (S : Nat → Prop) (x : Ob) : ∀ p ∈ Ob.enc x, Bd S p := by
  unfold Ob.enc
  simp only [List.mem_append, or_imp, forall_and, List.forall_mem_cons, List.not_mem_nil, false_imp_iff, implies_true, and_true, List.forall_mem_nil, List.cons_append, List.nil_append, arr, List.mem_flatMap, forall_exists_index, and_imp]
  and_intros <;> first | exact Bd.int _ _ | exact Bd.bool _ | exact Bd.sl _ (by intro e he; obtain ⟨y, _, rfl⟩ := List.mem_map.1 he; first | with_reducible exact u64_bdl _ _ | with_reducible exact Pr.bdl _ _ | with_reducible exact Mp.bdl _ _ | with_reducible exact Ob.bdl _ _) | with_reducible exact Rf.bdl _ _ | with_reducible exact Wt.bdl _ _ | with_reducible exact Sp.bdl _ _ | with_reducible exact Th.bdl _ _ | with_reducible exact Gt.bdl _ _ | (intro p i _ hp; first | (simp only [List.mem_cons, List.not_mem_nil, or_false] at hp; subst hp; first | exact Bd.int _ _ | exact Bd.sl _ (by intro e he; obtain ⟨y, _, rfl⟩ := List.mem_map.1 he; exact Pr.bdl _ _)))
@[go_sem] theorem Ob.bdL (S : Nat → Prop) (x : Ob) : BdL S (Ob.enc x) = True := eq_true (Ob.bdl S x)
@[go_sem] theorem Ob.bdS (S : Nat → Prop) (l : List Ob) : Bd S (.sl (List.map Ob.enc l)) = True := Bd_slm (Ob.bdl S) l
structure Wd where
  time : Int
  key : Int
  root : Int
  objects : List Ob
  deriving Inhabited
def Wd.enc (x : Wd) : List PV := [.int .i64 x.time] ++ [.int .u64 x.key] ++ [.int .u64 x.root] ++ [.sl (List.map Ob.enc x.objects)]
def Wd.zero : Wd := ⟨0, 0, 0, []⟩
@[go_sem] theorem Wd.len (x : Wd) : (Wd.enc x).length = 4 := by kernel_rfl
@[go_sem] theorem Wd.cells (x : Wd) : PV.cells? (.agg (Wd.enc x)) = some (Wd.enc x) := rfl
@[go_sem] theorem cut_Wd_0 (x : Wd) : cut Try.prog 44 (Wd.enc x) 0 = some (.agg (Wd.enc x)) := by kernel_rfl
@[go_sem] theorem zeros_Wd_0 : zeros Try.prog 44 = some (Wd.enc Wd.zero) := by kernel_rfl
@[go_sem] theorem field_Wd_0_0 : fieldOf Try.prog 44 0 = some (3, 0) := by kernel_rfl
@[go_sem] theorem field_Wd_0_1 : fieldOf Try.prog 44 1 = some (22, 1) := by kernel_rfl
@[go_sem] theorem field_Wd_0_2 : fieldOf Try.prog 44 2 = some (22, 2) := by kernel_rfl
@[go_sem] theorem field_Wd_0_3 : fieldOf Try.prog 44 3 = some (42, 3) := by kernel_rfl
@[go_sem] theorem build_Wd_0_  : evBuild Try.prog 44 [] = some (.agg (Wd.enc Wd.zero)) := by kernel_rfl
@[go_sem] theorem build_Wd_0_3 (objects : List Ob) : evBuild Try.prog 44 [(3, .sl (List.map Ob.enc objects))] = some (.agg (Wd.enc ⟨0, 0, 0, objects⟩)) := by kernel_rfl
@[go_sem] theorem cut_Wd_time_0 (x : Wd) : cut Try.prog 3 (Wd.enc x) 0 = some (.int .i64 x.time) := by kernel_rfl
@[go_sem] theorem spl_Wd_time (x : Wd) (v : Int) : splice (Wd.enc x) 0 ([.int .i64 v]) = Wd.enc { x with time := v } := by kernel_rfl
@[go_sem] theorem cut_Wd_key_0 (x : Wd) : cut Try.prog 22 (Wd.enc x) 1 = some (.int .u64 x.key) := by kernel_rfl
@[go_sem] theorem spl_Wd_key (x : Wd) (v : Int) : splice (Wd.enc x) 1 ([.int .u64 v]) = Wd.enc { x with key := v } := by kernel_rfl
@[go_sem] theorem cut_Wd_root_0 (x : Wd) : cut Try.prog 22 (Wd.enc x) 2 = some (.int .u64 x.root) := by kernel_rfl
@[go_sem] theorem spl_Wd_root (x : Wd) (v : Int) : splice (Wd.enc x) 2 ([.int .u64 v]) = Wd.enc { x with root := v } := by kernel_rfl
@[go_sem] theorem cut_Wd_objects_0 (x : Wd) : cut Try.prog 42 (Wd.enc x) 3 = some (.sl (List.map Ob.enc x.objects)) := by kernel_rfl
@[go_sem] theorem spl_Wd_objects (x : Wd) (v : List Ob) : splice (Wd.enc x) 3 ([.sl (List.map Ob.enc v)]) = Wd.enc { x with objects := v } := by kernel_rfl
@[go_sem] theorem spl0_Wd_objects (x : Wd) : splice (Wd.enc x) 3 [.sl []] = Wd.enc { x with objects := [] } := by kernel_rfl
@[go_sem] theorem spl_Wd_ (x v : Wd) : splice (Wd.enc x) 0 (Wd.enc v) = Wd.enc v := by kernel_rfl
theorem Wd.bdl (S : Nat → Prop) (x : Wd) : ∀ p ∈ Wd.enc x, Bd S p := by
  unfold Wd.enc
  simp only [List.mem_append, or_imp, forall_and, List.forall_mem_cons, List.not_mem_nil, false_imp_iff, implies_true, and_true, List.forall_mem_nil, List.cons_append, List.nil_append, arr, List.mem_flatMap, forall_exists_index, and_imp]
  and_intros <;> first | exact Bd.int _ _ | exact Bd.bool _ | exact Bd.sl _ (by intro e he; obtain ⟨y, _, rfl⟩ := List.mem_map.1 he; first | with_reducible exact u64_bdl _ _ | with_reducible exact Pr.bdl _ _ | with_reducible exact Mp.bdl _ _ | with_reducible exact Ob.bdl _ _) | with_reducible exact Rf.bdl _ _ | with_reducible exact Wt.bdl _ _ | with_reducible exact Sp.bdl _ _ | with_reducible exact Th.bdl _ _ | with_reducible exact Gt.bdl _ _ | (intro p i _ hp; first | (simp only [List.mem_cons, List.not_mem_nil, or_false] at hp; subst hp; first | exact Bd.int _ _ | exact Bd.sl _ (by intro e he; obtain ⟨y, _, rfl⟩ := List.mem_map.1 he; exact Pr.bdl _ _)))
@[go_sem] theorem Wd.bdL (S : Nat → Prop) (x : Wd) : BdL S (Wd.enc x) = True := eq_true (Wd.bdl S x)
@[go_sem] theorem Wd.bdS (S : Nat → Prop) (l : List Wd) : Bd S (.sl (List.map Wd.enc l)) = True := Bd_slm (Wd.bdl S) l
structure Ls where
  things : List Ob
  idf : PV
  deriving Inhabited
def Ls.enc (x : Ls) : List PV := [.sl (List.map Ob.enc x.things)] ++ [x.idf]
def Ls.zero : Ls := ⟨[], .nilfn⟩
@[go_sem] theorem Ls.len (x : Ls) : (Ls.enc x).length = 2 := by kernel_rfl
@[go_sem] theorem Ls.cells (x : Ls) : PV.cells? (.agg (Ls.enc x)) = some (Ls.enc x) := rfl
@[go_sem] theorem cut_Ls_0 (x : Ls) : cut Try.prog 67 (Ls.enc x) 0 = some (.agg (Ls.enc x)) := by kernel_rfl
@[go_sem] theorem zeros_Ls_0 : zeros Try.prog 67 = some (Ls.enc Ls.zero) := by kernel_rfl
@[go_sem] theorem field_Ls_0_0 : fieldOf Try.prog 67 0 = some (42, 0) := by kernel_rfl
@[go_sem] theorem field_Ls_0_1 : fieldOf Try.prog 67 1 = some (65, 1) := by kernel_rfl
@[go_sem] theorem build_Ls_0_0_1 (things : List Ob) (g : FuncId) : evBuild Try.prog 67 [(0, .sl (List.map Ob.enc things)), (1, .fn (.func g) [] [])] = some (.agg (Ls.enc ⟨things, .fn (.func g) [] []⟩)) := by kernel_rfl
@[go_sem] theorem cut_Ls_things_0 (x : Ls) : cut Try.prog 42 (Ls.enc x) 0 = some (.sl (List.map Ob.enc x.things)) := by kernel_rfl
@[go_sem] theorem spl_Ls_things (x : Ls) (v : List Ob) : splice (Ls.enc x) 0 ([.sl (List.map Ob.enc v)]) = Ls.enc { x with things := v } := by kernel_rfl
@[go_sem] theorem spl0_Ls_things (x : Ls) : splice (Ls.enc x) 0 [.sl []] = Ls.enc { x with things := [] } := by kernel_rfl
@[go_sem] theorem cut_Ls_idf_0 (x : Ls) : cut Try.prog 65 (Ls.enc x) 1 = some (x.idf) := by kernel_rfl
@[go_sem] theorem spl_Ls_ (x v : Ls) : splice (Ls.enc x) 0 (Ls.enc v) = Ls.enc v := by kernel_rfl
@[go_sem] theorem cellsOf_api_Pair : Try.prog.cellsOf 63 = 2 := by kernel_rfl
@[go_sem] theorem info_api_Pair : (Try.prog.info? 63).isSome = true := by kernel_rfl
@[go_sem] theorem aggT_api_Pair : aggT Try.prog 63 = some true := by kernel_rfl
@[go_sem] theorem cellsOf_uint64 : Try.prog.cellsOf 22 = 1 := by kernel_rfl
@[go_sem] theorem info_uint64 : (Try.prog.info? 22).isSome = true := by kernel_rfl
@[go_sem] theorem aggT_uint64 : aggT Try.prog 22 = some false := by kernel_rfl
attribute [go_sem] Try.underlying22
@[go_sem] theorem cellsOf_int : Try.prog.cellsOf 3 = 1 := by kernel_rfl
@[go_sem] theorem info_int : (Try.prog.info? 3).isSome = true := by kernel_rfl
@[go_sem] theorem aggT_int : aggT Try.prog 3 = some false := by kernel_rfl
attribute [go_sem] Try.underlying3
@[go_sem] theorem cellsOf_api_Errno : Try.prog.cellsOf 104 = 1 := by kernel_rfl
@[go_sem] theorem info_api_Errno : (Try.prog.info? 104).isSome = true := by kernel_rfl
@[go_sem] theorem aggT_api_Errno : aggT Try.prog 104 = some false := by kernel_rfl
attribute [go_sem] Try.underlying104
@[go_sem] theorem cellsOf_api_Map : Try.prog.cellsOf 121 = 6 := by kernel_rfl
@[go_sem] theorem info_api_Map : (Try.prog.info? 121).isSome = true := by kernel_rfl
@[go_sem] theorem aggT_api_Map : aggT Try.prog 121 = some true := by kernel_rfl
@[go_sem] theorem cellsOf_pages_reach : Try.prog.cellsOf 163 = 6 := by kernel_rfl
@[go_sem] theorem info_pages_reach : (Try.prog.info? 163).isSome = true := by kernel_rfl
@[go_sem] theorem aggT_pages_reach : aggT Try.prog 163 = some true := by kernel_rfl
@[go_sem] theorem cellsOf_bool : Try.prog.cellsOf 4 = 1 := by kernel_rfl
@[go_sem] theorem info_bool : (Try.prog.info? 4).isSome = true := by kernel_rfl
@[go_sem] theorem aggT_bool : aggT Try.prog 4 = some false := by kernel_rfl
attribute [go_sem] Try.underlying4
@[go_sem] theorem cellsOf_api_Ref : Try.prog.cellsOf 27 = 2 := by kernel_rfl
@[go_sem] theorem info_api_Ref : (Try.prog.info? 27).isSome = true := by kernel_rfl
@[go_sem] theorem aggT_api_Ref : aggT Try.prog 27 = some true := by kernel_rfl
@[go_sem] theorem cellsOf_api_Wait : Try.prog.cellsOf 29 = 5 := by kernel_rfl
@[go_sem] theorem info_api_Wait : (Try.prog.info? 29).isSome = true := by kernel_rfl
@[go_sem] theorem aggT_api_Wait : aggT Try.prog 29 = some true := by kernel_rfl
@[go_sem] theorem cellsOf_api_Span : Try.prog.cellsOf 32 = 2 := by kernel_rfl
@[go_sem] theorem info_api_Span : (Try.prog.info? 32).isSome = true := by kernel_rfl
@[go_sem] theorem aggT_api_Span : aggT Try.prog 32 = some true := by kernel_rfl
@[go_sem] theorem cellsOf_api_Thread : Try.prog.cellsOf 35 = 35 := by kernel_rfl
@[go_sem] theorem info_api_Thread : (Try.prog.info? 35).isSome = true := by kernel_rfl
@[go_sem] theorem aggT_api_Thread : aggT Try.prog 35 = some true := by kernel_rfl
@[go_sem] theorem cellsOf__16_uint64 : Try.prog.cellsOf 23 = 16 := by kernel_rfl
@[go_sem] theorem info__16_uint64 : (Try.prog.info? 23).isSome = true := by kernel_rfl
@[go_sem] theorem aggT__16_uint64 : aggT Try.prog 23 = some true := by kernel_rfl
attribute [go_sem] Try.underlying23
@[go_sem] theorem cellsOf_api_Label : Try.prog.cellsOf 25 = 1 := by kernel_rfl
@[go_sem] theorem info_api_Label : (Try.prog.info? 25).isSome = true := by kernel_rfl
@[go_sem] theorem aggT_api_Label : aggT Try.prog 25 = some false := by kernel_rfl
attribute [go_sem] Try.underlying25
@[go_sem] theorem cellsOf___uint64 : Try.prog.cellsOf 30 = 1 := by kernel_rfl
@[go_sem] theorem info___uint64 : (Try.prog.info? 30).isSome = true := by kernel_rfl
@[go_sem] theorem aggT___uint64 : aggT Try.prog 30 = some false := by kernel_rfl
attribute [go_sem] Try.underlying30
@[go_sem] theorem cellsOf__4_api_Label : Try.prog.cellsOf 33 = 4 := by kernel_rfl
@[go_sem] theorem info__4_api_Label : (Try.prog.info? 33).isSome = true := by kernel_rfl
@[go_sem] theorem aggT__4_api_Label : aggT Try.prog 33 = some true := by kernel_rfl
attribute [go_sem] Try.underlying33
@[go_sem] theorem cellsOf_api_Gate : Try.prog.cellsOf 51 = 6 := by kernel_rfl
@[go_sem] theorem info_api_Gate : (Try.prog.info? 51).isSome = true := by kernel_rfl
@[go_sem] theorem aggT_api_Gate : aggT Try.prog 51 = some true := by kernel_rfl
@[go_sem] theorem cellsOf_api_Object : Try.prog.cellsOf 53 = 51 := by kernel_rfl
@[go_sem] theorem info_api_Object : (Try.prog.info? 53).isSome = true := by kernel_rfl
@[go_sem] theorem aggT_api_Object : aggT Try.prog 53 = some true := by kernel_rfl
@[go_sem] theorem cellsOf___api_Map : Try.prog.cellsOf 49 = 1 := by kernel_rfl
@[go_sem] theorem info___api_Map : (Try.prog.info? 49).isSome = true := by kernel_rfl
@[go_sem] theorem aggT___api_Map : aggT Try.prog 49 = some false := by kernel_rfl
attribute [go_sem] Try.underlying49
@[go_sem] theorem cellsOf_api_World : Try.prog.cellsOf 44 = 4 := by kernel_rfl
@[go_sem] theorem info_api_World : (Try.prog.info? 44).isSome = true := by kernel_rfl
@[go_sem] theorem aggT_api_World : aggT Try.prog 44 = some true := by kernel_rfl
@[go_sem] theorem cellsOf___api_Object : Try.prog.cellsOf 42 = 1 := by kernel_rfl
@[go_sem] theorem info___api_Object : (Try.prog.info? 42).isSome = true := by kernel_rfl
@[go_sem] theorem aggT___api_Object : aggT Try.prog 42 = some false := by kernel_rfl
attribute [go_sem] Try.underlying42
@[go_sem] theorem cellsOf_obj_list_curtilage_api_Object_ : Try.prog.cellsOf 67 = 2 := by kernel_rfl
@[go_sem] theorem info_obj_list_curtilage_api_Object_ : (Try.prog.info? 67).isSome = true := by kernel_rfl
@[go_sem] theorem aggT_obj_list_curtilage_api_Object_ : aggT Try.prog 67 = some true := by kernel_rfl
@[go_sem] theorem cellsOf_func_api_Object__uint64 : Try.prog.cellsOf 65 = 1 := by kernel_rfl
@[go_sem] theorem info_func_api_Object__uint64 : (Try.prog.info? 65).isSome = true := by kernel_rfl
@[go_sem] theorem aggT_func_api_Object__uint64 : aggT Try.prog 65 = some false := by kernel_rfl
attribute [go_sem] Try.underlying65
@[go_sem] theorem bs1_api_Label (x : Pr) : evBuildSlice Try.prog 25 1 [(0, .agg (Pr.enc x))] = some (.sl [Pr.enc x]) := by kernel_rfl
@[go_sem] theorem bs0_api_Label : evBuildSlice Try.prog 25 0 [] = some .nilsl := by kernel_rfl
-- api_Label
@[go_sem] theorem bs1___uint64 (x : Int) : evBuildSlice Try.prog 30 1 [(0, .int .u64 x)] = some (.sl [u64 x]) := by kernel_rfl
@[go_sem] theorem bs0___uint64 : evBuildSlice Try.prog 30 0 [] = some .nilsl := by kernel_rfl
-- __uint64
@[go_sem] theorem bs1___api_Map (x : Mp) : evBuildSlice Try.prog 49 1 [(0, .agg (Mp.enc x))] = some (.sl [Mp.enc x]) := by kernel_rfl
@[go_sem] theorem bs0___api_Map : evBuildSlice Try.prog 49 0 [] = some .nilsl := by kernel_rfl
-- __api_Map
@[go_sem] theorem bs1___api_Object (x : Ob) : evBuildSlice Try.prog 42 1 [(0, .agg (Ob.enc x))] = some (.sl [Ob.enc x]) := by kernel_rfl
@[go_sem] theorem bs0___api_Object : evBuildSlice Try.prog 42 0 [] = some .nilsl := by kernel_rfl
-- __api_Object
theorem Pr.eqL (a b : Pr) : eqL (Pr.enc a) (Pr.enc b) = decide (a = b) := by
  rcases a with ⟨_, _⟩; rcases b with ⟨_, _⟩; rw [Bool.eq_iff_iff]; simp [Pr.enc, Go.Proofs.Yteibeoipnjhicaa.eqL, eqLeaf, and_assoc]
@[go_sem] theorem eql_Pr_0 (a b : Pr) : evBin Try.prog .eql 63 (.agg (Pr.enc a)) (.agg (Pr.enc b)) = some (.bool (decide (a = b))) := by
  have h : evBin Try.prog .eql 63 (.agg (Pr.enc a)) (.agg (Pr.enc b)) = some (.bool (eqL (Pr.enc a) (Pr.enc b))) := by kernel_rfl
  rw [h, Pr.eqL]
@[go_sem] theorem neq_Pr_0 (a b : Pr) : evBin Try.prog .neq 63 (.agg (Pr.enc a)) (.agg (Pr.enc b)) = some (.bool (!decide (a = b))) := by
  have h : evBin Try.prog .neq 63 (.agg (Pr.enc a)) (.agg (Pr.enc b)) = some (.bool (!eqL (Pr.enc a) (Pr.enc b))) := by kernel_rfl
  rw [h, Pr.eqL]
theorem Mp.eqL (a b : Mp) : eqL (Mp.enc a) (Mp.enc b) = decide (a = b) := by
  rcases a with ⟨_, _, _, _, _, _⟩; rcases b with ⟨_, _, _, _, _, _⟩; rw [Bool.eq_iff_iff]; simp [Mp.enc, Go.Proofs.Yteibeoipnjhicaa.eqL, eqLeaf, and_assoc]
@[go_sem] theorem eql_Mp_0 (a b : Mp) : evBin Try.prog .eql 121 (.agg (Mp.enc a)) (.agg (Mp.enc b)) = some (.bool (decide (a = b))) := by
  have h : evBin Try.prog .eql 121 (.agg (Mp.enc a)) (.agg (Mp.enc b)) = some (.bool (eqL (Mp.enc a) (Mp.enc b))) := by kernel_rfl
  rw [h, Mp.eqL]
@[go_sem] theorem neq_Mp_0 (a b : Mp) : evBin Try.prog .neq 121 (.agg (Mp.enc a)) (.agg (Mp.enc b)) = some (.bool (!decide (a = b))) := by
  have h : evBin Try.prog .neq 121 (.agg (Mp.enc a)) (.agg (Mp.enc b)) = some (.bool (!eqL (Mp.enc a) (Mp.enc b))) := by kernel_rfl
  rw [h, Mp.eqL]
@[go_sem] theorem eql_Mp_1 (a b : Mp) : evBin Try.prog .eql 163 (.agg (Mp.enc a)) (.agg (Mp.enc b)) = some (.bool (decide (a = b))) := by
  have h : evBin Try.prog .eql 163 (.agg (Mp.enc a)) (.agg (Mp.enc b)) = some (.bool (eqL (Mp.enc a) (Mp.enc b))) := by kernel_rfl
  rw [h, Mp.eqL]
@[go_sem] theorem neq_Mp_1 (a b : Mp) : evBin Try.prog .neq 163 (.agg (Mp.enc a)) (.agg (Mp.enc b)) = some (.bool (!decide (a = b))) := by
  have h : evBin Try.prog .neq 163 (.agg (Mp.enc a)) (.agg (Mp.enc b)) = some (.bool (!eqL (Mp.enc a) (Mp.enc b))) := by kernel_rfl
  rw [h, Mp.eqL]
theorem Rf.eqL (a b : Rf) : eqL (Rf.enc a) (Rf.enc b) = decide (a = b) := by
  rcases a with ⟨_, _⟩; rcases b with ⟨_, _⟩; rw [Bool.eq_iff_iff]; simp [Rf.enc, Go.Proofs.Yteibeoipnjhicaa.eqL, eqLeaf, and_assoc]
@[go_sem] theorem eql_Rf_0 (a b : Rf) : evBin Try.prog .eql 27 (.agg (Rf.enc a)) (.agg (Rf.enc b)) = some (.bool (decide (a = b))) := by
  have h : evBin Try.prog .eql 27 (.agg (Rf.enc a)) (.agg (Rf.enc b)) = some (.bool (eqL (Rf.enc a) (Rf.enc b))) := by kernel_rfl
  rw [h, Rf.eqL]
@[go_sem] theorem neq_Rf_0 (a b : Rf) : evBin Try.prog .neq 27 (.agg (Rf.enc a)) (.agg (Rf.enc b)) = some (.bool (!decide (a = b))) := by
  have h : evBin Try.prog .neq 27 (.agg (Rf.enc a)) (.agg (Rf.enc b)) = some (.bool (!eqL (Rf.enc a) (Rf.enc b))) := by kernel_rfl
  rw [h, Rf.eqL]
theorem Wt.eqL (a b : Wt) : eqL (Wt.enc a) (Wt.enc b) = decide (a = b) := by
  rcases a with ⟨⟨_, _⟩, _, _, _⟩; rcases b with ⟨⟨_, _⟩, _, _, _⟩; rw [Bool.eq_iff_iff]; simp [Wt.enc, Rf.enc, Go.Proofs.Yteibeoipnjhicaa.eqL, eqLeaf, and_assoc]
@[go_sem] theorem eql_Wt_0 (a b : Wt) : evBin Try.prog .eql 29 (.agg (Wt.enc a)) (.agg (Wt.enc b)) = some (.bool (decide (a = b))) := by
  have h : evBin Try.prog .eql 29 (.agg (Wt.enc a)) (.agg (Wt.enc b)) = some (.bool (eqL (Wt.enc a) (Wt.enc b))) := by kernel_rfl
  rw [h, Wt.eqL]
@[go_sem] theorem neq_Wt_0 (a b : Wt) : evBin Try.prog .neq 29 (.agg (Wt.enc a)) (.agg (Wt.enc b)) = some (.bool (!decide (a = b))) := by
  have h : evBin Try.prog .neq 29 (.agg (Wt.enc a)) (.agg (Wt.enc b)) = some (.bool (!eqL (Wt.enc a) (Wt.enc b))) := by kernel_rfl
  rw [h, Wt.eqL]
theorem Sp.eqL (a b : Sp) : eqL (Sp.enc a) (Sp.enc b) = decide (a = b) := by
  rcases a with ⟨_, _⟩; rcases b with ⟨_, _⟩; rw [Bool.eq_iff_iff]; simp [Sp.enc, Go.Proofs.Yteibeoipnjhicaa.eqL, eqLeaf, and_assoc]
@[go_sem] theorem eql_Sp_0 (a b : Sp) : evBin Try.prog .eql 32 (.agg (Sp.enc a)) (.agg (Sp.enc b)) = some (.bool (decide (a = b))) := by
  have h : evBin Try.prog .eql 32 (.agg (Sp.enc a)) (.agg (Sp.enc b)) = some (.bool (eqL (Sp.enc a) (Sp.enc b))) := by kernel_rfl
  rw [h, Sp.eqL]
@[go_sem] theorem neq_Sp_0 (a b : Sp) : evBin Try.prog .neq 32 (.agg (Sp.enc a)) (.agg (Sp.enc b)) = some (.bool (!decide (a = b))) := by
  have h : evBin Try.prog .neq 32 (.agg (Sp.enc a)) (.agg (Sp.enc b)) = some (.bool (!eqL (Sp.enc a) (Sp.enc b))) := by kernel_rfl
  rw [h, Sp.eqL]
@[go_sem] theorem eInfo_u64 : eInfo Try.prog 22 = some (1, 8) := by kernel_rfl
@[go_sem] theorem eInfo_Pr : eInfo Try.prog 63 = some (2, 16) := by kernel_rfl
@[go_sem] theorem eInfo_Mp : eInfo Try.prog 121 = some (6, 48) := by kernel_rfl
@[go_sem] theorem eInfo_Ob : eInfo Try.prog 53 = some (51, 632) := by kernel_rfl
def regsEq (f g : Nat → Int) : Bool := (List.range 16).all fun i => f i == g i
@[go_sem] theorem eql_regs (f g : Nat → Int) : evBin Try.prog .eql 23 (.agg (arr 16 fun i => [.int .u64 (f i)])) (.agg (arr 16 fun i => [.int .u64 (g i)])) = some (.bool (regsEq f g)) := by kernel_rfl
@[go_sem] theorem neq_regs (f g : Nat → Int) : evBin Try.prog .neq 23 (.agg (arr 16 fun i => [.int .u64 (f i)])) (.agg (arr 16 fun i => [.int .u64 (g i)])) = some (.bool (!regsEq f g)) := by kernel_rfl
theorem enc_snoc {α : Type} (f : α → List PV) (l : List α) (x : α) : List.map f l ++ [f x] = List.map f (l ++ [x]) := by simp
@[go_sem] theorem snoc_u64 (l : List Int) (x : Int) : List.map u64 l ++ [u64 x] = List.map u64 (l ++ [x]) := enc_snoc _ _ _
@[go_sem] theorem snoc_Pr_enc (l : List Pr) (x : Pr) : List.map Pr.enc l ++ [Pr.enc x] = List.map Pr.enc (l ++ [x]) := enc_snoc _ _ _
@[go_sem] theorem snoc_Mp_enc (l : List Mp) (x : Mp) : List.map Mp.enc l ++ [Mp.enc x] = List.map Mp.enc (l ++ [x]) := enc_snoc _ _ _
@[go_sem] theorem snoc_Rf_enc (l : List Rf) (x : Rf) : List.map Rf.enc l ++ [Rf.enc x] = List.map Rf.enc (l ++ [x]) := enc_snoc _ _ _
@[go_sem] theorem snoc_Wt_enc (l : List Wt) (x : Wt) : List.map Wt.enc l ++ [Wt.enc x] = List.map Wt.enc (l ++ [x]) := enc_snoc _ _ _
@[go_sem] theorem snoc_Sp_enc (l : List Sp) (x : Sp) : List.map Sp.enc l ++ [Sp.enc x] = List.map Sp.enc (l ++ [x]) := enc_snoc _ _ _
@[go_sem] theorem snoc_Th_enc (l : List Th) (x : Th) : List.map Th.enc l ++ [Th.enc x] = List.map Th.enc (l ++ [x]) := enc_snoc _ _ _
@[go_sem] theorem snoc_Gt_enc (l : List Gt) (x : Gt) : List.map Gt.enc l ++ [Gt.enc x] = List.map Gt.enc (l ++ [x]) := enc_snoc _ _ _
@[go_sem] theorem snoc_Ob_enc (l : List Ob) (x : Ob) : List.map Ob.enc l ++ [Ob.enc x] = List.map Ob.enc (l ++ [x]) := enc_snoc _ _ _
@[go_sem] theorem snoc_Wd_enc (l : List Wd) (x : Wd) : List.map Wd.enc l ++ [Wd.enc x] = List.map Wd.enc (l ++ [x]) := enc_snoc _ _ _
@[go_sem] theorem snoc_Ls_enc (l : List Ls) (x : Ls) : List.map Ls.enc l ++ [Ls.enc x] = List.map Ls.enc (l ++ [x]) := enc_snoc _ _ _
attribute [go_sem] List.length_map List.getElem?_map Int.toNat_natCast
end Go.Proofs.Yteibeoipnjhicaa
