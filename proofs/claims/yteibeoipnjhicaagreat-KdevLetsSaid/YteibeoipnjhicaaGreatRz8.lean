import Derived.Test.YteibeoipnjhicaaGreatEr4
import Derived.Test.YteibeoipnjhicaaGreatEr5
section
namespace Go.Proofs.YteibeoipnjhicaaGreat
open Go Go.RowKit
set_option linter.unusedVariables false
set_option linter.unusedSimpArgs false
def args (a : Nat → Int) : List PV := arr 7 (fun i => [.int .u64 (a i)])
@[go_sem] theorem args_cells (a : Nat → Int) : PV.cells? (.agg (args a)) = some (args a) := rfl
theorem args_bdl (S : Nat → Prop) (a : Nat → Int) : ∀ p ∈ args a, Bd S p := by
  unfold args arr
  simp only [List.mem_flatMap, forall_exists_index, and_imp]
  intro p i _ hp
  simp only [List.mem_cons, List.not_mem_nil, or_false] at hp; subst hp; exact Bd.int _ _
@[go_sem] theorem args_bdL (S : Nat → Prop) (a : Nat → Int) : BdL S (args a) = True := eq_true (args_bdl S a)
@[go_sem] theorem cut_args (a : Nat → Int) : cut Tryz.prog 27 (args a) 0 = some (.agg (args a)) := by kernel_rfl
@[go_sem] theorem cut_args_at0 (a : Nat → Int) : cut Tryz.prog 22 (args a) 0 = some (.int .u64 (a 0)) := by kernel_rfl
@[go_sem] theorem cut_args_at1 (a : Nat → Int) : cut Tryz.prog 22 (args a) 1 = some (.int .u64 (a 1)) := by kernel_rfl
@[go_sem] theorem cut_args_at2 (a : Nat → Int) : cut Tryz.prog 22 (args a) 2 = some (.int .u64 (a 2)) := by kernel_rfl
structure In where
  dev : Int
  words : List Int
  deriving Inhabited
def In.enc (x : In) : List PV := [.int .u64 x.dev] ++ [.sl (List.map u64 x.words)]
def In.zero : In := ⟨0, []⟩
@[go_sem] theorem In.len (x : In) : (In.enc x).length = 2 := by kernel_rfl
@[go_sem] theorem In.cells (x : In) : PV.cells? (.agg (In.enc x)) = some (In.enc x) := rfl
@[go_sem] theorem cut_In_0 (x : In) : cut Tryz.prog 62 (In.enc x) 0 = some (.agg (In.enc x)) := by kernel_rfl
@[go_sem] theorem zeros_In_0 : zeros Tryz.prog 62 = some (In.enc In.zero) := by kernel_rfl
@[go_sem] theorem field_In_0_0 : q2v Tryz.prog 62 0 = some (22, 0) := by kernel_rfl
@[go_sem] theorem field_In_0_1 : q2v Tryz.prog 62 1 = some (41, 1) := by kernel_rfl
@[go_sem] theorem build_In_0_0_1 (dev : Int) (words : List Int) : q4l Tryz.prog 62 [(0, .int .u64 dev), (1, .sl (List.map u64 words))] = some (.agg (In.enc ⟨dev, words⟩)) := by kernel_rfl
@[go_sem] theorem cut_In_dev_0 (x : In) : cut Tryz.prog 22 (In.enc x) 0 = some (.int .u64 x.dev) := by kernel_rfl
@[go_sem] theorem cut_In_words_0 (x : In) : cut Tryz.prog 41 (In.enc x) 1 = some (.sl (List.map u64 x.words)) := by kernel_rfl
@[go_sem] theorem spl_In_ (x v : In) : splice (In.enc x) 0 (In.enc v) = In.enc v := by kernel_rfl
theorem In.bdl (S : Nat → Prop) (x : In) : ∀ p ∈ In.enc x, Bd S p := by
  unfold In.enc
  simp only [List.mem_append, or_imp, forall_and, List.forall_mem_cons, List.not_mem_nil, false_imp_iff, implies_true, and_true, List.forall_mem_nil, List.cons_append, List.nil_append, arr, List.mem_flatMap, forall_exists_index, and_imp]
  and_intros <;> first | exact Bd.int _ _ | exact Bd.bool _ | exact Bd.sl _ (by intro e he; obtain ⟨y, _, rfl⟩ := List.mem_map.1 he; with_reducible exact q5y _ _) | with_reducible exact Ob.bdl _ _ | with_reducible exact Wd.bdl _ _ | with_reducible exact args_bdl _ _
@[go_sem] theorem In.bdS (S : Nat → Prop) (l : List In) : Bd S (.sl (List.map In.enc l)) = True := Bd_slm (In.bdl S) l
structure Clr where
  ob : Ob
  w : Wd
  a : Nat → Int
  deriving Inhabited
def Clr.enc (x : Clr) : List PV := Ob.enc x.ob ++ Wd.enc x.w ++ args x.a
@[go_sem] theorem Clr.len (x : Clr) : (Clr.enc x).length = 62 := by kernel_rfl
@[go_sem] theorem Clr.cells (x : Clr) : PV.cells? (.agg (Clr.enc x)) = some (Clr.enc x) := rfl
@[go_sem] theorem field_Clr_0_0 : q2v Tryz.prog 96 0 = some (58, 0) := by kernel_rfl
@[go_sem] theorem field_Clr_0_1 : q2v Tryz.prog 96 1 = some (25, 51) := by kernel_rfl
@[go_sem] theorem field_Clr_0_2 : q2v Tryz.prog 96 2 = some (27, 55) := by kernel_rfl
@[go_sem] theorem cut_Clr_w_0 (x : Clr) : cut Tryz.prog 25 (Clr.enc x) 51 = some (.agg (Wd.enc x.w)) := by kernel_rfl
@[go_sem] theorem spl_Clr_w (x : Clr) (v : Wd) : splice (Clr.enc x) 51 (Wd.enc v) = Clr.enc { x with w := v } := by kernel_rfl
@[go_sem] theorem cut_Clr_a_at0 (x : Clr) : cut Tryz.prog 22 (Clr.enc x) 55 = some (.int .u64 (x.a 0)) := by kernel_rfl
@[go_sem] theorem cut_Clr_a_at1 (x : Clr) : cut Tryz.prog 22 (Clr.enc x) 56 = some (.int .u64 (x.a 1)) := by kernel_rfl
@[go_sem] theorem cut_Clr_a_at2 (x : Clr) : cut Tryz.prog 22 (Clr.enc x) 57 = some (.int .u64 (x.a 2)) := by kernel_rfl
@[go_sem] theorem cellsOf_api_Input : Tryz.prog.cellsOf 62 = 2 := by kernel_rfl
@[go_sem] theorem info_api_Input : (Tryz.prog.info? 62).isSome = true := by kernel_rfl
attribute [go_sem] Tryz.underlying27
@[go_sem] theorem cut_Clr_ob0 (x : Clr) : cut Tryz.prog 58 (Clr.enc x) 0 = some (.agg (Ob.enc x.ob)) := by kernel_rfl
attribute [go_sem] Tryz.underlying28
@[go_sem] theorem bs1_Ins (x : In) : q3u Tryz.prog 28 1 [(0, .agg (In.enc x))] = some (.sl [In.enc x]) := by kernel_rfl
end Go.Proofs.YteibeoipnjhicaaGreat
end

section
namespace Go.Proofs.YteibeoipnjhicaaGreat.kdev
open Go Go.RowKit Go.Proofs.YteibeoipnjhicaaGreat
set_option linter.unusedVariables false
set_option linter.unusedSimpArgs false
set_option maxHeartbeats 16000000
set_option maxRecDepth 100000
attribute [go_sem] q2s
@[go_sem] theorem ifc_thr : ifcT Tryz.prog 98 = some false := by kernel_rfl
@[go_sem] theorem thr_zeros : zeros Tryz.prog 98 = some [.int .i64 0] := by kernel_rfl
@[go_sem] theorem thr_f0 : q2v Tryz.prog 98 0 = some (33, 0) := by kernel_rfl
@[go_sem] theorem thr_build (e : Int) : q4l Tryz.prog 98 [(0, .int .i64 e)] = some (.agg [.int .i64 e]) := by kernel_rfl
@[go_sem] theorem cl_build (t : Ob) (w : Wd) (a : Nat → Int) : q4l Tryz.prog 96 [(0, .agg (Ob.enc t)), (1, .agg (Wd.enc w)), (2, .agg (args a))] = some (.agg (Clr.enc ⟨t, w, a⟩)) := by kernel_rfl
theorem noidL {l : List PV} (h : BdL (fun _ => False) l) : ∀ p ∈ l, NoId p := h
def thr (e : Int) : PV := .ifc 98 (.agg [.int .i64 e])
attribute [local irreducible] q1a dr q0i Ex.then Ex.inBlock retQ q1r q3f q3e Pure CSat evOp q2r rdOf upd hset strip sp0 cut envL q3h q4c Keep BdL evBs q3n q3z
theorem must_yes (H : Heap) (m : Nat) (e : Int) : CSat Tryz.prog 166 [.bool true, .int .i64 e] H m (fun out H' m' => (∃ r, out = .ret r) ∧ H' = H ∧ m' = m) := by
  refine q4u (by kernel_rfl) Tryz.func166 Tryz.results166 rfl (by simp [Tryz.ntmps166]) (by kernel_rfl) ?_
  repeat' (first | (show q1a ..; first | refine q0d ?_ | refine q0p rfl ?_) | (show q1f ..; refine q0n rfl rfl ?_) | (show goOn ..; refine q0s ?_) | (show q0i ..; first | refine q0q ?_ | refine q0c ?_ | refine q0r ?_ | refine q0f ?_ | refine q0t ?_) | (show q1d ..; first | refine cd_t ?_ | refine cd_f ?_ | refine cd_n (fun _ => ?_) (fun _ => ?_) | refine cd_b (fun _ => ?_) (fun _ => ?_)) | refine q0a ?_ | refine q0m ?_ | refine q0l ?_ | (show retQ ..; first | refine q0o ?_ | refine q0b ?_) | refine q0e ?_)
  exact ⟨⟨_, rfl⟩, rfl, rfl⟩
theorem must_no (H : Heap) (m : Nat) (e : Int) : CSat Tryz.prog 166 [.bool false, .int .i64 e] H m (fun out H' m' => out = .pan (thr e) ∧ H' = H ∧ m' = m) := by
  refine q4u (by kernel_rfl) Tryz.func166 Tryz.results166 rfl (by simp [Tryz.ntmps166]) (by kernel_rfl) ?_
  repeat' (first | (show q1a ..; first | refine q0d ?_ | refine q0p rfl ?_) | (show q1f ..; refine q0n rfl rfl ?_) | (show goOn ..; refine q0s ?_) | (show q0i ..; first | refine q0q ?_ | refine q0c ?_ | refine q0r ?_ | refine q0f ?_ | refine q0t ?_) | (show q1d ..; first | refine cd_t ?_ | refine cd_f ?_ | refine cd_n (fun _ => ?_) (fun _ => ?_) | refine cd_b (fun _ => ?_) (fun _ => ?_)) | refine q0a ?_ | refine q0m ?_ | refine q0l ?_ | (show retQ ..; first | refine q0o ?_ | refine q0b ?_) | refine q0e ?_)
  refine run_panic rfl rfl (by (try simp only [go_sem]); exact nm) (pan_some ?_)
  repeat' (first | refine q0l ?_ | refine q1e ?_ | refine q4x ?_)
  exact ⟨rfl, rfl, rfl⟩
theorem none_yes (H : Heap) (m : Nat) : CSat Tryz.prog 219 [.int .i64 0] H m (fun out H' m' => (∃ r, out = .ret r) ∧ H' = H ∧ m' = m) := by
  refine q4u (by kernel_rfl) Tryz.func219 Tryz.results219 rfl (by simp [Tryz.ntmps219]) (by kernel_rfl) ?_
  repeat' (first | (show q1a ..; first | refine q0d ?_ | refine q0p rfl ?_) | (show q1f ..; first | refine q0n rfl rfl ?_ | refine q0h rfl ?_) | (show goOn ..; first | refine q0s ?_ | refine q0u ?_ | refine q0y ?_) | (show q1k ..; refine q0j ?_) | (show q0i ..; first | refine q0q ?_ | refine q0c ?_ | refine q0r ?_ | refine q0f ?_) | refine q0a ?_ | refine q0m ?_ | refine q0l ?_ | (show retQ ..; first | refine q0o ?_ | refine q0b ?_) | refine q0e ?_)
  (refine q2j (by kernel_rfl) (must_yes _ _ _) ?_ ?_)
  case refine_2 => rintro p H' m' ⟨⟨_, h⟩, _⟩; cases h
  rintro r H' m' ⟨⟨_, h⟩, rfl, rfl⟩
  clear h
  repeat' (first | (show q1a ..; first | refine q0d ?_ | refine q0p rfl ?_) | (show q1f ..; first | refine q0n rfl rfl ?_ | refine q0h rfl ?_) | (show goOn ..; first | refine q0s ?_ | refine q0u ?_ | refine q0y ?_) | (show q1k ..; refine q0j ?_) | (show q0i ..; first | refine q0q ?_ | refine q0c ?_ | refine q0r ?_ | refine q0f ?_) | refine q0a ?_ | refine q0m ?_ | refine q0l ?_ | (show retQ ..; first | refine q0o ?_ | refine q0b ?_) | refine q0e ?_)
  exact ⟨⟨_, rfl⟩, rfl, rfl⟩
theorem none_no (H : Heap) (m : Nat) (e : Int) (he : (e == 0) = false) : CSat Tryz.prog 219 [.int .i64 e] H m (fun out H' m' => out = .pan (thr e) ∧ H' = H ∧ m' = m) := by
  refine q4u (by kernel_rfl) Tryz.func219 Tryz.results219 rfl (by simp [Tryz.ntmps219]) (by kernel_rfl) ?_
  repeat' (first | (show q1a ..; first | refine q0d ?_ | refine q0p rfl ?_) | (show q1f ..; first | refine q0n rfl rfl ?_ | refine q0h rfl ?_) | (show goOn ..; first | refine q0s ?_ | refine q0u ?_ | refine q0y ?_) | (show q1k ..; refine q0j ?_) | (show q0i ..; first | refine q0q ?_ | refine q0c ?_ | refine q0r ?_ | refine q0f ?_) | refine q0a ?_ | refine q0m ?_ | refine q0l ?_ | (show retQ ..; first | refine q0o ?_ | refine q0b ?_) | refine q0e ?_)
  (refine q2j (by kernel_rfl) (must_no _ _ _) ?_ ?_)
  case refine_1 => rintro r H' m' ⟨h, _⟩; cases h
  rintro p H' m' ⟨h, rfl, rfl⟩
  cases h
  repeat' (first | refine q0l ?_ | refine q1e ?_ | refine q4x ?_)
  exact ⟨rfl, rfl, rfl⟩
theorem rec_nil (H : Heap) (m : Nat) : DSat Tryz.prog 64 [.ptr 0 0, .ptr 2 0, .ptr 3 0, .ptr 4 0, .ptr 5 0] H m none (fun H' m' => H' = H ∧ m' = m) := by
  refine dsat_nil (by kernel_rfl) Tryz.func64 Tryz.results64 rfl ⟨rfl, rfl, rfl⟩ ⟨rfl, rfl, rfl⟩ ⟨rfl, rfl, rfl⟩ ⟨⟨_, rfl⟩, rfl, rfl⟩ ifc_any (by simp [Tryz.ntmps64]) (by simp [Tryz.ntmps64]) (by simp [Tryz.ntmps64]) (by simp [Tryz.ntmps64]) (by simp [Tryz.ntmps64]) (by kernel_rfl) ?_
  intro env
  repeat' (first | (show q1a ..; first | refine q0d ?_ | refine q0p rfl ?_ | refine q1c rfl rfl ?_) | (show q1f ..; first | refine q0n rfl rfl ?_ | refine q0h rfl ?_) | (show goOn ..; first | refine q0s ?_ | refine q0u ?_ | refine q0y ?_ | refine q1t ?_ | refine q1s ?_) | (show q1k ..; refine q0j ?_) | (show wGo ..; first | refine q1v ?_ | refine q2b ?_ | refine q1x ?_ | refine q1z ?_ | refine gw_u ?_ | refine q1w (fun _ => ?_) (fun _ => ?_) | refine q2a (fun _ => ?_) (fun _ => ?_) | refine q1y (fun _ => ?_) (fun _ => ?_) | refine q2c (fun _ => ?_) (fun _ => ?_)) | (show dr ..; first | refine q1l ?_ | refine dr_n rfl ?_ | refine q2t rfl rfl ?_) | (show drGo ..; first | refine q2i rfl ?_ | refine q1j rfl ?_) | (show drOn ..; first | refine q1m ?_ | refine q1q ?_ | refine q1p ?_ | refine q2n ?_ | refine q2m ?_) | (show q1o ..; refine q1b ?_) | (refine And.intro (by kernel_rfl : q1r _ = true) ?_) | (show q0i ..; first | refine q0q ?_ | refine q0c ?_ | refine q1h (by kernel_rfl) ?_ | refine q0r ?_ | refine q0f ?_ | refine q0k ?_ | refine q0w ?_ | refine q0t ?_) | (show q1d ..; first | refine cd_t ?_ | refine cd_f ?_ | refine cd_n (fun _ => ?_) (fun _ => ?_) | refine cd_b (fun _ => ?_) (fun _ => ?_)) | refine q0a ?_ | refine q0m ?_ | refine q0l ?_ | refine q0v ?_ | refine q0g ?_ | refine q0x ?_ | refine bl_pass rfl ?_ | refine q1g ?_ | refine q1e ?_ | (show retQ ..; first | refine q0o ?_ | refine q0b ?_) | refine q0e ?_)
  exact ⟨.inl rfl, rfl, rfl⟩
theorem rec_some {H : Heap} {m : Nat} (w x0 : Wd) (e v0 e0 : Int) (k0 : Bool) (h0 : H 0 = some (.box (Wd.enc w))) (h2 : H 2 = some (.box (Wd.enc x0))) (h3 : H 3 = some (.box [.int .u64 v0])) (h4 : H 4 = some (.box [.int .i64 e0])) (h5 : H 5 = some (.box [.bool k0])) (hm : 6 ≤ m) :
    DSat Tryz.prog 64 [.ptr 0 0, .ptr 2 0, .ptr 3 0, .ptr 4 0, .ptr 5 0] H m (some (thr e)) (fun H' m' => H' 2 = some (.box (Wd.enc w)) ∧ H' 3 = some (.box [.int .u64 0]) ∧ H' 4 = some (.box [.int .i64 e]) ∧ H' 5 = some (.box [.bool true])) := by
  have n0 : (0 = m) = False := eq_false (by omega)
  have n2 : (2 = m) = False := eq_false (by omega)
  have n3 : (3 = m) = False := eq_false (by omega)
  have n4 : (4 = m) = False := eq_false (by omega)
  have n5 : (5 = m) = False := eq_false (by omega)
  refine dsat_recover (by kernel_rfl) Tryz.func64 Tryz.results64 rfl ⟨rfl, rfl, rfl⟩ ⟨rfl, rfl, rfl⟩ (by simp [Tryz.ntmps64]) (by simp [Tryz.ntmps64]) (by simp [Tryz.ntmps64]) (by kernel_rfl) ?_
  unfold thr
  simp only [Option.getD_some]
  have m0 : (m == 0) = false := by simp; omega
  have m2 : (m == 2) = false := by simp; omega
  have m3 : (m == 3) = false := by simp; omega
  have m4 : (m == 4) = false := by simp; omega
  have m5 : (m == 5) = false := by simp; omega
  have o0 : (0 == m) = false := by simp; omega
  have o2 : (2 == m) = false := by simp; omega
  have o3 : (3 == m) = false := by simp; omega
  have o4 : (4 == m) = false := by simp; omega
  have o5 : (5 == m) = false := by simp; omega
  repeat' (first | (show q1a ..; first | refine q0d ?_ | refine q0p rfl ?_ | refine q1c rfl rfl ?_) | (show q1f ..; first | refine q0n rfl rfl ?_ | refine q0h rfl ?_) | (show goOn ..; first | refine q0s ?_ | refine q0u ?_ | refine q0y ?_ | refine q1t ?_ | refine q1s ?_) | (show q1k ..; refine q0j ?_) | (show wGo ..; first | refine q1v ?_ | refine q2b ?_ | refine q1x ?_ | refine q1z ?_ | refine gw_u ?_ | refine q1w (fun _ => ?_) (fun _ => ?_) | refine q2a (fun _ => ?_) (fun _ => ?_) | refine q1y (fun _ => ?_) (fun _ => ?_) | refine q2c (fun _ => ?_) (fun _ => ?_)) | (show dr ..; first | refine q1l ?_ | refine dr_n rfl ?_ | refine q2t rfl rfl ?_) | (show drGo ..; first | refine q2i rfl ?_ | refine q1j rfl ?_) | (show drOn ..; first | refine q1m ?_ | refine q1q ?_ | refine q1p ?_ | refine q2n ?_ | refine q2m ?_) | (show q1o ..; refine q1b ?_) | (show q0i ..; first | refine q0q ?_ | refine q0c ?_ | refine q1h (by kernel_rfl) ?_ | refine q0r ?_ | refine q0f ?_ | refine q0k ?_ | refine q0w ?_ | refine q0t ?_) | (show q1d ..; first | refine cd_t ?_ | refine cd_f ?_ | refine cd_n (fun _ => ?_) (fun _ => ?_) | refine cd_b (fun _ => ?_) (fun _ => ?_)) | refine q0a ?_ | refine q0m ?_ | refine q0l ?_ | refine q0v ?_ | refine q0g ?_ | refine q0x ?_ | refine bl_pass rfl ?_ | refine q1g ?_ | refine q1e ?_ | (show retQ ..; first | refine q0o ?_ | refine q0b ?_) | refine q0e ?_)
  refine And.intro (by simp [q1r, okPair, q6n, Eff.wr, Rg.meets, rdOf, go_sem, m0, m2, m3, m4, m5, o0, o2, o3, o4, o5]) ⟨.inl rfl, ?_, ?_, ?_, ?_⟩
  all_goals (repeat (first | rw [q2s] | rw [q2l _ _ (by omega)]))
/-- What a call does with the caller's box: R is the world, the value, the error, and whether it is such a call. -/
def DoC (t : Ob) (w : Wd) (n : Int) (a : Nat → Int) (R : Wd × Int × Int × Bool) : Prop :=
  ∀ (H : Heap), H 7 = some (.box (Clr.enc ⟨t, w, a⟩)) → CSat Tryz.prog 65 [.ptr 7 0, .int .i64 n] H 8 (fun out H' m' => ((R.2.2.1 == 0) = true → out = .ret (.tup [.int .u64 R.2.1, .bool R.2.2.2]) ∧ ∃ t', H' 7 = some (.box (Clr.enc ⟨t', R.1, a⟩))) ∧ ((R.2.2.1 == 0) = false → out = .pan (thr R.2.2.1)) ∧ 8 ≤ m' ∧ ∀ j, j < 7 → H' j = H j)
theorem do_pure (w : Wd) (id n : Int) (a : Nat → Int) (t : Ob) (b : Bool) (R : Wd × Int × Int × Bool) (hfind : Pure Tryz.prog 63 [.agg (Wd.enc w), .int .u64 id] (.tup [.agg (Ob.enc t), .bool b])) (hdo : DoC t w n a R) (hR : (R.2.2.1 == 0) = false → R.1 = w ∧ R.2.1 = 0 ∧ R.2.2.2 = true) :
    Pure Tryz.prog 23 [.agg (Wd.enc w), .int .u64 id, .int .i64 n, .agg (args a)] (.tup [.agg (Wd.enc R.1), .int .u64 R.2.1, .int .i64 R.2.2.1, .bool R.2.2.2]) := by
  obtain ⟨x, v, e, k⟩ := R
  simp only at hR ⊢
  unfold DoC at hdo
  simp only at hdo
  refine pure_of_csat (noidL (by simp only [go_sem])) (by have h : Bd (fun _ => False) (.tup [.agg (Wd.enc x), .int .u64 v, .int .i64 e, .bool k]) := (by simp only [go_sem]); exact h) ?_
  refine q9e (d8 := 26) (g := 64) (by kernel_rfl) Tryz.func23 rfl (.more (.more .one)) (by kernel_rfl) (fun z hz => by cases hz; simp [Tryz.ntmps23]) ⟨rfl, rfl, rfl⟩ (by simp [Tryz.ntmps23]) (by kernel_rfl) (by kernel_rfl) ?_
  repeat' (first | (show q1a ..; first | refine q0d ?_ | refine q0p rfl ?_ | refine q1c rfl rfl ?_) | (show q1f ..; first | refine q0n rfl rfl ?_ | refine q0h rfl ?_) | (show goOn ..; first | refine q0s ?_ | refine q0u ?_ | refine q0y ?_ | refine q1t ?_ | refine q1s ?_) | (show q1k ..; refine q0j ?_) | (show q1u ..; (refine q0z (r := ?_) ?_ ?_; rotate_left 1; (focus exact hfind))) | (show wGo ..; first | refine q1v ?_ | refine q2b ?_ | refine q1x ?_ | refine q1z ?_ | refine gw_u ?_ | refine q1w (fun _ => ?_) (fun _ => ?_) | refine q2a (fun _ => ?_) (fun _ => ?_) | refine q1y (fun _ => ?_) (fun _ => ?_) | refine q2c (fun _ => ?_) (fun _ => ?_)) | (show dr ..; first | refine q1l ?_ | refine dr_n rfl ?_ | refine q2t rfl rfl ?_) | (show drGo ..; first | refine q2i rfl ?_ | refine q1j rfl ?_) | (show drOn ..; first | refine q1m ?_ | refine q1q ?_ | refine q1p ?_ | refine q2n ?_ | refine q2m ?_) | (show q1o ..; refine q1b ?_) | (show q2h ..; (refine q1i (r := ?_) ?_ ?_; rotate_left 1; (focus exact hfind))) | (refine And.intro (by kernel_rfl : q1r _ = true) ?_) | (show q0i ..; first | refine q0q ?_ | refine q0c ?_ | refine q1h (by kernel_rfl) ?_ | refine q0r ?_ | refine q0f ?_ | refine q0k ?_ | refine q0w ?_ | refine q0t ?_) | (show q1d ..; first | refine cd_t ?_ | refine cd_f ?_ | refine cd_n (fun _ => ?_) (fun _ => ?_) | refine cd_b (fun _ => ?_) (fun _ => ?_)) | refine q0a ?_ | refine q0m ?_ | refine q0l ?_ | refine q0v ?_ | refine q0g ?_ | refine q0x ?_ | refine bl_pass rfl ?_ | refine q1g ?_ | refine q1e ?_ | (show retQ ..; first | refine q0o ?_ | refine q0b ?_) | refine q0e ?_)
  refine ⟨rfl, ?_⟩
  repeat' (first | (show q1a ..; first | refine q0d ?_ | refine q0p rfl ?_ | refine q1c rfl rfl ?_) | (show q1f ..; first | refine q0n rfl rfl ?_ | refine q0h rfl ?_) | (show goOn ..; first | refine q0s ?_ | refine q0u ?_ | refine q0y ?_ | refine q1t ?_ | refine q1s ?_) | (show q1k ..; refine q0j ?_) | (show wGo ..; first | refine q1v ?_ | refine q2b ?_ | refine q1x ?_ | refine q1z ?_ | refine gw_u ?_ | refine q1w (fun _ => ?_) (fun _ => ?_) | refine q2a (fun _ => ?_) (fun _ => ?_) | refine q1y (fun _ => ?_) (fun _ => ?_) | refine q2c (fun _ => ?_) (fun _ => ?_)) | (show dr ..; first | refine q1l ?_ | refine dr_n rfl ?_ | refine q2t rfl rfl ?_) | (show drGo ..; first | refine q2i rfl ?_ | refine q1j rfl ?_) | (show drOn ..; first | refine q1m ?_ | refine q1q ?_ | refine q1p ?_ | refine q2n ?_ | refine q2m ?_) | (show q1o ..; refine q1b ?_) | (refine And.intro (by kernel_rfl : q1r _ = true) ?_) | (show q0i ..; first | refine q0q ?_ | refine q0c ?_ | refine q1h (by kernel_rfl) ?_ | refine q0r ?_ | refine q0f ?_ | refine q0k ?_ | refine q0w ?_ | refine q0t ?_) | (show q1d ..; first | refine cd_t ?_ | refine cd_f ?_ | refine cd_n (fun _ => ?_) (fun _ => ?_) | refine cd_b (fun _ => ?_) (fun _ => ?_)) | refine q0a ?_ | refine q0m ?_ | refine q0l ?_ | refine q0v ?_ | refine q0g ?_ | refine q0x ?_ | refine bl_pass rfl ?_ | refine q1g ?_ | refine q1e ?_ | (show retQ ..; first | refine q0o ?_ | refine q0b ?_) | refine q0e ?_)
  refine ⟨rfl, [.ptr 0 0, .ptr 2 0, .ptr 3 0, .ptr 4 0, .ptr 5 0], (by (try simp only [go_sem]); try rfl), ?_⟩
  repeat' (first | (show q1a ..; first | refine q0d ?_ | refine q0p rfl ?_ | refine q1c rfl rfl ?_) | (show q1f ..; first | refine q0n rfl rfl ?_ | refine q0h rfl ?_) | (show goOn ..; first | refine q0s ?_ | refine q0u ?_ | refine q0y ?_ | refine q1t ?_ | refine q1s ?_) | (show q1k ..; refine q0j ?_) | (show wGo ..; first | refine q1v ?_ | refine q2b ?_ | refine q1x ?_ | refine q1z ?_ | refine gw_u ?_ | refine q1w (fun _ => ?_) (fun _ => ?_) | refine q2a (fun _ => ?_) (fun _ => ?_) | refine q1y (fun _ => ?_) (fun _ => ?_) | refine q2c (fun _ => ?_) (fun _ => ?_)) | (show dr ..; first | refine q1l ?_ | refine dr_n rfl ?_ | refine q2t rfl rfl ?_) | (show drGo ..; first | refine q2i rfl ?_ | refine q1j rfl ?_) | (show drOn ..; first | refine q1m ?_ | refine q1q ?_ | refine q1p ?_ | refine q2n ?_ | refine q2m ?_) | (show q1o ..; refine q1b ?_) | (refine And.intro (by kernel_rfl : q1r _ = true) ?_) | (show q0i ..; first | refine q0q ?_ | refine q0c ?_ | refine q1h (by kernel_rfl) ?_ | refine q0r ?_ | refine q0f ?_ | refine q0k ?_ | refine q0w ?_ | refine q0t ?_) | (show q1d ..; first | refine cd_t ?_ | refine cd_f ?_ | refine cd_n (fun _ => ?_) (fun _ => ?_) | refine cd_b (fun _ => ?_) (fun _ => ?_)) | refine q0a ?_ | refine q0m ?_ | refine q0l ?_ | refine q0v ?_ | refine q0g ?_ | refine q0x ?_ | refine bl_pass rfl ?_ | refine q1g ?_ | refine q1e ?_ | (show retQ ..; first | refine q0o ?_ | refine q0b ?_) | refine q0e ?_)
  cases he : (e == 0) with
  | true =>
    obtain rfl : e = 0 := by simpa using he
    (refine q2j (by kernel_rfl) (hdo _ (by simp only [go_sem])) ?_ ?_)
    case refine_2 => rintro p H' m' ⟨h1, _⟩; have := (h1 rfl).1; cases this
    rintro r H1 m1 ⟨h1, _, L1, A1⟩
    obtain ⟨ho, t', c7⟩ := h1 rfl
    cases ho
    have c2 : H1 2 = some (.box (Wd.enc Wd.zero)) := by rw [A1 2 (by omega)]; simp only [go_sem] <;> rfl
    have c3 : H1 3 = some (.box [.int .u64 0]) := by rw [A1 3 (by omega)]; simp only [go_sem] <;> rfl
    have c4 : H1 4 = some (.box [.int .i64 0]) := by rw [A1 4 (by omega)]; simp only [go_sem] <;> rfl
    have c5 : H1 5 = some (.box [.bool false]) := by rw [A1 5 (by omega)]; simp only [go_sem] <;> rfl
    clear A1 h1 hdo
    repeat' (first | (show q1a ..; first | refine q0d ?_ | refine q0p rfl ?_ | refine q1c rfl rfl ?_) | (show q1f ..; first | refine q0n rfl rfl ?_ | refine q0h rfl ?_) | (show goOn ..; first | refine q0s ?_ | refine q0u ?_ | refine q0y ?_ | refine q1t ?_ | refine q1s ?_) | (show q1k ..; refine q0j ?_) | (show wGo ..; first | refine q1v ?_ | refine q2b ?_ | refine q1x ?_ | refine q1z ?_ | refine gw_u ?_ | refine q1w (fun _ => ?_) (fun _ => ?_) | refine q2a (fun _ => ?_) (fun _ => ?_) | refine q1y (fun _ => ?_) (fun _ => ?_) | refine q2c (fun _ => ?_) (fun _ => ?_)) | (show dr ..; first | refine q1l ?_ | refine dr_n rfl ?_ | refine q2t rfl rfl ?_) | (show drGo ..; first | refine q2i rfl ?_ | refine q1j rfl ?_) | (show drOn ..; first | refine q1m ?_ | refine q1q ?_ | refine q1p ?_ | refine q2n ?_ | refine q2m ?_) | (show q1o ..; refine q1b ?_) | (refine And.intro (by kernel_rfl : q3f _ _ _ = true) ?_) | (show q0i ..; first | refine q0q ?_ | refine q0c ?_ | refine q9q (by kernel_rfl) ?_ | refine q0r ?_ | refine q0f ?_ | refine q0k ?_ | refine q0w ?_ | refine q0t ?_) | (show q1d ..; first | refine cd_t ?_ | refine cd_f ?_ | refine cd_n (fun _ => ?_) (fun _ => ?_) | refine cd_b (fun _ => ?_) (fun _ => ?_)) | refine q0a ?_ | refine q0m ?_ | refine q0l ?_ | refine q0v ?_ | refine q0g ?_ | refine q0x ?_ | refine bl_pass rfl ?_ | refine q1g ?_ | refine q1e ?_ | (show retQ ..; first | refine q0o ?_ | refine q0b ?_) | refine q0e ?_)
    unfold KY
    refine (rec_nil _ _).mono ?_
    rintro H2 m2 ⟨rfl, rfl⟩
    refine ⟨.tup [.agg (Wd.enc x), .int .u64 v, .int .i64 0, .bool k], ?_, rfl⟩
    simp only [q8y, q7v, Tryz.results23, go_sem]
    try rfl
  | false =>
    obtain ⟨rfl, rfl, rfl⟩ := hR he
    (refine q2j (by kernel_rfl) (hdo _ (by simp only [go_sem])) ?_ ?_)
    case refine_1 => rintro r H' m' ⟨_, h2, _⟩; have := h2 he; cases this
    rintro p H1 m1 ⟨_, h2, L1, A1⟩
    have ho := h2 he
    cases ho
    have c0 : H1 0 = some (.box (Wd.enc x)) := by rw [A1 0 (by omega)]; simp only [go_sem] <;> rfl
    have c2 : H1 2 = some (.box (Wd.enc Wd.zero)) := by rw [A1 2 (by omega)]; simp only [go_sem] <;> rfl
    have c3 : H1 3 = some (.box [.int .u64 0]) := by rw [A1 3 (by omega)]; simp only [go_sem] <;> rfl
    have c4 : H1 4 = some (.box [.int .i64 0]) := by rw [A1 4 (by omega)]; simp only [go_sem] <;> rfl
    have c5 : H1 5 = some (.box [.bool false]) := by rw [A1 5 (by omega)]; simp only [go_sem] <;> rfl
    clear A1 hdo
    refine q0l ?_
    unfold KY
    refine (rec_some x Wd.zero e 0 0 false c0 c2 c3 c4 c5 (by omega)).mono ?_
    rintro H2 m2 ⟨d2, d3, d4, d5⟩
    refine ⟨.tup [.agg (Wd.enc x), .int .u64 0, .int .i64 e, .bool true], ?_, rfl⟩
    simp only [q8y, q7v, Tryz.results23, go_sem, d2, d3, d4, d5]
    try rfl
end Go.Proofs.YteibeoipnjhicaaGreat.kdev
end
