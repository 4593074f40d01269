import Derived.Test.YteibeoipnjhicaaGreatRz8
import Derived.Test.YteibeoipnjhicaaGreatRz6
import Derived.Test.YteibeoipnjhicaaGreatRz7
import Derived.Test.YteibeoipnjhicaaGreatCp1
import Derived.Test.YteibeoipnjhicaaGreatKfw
section
namespace Go.Proofs.YteibeoipnjhicaaGreat.kdev
open Go Go.RowKit Go.Proofs.YteibeoipnjhicaaGreat
set_option linter.unusedVariables false
set_option linter.unusedSimpArgs false
set_option maxHeartbeats 16000000
set_option maxRecDepth 100000
noncomputable def devR (w : Wd) (t : Ob) (a : Nat → Int) : Ob × Int := q4b w t ⟨a 0, a 1⟩ 6
def outO (o : Ob) (v : Int) : Ob := { o with out := o.out ++ [v] }
noncomputable def outR (w : Wd) (t : Ob) (a : Nat → Int) : Wd × Int × Int × Bool :=
  if ((devR w t a).2 == 0) = true then (if decide (((devR w t a).1.out.length : Int) < 1024) = true then (w.ins (outO (devR w t a).1 (a 2)), 0, 0, true) else (w, 0, 6, true)) else (w, 0, (devR w t a).2, true)
noncomputable def inR (w : Wd) (t : Ob) (a : Nat → Int) : Wd × Int × Int × Bool :=
  if ((devR w t a).2 == 0) = true then (match (devR w t a).1.inn with
    | [] => (w, 0, 9, true)
    | v :: l => (w.ins { (devR w t a).1 with inn := l }, v, 0, true)) else (w, 0, (devR w t a).2, true)
noncomputable def q4y (w : Wd) (t : Ob) (n : Int) (a : Nat → Int) : Wd × Int × Int × Bool :=
  if (n == 41) = true then outR w t a else if (n == 42) = true then inR w t a else (w, 0, 0, false)
def outK (r : Ob × Int) : Out := if (r.2 == 0) = true then .ret (.agg (Ob.enc r.1)) else .pan (thr r.2)
@[go_sem] theorem all_opt (x : Option Int) : Option.all (fun c : List PV => c.length == 1) (Option.map u64 x) = true := by cases x <;> rfl
@[go_sem] theorem spl1_out (x : Ob) (b : Int) : splice (Ob.enc x) 50 [.sl [u64 b]] = Ob.enc { x with out := [b] } := by kernel_rfl
attribute [local irreducible] q1a dr q0i Ex.then Ex.inBlock retQ q1r q3f q3e Pure CSat evOp q2r rdOf upd hset strip sp0 cut envL q3h q4c Keep BdL evBs q3n q3z
theorem device_csat {H : Heap} (t : Ob) (w : Wd) (a : Nat → Int) (hb : H 7 = some (.box (Clr.enc ⟨t, w, a⟩))) (hf : FewW w) (hw : q5h w = true) (ht : q4i t.label = true) (htl : t.label.length ≤ 20) :
    CSat Tryz.prog 165 [.ptr 7 0] H 8 (fun out H' m' => out = outK (devR w t a) ∧ m' = 10 ∧ ∀ j, j < 8 → H' j = H j) := by
  have h1 := reach_change w t ⟨a 0, a 1⟩ 6 hf hw ht htl
  unfold devR
  generalize q4b w t ⟨a 0, a 1⟩ 6 = D at h1 ⊢
  obtain ⟨o, e⟩ := D
  simp only at h1 ⊢
  cases he : (e == 0) with
  | false =>
    have hoe : outK (o, e) = .pan (thr e) := by unfold outK; rw [if_neg (by rw [he]; simp)]
    rw [hoe]
    refine q4u (by kernel_rfl) Tryz.func165 Tryz.results165 rfl (by simp [Tryz.ntmps165]) (by kernel_rfl) ?_
    repeat' (first | (show q1a ..; first | refine q0d ?_ | refine q0p rfl ?_) | (show q1f ..; first | refine q0n rfl rfl ?_ | refine q0h rfl ?_) | (show goOn ..; first | refine q0s ?_ | refine q0u ?_ | refine q0y ?_) | (show q1k ..; refine q0j ?_) | (show q1u ..; (refine q0z (r := ?_) ?_ ?_; rotate_left 1; (focus exact h1))) | (show dr ..; first | refine q1l ?_ | refine dr_n rfl ?_) | (show drGo ..; first | refine q2i rfl ?_ | refine q1j rfl ?_) | (show drOn ..; first | refine q1m ?_ | refine q1q ?_ | refine q1p ?_) | (show q1o ..; refine q1b ?_) | (show q2h ..; (refine q1i (r := ?_) ?_ ?_; rotate_left 1; (focus exact h1))) | (refine And.intro (by kernel_rfl : q1r _ = true) ?_) | (show q0i ..; first | refine q0q ?_ | refine q0c ?_ | refine q1h (by kernel_rfl) ?_ | refine q0r ?_ | refine q0f ?_) | refine q0a ?_ | refine q0m ?_ | refine q0l ?_ | (show retQ ..; first | refine q0o ?_ | refine q0b ?_) | refine q0e ?_)
    (refine q2j (by kernel_rfl) (none_no _ _ _ he) ?_ ?_)
    case refine_1 => rintro r H' m' ⟨h, _⟩; cases h
    rintro p H1 m1 ⟨h, rfl, rfl⟩
    cases h
    repeat' (first | refine q0l ?_ | refine q1e ?_ | refine q4x ?_)
    exact ⟨rfl, rfl, (fun j hj => by repeat rw [q2l _ _ (by omega)])⟩
  | true =>
    have hoe : outK (o, e) = .ret (.agg (Ob.enc o)) := by unfold outK; rw [if_pos he]
    rw [hoe]
    obtain rfl : e = 0 := by simpa using he
    refine q4u (by kernel_rfl) Tryz.func165 Tryz.results165 rfl (by simp [Tryz.ntmps165]) (by kernel_rfl) ?_
    repeat' (first | (show q1a ..; first | refine q0d ?_ | refine q0p rfl ?_) | (show q1f ..; first | refine q0n rfl rfl ?_ | refine q0h rfl ?_) | (show goOn ..; first | refine q0s ?_ | refine q0u ?_ | refine q0y ?_) | (show q1k ..; refine q0j ?_) | (show q1u ..; (refine q0z (r := ?_) ?_ ?_; rotate_left 1; (focus exact h1))) | (show dr ..; first | refine q1l ?_ | refine dr_n rfl ?_) | (show drGo ..; first | refine q2i rfl ?_ | refine q1j rfl ?_) | (show drOn ..; first | refine q1m ?_ | refine q1q ?_ | refine q1p ?_) | (show q1o ..; refine q1b ?_) | (show q2h ..; (refine q1i (r := ?_) ?_ ?_; rotate_left 1; (focus exact h1))) | (refine And.intro (by kernel_rfl : q1r _ = true) ?_) | (show q0i ..; first | refine q0q ?_ | refine q0c ?_ | refine q1h (by kernel_rfl) ?_ | refine q0r ?_ | refine q0f ?_) | refine q0a ?_ | refine q0m ?_ | refine q0l ?_ | (show retQ ..; first | refine q0o ?_ | refine q0b ?_) | refine q0e ?_)
    (refine q2j (by kernel_rfl) (none_yes _ _) ?_ ?_)
    case refine_2 => rintro p H' m' ⟨⟨_, h⟩, _⟩; cases h
    rintro r H' m' ⟨⟨_, h⟩, rfl, rfl⟩
    clear h
    repeat' (first | (show q1a ..; first | refine q0d ?_ | refine q0p rfl ?_) | (show q1f ..; first | refine q0n rfl rfl ?_ | refine q0h rfl ?_) | (show goOn ..; first | refine q0s ?_ | refine q0u ?_ | refine q0y ?_) | (show q1k ..; refine q0j ?_) | (show dr ..; first | refine q1l ?_ | refine dr_n rfl ?_) | (show drGo ..; first | refine q2i rfl ?_ | refine q1j rfl ?_) | (show drOn ..; first | refine q1m ?_ | refine q1q ?_ | refine q1p ?_) | (show q1o ..; refine q1b ?_) | (refine And.intro (by kernel_rfl : q1r _ = true) ?_) | (show q0i ..; first | refine q0q ?_ | refine q0c ?_ | refine q1h (by kernel_rfl) ?_ | refine q0r ?_ | refine q0f ?_) | refine q0a ?_ | refine q0m ?_ | refine q0l ?_ | (show retQ ..; first | refine q0o ?_ | refine q0b ?_) | refine q0e ?_)
    exact ⟨rfl, rfl, (fun j hj => by repeat rw [q2l _ _ (by omega)])⟩
theorem out_csat {H : Heap} (t : Ob) (w : Wd) (a : Nat → Int) (hb : H 7 = some (.box (Clr.enc ⟨t, w, a⟩))) (hf : FewW w) (hw : q5h w = true) (ht : q4i t.label = true) (htl : t.label.length ≤ 20) :
    CSat Tryz.prog 114 [.ptr 7 0] H 8 (fun out H' m' => (((outR w t a).2.2.1 == 0) = true → (∃ r, out = .ret r) ∧ (outR w t a).2.1 = 0 ∧ (outR w t a).2.2.2 = true ∧ H' 7 = some (.box (Clr.enc ⟨t, (outR w t a).1, a⟩))) ∧ (((outR w t a).2.2.1 == 0) = false → out = .pan (thr (outR w t a).2.2.1)) ∧ 8 ≤ m' ∧ ∀ j, j < 7 → H' j = H j) := by
  have devC := fun (H : Heap) hb => device_csat (H := H) t w a hb hf hw ht htl
  have hris := (q5d hw).1
  have hn := hf.n
  unfold outR
  generalize devR w t a = D at devC ⊢
  obtain ⟨o, e⟩ := D
  simp only at devC ⊢
  cases he : (e == 0) with
  | false =>
    have hoe : outK (o, e) = .pan (thr e) := by unfold outK; rw [if_neg (by rw [he]; simp)]
    rw [hoe] at devC
    simp only [Bool.false_eq_true, if_false]
    refine q4u (by kernel_rfl) Tryz.func114 Tryz.results114 rfl (by simp [Tryz.ntmps114]) (by kernel_rfl) ?_
    repeat' (first | (show q1a ..; first | refine q0d ?_ | refine q0p rfl ?_) | (show q1f ..; first | refine q0n rfl rfl ?_ | refine q0h rfl ?_) | (show goOn ..; first | refine q0s ?_ | refine q0u ?_ | refine q0y ?_ | refine q1t ?_ | refine q1s ?_) | (show q1k ..; refine q0j ?_) | (show dr ..; first | refine q1l ?_ | refine dr_n rfl ?_) | (show drGo ..; first | refine q2i rfl ?_ | refine q1j rfl ?_) | (show drOn ..; first | refine q1m ?_ | refine q1q ?_ | refine q1p ?_ | refine q2n ?_ | refine q2m ?_) | (show q1o ..; refine q1b ?_) | (refine And.intro (by kernel_rfl : q1r _ = true) ?_) | (show q0i ..; first | refine q0q ?_ | refine q0c ?_ | refine q1h (by kernel_rfl) ?_ | refine q0r ?_ | refine q0f ?_) | refine q0a ?_ | refine q0m ?_ | refine q0l ?_ | (show retQ ..; first | refine q0o ?_ | refine q0b ?_) | refine q0e ?_)
    (refine q2j (by kernel_rfl) (devC _ (by simp only [go_sem, *])) ?_ ?_)
    case refine_1 => rintro r H' m' ⟨h, _⟩; cases h
    rintro p H1 m1 ⟨h, rfl, A1⟩
    cases h
    repeat' (first | refine q0l ?_ | refine q1e ?_ | refine q4x ?_)
    exact ⟨(fun h => by rw [he] at h; cases h), (fun _ => rfl), by omega, (fun j hj => A1 j (by omega))⟩
  | true =>
    have hoe : outK (o, e) = .ret (.agg (Ob.enc o)) := by unfold outK; rw [if_pos he]
    rw [hoe] at devC
    obtain rfl : e = 0 := by simpa using he
    simp only [if_true]
    cases hl : decide ((o.out.length : Int) < 1024) with
    | false =>
      simp only [Bool.false_eq_true, if_false]
      refine q4u (by kernel_rfl) Tryz.func114 Tryz.results114 rfl (by simp [Tryz.ntmps114]) (by kernel_rfl) ?_
      repeat' (first | (show q1a ..; first | refine q0d ?_ | refine q0p rfl ?_) | (show q1f ..; first | refine q0n rfl rfl ?_ | refine q0h rfl ?_) | (show goOn ..; first | refine q0s ?_ | refine q0u ?_ | refine q0y ?_ | refine q1t ?_ | refine q1s ?_) | (show q1k ..; refine q0j ?_) | (show dr ..; first | refine q1l ?_ | refine dr_n rfl ?_) | (show drGo ..; first | refine q2i rfl ?_ | refine q1j rfl ?_) | (show drOn ..; first | refine q1m ?_ | refine q1q ?_ | refine q1p ?_ | refine q2n ?_ | refine q2m ?_) | (show q1o ..; refine q1b ?_) | (refine And.intro (by kernel_rfl : q1r _ = true) ?_) | (show q0i ..; first | refine q0q ?_ | refine q0c ?_ | refine q1h (by kernel_rfl) ?_ | refine q0r ?_ | refine q0f ?_) | refine q0a ?_ | refine q0m ?_ | refine q0l ?_ | (show retQ ..; first | refine q0o ?_ | refine q0b ?_) | refine q0e ?_)
      (refine q2j (by kernel_rfl) (devC _ (by simp only [go_sem, *])) ?_ ?_)
      case refine_2 => rintro p H' m' ⟨h, _⟩; cases h
      rintro r H1 m1 ⟨h, rfl, A1⟩
      cases h
      have c7 : H1 7 = some (.box (Clr.enc ⟨t, w, a⟩)) := by rw [A1 7 (by omega)]; exact hb
      repeat' (first | (show q1a ..; first | refine q0d ?_ | refine q0p rfl ?_) | (show q1f ..; first | refine q0n rfl rfl ?_ | refine q0h rfl ?_) | (show goOn ..; first | refine q0s ?_ | refine q0u ?_ | refine q0y ?_ | refine q1t ?_ | refine q1s ?_) | (show q1k ..; refine q0j ?_) | (show dr ..; first | refine q1l ?_ | refine dr_n rfl ?_) | (show drGo ..; first | refine q2i rfl ?_ | refine q1j rfl ?_) | (show drOn ..; first | refine q1m ?_ | refine q1q ?_ | refine q1p ?_ | refine q2n ?_ | refine q2m ?_) | (show q1o ..; refine q1b ?_) | (refine And.intro (by kernel_rfl : q1r _ = true) ?_) | (show q0i ..; first | refine q0q ?_ | refine q0c ?_ | refine q1h (by kernel_rfl) ?_ | refine q0r ?_ | refine q0f ?_) | refine q0a ?_ | refine q0m ?_ | refine q0l ?_ | (show retQ ..; first | refine q0o ?_ | refine q0b ?_) | refine q0e ?_)
      (refine q2j (by kernel_rfl) (must_no _ _ _) ?_ ?_)
      case refine_1 => rintro r H' m' ⟨h, _⟩; cases h
      rintro p H' m' ⟨h, rfl, rfl⟩
      cases h
      repeat' (first | refine q0l ?_ | refine q1e ?_ | refine q4x ?_)
      exact ⟨(fun h => by cases h), (fun _ => rfl), by omega, (fun j hj => by (repeat rw [q2l _ _ (by omega)]); exact A1 j (by omega))⟩
    | true =>
      simp only [if_true]
      have hlen := of_decide_eq_true hl
      have hput := fun v => put_c w (outO o v) hris (by omega)
      cases hoo : o.out with
      | nil =>
        have hp := hput (a 2)
        unfold outO at hp ⊢
        rw [hoo, List.nil_append] at hp ⊢
        have g1 := cloneU_nilsl
        refine q4u (by kernel_rfl) Tryz.func114 Tryz.results114 rfl (by simp [Tryz.ntmps114]) (by kernel_rfl) ?_
        repeat' (first | (show q1a ..; first | refine q0d ?_ | refine q0p rfl ?_) | (show q1f ..; first | refine q0n rfl rfl ?_ | refine q0h rfl ?_) | (show goOn ..; first | refine q0s ?_ | refine q0u ?_ | refine q0y ?_ | refine q1t ?_ | refine q1s ?_) | (show q1k ..; refine q0j ?_) | (show dr ..; first | refine q1l ?_ | refine dr_n rfl ?_) | (show drGo ..; first | refine q2i rfl ?_ | refine q1j rfl ?_) | (show drOn ..; first | refine q1m ?_ | refine q1q ?_ | refine q1p ?_ | refine q2n ?_ | refine q2m ?_) | (show q1o ..; refine q1b ?_) | (refine And.intro (by kernel_rfl : q1r _ = true) ?_) | (show q0i ..; first | refine q0q ?_ | refine q0c ?_ | refine q1h (by kernel_rfl) ?_ | refine q0r ?_ | refine q0f ?_) | refine q0a ?_ | refine q0m ?_ | refine q0l ?_ | (show retQ ..; first | refine q0o ?_ | refine q0b ?_) | refine q0e ?_)
        (refine q2j (by kernel_rfl) (devC _ (by simp only [go_sem, *])) ?_ ?_)
        case refine_2 => rintro p H' m' ⟨h, _⟩; cases h
        rintro r H1 m1 ⟨h, rfl, A1⟩
        cases h
        have c7 : H1 7 = some (.box (Clr.enc ⟨t, w, a⟩)) := by rw [A1 7 (by omega)]; exact hb
        repeat' (first | (show q1a ..; first | refine q0d ?_ | refine q0p rfl ?_) | (show q1f ..; first | refine q0n rfl rfl ?_ | refine q0h rfl ?_) | (show goOn ..; first | refine q0s ?_ | refine q0u ?_ | refine q0y ?_ | refine q1t ?_ | refine q1s ?_) | (show q1k ..; refine q0j ?_) | (show dr ..; first | refine q1l ?_ | refine dr_n rfl ?_) | (show drGo ..; first | refine q2i rfl ?_ | refine q1j rfl ?_) | (show drOn ..; first | refine q1m ?_ | refine q1q ?_ | refine q1p ?_ | refine q2n ?_ | refine q2m ?_) | (show q1o ..; refine q1b ?_) | (refine And.intro (by kernel_rfl : q1r _ = true) ?_) | (show q0i ..; first | refine q0q ?_ | refine q0c ?_ | refine q1h (by kernel_rfl) ?_ | refine q0r ?_ | refine q0f ?_) | refine q0a ?_ | refine q0m ?_ | refine q0l ?_ | (show retQ ..; first | refine q0o ?_ | refine q0b ?_) | refine q0e ?_)
        (refine q2j (by kernel_rfl) (must_yes _ _ _) ?_ ?_)
        case refine_2 => rintro p H' m' ⟨⟨_, h⟩, _⟩; cases h
        rintro r H' m' ⟨⟨_, h⟩, rfl, rfl⟩
        clear h
        repeat' (first | (show q1a ..; first | refine q0d ?_ | refine q0p rfl ?_) | (show q1f ..; first | refine q0n rfl rfl ?_ | refine q0h rfl ?_) | (show goOn ..; first | refine q0s ?_ | refine q0u ?_ | refine q0y ?_ | refine q1t ?_ | refine q1s ?_) | (show q1k ..; refine q0j ?_) | (show dr ..; first | refine q1l ?_ | refine dr_n rfl ?_) | (show drGo ..; first | refine q2i rfl ?_ | refine q1j rfl ?_) | (show drOn ..; first | refine q1m ?_ | refine q1q ?_ | refine q1p ?_ | refine q2n ?_ | refine q2m ?_) | (show q1o ..; refine q1b ?_) | (refine And.intro (by kernel_rfl : q1r _ = true) ?_) | (show q0i ..; first | refine q0q ?_ | refine q0c ?_ | refine q0r ?_ | refine q0f ?_) | refine q0a ?_ | refine q0m ?_ | refine q0l ?_ | (show retQ ..; first | refine q0o ?_ | refine q0b ?_) | refine q0e ?_)
        refine pc_drawL 10 (by kernel_rfl) (by kernel_rfl) ?_
        repeat' (first | (show q1a ..; first | refine q0d ?_ | refine q0p rfl ?_) | (show q1f ..; first | refine q0n rfl rfl ?_ | refine q0h rfl ?_) | (show goOn ..; first | refine q0s ?_ | refine q0u ?_ | refine q0y ?_ | refine q1t ?_ | refine q1s ?_) | (show q1k ..; refine q0j ?_) | (show q1u ..; (refine q0z (r := ?_) ?_ ?_; rotate_left 1; (focus exact g1))) | (show dr ..; first | refine q1l ?_ | refine dr_n rfl ?_) | (show drGo ..; first | refine q2i rfl ?_ | refine q1j rfl ?_) | (show drOn ..; first | refine q1m ?_ | refine q1q ?_ | refine q1p ?_ | refine q2n ?_ | refine q2m ?_) | (show q1o ..; refine q1b ?_) | (show q2h ..; (refine q1i (r := ?_) ?_ ?_; rotate_left 1; (focus exact g1))) | (refine And.intro (by kernel_rfl : q1r _ = true) ?_) | (show q0i ..; first | refine q0q ?_ | refine q0c ?_ | refine q0r ?_ | refine q0f ?_) | refine q0a ?_ | refine q0m ?_ | refine q0l ?_ | (show retQ ..; first | refine q0o ?_ | refine q0b ?_) | refine q0e ?_)
        repeat' (first | (show q1a ..; first | refine q0d ?_ | refine q0p rfl ?_) | (show q1f ..; first | refine q0n rfl rfl ?_ | refine q0h rfl ?_) | (show goOn ..; first | refine q0s ?_ | refine q0u ?_ | refine q0y ?_ | refine q1t ?_ | refine q1s ?_) | (show q1k ..; refine q0j ?_) | (show q1u ..; (refine q0z (r := ?_) ?_ ?_; rotate_left 1; (focus exact hp))) | (show dr ..; first | refine q1l ?_ | refine dr_n rfl ?_) | (show drGo ..; first | refine q2i rfl ?_ | refine q1j rfl ?_) | (show drOn ..; first | refine q1m ?_ | refine q1q ?_ | refine q1p ?_ | refine q2n ?_ | refine q2m ?_) | (show q1o ..; refine q1b ?_) | (show q2h ..; (refine q1i (r := ?_) ?_ ?_; rotate_left 1; (focus exact hp))) | (refine And.intro (by kernel_rfl : q3f _ _ _ = true) ?_) | (show q0i ..; first | refine q0q ?_ | refine q0c ?_ | refine q9q (by kernel_rfl) ?_ | refine q0r ?_ | refine q0f ?_) | refine q0a ?_ | refine q0m ?_ | refine q0l ?_ | (show retQ ..; first | refine q0o ?_ | refine q0b ?_) | refine q0e ?_)
        exact ⟨(fun _ => ⟨⟨_, rfl⟩, by first | rfl | trivial, by first | rfl | trivial, by simp only [go_sem]⟩), (fun h => by cases h), by omega, (fun j hj => by (repeat rw [q2l _ _ (by omega)]); exact A1 j (by omega))⟩
      | cons x l =>
        have hp := hput (a 2)
        have hne : o.out ≠ [] := by rw [hoo]; simp
        have g1 := cloneU_born (l := o.out) (by omega) hne
        have h3 : ((o.out.length + 1) * 8 ≤ 140737488355328) = True := q6i (by omega) (by decide)
        have h4 : (o.out.length + 1 ≤ maxLen) = True := q5r (by omega)
        have h5 : ((o.out ++ [a 2]).length = o.out.length + 1) = True := eq_true (by simp)
        clear hoo
        unfold outO at hp ⊢
        refine q4u (by kernel_rfl) Tryz.func114 Tryz.results114 rfl (by simp [Tryz.ntmps114]) (by kernel_rfl) ?_
        repeat' (first | (show q1a ..; first | refine q0d ?_ | refine q0p rfl ?_) | (show q1f ..; first | refine q0n rfl rfl ?_ | refine q0h rfl ?_) | (show goOn ..; first | refine q0s ?_ | refine q0u ?_ | refine q0y ?_ | refine q1t ?_ | refine q1s ?_) | (show q1k ..; refine q0j ?_) | (show dr ..; first | refine q1l ?_ | refine dr_n rfl ?_) | (show drGo ..; first | refine q2i rfl ?_ | refine q1j rfl ?_) | (show drOn ..; first | refine q1m ?_ | refine q1q ?_ | refine q1p ?_ | refine q2n ?_ | refine q2m ?_) | (show q1o ..; refine q1b ?_) | (refine And.intro (by kernel_rfl : q1r _ = true) ?_) | (show q0i ..; first | refine q0q ?_ | refine q0c ?_ | refine q1h (by kernel_rfl) ?_ | refine q0r ?_ | refine q0f ?_) | refine q0a ?_ | refine q0m ?_ | refine q0l ?_ | (show retQ ..; first | refine q0o ?_ | refine q0b ?_) | refine q0e ?_)
        (refine q2j (by kernel_rfl) (devC _ (by simp only [go_sem, *])) ?_ ?_)
        case refine_2 => rintro p H' m' ⟨h, _⟩; cases h
        rintro r H1 m1 ⟨h, rfl, A1⟩
        cases h
        have c7 : H1 7 = some (.box (Clr.enc ⟨t, w, a⟩)) := by rw [A1 7 (by omega)]; exact hb
        repeat' (first | (show q1a ..; first | refine q0d ?_ | refine q0p rfl ?_) | (show q1f ..; first | refine q0n rfl rfl ?_ | refine q0h rfl ?_) | (show goOn ..; first | refine q0s ?_ | refine q0u ?_ | refine q0y ?_ | refine q1t ?_ | refine q1s ?_) | (show q1k ..; refine q0j ?_) | (show dr ..; first | refine q1l ?_ | refine dr_n rfl ?_) | (show drGo ..; first | refine q2i rfl ?_ | refine q1j rfl ?_) | (show drOn ..; first | refine q1m ?_ | refine q1q ?_ | refine q1p ?_ | refine q2n ?_ | refine q2m ?_) | (show q1o ..; refine q1b ?_) | (refine And.intro (by kernel_rfl : q1r _ = true) ?_) | (show q0i ..; first | refine q0q ?_ | refine q0c ?_ | refine q1h (by kernel_rfl) ?_ | refine q0r ?_ | refine q0f ?_) | refine q0a ?_ | refine q0m ?_ | refine q0l ?_ | (show retQ ..; first | refine q0o ?_ | refine q0b ?_) | refine q0e ?_)
        (refine q2j (by kernel_rfl) (must_yes _ _ _) ?_ ?_)
        case refine_2 => rintro p H' m' ⟨⟨_, h⟩, _⟩; cases h
        rintro r H' m' ⟨⟨_, h⟩, rfl, rfl⟩
        clear h
        repeat' (first | (show q1a ..; first | refine q0d ?_ | refine q0p rfl ?_) | (show q1f ..; first | refine q0n rfl rfl ?_ | refine q0h rfl ?_) | (show goOn ..; first | refine q0s ?_ | refine q0u ?_ | refine q0y ?_ | refine q1t ?_ | refine q1s ?_) | (show q1k ..; refine q0j ?_) | (show dr ..; first | refine q1l ?_ | refine dr_n rfl ?_) | (show drGo ..; first | refine q2i rfl ?_ | refine q1j rfl ?_) | (show drOn ..; first | refine q1m ?_ | refine q1q ?_ | refine q1p ?_ | refine q2n ?_ | refine q2m ?_) | (show q1o ..; refine q1b ?_) | (refine And.intro (by kernel_rfl : q1r _ = true) ?_) | (show q0i ..; first | refine q0q ?_ | refine q0c ?_ | refine q0r ?_ | refine q0f ?_) | refine q0a ?_ | refine q0m ?_ | refine q0l ?_ | (show retQ ..; first | refine q0o ?_ | refine q0b ?_) | refine q0e ?_)
        refine pc_drawL 10 (by kernel_rfl) (by kernel_rfl) ?_
        repeat' (first | (show q1a ..; first | refine q0d ?_ | refine q0p rfl ?_) | (show q1f ..; first | refine q0n rfl rfl ?_ | refine q0h rfl ?_) | (show goOn ..; first | refine q0s ?_ | refine q0u ?_ | refine q0y ?_ | refine q1t ?_ | refine q1s ?_) | (show q1k ..; refine q0j ?_) | (show dr ..; first | refine q1l ?_ | refine dr_n rfl ?_) | (show drGo ..; first | refine q2i rfl ?_ | refine q1j rfl ?_) | (show drOn ..; first | refine q1m ?_ | refine q1q ?_ | refine q1p ?_ | refine q2n ?_ | refine q2m ?_) | (show q1o ..; refine q1b ?_) | (show q2h ..; refine dcall_born (by kernel_rfl) (g1) (by (try simp only [go_sem, *]); exact nm) (by (try simp only [go_sem, *]); exact nm) ?_) | (refine And.intro (by kernel_rfl : q1r _ = true) ?_) | (show q0i ..; first | refine q0q ?_ | refine q0c ?_ | refine q0r ?_ | refine q0f ?_) | refine q0a ?_ | refine q0m ?_ | refine q0l ?_ | (show retQ ..; first | refine q0o ?_ | refine q0b ?_) | refine q0e ?_)
        repeat' (first | (show q1a ..; first | refine q0d ?_ | refine q0p rfl ?_) | (show q1f ..; first | refine q0n rfl rfl ?_ | refine q0h rfl ?_) | (show goOn ..; first | refine q0s ?_ | refine q0u ?_ | refine q0y ?_ | refine q1t ?_ | refine q1s ?_) | (show q1k ..; refine q0j ?_) | (show q1u ..; (refine q0z (r := ?_) ?_ ?_; rotate_left 1; (focus exact hp))) | (show dr ..; first | refine q1l ?_ | refine dr_n rfl ?_) | (show drGo ..; first | refine q2i rfl ?_ | refine q1j rfl ?_) | (show drOn ..; first | refine q1m ?_ | refine q1q ?_ | refine q1p ?_ | refine q2n ?_ | refine q2m ?_) | (show q1o ..; refine q1b ?_) | (show q2h ..; (refine q1i (r := ?_) ?_ ?_; rotate_left 1; (focus exact hp))) | (refine And.intro (by kernel_rfl : q3f _ _ _ = true) ?_) | (show q0i ..; first | refine q0q ?_ | refine q0c ?_ | refine q9q (by kernel_rfl) ?_ | refine q0r ?_ | refine q0f ?_) | refine q0a ?_ | refine q0m ?_ | refine q0l ?_ | (show retQ ..; first | refine q0o ?_ | refine q0b ?_) | refine q0e ?_)
        exact ⟨(fun _ => ⟨⟨_, rfl⟩, by first | rfl | trivial, by first | rfl | trivial, by simp only [go_sem]⟩), (fun h => by cases h), by omega, (fun j hj => by (repeat rw [q2l _ _ (by omega)]); exact A1 j (by omega))⟩
theorem in_csat {H : Heap} (t : Ob) (w : Wd) (a : Nat → Int) (hb : H 7 = some (.box (Clr.enc ⟨t, w, a⟩))) (hf : FewW w) (hw : q5h w = true) (ht : q4i t.label = true) (htl : t.label.length ≤ 20) (hil : (devR w t a).1.inn.length ≤ 1000) :
    CSat Tryz.prog 115 [.ptr 7 0] H 8 (fun out H' m' => (((inR w t a).2.2.1 == 0) = true → out = .ret (.int .u64 (inR w t a).2.1) ∧ (inR w t a).2.2.2 = true ∧ H' 7 = some (.box (Clr.enc ⟨t, (inR w t a).1, a⟩))) ∧ (((inR w t a).2.2.1 == 0) = false → out = .pan (thr (inR w t a).2.2.1)) ∧ 8 ≤ m' ∧ ∀ j, j < 7 → H' j = H j) := by
  have devC := fun (H : Heap) hb => device_csat (H := H) t w a hb hf hw ht htl
  have hris := (q5d hw).1
  have hn := hf.n
  unfold inR
  generalize devR w t a = D at devC hil ⊢
  obtain ⟨o, e⟩ := D
  simp only at devC hil ⊢
  cases he : (e == 0) with
  | false =>
    have hoe : outK (o, e) = .pan (thr e) := by unfold outK; rw [if_neg (by rw [he]; simp)]
    rw [hoe] at devC
    simp only [Bool.false_eq_true, if_false]
    refine q4u (by kernel_rfl) Tryz.func115 Tryz.results115 rfl (by simp [Tryz.ntmps115]) (by kernel_rfl) ?_
    repeat' (first | (show q1a ..; first | refine q0d ?_ | refine q0p rfl ?_) | (show q1f ..; first | refine q0n rfl rfl ?_ | refine q0h rfl ?_) | (show goOn ..; first | refine q0s ?_ | refine q0u ?_ | refine q0y ?_) | (show q1k ..; refine q0j ?_) | (show dr ..; first | refine q1l ?_ | refine dr_n rfl ?_) | (show drGo ..; first | refine q2i rfl ?_ | refine q1j rfl ?_) | (show drOn ..; first | refine q1m ?_ | refine q1q ?_ | refine q1p ?_) | (show q1o ..; refine q1b ?_) | (refine And.intro (by kernel_rfl : q1r _ = true) ?_) | (show q0i ..; first | refine q0q ?_ | refine q0c ?_ | refine q1h (by kernel_rfl) ?_ | refine q0r ?_ | refine q0f ?_) | refine q0a ?_ | refine q0m ?_ | refine q0l ?_ | (show retQ ..; first | refine q0o ?_ | refine q0b ?_) | refine q0e ?_)
    (refine q2j (by kernel_rfl) (devC _ (by simp only [go_sem, *])) ?_ ?_)
    case refine_1 => rintro r H' m' ⟨h, _⟩; cases h
    rintro p H1 m1 ⟨h, rfl, A1⟩
    cases h
    repeat' (first | refine q0l ?_ | refine q1e ?_ | refine q4x ?_)
    exact ⟨(fun h => by rw [he] at h; cases h), (fun _ => rfl), by omega, (fun j hj => A1 j (by omega))⟩
  | true =>
    have hoe : outK (o, e) = .ret (.agg (Ob.enc o)) := by unfold outK; rw [if_pos he]
    rw [hoe] at devC
    obtain rfl : e = 0 := by simpa using he
    simp only [if_true]
    obtain ⟨id, kind, label, quota, fixed, links, data, maps, thread, gate, inn, out⟩ := o
    simp only at hil ⊢
    cases inn with
    | nil =>
      refine q4u (by kernel_rfl) Tryz.func115 Tryz.results115 rfl (by simp [Tryz.ntmps115]) (by kernel_rfl) ?_
      repeat' (first | (show q1a ..; first | refine q0d ?_ | refine q0p rfl ?_) | (show q1f ..; first | refine q0n rfl rfl ?_ | refine q0h rfl ?_) | (show goOn ..; first | refine q0s ?_ | refine q0u ?_ | refine q0y ?_) | (show q1k ..; refine q0j ?_) | (show dr ..; first | refine q1l ?_ | refine dr_n rfl ?_) | (show drGo ..; first | refine q2i rfl ?_ | refine q1j rfl ?_) | (show drOn ..; first | refine q1m ?_ | refine q1q ?_ | refine q1p ?_) | (show q1o ..; refine q1b ?_) | (refine And.intro (by kernel_rfl : q1r _ = true) ?_) | (show q0i ..; first | refine q0q ?_ | refine q0c ?_ | refine q1h (by kernel_rfl) ?_ | refine q0r ?_ | refine q0f ?_) | refine q0a ?_ | refine q0m ?_ | refine q0l ?_ | (show retQ ..; first | refine q0o ?_ | refine q0b ?_) | refine q0e ?_)
      (refine q2j (by kernel_rfl) (devC _ (by simp only [go_sem, *])) ?_ ?_)
      case refine_2 => rintro p H' m' ⟨h, _⟩; cases h
      rintro r H1 m1 ⟨h, rfl, A1⟩
      cases h
      have c7 : H1 7 = some (.box (Clr.enc ⟨t, w, a⟩)) := by rw [A1 7 (by omega)]; exact hb
      repeat' (first | (show q1a ..; first | refine q0d ?_ | refine q0p rfl ?_) | (show q1f ..; first | refine q0n rfl rfl ?_ | refine q0h rfl ?_) | (show goOn ..; first | refine q0s ?_ | refine q0u ?_ | refine q0y ?_) | (show q1k ..; refine q0j ?_) | (show dr ..; first | refine q1l ?_ | refine dr_n rfl ?_) | (show drGo ..; first | refine q2i rfl ?_ | refine q1j rfl ?_) | (show drOn ..; first | refine q1m ?_ | refine q1q ?_ | refine q1p ?_) | (show q1o ..; refine q1b ?_) | (refine And.intro (by kernel_rfl : q1r _ = true) ?_) | (show q0i ..; first | refine q0q ?_ | refine q0c ?_ | refine q1h (by kernel_rfl) ?_ | refine q0r ?_ | refine q0f ?_) | refine q0a ?_ | refine q0m ?_ | refine q0l ?_ | (show retQ ..; first | refine q0o ?_ | refine q0b ?_) | refine q0e ?_)
      (refine q2j (by kernel_rfl) (must_no _ _ _) ?_ ?_)
      case refine_1 => rintro r H' m' ⟨h, _⟩; cases h
      rintro p H' m' ⟨h, rfl, rfl⟩
      cases h
      repeat' (first | refine q0l ?_ | refine q1e ?_ | refine q4x ?_)
      exact ⟨(fun h => by cases h), (fun _ => rfl), by omega, (fun j hj => by (repeat rw [q2l _ _ (by omega)]); exact A1 j (by omega))⟩
    | cons x l =>
      simp only [List.length_cons] at hil
      have hp := put_c w ⟨id, kind, label, quota, fixed, links, data, maps, thread, gate, l, out⟩ hris (by omega)
      have g1 := cloneU_pure l (by omega)
      have e1 : decide (((l.length + 1 : Nat) : Int) > 0) = true := decide_eq_true (by omega)
      have e2 : ((1 : Int) ≤ ((l.length + 1 : Nat) : Int)) = True := eq_true (by omega)
      refine q4u (by kernel_rfl) Tryz.func115 Tryz.results115 rfl (by simp [Tryz.ntmps115]) (by kernel_rfl) ?_
      repeat' (first | (show q1a ..; first | refine q0d ?_ | refine q0p rfl ?_) | (show q1f ..; first | refine q0n rfl rfl ?_ | refine q0h rfl ?_) | (show goOn ..; first | refine q0s ?_ | refine q0u ?_ | refine q0y ?_) | (show q1k ..; refine q0j ?_) | (show dr ..; first | refine q1l ?_ | refine dr_n rfl ?_) | (show drGo ..; first | refine q2i rfl ?_ | refine q1j rfl ?_) | (show drOn ..; first | refine q1m ?_ | refine q1q ?_ | refine q1p ?_) | (show q1o ..; refine q1b ?_) | (refine And.intro (by kernel_rfl : q1r _ = true) ?_) | (show q0i ..; first | refine q0q ?_ | refine q0c ?_ | refine q1h (by kernel_rfl) ?_ | refine q0r ?_ | refine q0f ?_) | refine q0a ?_ | refine q0m ?_ | refine q0l ?_ | (show retQ ..; first | refine q0o ?_ | refine q0b ?_) | refine q0e ?_)
      (refine q2j (by kernel_rfl) (devC _ (by simp only [go_sem, *])) ?_ ?_)
      case refine_2 => rintro p H' m' ⟨h, _⟩; cases h
      rintro r H1 m1 ⟨h, rfl, A1⟩
      cases h
      have c7 : H1 7 = some (.box (Clr.enc ⟨t, w, a⟩)) := by rw [A1 7 (by omega)]; exact hb
      repeat' (first | (show q1a ..; first | refine q0d ?_ | refine q0p rfl ?_) | (show q1f ..; first | refine q0n rfl rfl ?_ | refine q0h rfl ?_) | (show goOn ..; first | refine q0s ?_ | refine q0u ?_ | refine q0y ?_) | (show q1k ..; refine q0j ?_) | (show dr ..; first | refine q1l ?_ | refine dr_n rfl ?_) | (show drGo ..; first | refine q2i rfl ?_ | refine q1j rfl ?_) | (show drOn ..; first | refine q1m ?_ | refine q1q ?_ | refine q1p ?_) | (show q1o ..; refine q1b ?_) | (refine And.intro (by kernel_rfl : q1r _ = true) ?_) | (show q0i ..; first | refine q0q ?_ | refine q0c ?_ | refine q1h (by kernel_rfl) ?_ | refine q0r ?_ | refine q0f ?_) | refine q0a ?_ | refine q0m ?_ | refine q0l ?_ | (show retQ ..; first | refine q0o ?_ | refine q0b ?_) | refine q0e ?_)
      (refine q2j (by kernel_rfl) (must_yes _ _ _) ?_ ?_)
      case refine_2 => rintro p H' m' ⟨⟨_, h⟩, _⟩; cases h
      rintro r H' m' ⟨⟨_, h⟩, rfl, rfl⟩
      clear h
      repeat' (first | (show q1a ..; first | refine q0d ?_ | refine q0p rfl ?_) | (show q1f ..; first | refine q0n rfl rfl ?_ | refine q0h rfl ?_) | (show goOn ..; first | refine q0s ?_ | refine q0u ?_ | refine q0y ?_) | (show q1k ..; refine q0j ?_) | (show q1u ..; (refine q0z (r := ?_) ?_ ?_; rotate_left 1; (focus first | exact g1 | exact hp))) | (show dr ..; first | refine q1l ?_ | refine dr_n rfl ?_) | (show drGo ..; first | refine q2i rfl ?_ | refine q1j rfl ?_) | (show drOn ..; first | refine q1m ?_ | refine q1q ?_ | refine q1p ?_) | (show q1o ..; refine q1b ?_) | (show q2h ..; (refine q1i (r := ?_) ?_ ?_; rotate_left 1; (focus first | exact g1 | exact hp))) | (refine And.intro (by kernel_rfl : q3f _ _ _ = true) ?_) | (show q0i ..; first | refine q0q ?_ | refine q0c ?_ | refine q9q (by kernel_rfl) ?_ | refine q0r ?_ | refine q0f ?_) | refine q0a ?_ | refine q0m ?_ | refine q0l ?_ | (show retQ ..; first | refine q0o ?_ | refine q0b ?_) | refine q0e ?_)
      exact ⟨(fun _ => ⟨rfl, by first | rfl | trivial, by simp only [go_sem]⟩), (fun h => by cases h), by omega, (fun j hj => by (repeat rw [q2l _ _ (by omega)]); exact A1 j (by omega))⟩
end Go.Proofs.YteibeoipnjhicaaGreat.kdev
end

section
namespace Go.Proofs.YteibeoipnjhicaaGreat.kdev
open Go Go.RowKit Go.Proofs.YteibeoipnjhicaaGreat
set_option linter.unusedVariables false
set_option linter.unusedSimpArgs false
set_option maxHeartbeats 16000000
set_option maxRecDepth 100000
theorem q6g {w : Wd} {t : Ob} {r : Rf} {k : Int} (hw : fitW w = true) (hk : (k == 0) = false) (h : ((q4b w t r k).2 == 0) = true) : (q4b w t r k).1 ∈ w.objects ∧ ((q4b w t r k).1.kind == k) = true ∧ chgR t (q4b w t r k).1 = true := by
  unfold q4b at h ⊢
  split at h
  · rename_i h1
    rw [if_pos h1]
    split at h
    · rename_i h2
      rw [if_pos h2]
      exact ⟨(see_in hw h1).1, see_kind hk h1, h2⟩
    · cases h
  · rename_i h1; exact absurd h h1
theorem q6s {o : Ob} (hs : sound o = true) (hk : (o.kind == 6) = true) : o.inn.length ≤ 64 ∧ o.out.length ≤ 1024 := by
  have hk' : o.kind = 6 := by simpa using hk
  unfold sound inner at hs
  simp only [hk', Bool.and_eq_true, decide_eq_true_eq] at hs
  obtain ⟨_, _, h⟩ := hs
  simp at h
  omega
theorem dev_len {w : Wd} {t : Ob} {a : Nat → Int} (hw : fitW w = true) : (devR w t a).1.inn.length ≤ 1000 := by
  cases h : ((devR w t a).2 == 0) with
  | true =>
    obtain ⟨h1, h2, _⟩ := q6g (w := w) (t := t) (r := ⟨a 0, a 1⟩) (k := 6) hw rfl h
    have := q6s (q5g (q4p hw) h1) h2
    unfold devR
    omega
  | false =>
    unfold devR at h ⊢
    rw [change_zero h]
    exact Nat.zero_le _
theorem dev_sound {o : Ob} (hs : sound o = true) (hk : (o.kind == 6) = true) (i o' : List Int) (hi : i.length ≤ 64) (ho : o'.length ≤ 1024) : sound { o with inn := i, out := o' } = true := by
  have hk' : o.kind = 6 := by simpa using hk
  unfold sound q6w inner aloneOf q7u at hs ⊢
  simp only [hk'] at hs ⊢
  simp at hs ⊢
  simp_all
  omega
attribute [local irreducible] q1a dr q0i Ex.then Ex.inBlock retQ q1r q3f q3e Pure CSat evOp q2r rdOf upd hset strip sp0 cut envL q3h q4c Keep BdL evBs q3n q3z
theorem do_doC (t : Ob) (w : Wd) (n : Int) (a : Nat → Int) (hf : FewW w) (hw : fitW w = true) (ht : q4i t.label = true) (htl : t.label.length ≤ 20) : DoC t w n a (q4y w t n a) := by
  have hwd := q4p hw
  intro H hb
  have hc := out_csat (H := H) t w a hb hf hwd ht htl
  have hd := in_csat (H := H) t w a hb hf hwd ht htl (dev_len hw)
  unfold q4y
  cases h1 : (n == 41) with
  | true =>
    simp only [if_true]
    generalize outR w t a = R at hc ⊢
    obtain ⟨x, v, e, k⟩ := R
    simp only at hc ⊢
    cases he : (e == 0) with
    | true =>
      refine q4u (by kernel_rfl) Tryz.func65 Tryz.results65 rfl (by simp [Tryz.ntmps65]) (by kernel_rfl) ?_
      repeat' (first | (show q1a ..; first | refine q0d ?_ | refine q0p rfl ?_) | (show q1f ..; first | refine q0n rfl rfl ?_ | refine q0h rfl ?_) | (show goOn ..; first | refine q0s ?_ | refine q0u ?_ | refine q0y ?_) | (show q1k ..; refine q0j ?_) | (show q0i ..; first | refine q0q ?_ | refine q0c ?_ | refine q0r ?_ | refine q0f ?_ | refine q0k ?_ | refine q0w ?_ | refine q0t ?_) | (show q1d ..; first | refine cd_t ?_ | refine cd_f ?_ | refine cd_n (fun _ => ?_) (fun _ => ?_) | refine cd_b (fun _ => ?_) (fun _ => ?_)) | refine q0a ?_ | refine q0m ?_ | refine q0l ?_ | refine q0v ?_ | refine q0g ?_ | refine q0x ?_ | refine bl_pass rfl ?_ | refine q1g ?_ | refine q1e ?_ | (show retQ ..; first | refine q0o ?_ | refine q0b ?_) | refine q0e ?_)
      (refine q2j (by kernel_rfl) (hc) ?_ ?_)
      case refine_2 => rintro p H' m' ⟨h1, _⟩; obtain ⟨⟨r, hr⟩, _⟩ := h1 he; cases hr
      rintro r H1 m1 ⟨h1, _, L1, A1⟩
      obtain ⟨_, rfl, rfl, c7⟩ := h1 he
      repeat' (first | (show q1a ..; first | refine q0d ?_ | refine q0p rfl ?_) | (show q1f ..; first | refine q0n rfl rfl ?_ | refine q0h rfl ?_) | (show goOn ..; first | refine q0s ?_ | refine q0u ?_ | refine q0y ?_) | (show q1k ..; refine q0j ?_) | (show q0i ..; first | refine q0q ?_ | refine q0c ?_ | refine q0r ?_ | refine q0f ?_ | refine q0k ?_ | refine q0w ?_ | refine q0t ?_) | (show q1d ..; first | refine cd_t ?_ | refine cd_f ?_ | refine cd_n (fun _ => ?_) (fun _ => ?_) | refine cd_b (fun _ => ?_) (fun _ => ?_)) | refine q0a ?_ | refine q0m ?_ | refine q0l ?_ | refine q0v ?_ | refine q0g ?_ | refine q0x ?_ | refine bl_pass rfl ?_ | refine q1g ?_ | refine q1e ?_ | (show retQ ..; first | refine q0o ?_ | refine q0b ?_) | refine q0e ?_)
      exact ⟨(fun _ => ⟨rfl, _, c7⟩), (fun h => by first | (rw [he] at h; cases h) | cases h), L1, A1⟩
    | false =>
      refine q4u (by kernel_rfl) Tryz.func65 Tryz.results65 rfl (by simp [Tryz.ntmps65]) (by kernel_rfl) ?_
      repeat' (first | (show q1a ..; first | refine q0d ?_ | refine q0p rfl ?_) | (show q1f ..; first | refine q0n rfl rfl ?_ | refine q0h rfl ?_) | (show goOn ..; first | refine q0s ?_ | refine q0u ?_ | refine q0y ?_) | (show q1k ..; refine q0j ?_) | (show q0i ..; first | refine q0q ?_ | refine q0c ?_ | refine q0r ?_ | refine q0f ?_ | refine q0k ?_ | refine q0w ?_ | refine q0t ?_) | (show q1d ..; first | refine cd_t ?_ | refine cd_f ?_ | refine cd_n (fun _ => ?_) (fun _ => ?_) | refine cd_b (fun _ => ?_) (fun _ => ?_)) | refine q0a ?_ | refine q0m ?_ | refine q0l ?_ | refine q0v ?_ | refine q0g ?_ | refine q0x ?_ | refine bl_pass rfl ?_ | refine q1g ?_ | refine q1e ?_ | (show retQ ..; first | refine q0o ?_ | refine q0b ?_) | refine q0e ?_)
      (refine q2j (by kernel_rfl) (hc) ?_ ?_)
      case refine_1 => rintro r H' m' ⟨_, h2, _⟩; have := h2 he; cases this
      rintro p H1 m1 ⟨_, h2, L1, A1⟩
      have ho := h2 he
      cases ho
      repeat' (first | refine q0l ?_ | refine q1e ?_ | refine q4x ?_)
      exact ⟨(fun h => by first | (rw [he] at h; cases h) | cases h), (fun _ => rfl), L1, A1⟩
  | false =>
  cases h2 : (n == 42) with
  | true =>
    simp only [if_true, Bool.false_eq_true, if_false]
    generalize inR w t a = R at hd ⊢
    obtain ⟨x, v, e, k⟩ := R
    simp only at hd ⊢
    cases he : (e == 0) with
    | true =>
      refine q4u (by kernel_rfl) Tryz.func65 Tryz.results65 rfl (by simp [Tryz.ntmps65]) (by kernel_rfl) ?_
      repeat' (first | (show q1a ..; first | refine q0d ?_ | refine q0p rfl ?_) | (show q1f ..; first | refine q0n rfl rfl ?_ | refine q0h rfl ?_) | (show goOn ..; first | refine q0s ?_ | refine q0u ?_ | refine q0y ?_) | (show q1k ..; refine q0j ?_) | (show q0i ..; first | refine q0q ?_ | refine q0c ?_ | refine q0r ?_ | refine q0f ?_ | refine q0k ?_ | refine q0w ?_ | refine q0t ?_) | (show q1d ..; first | refine cd_t ?_ | refine cd_f ?_ | refine cd_n (fun _ => ?_) (fun _ => ?_) | refine cd_b (fun _ => ?_) (fun _ => ?_)) | refine q0a ?_ | refine q0m ?_ | refine q0l ?_ | refine q0v ?_ | refine q0g ?_ | refine q0x ?_ | refine bl_pass rfl ?_ | refine q1g ?_ | refine q1e ?_ | (show retQ ..; first | refine q0o ?_ | refine q0b ?_) | refine q0e ?_)
      (refine q2j (by kernel_rfl) (hd) ?_ ?_)
      case refine_2 => rintro p H' m' ⟨h1, _⟩; have := (h1 he).1; cases this
      rintro r H1 m1 ⟨h1, _, L1, A1⟩
      obtain ⟨hr, rfl, c7⟩ := h1 he
      cases hr
      repeat' (first | (show q1a ..; first | refine q0d ?_ | refine q0p rfl ?_) | (show q1f ..; first | refine q0n rfl rfl ?_ | refine q0h rfl ?_) | (show goOn ..; first | refine q0s ?_ | refine q0u ?_ | refine q0y ?_) | (show q1k ..; refine q0j ?_) | (show q0i ..; first | refine q0q ?_ | refine q0c ?_ | refine q0r ?_ | refine q0f ?_ | refine q0k ?_ | refine q0w ?_ | refine q0t ?_) | (show q1d ..; first | refine cd_t ?_ | refine cd_f ?_ | refine cd_n (fun _ => ?_) (fun _ => ?_) | refine cd_b (fun _ => ?_) (fun _ => ?_)) | refine q0a ?_ | refine q0m ?_ | refine q0l ?_ | refine q0v ?_ | refine q0g ?_ | refine q0x ?_ | refine bl_pass rfl ?_ | refine q1g ?_ | refine q1e ?_ | (show retQ ..; first | refine q0o ?_ | refine q0b ?_) | refine q0e ?_)
      exact ⟨(fun _ => ⟨rfl, _, c7⟩), (fun h => by first | (rw [he] at h; cases h) | cases h), L1, A1⟩
    | false =>
      refine q4u (by kernel_rfl) Tryz.func65 Tryz.results65 rfl (by simp [Tryz.ntmps65]) (by kernel_rfl) ?_
      repeat' (first | (show q1a ..; first | refine q0d ?_ | refine q0p rfl ?_) | (show q1f ..; first | refine q0n rfl rfl ?_ | refine q0h rfl ?_) | (show goOn ..; first | refine q0s ?_ | refine q0u ?_ | refine q0y ?_) | (show q1k ..; refine q0j ?_) | (show q0i ..; first | refine q0q ?_ | refine q0c ?_ | refine q0r ?_ | refine q0f ?_ | refine q0k ?_ | refine q0w ?_ | refine q0t ?_) | (show q1d ..; first | refine cd_t ?_ | refine cd_f ?_ | refine cd_n (fun _ => ?_) (fun _ => ?_) | refine cd_b (fun _ => ?_) (fun _ => ?_)) | refine q0a ?_ | refine q0m ?_ | refine q0l ?_ | refine q0v ?_ | refine q0g ?_ | refine q0x ?_ | refine bl_pass rfl ?_ | refine q1g ?_ | refine q1e ?_ | (show retQ ..; first | refine q0o ?_ | refine q0b ?_) | refine q0e ?_)
      (refine q2j (by kernel_rfl) (hd) ?_ ?_)
      case refine_1 => rintro r H' m' ⟨_, h2, _⟩; have := h2 he; cases this
      rintro p H1 m1 ⟨_, h2, L1, A1⟩
      have ho := h2 he
      cases ho
      repeat' (first | refine q0l ?_ | refine q1e ?_ | refine q4x ?_)
      exact ⟨(fun h => by first | (rw [he] at h; cases h) | cases h), (fun _ => rfl), L1, A1⟩
  | false =>
    simp only [Bool.false_eq_true, if_false]
    refine q4u (by kernel_rfl) Tryz.func65 Tryz.results65 rfl (by simp [Tryz.ntmps65]) (by kernel_rfl) ?_
    repeat' (first | (show q1a ..; first | refine q0d ?_ | refine q0p rfl ?_) | (show q1f ..; first | refine q0n rfl rfl ?_ | refine q0h rfl ?_) | (show goOn ..; first | refine q0s ?_ | refine q0u ?_ | refine q0y ?_) | (show q1k ..; refine q0j ?_) | (show q0i ..; first | refine q0q ?_ | refine q0c ?_ | refine q0r ?_ | refine q0f ?_ | refine q0k ?_ | refine q0w ?_ | refine q0t ?_) | (show q1d ..; first | refine cd_t ?_ | refine cd_f ?_ | refine cd_n (fun _ => ?_) (fun _ => ?_) | refine cd_b (fun _ => ?_) (fun _ => ?_)) | refine q0a ?_ | refine q0m ?_ | refine q0l ?_ | refine q0v ?_ | refine q0g ?_ | refine q0x ?_ | refine bl_pass rfl ?_ | refine q1g ?_ | refine q1e ?_ | (show retQ ..; first | refine q0o ?_ | refine q0b ?_) | refine q0e ?_)
    exact ⟨(fun _ => ⟨rfl, _, hb⟩), (fun h => by cases h), by omega, (fun j hj => rfl)⟩
theorem thr_okay {w : Wd} (hf : FewW w) (hw : fitW w = true) (id : Int) : q4i (q2p w id).1.label = true ∧ (q2p w id).1.label.length ≤ 20 := ⟨(okay_fit (q7y hf (q4p hw) id)).2, q7f hf id⟩
theorem find_p {w : Wd} (hf : FewW w) (hw : fitW w = true) (id : Int) : Pure Tryz.prog 63 [.agg (Wd.enc w), .int .u64 id] (.tup [.agg (Ob.enc (q2p w id).1), .bool (q2p w id).2]) := by
  have := obj_find w id (by have := hf.n; omega) (q5d (q4p hw)).1
  rw [findO_eq (q5d (q4p hw)).1] at this
  exact this
theorem kdev_err (w : Wd) (t : Ob) (n : Int) (a : Nat → Int) (h : ((q4y w t n a).2.2.1 == 0) = false) : (q4y w t n a).1 = w ∧ (q4y w t n a).2.1 = 0 ∧ (q4y w t n a).2.2.2 = true := by
  unfold q4y outR inR at h ⊢
  generalize devR w t a = D at h ⊢
  obtain ⟨o, e⟩ := D
  simp only at h ⊢
  split at h
  · rename_i h1
    rw [if_pos h1]
    split at h
    · rename_i h2
      rw [if_pos h2]
      split at h
      · cases h
      · rename_i h3; rw [if_neg h3]; exact ⟨rfl, rfl, rfl⟩
    · rename_i h2; rw [if_neg h2]; exact ⟨rfl, rfl, rfl⟩
  · rename_i h1
    rw [if_neg h1]
    split at h
    · rename_i h2
      rw [if_pos h2]
      split at h
      · rename_i h3
        rw [if_pos h3]
        cases hi : o.inn with
        | nil => exact ⟨rfl, rfl, rfl⟩
        | cons x l => rw [hi] at h; cases h
      · rename_i h3; rw [if_neg h3]; exact ⟨rfl, rfl, rfl⟩
    · cases h
theorem q8c (w : Wd) (id n : Int) (a : Nat → Int) (hf : FewW w) (hw : fitW w = true) :
    Pure Tryz.prog 23 [.agg (Wd.enc w), .int .u64 id, .int .i64 n, .agg (args a)] (.tup [.agg (Wd.enc (q4y w (q2p w id).1 n a).1), .int .u64 (q4y w (q2p w id).1 n a).2.1, .int .i64 (q4y w (q2p w id).1 n a).2.2.1, .bool (q4y w (q2p w id).1 n a).2.2.2]) :=
  do_pure w id n a _ _ _ (find_p hf hw id) (do_doC _ w n a hf hw (thr_okay hf hw id).1 (thr_okay hf hw id).2) (kdev_err _ _ _ _)
@[go_sem] theorem spl2_out (x : Ob) (b : Int) (v : List Int) : splice (Ob.enc x) 50 [.sl (u64 b :: List.map u64 v)] = Ob.enc { x with out := b :: v } := by kernel_rfl
theorem r24_do (w : Wd) (id n : Int) (a : Nat → Int) (hf : FewW w) (hw : fitW w = true) :
    Pure Tryz.prog 24 [.agg (Wd.enc w), .int .u64 id, .int .i64 n, .agg (args a)] (.tup [.agg (Wd.enc (q4y w (q2p w id).1 n a).1), .int .u64 (q4y w (q2p w id).1 n a).2.1, .int .i64 (q4y w (q2p w id).1 n a).2.2.1, .bool (q4y w (q2p w id).1 n a).2.2.2]) := by
  have h1 := q5l w id (by have := hf.n; omega)
  have htl := (thr_okay hf hw id).2
  have h2 := r17_change w (q2p w id).1 ⟨a 0, a 1⟩ 6 hf htl
  have hs : ((devR w (q2p w id).1 a).2 == 0) = true → (devR w (q2p w id).1 a).1.out.length ≤ 1024 ∧ (devR w (q2p w id).1 a).1.inn.length ≤ 64 := fun h => by
    obtain ⟨g1, g2, _⟩ := q6g (w := w) (t := (q2p w id).1) (r := ⟨a 0, a 1⟩) (k := 6) hw rfl h
    have := q6s (q5g (q4p hw) g1) g2
    exact ⟨this.2, this.1⟩
  have hput := fun p => putR_c w p (q5d (q4p hw)).1 (by have := hf.n; omega)
  unfold q4y outR inR
  unfold devR at hs ⊢
  generalize q2p w id = F at h1 h2 hs ⊢
  obtain ⟨t, b⟩ := F
  simp only at h1 h2 hs ⊢
  generalize q4b w t ⟨a 0, a 1⟩ 6 = D at h2 hs ⊢
  obtain ⟨o, e⟩ := D
  simp only at h2 hs ⊢
  cases g1 : (n == 41) with
  | true =>
    have g1' : (n != 41) = false := by simp [bne, g1]
    simp only [if_true]
    cases he : (e == 0) with
    | false =>
      have he' : (e != 0) = true := by simp [bne, he]
      simp only [Bool.false_eq_true, if_false]
      refine q2y (by kernel_rfl) (by simp only [go_sem, *]) (by simp only [go_sem, *]) Tryz.func24 Tryz.results24 rfl (by simp [Tryz.ntmps24]) (by kernel_rfl) ?_
      repeat' (first | (show q1a ..; first | refine q0d ?_ | refine q0p rfl ?_ | refine q1c rfl rfl ?_) | (show q1f ..; first | refine q0n rfl rfl ?_ | refine q0h rfl ?_) | (show goOn ..; first | refine q0s ?_ | refine q0u ?_ | refine q0y ?_ | refine q1t ?_ | refine q1s ?_) | (show q1k ..; refine q0j ?_) | (show q1u ..; (refine q0z (r := ?_) ?_ ?_; rotate_left 1; (focus first | exact h1 | exact h2))) | (show wGo ..; first | refine q1v ?_ | refine q2b ?_ | refine q1x ?_ | refine q1z ?_ | refine gw_u ?_ | refine q1w (fun _ => ?_) (fun _ => ?_) | refine q2a (fun _ => ?_) (fun _ => ?_) | refine q1y (fun _ => ?_) (fun _ => ?_) | refine q2c (fun _ => ?_) (fun _ => ?_)) | (show q0i ..; first | refine q0q ?_ | refine q0c ?_ | refine q0r ?_ | refine q0f ?_ | refine q0k ?_ | refine q0w ?_ | refine q0t ?_) | (show q1d ..; first | refine cd_t ?_ | refine cd_f ?_ | refine cd_n (fun _ => ?_) (fun _ => ?_) | refine cd_b (fun _ => ?_) (fun _ => ?_)) | refine q0a ?_ | refine q0m ?_ | refine q0l ?_ | refine q0v ?_ | refine q0g ?_ | refine q0x ?_ | refine bl_pass rfl ?_ | refine q1g ?_ | refine q1e ?_ | (show retQ ..; first | refine q0o ?_ | refine q0b ?_) | refine q0e ?_)
      all_goals rfl
    | true =>
      have he' : (e != 0) = false := by simp [bne, he]
      have hs := (hs he).1
      simp only [if_true]
      obtain ⟨oid, kind, label, quota, fixed, links, data, maps, thread, gate, inn, out⟩ := o
      simp only at hs ⊢
      cases hl : decide ((out.length : Int) < 1024) with
      | false =>
        have hl' : decide ((out.length : Int) ≥ 1024) = true := decide_eq_true (by have := of_decide_eq_false hl; omega)
        simp only [Bool.false_eq_true, if_false]
        refine q2y (by kernel_rfl) (by simp only [go_sem, *]) (by simp only [go_sem, *]) Tryz.func24 Tryz.results24 rfl (by simp [Tryz.ntmps24]) (by kernel_rfl) ?_
        repeat' (first | (show q1a ..; first | refine q0d ?_ | refine q0p rfl ?_ | refine q1c rfl rfl ?_) | (show q1f ..; first | refine q0n rfl rfl ?_ | refine q0h rfl ?_) | (show goOn ..; first | refine q0s ?_ | refine q0u ?_ | refine q0y ?_ | refine q1t ?_ | refine q1s ?_) | (show q1k ..; refine q0j ?_) | (show q1u ..; (refine q0z (r := ?_) ?_ ?_; rotate_left 1; (focus first | exact h1 | exact h2))) | (show wGo ..; first | refine q1v ?_ | refine q2b ?_ | refine q1x ?_ | refine q1z ?_ | refine gw_u ?_ | refine q1w (fun _ => ?_) (fun _ => ?_) | refine q2a (fun _ => ?_) (fun _ => ?_) | refine q1y (fun _ => ?_) (fun _ => ?_) | refine q2c (fun _ => ?_) (fun _ => ?_)) | (show q0i ..; first | refine q0q ?_ | refine q0c ?_ | refine q0r ?_ | refine q0f ?_ | refine q0k ?_ | refine q0w ?_ | refine q0t ?_) | (show q1d ..; first | refine cd_t ?_ | refine cd_f ?_ | refine cd_n (fun _ => ?_) (fun _ => ?_) | refine cd_b (fun _ => ?_) (fun _ => ?_)) | refine q0a ?_ | refine q0m ?_ | refine q0l ?_ | refine q0v ?_ | refine q0g ?_ | refine q0x ?_ | refine bl_pass rfl ?_ | refine q1g ?_ | refine q1e ?_ | (show retQ ..; first | refine q0o ?_ | refine q0b ?_) | refine q0e ?_)
        all_goals rfl
      | true =>
        have hl' : decide ((out.length : Int) ≥ 1024) = false := decide_eq_false (by have := of_decide_eq_true hl; omega)
        simp only [if_true]
        cases out with
        | nil =>
          have h3 := hput (outO ⟨oid, kind, label, quota, fixed, links, data, maps, thread, gate, inn, []⟩ (a 2))
          unfold outO at h3 ⊢
          simp only [List.nil_append] at h3 ⊢
          refine q2y (by kernel_rfl) (by simp only [go_sem, *]) (by simp only [go_sem, *]) Tryz.func24 Tryz.results24 rfl (by simp [Tryz.ntmps24]) (by kernel_rfl) ?_
          repeat' (first | (show q1a ..; first | refine q0d ?_ | refine q0p rfl ?_ | refine q1c rfl rfl ?_) | (show q1f ..; first | refine q0n rfl rfl ?_ | refine q0h rfl ?_) | (show goOn ..; first | refine q0s ?_ | refine q0u ?_ | refine q0y ?_ | refine q1t ?_ | refine q1s ?_) | (show q1k ..; refine q0j ?_) | (show q1u ..; (refine q0z (r := ?_) ?_ ?_; rotate_left 1; (focus first | exact h1 | exact h2 | exact h3))) | (show wGo ..; first | refine q1v ?_ | refine q2b ?_ | refine q1x ?_ | refine q1z ?_ | refine gw_u ?_ | refine q1w (fun _ => ?_) (fun _ => ?_) | refine q2a (fun _ => ?_) (fun _ => ?_) | refine q1y (fun _ => ?_) (fun _ => ?_) | refine q2c (fun _ => ?_) (fun _ => ?_)) | (show q0i ..; first | refine q0q ?_ | refine q0c ?_ | refine q0r ?_ | refine q0f ?_ | refine q0k ?_ | refine q0w ?_ | refine q0t ?_) | (show q1d ..; first | refine cd_t ?_ | refine cd_f ?_ | refine cd_n (fun _ => ?_) (fun _ => ?_) | refine cd_b (fun _ => ?_) (fun _ => ?_)) | refine q0a ?_ | refine q0m ?_ | refine q0l ?_ | refine q0v ?_ | refine q0g ?_ | refine q0x ?_ | refine bl_pass rfl ?_ | refine q1g ?_ | refine q1e ?_ | (show retQ ..; first | refine q0o ?_ | refine q0b ?_) | refine q0e ?_)
          all_goals rfl
        | cons x l =>
          have h3 := hput (outO ⟨oid, kind, label, quota, fixed, links, data, maps, thread, gate, inn, x :: l⟩ (a 2))
          unfold outO at h3 ⊢
          simp only [List.cons_append, List.length_cons] at h3 hl' hs ⊢
          have k3 : ((l.length + 1) * 8 ≤ 140737488355328) = True := q6i (by omega) (by decide)
          have k4 : (l.length + 1 ≤ maxLen) = True := q5r (by omega)
          have k5 : ((l.length + 1 + 1) * 8 ≤ 140737488355328) = True := q6i (by omega) (by decide)
          have k6 : (l.length + 1 + 1 ≤ maxLen) = True := q5r (by omega)
          have k7 : ((l ++ [a 2]).length + 1 = l.length + 1 + 1) = True := eq_true (by simp)
          refine q2y (by kernel_rfl) (by simp only [go_sem, *]) (by simp only [go_sem, *]) Tryz.func24 Tryz.results24 rfl (by simp [Tryz.ntmps24]) (by kernel_rfl) ?_
          repeat' (first | (show q1a ..; first | refine q0d ?_ | refine q0p rfl ?_ | refine q1c rfl rfl ?_) | (show q1f ..; first | refine q0n rfl rfl ?_ | refine q0h rfl ?_) | (show goOn ..; first | refine q0s ?_ | refine q0u ?_ | refine q0y ?_ | refine q1t ?_ | refine q1s ?_) | (show q1k ..; refine q0j ?_) | (show q1u ..; (refine q0z (r := ?_) ?_ ?_; rotate_left 1; (focus first | exact h1 | exact h2 | exact h3))) | (show wGo ..; first | refine q1v ?_ | refine q2b ?_ | refine q1x ?_ | refine q1z ?_ | refine gw_u ?_ | refine q1w (fun _ => ?_) (fun _ => ?_) | refine q2a (fun _ => ?_) (fun _ => ?_) | refine q1y (fun _ => ?_) (fun _ => ?_) | refine q2c (fun _ => ?_) (fun _ => ?_)) | (show q0i ..; first | refine q0q ?_ | refine q0c ?_ | refine q0r ?_ | refine q0f ?_ | refine q0k ?_ | refine q0w ?_ | refine q0t ?_) | (show q1d ..; first | refine cd_t ?_ | refine cd_f ?_ | refine cd_n (fun _ => ?_) (fun _ => ?_) | refine cd_b (fun _ => ?_) (fun _ => ?_)) | refine q0a ?_ | refine q0m ?_ | refine q0l ?_ | refine q0v ?_ | refine q0g ?_ | refine q0x ?_ | refine bl_pass rfl ?_ | refine q1g ?_ | refine q1e ?_ | (show retQ ..; first | refine q0o ?_ | refine q0b ?_) | refine q0e ?_)
          all_goals rfl
  | false =>
    have g1' : (n != 41) = true := by simp [bne, g1]
    simp only [Bool.false_eq_true, if_false]
    cases g2 : (n == 42) with
    | false =>
      have g2' : (n != 42) = true := by simp [bne, g2]
      simp only [Bool.false_eq_true, if_false]
      refine q2y (by kernel_rfl) (by simp only [go_sem, *]) (by simp only [go_sem, *]) Tryz.func24 Tryz.results24 rfl (by simp [Tryz.ntmps24]) (by kernel_rfl) ?_
      repeat' (first | (show q1a ..; first | refine q0d ?_ | refine q0p rfl ?_ | refine q1c rfl rfl ?_) | (show q1f ..; first | refine q0n rfl rfl ?_ | refine q0h rfl ?_) | (show goOn ..; first | refine q0s ?_ | refine q0u ?_ | refine q0y ?_ | refine q1t ?_ | refine q1s ?_) | (show q1k ..; refine q0j ?_) | (show q1u ..; (refine q0z (r := ?_) ?_ ?_; rotate_left 1; (focus first | exact h1 | exact h2))) | (show wGo ..; first | refine q1v ?_ | refine q2b ?_ | refine q1x ?_ | refine q1z ?_ | refine gw_u ?_ | refine q1w (fun _ => ?_) (fun _ => ?_) | refine q2a (fun _ => ?_) (fun _ => ?_) | refine q1y (fun _ => ?_) (fun _ => ?_) | refine q2c (fun _ => ?_) (fun _ => ?_)) | (show q0i ..; first | refine q0q ?_ | refine q0c ?_ | refine q0r ?_ | refine q0f ?_ | refine q0k ?_ | refine q0w ?_ | refine q0t ?_) | (show q1d ..; first | refine cd_t ?_ | refine cd_f ?_ | refine cd_n (fun _ => ?_) (fun _ => ?_) | refine cd_b (fun _ => ?_) (fun _ => ?_)) | refine q0a ?_ | refine q0m ?_ | refine q0l ?_ | refine q0v ?_ | refine q0g ?_ | refine q0x ?_ | refine bl_pass rfl ?_ | refine q1g ?_ | refine q1e ?_ | (show retQ ..; first | refine q0o ?_ | refine q0b ?_) | refine q0e ?_)
      all_goals rfl
    | true =>
      have g2' : (n != 42) = false := by simp [bne, g2]
      simp only [if_true]
      cases he : (e == 0) with
      | false =>
        have he' : (e != 0) = true := by simp [bne, he]
        simp only [Bool.false_eq_true, if_false]
        refine q2y (by kernel_rfl) (by simp only [go_sem, *]) (by simp only [go_sem, *]) Tryz.func24 Tryz.results24 rfl (by simp [Tryz.ntmps24]) (by kernel_rfl) ?_
        repeat' (first | (show q1a ..; first | refine q0d ?_ | refine q0p rfl ?_ | refine q1c rfl rfl ?_) | (show q1f ..; first | refine q0n rfl rfl ?_ | refine q0h rfl ?_) | (show goOn ..; first | refine q0s ?_ | refine q0u ?_ | refine q0y ?_ | refine q1t ?_ | refine q1s ?_) | (show q1k ..; refine q0j ?_) | (show q1u ..; (refine q0z (r := ?_) ?_ ?_; rotate_left 1; (focus first | exact h1 | exact h2))) | (show wGo ..; first | refine q1v ?_ | refine q2b ?_ | refine q1x ?_ | refine q1z ?_ | refine gw_u ?_ | refine q1w (fun _ => ?_) (fun _ => ?_) | refine q2a (fun _ => ?_) (fun _ => ?_) | refine q1y (fun _ => ?_) (fun _ => ?_) | refine q2c (fun _ => ?_) (fun _ => ?_)) | (show q0i ..; first | refine q0q ?_ | refine q0c ?_ | refine q0r ?_ | refine q0f ?_ | refine q0k ?_ | refine q0w ?_ | refine q0t ?_) | (show q1d ..; first | refine cd_t ?_ | refine cd_f ?_ | refine cd_n (fun _ => ?_) (fun _ => ?_) | refine cd_b (fun _ => ?_) (fun _ => ?_)) | refine q0a ?_ | refine q0m ?_ | refine q0l ?_ | refine q0v ?_ | refine q0g ?_ | refine q0x ?_ | refine bl_pass rfl ?_ | refine q1g ?_ | refine q1e ?_ | (show retQ ..; first | refine q0o ?_ | refine q0b ?_) | refine q0e ?_)
        all_goals rfl
      | true =>
        have he' : (e != 0) = false := by simp [bne, he]
        have hs := (hs he).2
        simp only [if_true]
        obtain ⟨oid, kind, label, quota, fixed, links, data, maps, thread, gate, inn, out⟩ := o
        simp only at hs ⊢
        cases inn with
        | nil =>
          refine q2y (by kernel_rfl) (by simp only [go_sem, *]) (by simp only [go_sem, *]) Tryz.func24 Tryz.results24 rfl (by simp [Tryz.ntmps24]) (by kernel_rfl) ?_
          repeat' (first | (show q1a ..; first | refine q0d ?_ | refine q0p rfl ?_ | refine q1c rfl rfl ?_) | (show q1f ..; first | refine q0n rfl rfl ?_ | refine q0h rfl ?_) | (show goOn ..; first | refine q0s ?_ | refine q0u ?_ | refine q0y ?_ | refine q1t ?_ | refine q1s ?_) | (show q1k ..; refine q0j ?_) | (show q1u ..; (refine q0z (r := ?_) ?_ ?_; rotate_left 1; (focus first | exact h1 | exact h2))) | (show wGo ..; first | refine q1v ?_ | refine q2b ?_ | refine q1x ?_ | refine q1z ?_ | refine gw_u ?_ | refine q1w (fun _ => ?_) (fun _ => ?_) | refine q2a (fun _ => ?_) (fun _ => ?_) | refine q1y (fun _ => ?_) (fun _ => ?_) | refine q2c (fun _ => ?_) (fun _ => ?_)) | (show q0i ..; first | refine q0q ?_ | refine q0c ?_ | refine q0r ?_ | refine q0f ?_ | refine q0k ?_ | refine q0w ?_ | refine q0t ?_) | (show q1d ..; first | refine cd_t ?_ | refine cd_f ?_ | refine cd_n (fun _ => ?_) (fun _ => ?_) | refine cd_b (fun _ => ?_) (fun _ => ?_)) | refine q0a ?_ | refine q0m ?_ | refine q0l ?_ | refine q0v ?_ | refine q0g ?_ | refine q0x ?_ | refine bl_pass rfl ?_ | refine q1g ?_ | refine q1e ?_ | (show retQ ..; first | refine q0o ?_ | refine q0b ?_) | refine q0e ?_)
          all_goals rfl
        | cons x l =>
          simp only [List.length_cons] at hs
          have h3 := hput ⟨oid, kind, label, quota, fixed, links, data, maps, thread, gate, l, out⟩
          have k1 : (((l.length + 1 : Nat) : Int) == 0) = false := by simp; omega
          have k2 : ((1 : Int) ≤ ((l.length + 1 : Nat) : Int)) = True := eq_true (by omega)
          refine q2y (by kernel_rfl) (by simp only [go_sem, *]) (by simp only [go_sem, *]) Tryz.func24 Tryz.results24 rfl (by simp [Tryz.ntmps24]) (by kernel_rfl) ?_
          repeat' (first | (show q1a ..; first | refine q0d ?_ | refine q0p rfl ?_ | refine q1c rfl rfl ?_) | (show q1f ..; first | refine q0n rfl rfl ?_ | refine q0h rfl ?_) | (show goOn ..; first | refine q0s ?_ | refine q0u ?_ | refine q0y ?_ | refine q1t ?_ | refine q1s ?_) | (show q1k ..; refine q0j ?_) | (show q1u ..; (refine q0z (r := ?_) ?_ ?_; rotate_left 1; (focus first | exact h1 | exact h2 | exact h3))) | (show wGo ..; first | refine q1v ?_ | refine q2b ?_ | refine q1x ?_ | refine q1z ?_ | refine gw_u ?_ | refine q1w (fun _ => ?_) (fun _ => ?_) | refine q2a (fun _ => ?_) (fun _ => ?_) | refine q1y (fun _ => ?_) (fun _ => ?_) | refine q2c (fun _ => ?_) (fun _ => ?_)) | (show q0i ..; first | refine q0q ?_ | refine q0c ?_ | refine q0r ?_ | refine q0f ?_ | refine q0k ?_ | refine q0w ?_ | refine q0t ?_) | (show q1d ..; first | refine cd_t ?_ | refine cd_f ?_ | refine cd_n (fun _ => ?_) (fun _ => ?_) | refine cd_b (fun _ => ?_) (fun _ => ?_)) | refine q0a ?_ | refine q0m ?_ | refine q0l ?_ | refine q0v ?_ | refine q0g ?_ | refine q0x ?_ | refine bl_pass rfl ?_ | refine q1g ?_ | refine q1e ?_ | (show retQ ..; first | refine q0o ?_ | refine q0b ?_) | refine q0e ?_)
          all_goals rfl
end Go.Proofs.YteibeoipnjhicaaGreat.kdev
end

section
namespace Go.Proofs.YteibeoipnjhicaaGreat.kdev
open Go Go.RowKit Go.Proofs.YteibeoipnjhicaaGreat
set_option linter.unusedVariables false
set_option linter.unusedSimpArgs false
set_option maxHeartbeats 16000000
set_option maxRecDepth 100000
def fedO (o : Ob) (l : List Int) : Ob := { o with inn := (o.inn ++ l).take 64 }
def q9m (w : Wd) (x : In) : Wd := if ((q2p w x.dev).1.kind == 6) = true then w.ins (fedO (q2p w x.dev).1 x.words) else w
def q5p (w : Wd) (l : List In) : Wd := l.foldl q9m w
theorem q9y {w : Wd} {id : Int} (h : ((q2p w id).1.kind == 6) = true) : (q2p w id).2 = true ∧ (q2p w id).1 ∈ w.objects := by
  unfold q2p at h ⊢
  split
  · rename_i x hx
    exact ⟨rfl, List.mem_of_find?_eq_some hx⟩
  · rename_i hx; rw [hx] at h; cases h
theorem fed_hd (o : Ob) (l : List Int) : hd (fedO o l) = hd o := rfl
theorem dev_good {w : Wd} (g : Good w) {o : Ob} (ho : o ∈ w.objects) (hk : (o.kind == 6) = true) (i u : List Int) (hi : i.length ≤ 64) (hu : u.length ≤ 1024) : Good (w.ins { o with inn := i, out := u }) := by
  have hwd := q4p g.fit
  have hs := q5g hwd ho
  have hL := (g.L.2 o ho).1
  refine ⟨ins_L g.L ?_ (g.L.2 o ho).2 (by have := g.few.n; omega), one_few g.few hwd ho rfl (g.few.ob o ho).2.2.2, one_fit g.fit ho rfl (dev_sound hs hk i u hi hu)⟩
  obtain ⟨h1, h2, h3, h4, h5, h6, h7, h8⟩ := hL
  exact ⟨h1, h2, h3, h4, h5, h6, by show i.length ≤ _; omega, by show u.length ≤ _; omega⟩
theorem feed1_good {w : Wd} (g : Good w) (x : In) : Good (q9m w x) := by
  unfold q9m
  split
  · rename_i hk
    obtain ⟨_, hm⟩ := q9y hk
    have hs := q6s (q5g (q4p g.fit) hm) hk
    have := dev_good g hm hk (((q2p w x.dev).1.inn ++ x.words).take 64) (q2p w x.dev).1.out (by rw [List.length_take]; omega) hs.2
    exact this
  · exact g
theorem q8f {w : Wd} (g : Good w) : ∀ l, Good (q5p w l) := by
  intro l
  induction l generalizing w with
  | nil => exact g
  | cons x l ih => exact ih (feed1_good g x)
theorem feed_step {w : Wd} {l : List In} {n : Nat} {x : In} (hx : l[n]? = some x) : q5p w (l.take (n + 1)) = q9m (q5p w (l.take n)) x := by
  unfold q5p
  rw [List.take_add_one, hx]
  simp
theorem room_take (a b : List Int) (ha : a.length ≤ 64) : a ++ b.take (min b.length (64 - a.length)) = (a ++ b).take 64 := by
  rw [List.take_append]
  congr 1
  · rw [List.take_of_length_le ha]
  · rcases Nat.le_total b.length (64 - a.length) with h | h
    · rw [Nat.min_eq_left h, List.take_of_length_le (Nat.le_refl _), List.take_of_length_le h]
    · rw [Nat.min_eq_right h]
attribute [local irreducible] q1a dr q0i Ex.then Ex.inBlock retQ q1r q3f q3e Pure CSat evOp q2r rdOf upd hset strip sp0 cut envL q3h q4c Keep BdL evBs q3n q3z
theorem q9u (w : Wd) (l : List In) (g : Good w) (hl : l.length ≤ 10) (hb : ∀ x ∈ l, x.words.length ≤ 100) : Pure Tryz.prog 25 [.agg (Wd.enc w), .sl (l.map In.enc)] (.agg (Wd.enc (q5p w l))) := by
  refine q2y (by kernel_rfl) (by simp only [go_sem, *]) (by simp only [go_sem, *]) Tryz.func25 Tryz.results25 rfl (by simp [Tryz.ntmps25]) (by kernel_rfl) ?_
  repeat' (first | (show q1a ..; first | refine q0d ?_ | refine q0p rfl ?_ | refine q1c rfl rfl ?_) | (show q1f ..; first | refine q0n rfl rfl ?_ | refine q0h rfl ?_) | (show goOn ..; first | refine q0s ?_ | refine q0u ?_ | refine q0y ?_) | (show q1k ..; refine q0j ?_) | (show wGo ..; first | refine q1v ?_ | refine q2b ?_ | refine q1x ?_ | refine q1z ?_ | refine gw_u ?_ | refine q1w (fun _ => ?_) (fun _ => ?_) | refine q2a (fun _ => ?_) (fun _ => ?_) | refine q1y (fun _ => ?_) (fun _ => ?_) | refine q2c (fun _ => ?_) (fun _ => ?_)) | (show dr ..; first | refine q1l ?_ | refine dr_n rfl ?_ | refine q2t rfl rfl ?_) | (show drGo ..; first | refine q2i rfl ?_ | refine q1j rfl ?_) | (show drOn ..; first | refine q1m ?_ | refine q1q ?_ | refine q1p ?_) | (show q1o ..; refine q1b ?_) | (refine And.intro (by kernel_rfl : q1r _ = true) ?_) | (show q0i ..; first | refine q0q ?_ | refine q0c ?_ | refine q1h (by kernel_rfl) ?_ | refine q0r ?_ | refine q0f ?_ | refine q0k ?_ | refine q0w ?_ | refine q0t ?_) | (show q1d ..; first | refine cd_t ?_ | refine cd_f ?_ | refine cd_n (fun _ => ?_) (fun _ => ?_) | refine cd_b (fun _ => ?_) (fun _ => ?_)) | refine q0a ?_ | refine q0m ?_ | refine q0l ?_ | refine q0v ?_ | refine q0g ?_ | refine q0x ?_ | refine bl_pass rfl ?_ | refine q1g ?_ | refine q1e ?_ | (show retQ ..; first | refine q0o ?_ | refine q0b ?_) | refine q0e ?_)
  refine q3g (S := Nat) (fun n => l.length - n) (fun n => n ≤ l.length) (fun n => [(2, .ptr 0 0), (4, .ptr 1 0), (10, .sl (l.map In.enc)), (11, .int .i64 l.length), (12, .int .i64 n)]) (fun n => [(0, .box (Wd.enc (q5p w (l.take n)))), (1, .box (Wd.enc Wd.zero))]) (fun _ => 2) 0 (Nat.zero_le _) (by (refine q2q ?_ ?_ <;> repeat' (first | exact q2d | exact q2f | refine q1n (by (try simp only [go_sem, *]); try rfl) (by simp only [go_sem, *]) ?_ | refine q2g (by (try simp only [go_sem, *]); try rfl) (by omega) (by simp only [go_sem, *]) ?_ | refine q2e (by (try simp only [go_sem, *]); try rfl) (by omega) (by simp only [go_sem, *]) ?_))) ?_
  intro n hn
  rcases Nat.lt_or_ge n l.length with hlt | hge
  · obtain ⟨x, hx⟩ := q3j hlt
    have h0 := q3o hlt
    have h4 := q3d n (by omega)
    have hw := hb x (List.mem_of_getElem? hx)
    have hG := q8f g (l.take n)
    have hst := feed_step (w := w) hx
    generalize q5p w (l.take n) = W at hG hst ⊢
    have hf := find_p hG.few hG.fit x.dev
    unfold q9m at hst
    have hmem := fun h => q9y (w := W) (id := x.dev) h
    have hput := fun p => put_c W p (q5d (q4p hG.fit)).1 (by have := hG.few.n; omega)
    have hsnd := fun h1 (h2 : (q2p W x.dev).1 ∈ W.objects) => q6s (q5g (q4p hG.fit) h2) h1
    generalize q2p W x.dev = F at hf hst hmem hput hsnd
    obtain ⟨o, ok⟩ := F
    simp only at hf hst hmem hsnd
    cases hk : (o.kind == 6) with
    | false =>
      have hk' : (o.kind != 6) = true := by simp [bne, hk]
      rw [hk] at hst
      simp only [Bool.false_eq_true, if_false] at hst
      clear hmem hsnd hput hb hG
      cases ok with
      | false =>
        repeat' (first | (show q1a ..; first | refine q0d ?_ | refine q0p rfl ?_ | refine q1c rfl rfl ?_) | (show q1f ..; first | refine q0n rfl rfl ?_ | refine q0h rfl ?_) | (show goOn ..; first | refine q0s ?_ | refine q0u ?_ | refine q0y ?_) | (show q1k ..; refine q0j ?_) | (show q1u ..; (refine q0z (r := ?_) ?_ ?_; rotate_left 1; (focus exact hf))) | (show wGo ..; first | refine q1v ?_ | refine q2b ?_ | refine q1x ?_ | refine q1z ?_ | refine gw_u ?_ | refine q1w (fun _ => ?_) (fun _ => ?_) | refine q2a (fun _ => ?_) (fun _ => ?_) | refine q1y (fun _ => ?_) (fun _ => ?_) | refine q2c (fun _ => ?_) (fun _ => ?_)) | (show dr ..; first | refine q1l ?_ | refine dr_n rfl ?_ | refine q2t rfl rfl ?_) | (show drGo ..; first | refine q2i rfl ?_ | refine q1j rfl ?_) | (show drOn ..; first | refine q1m ?_ | refine q1q ?_ | refine q1p ?_) | (show q1o ..; refine q1b ?_) | (show q2h ..; (refine q1i (r := ?_) ?_ ?_; rotate_left 1; (focus exact hf))) | (refine And.intro (by kernel_rfl : q1r _ = true) ?_) | (show q0i ..; first | refine q0q ?_ | refine q0c ?_ | refine q1h (by kernel_rfl) ?_ | refine q0r ?_ | refine q0f ?_ | refine q0k ?_ | refine q0w ?_ | refine q0t ?_) | (show q1d ..; first | refine cd_t ?_ | refine cd_f ?_ | refine cd_n (fun _ => ?_) (fun _ => ?_) | refine cd_b (fun _ => ?_) (fun _ => ?_)) | refine q0a ?_ | refine q0m ?_ | refine q0l ?_ | refine q0v ?_ | refine q0g ?_ | refine q0x ?_ | refine bl_pass rfl ?_ | refine q1g ?_ | refine q1e ?_ | (show retQ ..; first | refine q0o ?_ | refine q0b ?_) | refine q0e ?_)
        all_goals (refine again (n + 1) hlt (show l.length - (n + 1) < l.length - n by omega) (by rw [hst]; (refine q2q ?_ ?_ <;> repeat' (first | exact q2d | exact q2f | refine q1n (by (try simp only [go_sem, *]); try rfl) (by simp only [go_sem, *]) ?_ | refine q2g (by (try simp only [go_sem, *]); try rfl) (by omega) (by simp only [go_sem, *]) ?_ | refine q2e (by (try simp only [go_sem, *]); try rfl) (by omega) (by simp only [go_sem, *]) ?_))))
      | true =>
        repeat' (first | (show q1a ..; first | refine q0d ?_ | refine q0p rfl ?_ | refine q1c rfl rfl ?_) | (show q1f ..; first | refine q0n rfl rfl ?_ | refine q0h rfl ?_) | (show goOn ..; first | refine q0s ?_ | refine q0u ?_ | refine q0y ?_) | (show q1k ..; refine q0j ?_) | (show q1u ..; (refine q0z (r := ?_) ?_ ?_; rotate_left 1; (focus exact hf))) | (show wGo ..; first | refine q1v ?_ | refine q2b ?_ | refine q1x ?_ | refine q1z ?_ | refine gw_u ?_ | refine q1w (fun _ => ?_) (fun _ => ?_) | refine q2a (fun _ => ?_) (fun _ => ?_) | refine q1y (fun _ => ?_) (fun _ => ?_) | refine q2c (fun _ => ?_) (fun _ => ?_)) | (show dr ..; first | refine q1l ?_ | refine dr_n rfl ?_ | refine q2t rfl rfl ?_) | (show drGo ..; first | refine q2i rfl ?_ | refine q1j rfl ?_) | (show drOn ..; first | refine q1m ?_ | refine q1q ?_ | refine q1p ?_) | (show q1o ..; refine q1b ?_) | (show q2h ..; (refine q1i (r := ?_) ?_ ?_; rotate_left 1; (focus exact hf))) | (refine And.intro (by kernel_rfl : q1r _ = true) ?_) | (show q0i ..; first | refine q0q ?_ | refine q0c ?_ | refine q1h (by kernel_rfl) ?_ | refine q0r ?_ | refine q0f ?_ | refine q0k ?_ | refine q0w ?_ | refine q0t ?_) | (show q1d ..; first | refine cd_t ?_ | refine cd_f ?_ | refine cd_n (fun _ => ?_) (fun _ => ?_) | refine cd_b (fun _ => ?_) (fun _ => ?_)) | refine q0a ?_ | refine q0m ?_ | refine q0l ?_ | refine q0v ?_ | refine q0g ?_ | refine q0x ?_ | refine bl_pass rfl ?_ | refine q1g ?_ | refine q1e ?_ | (show retQ ..; first | refine q0o ?_ | refine q0b ?_) | refine q0e ?_)
        all_goals (refine again (n + 1) hlt (show l.length - (n + 1) < l.length - n by omega) (by rw [hst]; (refine q2q ?_ ?_ <;> repeat' (first | exact q2d | exact q2f | refine q1n (by (try simp only [go_sem, *]); try rfl) (by simp only [go_sem, *]) ?_ | refine q2g (by (try simp only [go_sem, *]); try rfl) (by omega) (by simp only [go_sem, *]) ?_ | refine q2e (by (try simp only [go_sem, *]); try rfl) (by omega) (by simp only [go_sem, *]) ?_))))
    | true =>
      have hk' : (o.kind != 6) = false := by simp [bne, hk]
      rw [hk] at hst
      simp only [if_true] at hst
      obtain ⟨rfl, hm⟩ := hmem hk
      obtain ⟨hi, hu⟩ := hsnd hk hm
      have hrt := room_take o.inn x.words hi
      have hp := hput (fedO o x.words)
      unfold fedO at hp hst
      rw [← hrt] at hp hst
      have e1 : IntKind.i64.wrap (64 - (o.inn.length : Int)) = ((64 - o.inn.length : Nat) : Int) := by rw [IntKind.wrap_i64]; omega
      have e2 : (if ((64 - o.inn.length : Nat) : Int) < (x.words.length : Int) then ((64 - o.inn.length : Nat) : Int) else (x.words.length : Int)) = ((min x.words.length (64 - o.inn.length) : Nat) : Int) := by split <;> omega
      obtain ⟨r, hr⟩ : ∃ r, r = min x.words.length (64 - o.inn.length) := ⟨_, rfl⟩
      rw [← hr] at hp hst e2
      have hrl : r ≤ x.words.length := by omega
      have e3 : (0 ≤ (r : Int)) = True := eq_true (by omega)
      have e4 : ((r : Int) ≤ (x.words.length : Int)) = True := eq_true (by omega)
      have hc := concat_p o.inn (x.words.take r) (by omega) (by rw [List.length_take]; omega)
      rw [List.map_take] at hc
      clear hmem hsnd hput hb hG hrt hr
      repeat' (first | (show q1a ..; first | refine q0d ?_ | refine q0p rfl ?_ | refine q1c rfl rfl ?_) | (show q1f ..; first | refine q0n rfl rfl ?_ | refine q0h rfl ?_) | (show goOn ..; first | refine q0s ?_ | refine q0u ?_ | refine q0y ?_) | (show q1k ..; refine q0j ?_) | (show q1u ..; (refine q0z (r := ?_) ?_ ?_; rotate_left 1; (focus first | exact hf | exact hc | exact hp))) | (show wGo ..; first | refine q1v ?_ | refine q2b ?_ | refine q1x ?_ | refine q1z ?_ | refine gw_u ?_ | refine q1w (fun _ => ?_) (fun _ => ?_) | refine q2a (fun _ => ?_) (fun _ => ?_) | refine q1y (fun _ => ?_) (fun _ => ?_) | refine q2c (fun _ => ?_) (fun _ => ?_)) | (show dr ..; first | refine q1l ?_ | refine dr_n rfl ?_ | refine q2t rfl rfl ?_) | (show drGo ..; first | refine q2i rfl ?_ | refine q1j rfl ?_) | (show drOn ..; first | refine q1m ?_ | refine q1q ?_ | refine q1p ?_) | (show q1o ..; refine q1b ?_) | (show q2h ..; (refine q1i (r := ?_) ?_ ?_; rotate_left 1; (focus first | exact hf | exact hc | exact hp))) | (refine And.intro (by kernel_rfl : q3f _ _ _ = true) ?_) | (show q0i ..; first | refine q0q ?_ | refine q0c ?_ | refine q9q (by kernel_rfl) ?_ | refine q0r ?_ | refine q0f ?_ | refine q0k ?_ | refine q0w ?_ | refine q0t ?_) | (show q1d ..; first | refine cd_t ?_ | refine cd_f ?_ | refine cd_n (fun _ => ?_) (fun _ => ?_) | refine cd_b (fun _ => ?_) (fun _ => ?_)) | refine q0a ?_ | refine q0m ?_ | refine q0l ?_ | refine q0v ?_ | refine q0g ?_ | refine q0x ?_ | refine bl_pass rfl ?_ | refine q1g ?_ | refine q1e ?_ | (show retQ ..; first | refine q0o ?_ | refine q0b ?_) | refine q0e ?_)
      all_goals (refine again (n + 1) hlt (show l.length - (n + 1) < l.length - n by omega) (by rw [hst]; (refine q2q ?_ ?_ <;> repeat' (first | exact q2d | exact q2f | refine q1n (by (try simp only [go_sem, *]); try rfl) (by simp only [go_sem, *]) ?_ | refine q2g (by (try simp only [go_sem, *]); try rfl) (by omega) (by simp only [go_sem, *]) ?_ | refine q2e (by (try simp only [go_sem, *]); try rfl) (by omega) (by simp only [go_sem, *]) ?_))))
  · have h0 := q2z hge
    have hend : q5p w (l.take n) = q5p w l := by rw [List.take_of_length_le hge]
    rw [hend]
    repeat' (first | (show q1a ..; first | refine q0d ?_ | refine q0p rfl ?_ | refine q1c rfl rfl ?_) | (show q1f ..; first | refine q0n rfl rfl ?_ | refine q0h rfl ?_) | (show goOn ..; first | refine q0s ?_ | refine q0u ?_ | refine q0y ?_) | (show q1k ..; refine q0j ?_) | (show wGo ..; first | refine q1v ?_ | refine q2b ?_ | refine q1x ?_ | refine q1z ?_ | refine gw_u ?_ | refine q1w (fun _ => ?_) (fun _ => ?_) | refine q2a (fun _ => ?_) (fun _ => ?_) | refine q1y (fun _ => ?_) (fun _ => ?_) | refine q2c (fun _ => ?_) (fun _ => ?_)) | (show dr ..; first | refine q1l ?_ | refine dr_n rfl ?_ | refine q2t rfl rfl ?_) | (show drGo ..; first | refine q2i rfl ?_ | refine q1j rfl ?_) | (show drOn ..; first | refine q1m ?_ | refine q1q ?_ | refine q1p ?_) | (show q1o ..; refine q1b ?_) | (refine And.intro (by kernel_rfl : q1r _ = true) ?_) | (show q0i ..; first | refine q0q ?_ | refine q0c ?_ | refine q1h (by kernel_rfl) ?_ | refine q0r ?_ | refine q0f ?_ | refine q0k ?_ | refine q0w ?_ | refine q0t ?_) | (show q1d ..; first | refine cd_t ?_ | refine cd_f ?_ | refine cd_n (fun _ => ?_) (fun _ => ?_) | refine cd_b (fun _ => ?_) (fun _ => ?_)) | refine q0a ?_ | refine q0m ?_ | refine q0l ?_ | refine q0v ?_ | refine q0g ?_ | refine q0x ?_ | refine bl_pass rfl ?_ | refine q1g ?_ | refine q1e ?_ | (show retQ ..; first | refine q0o ?_ | refine q0b ?_) | refine q0e ?_)
    all_goals rfl
end Go.Proofs.YteibeoipnjhicaaGreat.kdev
end
