import Derived.Test.YteibeoipnjhicaaGreatRz8
import Derived.Test.YteibeoipnjhicaaGreatRz6
import Derived.Test.YteibeoipnjhicaaGreatRz7
import Derived.Test.YteibeoipnjhicaaGreatCp1
namespace Go.Proofs.YteibeoipnjhicaaGreat.kdev
open Go Go.RowKit Go.Proofs.YteibeoipnjhicaaGreat
set_option linter.unusedVariables false
set_option linter.unusedSimpArgs false
set_option maxHeartbeats 16000000
set_option maxRecDepth 100000
noncomputable def devR (w : Wd) (t : Ob) (a : Nat → Int) : Ob × Int := q4i w t ⟨a 0, a 1⟩ 6
def outO (o : Ob) (v : Int) : Ob := { o with out := o.out ++ [v] }
noncomputable def outR (w : Wd) (t : Ob) (a : Nat → Int) : Wd × Int × Int × Bool :=
  if ((devR w t a).2 == 0) = true then (if decide (((devR w t a).1.out.length : Int) < 1024) = true then (w.ins (outO (devR w t a).1 (a 2)), 0, 0, true) else (w, 0, 6, true)) else (w, 0, (devR w t a).2, true)
noncomputable def inR (w : Wd) (t : Ob) (a : Nat → Int) : Wd × Int × Int × Bool :=
  if ((devR w t a).2 == 0) = true then (match (devR w t a).1.inn with
    | [] => (w, 0, 9, true)
    | v :: l => (w.ins { (devR w t a).1 with inn := l }, v, 0, true)) else (w, 0, (devR w t a).2, true)
noncomputable def q5o (w : Wd) (t : Ob) (n : Int) (a : Nat → Int) : Wd × Int × Int × Bool :=
  if (n == 41) = true then outR w t a else if (n == 42) = true then inR w t a else (w, 0, 0, false)
def outK (r : Ob × Int) : Out := if (r.2 == 0) = true then .ret (.agg (Ob.enc r.1)) else .pan (thr r.2)
@[go_sem] theorem all_opt (x : Option Int) : Option.all (fun c : List PV => c.length == 1) (Option.map u64 x) = true := by cases x <;> rfl
@[go_sem] theorem spl1_out (x : Ob) (b : Int) : splice (Ob.enc x) 50 [.sl [u64 b]] = Ob.enc { x with out := [b] } := by kernel_rfl
attribute [local irreducible] q0z dr q0i Ex.then Ex.inBlock retQ q1r q3e q3c Pure CSat evOp q2n rdOf upd hset strip sp0 cut envL q3f q4c Keep BdL evBs q3m q4a
theorem device_csat {H : Heap} (t : Ob) (w : Wd) (a : Nat → Int) (hb : H 7 = some (.box (Clr.enc ⟨t, w, a⟩))) (hf : FewW w) (hw : q5b w = true) (ht : q4h t.label = true) (htl : t.label.length ≤ 20) :
    CSat Tryz.prog 165 [.ptr 7 0] H 8 (fun out H' m' => out = outK (devR w t a) ∧ m' = 10 ∧ ∀ j, j < 8 → H' j = H j) := by
  have h1 := reach_change w t ⟨a 0, a 1⟩ 6 hf hw ht htl
  unfold devR
  generalize q4i w t ⟨a 0, a 1⟩ 6 = D at h1 ⊢
  obtain ⟨o, e⟩ := D
  simp only at h1 ⊢
  cases he : (e == 0) with
  | false =>
    have hoe : outK (o, e) = .pan (thr e) := by unfold outK; rw [if_neg (by rw [he]; simp)]
    rw [hoe]
    refine q4s (by kernel_rfl) Tryz.func165 Tryz.results165 rfl (by simp [Tryz.ntmps165]) (by kernel_rfl) ?_
    repeat' (first | (show q0z ..; first | refine q0d ?_ | refine q0p rfl ?_) | (show q1f ..; first | refine q0n rfl rfl ?_ | refine q0g rfl ?_) | (show goOn ..; first | refine q0s ?_ | refine q0u ?_ | refine q0v ?_) | (show q1i ..; refine q0j ?_) | (show q1s ..; (refine q1a (r := ?_) ?_ ?_; rotate_left 1; (focus exact h1))) | (show dr ..; first | refine q1m ?_ | refine dr_n rfl ?_) | (show drGo ..; first | refine q2j rfl ?_ | refine q1j rfl ?_) | (show drOn ..; first | refine q1n ?_ | refine q1q ?_ | refine q1p ?_) | (show q1o ..; refine q1c ?_) | (show q2l ..; (refine q1l (r := ?_) ?_ ?_; rotate_left 1; (focus exact h1))) | (refine And.intro (by kernel_rfl : q1r _ = true) ?_) | (show q0i ..; first | refine q0q ?_ | refine q0c ?_ | refine q1h (by kernel_rfl) ?_ | refine q0r ?_ | refine q0f ?_) | refine q0a ?_ | refine q0m ?_ | refine q0k ?_ | (show retQ ..; first | refine q0o ?_ | refine q0b ?_) | refine q0e ?_)
    (refine q2h (by kernel_rfl) (none_no _ _ _ he) ?_ ?_)
    case refine_1 => rintro r H' m' ⟨h, _⟩; cases h
    rintro p H1 m1 ⟨h, rfl, rfl⟩
    cases h
    repeat' (first | refine q0k ?_ | refine q1e ?_ | refine q4v ?_)
    exact ⟨rfl, rfl, (fun j hj => by repeat rw [q2k _ _ (by omega)])⟩
  | true =>
    have hoe : outK (o, e) = .ret (.agg (Ob.enc o)) := by unfold outK; rw [if_pos he]
    rw [hoe]
    obtain rfl : e = 0 := by simpa using he
    refine q4s (by kernel_rfl) Tryz.func165 Tryz.results165 rfl (by simp [Tryz.ntmps165]) (by kernel_rfl) ?_
    repeat' (first | (show q0z ..; first | refine q0d ?_ | refine q0p rfl ?_) | (show q1f ..; first | refine q0n rfl rfl ?_ | refine q0g rfl ?_) | (show goOn ..; first | refine q0s ?_ | refine q0u ?_ | refine q0v ?_) | (show q1i ..; refine q0j ?_) | (show q1s ..; (refine q1a (r := ?_) ?_ ?_; rotate_left 1; (focus exact h1))) | (show dr ..; first | refine q1m ?_ | refine dr_n rfl ?_) | (show drGo ..; first | refine q2j rfl ?_ | refine q1j rfl ?_) | (show drOn ..; first | refine q1n ?_ | refine q1q ?_ | refine q1p ?_) | (show q1o ..; refine q1c ?_) | (show q2l ..; (refine q1l (r := ?_) ?_ ?_; rotate_left 1; (focus exact h1))) | (refine And.intro (by kernel_rfl : q1r _ = true) ?_) | (show q0i ..; first | refine q0q ?_ | refine q0c ?_ | refine q1h (by kernel_rfl) ?_ | refine q0r ?_ | refine q0f ?_) | refine q0a ?_ | refine q0m ?_ | refine q0k ?_ | (show retQ ..; first | refine q0o ?_ | refine q0b ?_) | refine q0e ?_)
    (refine q2h (by kernel_rfl) (none_yes _ _) ?_ ?_)
    case refine_2 => rintro p H' m' ⟨⟨_, h⟩, _⟩; cases h
    rintro r H' m' ⟨⟨_, h⟩, rfl, rfl⟩
    clear h
    repeat' (first | (show q0z ..; first | refine q0d ?_ | refine q0p rfl ?_) | (show q1f ..; first | refine q0n rfl rfl ?_ | refine q0g rfl ?_) | (show goOn ..; first | refine q0s ?_ | refine q0u ?_ | refine q0v ?_) | (show q1i ..; refine q0j ?_) | (show dr ..; first | refine q1m ?_ | refine dr_n rfl ?_) | (show drGo ..; first | refine q2j rfl ?_ | refine q1j rfl ?_) | (show drOn ..; first | refine q1n ?_ | refine q1q ?_ | refine q1p ?_) | (show q1o ..; refine q1c ?_) | (refine And.intro (by kernel_rfl : q1r _ = true) ?_) | (show q0i ..; first | refine q0q ?_ | refine q0c ?_ | refine q1h (by kernel_rfl) ?_ | refine q0r ?_ | refine q0f ?_) | refine q0a ?_ | refine q0m ?_ | refine q0k ?_ | (show retQ ..; first | refine q0o ?_ | refine q0b ?_) | refine q0e ?_)
    exact ⟨rfl, rfl, (fun j hj => by repeat rw [q2k _ _ (by omega)])⟩
theorem out_csat {H : Heap} (t : Ob) (w : Wd) (a : Nat → Int) (hb : H 7 = some (.box (Clr.enc ⟨t, w, a⟩))) (hf : FewW w) (hw : q5b w = true) (ht : q4h t.label = true) (htl : t.label.length ≤ 20) :
    CSat Tryz.prog 114 [.ptr 7 0] H 8 (fun out H' m' => (((outR w t a).2.2.1 == 0) = true → (∃ r, out = .ret r) ∧ (outR w t a).2.1 = 0 ∧ (outR w t a).2.2.2 = true ∧ H' 7 = some (.box (Clr.enc ⟨t, (outR w t a).1, a⟩))) ∧ (((outR w t a).2.2.1 == 0) = false → out = .pan (thr (outR w t a).2.2.1)) ∧ 8 ≤ m' ∧ ∀ j, j < 7 → H' j = H j) := by
  have devC := fun (H : Heap) hb => device_csat (H := H) t w a hb hf hw ht htl
  have hris := (q5c hw).1
  have hn := hf.n
  unfold outR
  generalize devR w t a = D at devC ⊢
  obtain ⟨o, e⟩ := D
  simp only at devC ⊢
  cases he : (e == 0) with
  | false =>
    have hoe : outK (o, e) = .pan (thr e) := by unfold outK; rw [if_neg (by rw [he]; simp)]
    rw [hoe] at devC
    simp only [Bool.false_eq_true, if_false]
    refine q4s (by kernel_rfl) Tryz.func114 Tryz.results114 rfl (by simp [Tryz.ntmps114]) (by kernel_rfl) ?_
    repeat' (first | (show q0z ..; first | refine q0d ?_ | refine q0p rfl ?_) | (show q1f ..; first | refine q0n rfl rfl ?_ | refine q0g rfl ?_) | (show goOn ..; first | refine q0s ?_ | refine q0u ?_ | refine q0v ?_ | refine q1u ?_ | refine q1t ?_) | (show q1i ..; refine q0j ?_) | (show dr ..; first | refine q1m ?_ | refine dr_n rfl ?_) | (show drGo ..; first | refine q2j rfl ?_ | refine q1j rfl ?_) | (show drOn ..; first | refine q1n ?_ | refine q1q ?_ | refine q1p ?_ | refine q2r ?_ | refine q2q ?_) | (show q1o ..; refine q1c ?_) | (refine And.intro (by kernel_rfl : q1r _ = true) ?_) | (show q0i ..; first | refine q0q ?_ | refine q0c ?_ | refine q1h (by kernel_rfl) ?_ | refine q0r ?_ | refine q0f ?_) | refine q0a ?_ | refine q0m ?_ | refine q0k ?_ | (show retQ ..; first | refine q0o ?_ | refine q0b ?_) | refine q0e ?_)
    (refine q2h (by kernel_rfl) (devC _ (by simp only [go_sem, *])) ?_ ?_)
    case refine_1 => rintro r H' m' ⟨h, _⟩; cases h
    rintro p H1 m1 ⟨h, rfl, A1⟩
    cases h
    repeat' (first | refine q0k ?_ | refine q1e ?_ | refine q4v ?_)
    exact ⟨(fun h => by rw [he] at h; cases h), (fun _ => rfl), by omega, (fun j hj => A1 j (by omega))⟩
  | true =>
    have hoe : outK (o, e) = .ret (.agg (Ob.enc o)) := by unfold outK; rw [if_pos he]
    rw [hoe] at devC
    obtain rfl : e = 0 := by simpa using he
    simp only [if_true]
    cases hl : decide ((o.out.length : Int) < 1024) with
    | false =>
      simp only [Bool.false_eq_true, if_false]
      refine q4s (by kernel_rfl) Tryz.func114 Tryz.results114 rfl (by simp [Tryz.ntmps114]) (by kernel_rfl) ?_
      repeat' (first | (show q0z ..; first | refine q0d ?_ | refine q0p rfl ?_) | (show q1f ..; first | refine q0n rfl rfl ?_ | refine q0g rfl ?_) | (show goOn ..; first | refine q0s ?_ | refine q0u ?_ | refine q0v ?_ | refine q1u ?_ | refine q1t ?_) | (show q1i ..; refine q0j ?_) | (show dr ..; first | refine q1m ?_ | refine dr_n rfl ?_) | (show drGo ..; first | refine q2j rfl ?_ | refine q1j rfl ?_) | (show drOn ..; first | refine q1n ?_ | refine q1q ?_ | refine q1p ?_ | refine q2r ?_ | refine q2q ?_) | (show q1o ..; refine q1c ?_) | (refine And.intro (by kernel_rfl : q1r _ = true) ?_) | (show q0i ..; first | refine q0q ?_ | refine q0c ?_ | refine q1h (by kernel_rfl) ?_ | refine q0r ?_ | refine q0f ?_) | refine q0a ?_ | refine q0m ?_ | refine q0k ?_ | (show retQ ..; first | refine q0o ?_ | refine q0b ?_) | refine q0e ?_)
      (refine q2h (by kernel_rfl) (devC _ (by simp only [go_sem, *])) ?_ ?_)
      case refine_2 => rintro p H' m' ⟨h, _⟩; cases h
      rintro r H1 m1 ⟨h, rfl, A1⟩
      cases h
      have c7 : H1 7 = some (.box (Clr.enc ⟨t, w, a⟩)) := by rw [A1 7 (by omega)]; exact hb
      repeat' (first | (show q0z ..; first | refine q0d ?_ | refine q0p rfl ?_) | (show q1f ..; first | refine q0n rfl rfl ?_ | refine q0g rfl ?_) | (show goOn ..; first | refine q0s ?_ | refine q0u ?_ | refine q0v ?_ | refine q1u ?_ | refine q1t ?_) | (show q1i ..; refine q0j ?_) | (show dr ..; first | refine q1m ?_ | refine dr_n rfl ?_) | (show drGo ..; first | refine q2j rfl ?_ | refine q1j rfl ?_) | (show drOn ..; first | refine q1n ?_ | refine q1q ?_ | refine q1p ?_ | refine q2r ?_ | refine q2q ?_) | (show q1o ..; refine q1c ?_) | (refine And.intro (by kernel_rfl : q1r _ = true) ?_) | (show q0i ..; first | refine q0q ?_ | refine q0c ?_ | refine q1h (by kernel_rfl) ?_ | refine q0r ?_ | refine q0f ?_) | refine q0a ?_ | refine q0m ?_ | refine q0k ?_ | (show retQ ..; first | refine q0o ?_ | refine q0b ?_) | refine q0e ?_)
      (refine q2h (by kernel_rfl) (must_no _ _ _) ?_ ?_)
      case refine_1 => rintro r H' m' ⟨h, _⟩; cases h
      rintro p H' m' ⟨h, rfl, rfl⟩
      cases h
      repeat' (first | refine q0k ?_ | refine q1e ?_ | refine q4v ?_)
      exact ⟨(fun h => by cases h), (fun _ => rfl), by omega, (fun j hj => by (repeat rw [q2k _ _ (by omega)]); exact A1 j (by omega))⟩
    | true =>
      simp only [if_true]
      have hlen := of_decide_eq_true hl
      have hput := fun v => put_c w (outO o v) hris (by omega)
      cases hoo : o.out with
      | nil =>
        have hp := hput (a 2)
        unfold outO at hp ⊢
        rw [hoo, List.nil_append] at hp ⊢
        have g1 := cloneU_nilsl
        refine q4s (by kernel_rfl) Tryz.func114 Tryz.results114 rfl (by simp [Tryz.ntmps114]) (by kernel_rfl) ?_
        repeat' (first | (show q0z ..; first | refine q0d ?_ | refine q0p rfl ?_) | (show q1f ..; first | refine q0n rfl rfl ?_ | refine q0g rfl ?_) | (show goOn ..; first | refine q0s ?_ | refine q0u ?_ | refine q0v ?_ | refine q1u ?_ | refine q1t ?_) | (show q1i ..; refine q0j ?_) | (show dr ..; first | refine q1m ?_ | refine dr_n rfl ?_) | (show drGo ..; first | refine q2j rfl ?_ | refine q1j rfl ?_) | (show drOn ..; first | refine q1n ?_ | refine q1q ?_ | refine q1p ?_ | refine q2r ?_ | refine q2q ?_) | (show q1o ..; refine q1c ?_) | (refine And.intro (by kernel_rfl : q1r _ = true) ?_) | (show q0i ..; first | refine q0q ?_ | refine q0c ?_ | refine q1h (by kernel_rfl) ?_ | refine q0r ?_ | refine q0f ?_) | refine q0a ?_ | refine q0m ?_ | refine q0k ?_ | (show retQ ..; first | refine q0o ?_ | refine q0b ?_) | refine q0e ?_)
        (refine q2h (by kernel_rfl) (devC _ (by simp only [go_sem, *])) ?_ ?_)
        case refine_2 => rintro p H' m' ⟨h, _⟩; cases h
        rintro r H1 m1 ⟨h, rfl, A1⟩
        cases h
        have c7 : H1 7 = some (.box (Clr.enc ⟨t, w, a⟩)) := by rw [A1 7 (by omega)]; exact hb
        repeat' (first | (show q0z ..; first | refine q0d ?_ | refine q0p rfl ?_) | (show q1f ..; first | refine q0n rfl rfl ?_ | refine q0g rfl ?_) | (show goOn ..; first | refine q0s ?_ | refine q0u ?_ | refine q0v ?_ | refine q1u ?_ | refine q1t ?_) | (show q1i ..; refine q0j ?_) | (show dr ..; first | refine q1m ?_ | refine dr_n rfl ?_) | (show drGo ..; first | refine q2j rfl ?_ | refine q1j rfl ?_) | (show drOn ..; first | refine q1n ?_ | refine q1q ?_ | refine q1p ?_ | refine q2r ?_ | refine q2q ?_) | (show q1o ..; refine q1c ?_) | (refine And.intro (by kernel_rfl : q1r _ = true) ?_) | (show q0i ..; first | refine q0q ?_ | refine q0c ?_ | refine q1h (by kernel_rfl) ?_ | refine q0r ?_ | refine q0f ?_) | refine q0a ?_ | refine q0m ?_ | refine q0k ?_ | (show retQ ..; first | refine q0o ?_ | refine q0b ?_) | refine q0e ?_)
        (refine q2h (by kernel_rfl) (must_yes _ _ _) ?_ ?_)
        case refine_2 => rintro p H' m' ⟨⟨_, h⟩, _⟩; cases h
        rintro r H' m' ⟨⟨_, h⟩, rfl, rfl⟩
        clear h
        repeat' (first | (show q0z ..; first | refine q0d ?_ | refine q0p rfl ?_) | (show q1f ..; first | refine q0n rfl rfl ?_ | refine q0g rfl ?_) | (show goOn ..; first | refine q0s ?_ | refine q0u ?_ | refine q0v ?_ | refine q1u ?_ | refine q1t ?_) | (show q1i ..; refine q0j ?_) | (show dr ..; first | refine q1m ?_ | refine dr_n rfl ?_) | (show drGo ..; first | refine q2j rfl ?_ | refine q1j rfl ?_) | (show drOn ..; first | refine q1n ?_ | refine q1q ?_ | refine q1p ?_ | refine q2r ?_ | refine q2q ?_) | (show q1o ..; refine q1c ?_) | (refine And.intro (by kernel_rfl : q1r _ = true) ?_) | (show q0i ..; first | refine q0q ?_ | refine q0c ?_ | refine q0r ?_ | refine q0f ?_) | refine q0a ?_ | refine q0m ?_ | refine q0k ?_ | (show retQ ..; first | refine q0o ?_ | refine q0b ?_) | refine q0e ?_)
        refine pc_drawL 10 (by kernel_rfl) (by kernel_rfl) ?_
        repeat' (first | (show q0z ..; first | refine q0d ?_ | refine q0p rfl ?_) | (show q1f ..; first | refine q0n rfl rfl ?_ | refine q0g rfl ?_) | (show goOn ..; first | refine q0s ?_ | refine q0u ?_ | refine q0v ?_ | refine q1u ?_ | refine q1t ?_) | (show q1i ..; refine q0j ?_) | (show q1s ..; (refine q1a (r := ?_) ?_ ?_; rotate_left 1; (focus exact g1))) | (show dr ..; first | refine q1m ?_ | refine dr_n rfl ?_) | (show drGo ..; first | refine q2j rfl ?_ | refine q1j rfl ?_) | (show drOn ..; first | refine q1n ?_ | refine q1q ?_ | refine q1p ?_ | refine q2r ?_ | refine q2q ?_) | (show q1o ..; refine q1c ?_) | (show q2l ..; (refine q1l (r := ?_) ?_ ?_; rotate_left 1; (focus exact g1))) | (refine And.intro (by kernel_rfl : q1r _ = true) ?_) | (show q0i ..; first | refine q0q ?_ | refine q0c ?_ | refine q0r ?_ | refine q0f ?_) | refine q0a ?_ | refine q0m ?_ | refine q0k ?_ | (show retQ ..; first | refine q0o ?_ | refine q0b ?_) | refine q0e ?_)
        repeat' (first | (show q0z ..; first | refine q0d ?_ | refine q0p rfl ?_) | (show q1f ..; first | refine q0n rfl rfl ?_ | refine q0g rfl ?_) | (show goOn ..; first | refine q0s ?_ | refine q0u ?_ | refine q0v ?_ | refine q1u ?_ | refine q1t ?_) | (show q1i ..; refine q0j ?_) | (show q1s ..; (refine q1a (r := ?_) ?_ ?_; rotate_left 1; (focus exact hp))) | (show dr ..; first | refine q1m ?_ | refine dr_n rfl ?_) | (show drGo ..; first | refine q2j rfl ?_ | refine q1j rfl ?_) | (show drOn ..; first | refine q1n ?_ | refine q1q ?_ | refine q1p ?_ | refine q2r ?_ | refine q2q ?_) | (show q1o ..; refine q1c ?_) | (show q2l ..; (refine q1l (r := ?_) ?_ ?_; rotate_left 1; (focus exact hp))) | (refine And.intro (by kernel_rfl : q3e _ _ _ = true) ?_) | (show q0i ..; first | refine q0q ?_ | refine q0c ?_ | refine q9d (by kernel_rfl) ?_ | refine q0r ?_ | refine q0f ?_) | refine q0a ?_ | refine q0m ?_ | refine q0k ?_ | (show retQ ..; first | refine q0o ?_ | refine q0b ?_) | refine q0e ?_)
        exact ⟨(fun _ => ⟨⟨_, rfl⟩, by first | rfl | trivial, by first | rfl | trivial, by simp only [go_sem]⟩), (fun h => by cases h), by omega, (fun j hj => by (repeat rw [q2k _ _ (by omega)]); exact A1 j (by omega))⟩
      | cons x l =>
        have hp := hput (a 2)
        have hne : o.out ≠ [] := by rw [hoo]; simp
        have g1 := cloneU_born (l := o.out) (by omega) hne
        have h3 : ((o.out.length + 1) * 8 ≤ 140737488355328) = True := q6e (by omega) (by decide)
        have h4 : (o.out.length + 1 ≤ maxLen) = True := q5k (by omega)
        have h5 : ((o.out ++ [a 2]).length = o.out.length + 1) = True := eq_true (by simp)
        clear hoo
        unfold outO at hp ⊢
        refine q4s (by kernel_rfl) Tryz.func114 Tryz.results114 rfl (by simp [Tryz.ntmps114]) (by kernel_rfl) ?_
        repeat' (first | (show q0z ..; first | refine q0d ?_ | refine q0p rfl ?_) | (show q1f ..; first | refine q0n rfl rfl ?_ | refine q0g rfl ?_) | (show goOn ..; first | refine q0s ?_ | refine q0u ?_ | refine q0v ?_ | refine q1u ?_ | refine q1t ?_) | (show q1i ..; refine q0j ?_) | (show dr ..; first | refine q1m ?_ | refine dr_n rfl ?_) | (show drGo ..; first | refine q2j rfl ?_ | refine q1j rfl ?_) | (show drOn ..; first | refine q1n ?_ | refine q1q ?_ | refine q1p ?_ | refine q2r ?_ | refine q2q ?_) | (show q1o ..; refine q1c ?_) | (refine And.intro (by kernel_rfl : q1r _ = true) ?_) | (show q0i ..; first | refine q0q ?_ | refine q0c ?_ | refine q1h (by kernel_rfl) ?_ | refine q0r ?_ | refine q0f ?_) | refine q0a ?_ | refine q0m ?_ | refine q0k ?_ | (show retQ ..; first | refine q0o ?_ | refine q0b ?_) | refine q0e ?_)
        (refine q2h (by kernel_rfl) (devC _ (by simp only [go_sem, *])) ?_ ?_)
        case refine_2 => rintro p H' m' ⟨h, _⟩; cases h
        rintro r H1 m1 ⟨h, rfl, A1⟩
        cases h
        have c7 : H1 7 = some (.box (Clr.enc ⟨t, w, a⟩)) := by rw [A1 7 (by omega)]; exact hb
        repeat' (first | (show q0z ..; first | refine q0d ?_ | refine q0p rfl ?_) | (show q1f ..; first | refine q0n rfl rfl ?_ | refine q0g rfl ?_) | (show goOn ..; first | refine q0s ?_ | refine q0u ?_ | refine q0v ?_ | refine q1u ?_ | refine q1t ?_) | (show q1i ..; refine q0j ?_) | (show dr ..; first | refine q1m ?_ | refine dr_n rfl ?_) | (show drGo ..; first | refine q2j rfl ?_ | refine q1j rfl ?_) | (show drOn ..; first | refine q1n ?_ | refine q1q ?_ | refine q1p ?_ | refine q2r ?_ | refine q2q ?_) | (show q1o ..; refine q1c ?_) | (refine And.intro (by kernel_rfl : q1r _ = true) ?_) | (show q0i ..; first | refine q0q ?_ | refine q0c ?_ | refine q1h (by kernel_rfl) ?_ | refine q0r ?_ | refine q0f ?_) | refine q0a ?_ | refine q0m ?_ | refine q0k ?_ | (show retQ ..; first | refine q0o ?_ | refine q0b ?_) | refine q0e ?_)
        (refine q2h (by kernel_rfl) (must_yes _ _ _) ?_ ?_)
        case refine_2 => rintro p H' m' ⟨⟨_, h⟩, _⟩; cases h
        rintro r H' m' ⟨⟨_, h⟩, rfl, rfl⟩
        clear h
        repeat' (first | (show q0z ..; first | refine q0d ?_ | refine q0p rfl ?_) | (show q1f ..; first | refine q0n rfl rfl ?_ | refine q0g rfl ?_) | (show goOn ..; first | refine q0s ?_ | refine q0u ?_ | refine q0v ?_ | refine q1u ?_ | refine q1t ?_) | (show q1i ..; refine q0j ?_) | (show dr ..; first | refine q1m ?_ | refine dr_n rfl ?_) | (show drGo ..; first | refine q2j rfl ?_ | refine q1j rfl ?_) | (show drOn ..; first | refine q1n ?_ | refine q1q ?_ | refine q1p ?_ | refine q2r ?_ | refine q2q ?_) | (show q1o ..; refine q1c ?_) | (refine And.intro (by kernel_rfl : q1r _ = true) ?_) | (show q0i ..; first | refine q0q ?_ | refine q0c ?_ | refine q0r ?_ | refine q0f ?_) | refine q0a ?_ | refine q0m ?_ | refine q0k ?_ | (show retQ ..; first | refine q0o ?_ | refine q0b ?_) | refine q0e ?_)
        refine pc_drawL 10 (by kernel_rfl) (by kernel_rfl) ?_
        repeat' (first | (show q0z ..; first | refine q0d ?_ | refine q0p rfl ?_) | (show q1f ..; first | refine q0n rfl rfl ?_ | refine q0g rfl ?_) | (show goOn ..; first | refine q0s ?_ | refine q0u ?_ | refine q0v ?_ | refine q1u ?_ | refine q1t ?_) | (show q1i ..; refine q0j ?_) | (show dr ..; first | refine q1m ?_ | refine dr_n rfl ?_) | (show drGo ..; first | refine q2j rfl ?_ | refine q1j rfl ?_) | (show drOn ..; first | refine q1n ?_ | refine q1q ?_ | refine q1p ?_ | refine q2r ?_ | refine q2q ?_) | (show q1o ..; refine q1c ?_) | (show q2l ..; refine dcall_born (by kernel_rfl) (g1) (by (try simp only [go_sem, *]); exact nm) (by (try simp only [go_sem, *]); exact nm) ?_) | (refine And.intro (by kernel_rfl : q1r _ = true) ?_) | (show q0i ..; first | refine q0q ?_ | refine q0c ?_ | refine q0r ?_ | refine q0f ?_) | refine q0a ?_ | refine q0m ?_ | refine q0k ?_ | (show retQ ..; first | refine q0o ?_ | refine q0b ?_) | refine q0e ?_)
        repeat' (first | (show q0z ..; first | refine q0d ?_ | refine q0p rfl ?_) | (show q1f ..; first | refine q0n rfl rfl ?_ | refine q0g rfl ?_) | (show goOn ..; first | refine q0s ?_ | refine q0u ?_ | refine q0v ?_ | refine q1u ?_ | refine q1t ?_) | (show q1i ..; refine q0j ?_) | (show q1s ..; (refine q1a (r := ?_) ?_ ?_; rotate_left 1; (focus exact hp))) | (show dr ..; first | refine q1m ?_ | refine dr_n rfl ?_) | (show drGo ..; first | refine q2j rfl ?_ | refine q1j rfl ?_) | (show drOn ..; first | refine q1n ?_ | refine q1q ?_ | refine q1p ?_ | refine q2r ?_ | refine q2q ?_) | (show q1o ..; refine q1c ?_) | (show q2l ..; (refine q1l (r := ?_) ?_ ?_; rotate_left 1; (focus exact hp))) | (refine And.intro (by kernel_rfl : q3e _ _ _ = true) ?_) | (show q0i ..; first | refine q0q ?_ | refine q0c ?_ | refine q9d (by kernel_rfl) ?_ | refine q0r ?_ | refine q0f ?_) | refine q0a ?_ | refine q0m ?_ | refine q0k ?_ | (show retQ ..; first | refine q0o ?_ | refine q0b ?_) | refine q0e ?_)
        exact ⟨(fun _ => ⟨⟨_, rfl⟩, by first | rfl | trivial, by first | rfl | trivial, by simp only [go_sem]⟩), (fun h => by cases h), by omega, (fun j hj => by (repeat rw [q2k _ _ (by omega)]); exact A1 j (by omega))⟩
theorem in_csat {H : Heap} (t : Ob) (w : Wd) (a : Nat → Int) (hb : H 7 = some (.box (Clr.enc ⟨t, w, a⟩))) (hf : FewW w) (hw : q5b w = true) (ht : q4h t.label = true) (htl : t.label.length ≤ 20) (hil : (devR w t a).1.inn.length ≤ 1000) :
    CSat Tryz.prog 115 [.ptr 7 0] H 8 (fun out H' m' => (((inR w t a).2.2.1 == 0) = true → out = .ret (.int .u64 (inR w t a).2.1) ∧ (inR w t a).2.2.2 = true ∧ H' 7 = some (.box (Clr.enc ⟨t, (inR w t a).1, a⟩))) ∧ (((inR w t a).2.2.1 == 0) = false → out = .pan (thr (inR w t a).2.2.1)) ∧ 8 ≤ m' ∧ ∀ j, j < 7 → H' j = H j) := by
  have devC := fun (H : Heap) hb => device_csat (H := H) t w a hb hf hw ht htl
  have hris := (q5c hw).1
  have hn := hf.n
  unfold inR
  generalize devR w t a = D at devC hil ⊢
  obtain ⟨o, e⟩ := D
  simp only at devC hil ⊢
  cases he : (e == 0) with
  | false =>
    have hoe : outK (o, e) = .pan (thr e) := by unfold outK; rw [if_neg (by rw [he]; simp)]
    rw [hoe] at devC
    simp only [Bool.false_eq_true, if_false]
    refine q4s (by kernel_rfl) Tryz.func115 Tryz.results115 rfl (by simp [Tryz.ntmps115]) (by kernel_rfl) ?_
    repeat' (first | (show q0z ..; first | refine q0d ?_ | refine q0p rfl ?_) | (show q1f ..; first | refine q0n rfl rfl ?_ | refine q0g rfl ?_) | (show goOn ..; first | refine q0s ?_ | refine q0u ?_ | refine q0v ?_) | (show q1i ..; refine q0j ?_) | (show dr ..; first | refine q1m ?_ | refine dr_n rfl ?_) | (show drGo ..; first | refine q2j rfl ?_ | refine q1j rfl ?_) | (show drOn ..; first | refine q1n ?_ | refine q1q ?_ | refine q1p ?_) | (show q1o ..; refine q1c ?_) | (refine And.intro (by kernel_rfl : q1r _ = true) ?_) | (show q0i ..; first | refine q0q ?_ | refine q0c ?_ | refine q1h (by kernel_rfl) ?_ | refine q0r ?_ | refine q0f ?_) | refine q0a ?_ | refine q0m ?_ | refine q0k ?_ | (show retQ ..; first | refine q0o ?_ | refine q0b ?_) | refine q0e ?_)
    (refine q2h (by kernel_rfl) (devC _ (by simp only [go_sem, *])) ?_ ?_)
    case refine_1 => rintro r H' m' ⟨h, _⟩; cases h
    rintro p H1 m1 ⟨h, rfl, A1⟩
    cases h
    repeat' (first | refine q0k ?_ | refine q1e ?_ | refine q4v ?_)
    exact ⟨(fun h => by rw [he] at h; cases h), (fun _ => rfl), by omega, (fun j hj => A1 j (by omega))⟩
  | true =>
    have hoe : outK (o, e) = .ret (.agg (Ob.enc o)) := by unfold outK; rw [if_pos he]
    rw [hoe] at devC
    obtain rfl : e = 0 := by simpa using he
    simp only [if_true]
    obtain ⟨id, kind, label, quota, fixed, links, data, maps, thread, gate, inn, out⟩ := o
    simp only at hil ⊢
    cases inn with
    | nil =>
      refine q4s (by kernel_rfl) Tryz.func115 Tryz.results115 rfl (by simp [Tryz.ntmps115]) (by kernel_rfl) ?_
      repeat' (first | (show q0z ..; first | refine q0d ?_ | refine q0p rfl ?_) | (show q1f ..; first | refine q0n rfl rfl ?_ | refine q0g rfl ?_) | (show goOn ..; first | refine q0s ?_ | refine q0u ?_ | refine q0v ?_) | (show q1i ..; refine q0j ?_) | (show dr ..; first | refine q1m ?_ | refine dr_n rfl ?_) | (show drGo ..; first | refine q2j rfl ?_ | refine q1j rfl ?_) | (show drOn ..; first | refine q1n ?_ | refine q1q ?_ | refine q1p ?_) | (show q1o ..; refine q1c ?_) | (refine And.intro (by kernel_rfl : q1r _ = true) ?_) | (show q0i ..; first | refine q0q ?_ | refine q0c ?_ | refine q1h (by kernel_rfl) ?_ | refine q0r ?_ | refine q0f ?_) | refine q0a ?_ | refine q0m ?_ | refine q0k ?_ | (show retQ ..; first | refine q0o ?_ | refine q0b ?_) | refine q0e ?_)
      (refine q2h (by kernel_rfl) (devC _ (by simp only [go_sem, *])) ?_ ?_)
      case refine_2 => rintro p H' m' ⟨h, _⟩; cases h
      rintro r H1 m1 ⟨h, rfl, A1⟩
      cases h
      have c7 : H1 7 = some (.box (Clr.enc ⟨t, w, a⟩)) := by rw [A1 7 (by omega)]; exact hb
      repeat' (first | (show q0z ..; first | refine q0d ?_ | refine q0p rfl ?_) | (show q1f ..; first | refine q0n rfl rfl ?_ | refine q0g rfl ?_) | (show goOn ..; first | refine q0s ?_ | refine q0u ?_ | refine q0v ?_) | (show q1i ..; refine q0j ?_) | (show dr ..; first | refine q1m ?_ | refine dr_n rfl ?_) | (show drGo ..; first | refine q2j rfl ?_ | refine q1j rfl ?_) | (show drOn ..; first | refine q1n ?_ | refine q1q ?_ | refine q1p ?_) | (show q1o ..; refine q1c ?_) | (refine And.intro (by kernel_rfl : q1r _ = true) ?_) | (show q0i ..; first | refine q0q ?_ | refine q0c ?_ | refine q1h (by kernel_rfl) ?_ | refine q0r ?_ | refine q0f ?_) | refine q0a ?_ | refine q0m ?_ | refine q0k ?_ | (show retQ ..; first | refine q0o ?_ | refine q0b ?_) | refine q0e ?_)
      (refine q2h (by kernel_rfl) (must_no _ _ _) ?_ ?_)
      case refine_1 => rintro r H' m' ⟨h, _⟩; cases h
      rintro p H' m' ⟨h, rfl, rfl⟩
      cases h
      repeat' (first | refine q0k ?_ | refine q1e ?_ | refine q4v ?_)
      exact ⟨(fun h => by cases h), (fun _ => rfl), by omega, (fun j hj => by (repeat rw [q2k _ _ (by omega)]); exact A1 j (by omega))⟩
    | cons x l =>
      simp only [List.length_cons] at hil
      have hp := put_c w ⟨id, kind, label, quota, fixed, links, data, maps, thread, gate, l, out⟩ hris (by omega)
      have g1 := cloneU_pure l (by omega)
      have e1 : decide (((l.length + 1 : Nat) : Int) > 0) = true := decide_eq_true (by omega)
      have e2 : ((1 : Int) ≤ ((l.length + 1 : Nat) : Int)) = True := eq_true (by omega)
      refine q4s (by kernel_rfl) Tryz.func115 Tryz.results115 rfl (by simp [Tryz.ntmps115]) (by kernel_rfl) ?_
      repeat' (first | (show q0z ..; first | refine q0d ?_ | refine q0p rfl ?_) | (show q1f ..; first | refine q0n rfl rfl ?_ | refine q0g rfl ?_) | (show goOn ..; first | refine q0s ?_ | refine q0u ?_ | refine q0v ?_) | (show q1i ..; refine q0j ?_) | (show dr ..; first | refine q1m ?_ | refine dr_n rfl ?_) | (show drGo ..; first | refine q2j rfl ?_ | refine q1j rfl ?_) | (show drOn ..; first | refine q1n ?_ | refine q1q ?_ | refine q1p ?_) | (show q1o ..; refine q1c ?_) | (refine And.intro (by kernel_rfl : q1r _ = true) ?_) | (show q0i ..; first | refine q0q ?_ | refine q0c ?_ | refine q1h (by kernel_rfl) ?_ | refine q0r ?_ | refine q0f ?_) | refine q0a ?_ | refine q0m ?_ | refine q0k ?_ | (show retQ ..; first | refine q0o ?_ | refine q0b ?_) | refine q0e ?_)
      (refine q2h (by kernel_rfl) (devC _ (by simp only [go_sem, *])) ?_ ?_)
      case refine_2 => rintro p H' m' ⟨h, _⟩; cases h
      rintro r H1 m1 ⟨h, rfl, A1⟩
      cases h
      have c7 : H1 7 = some (.box (Clr.enc ⟨t, w, a⟩)) := by rw [A1 7 (by omega)]; exact hb
      repeat' (first | (show q0z ..; first | refine q0d ?_ | refine q0p rfl ?_) | (show q1f ..; first | refine q0n rfl rfl ?_ | refine q0g rfl ?_) | (show goOn ..; first | refine q0s ?_ | refine q0u ?_ | refine q0v ?_) | (show q1i ..; refine q0j ?_) | (show dr ..; first | refine q1m ?_ | refine dr_n rfl ?_) | (show drGo ..; first | refine q2j rfl ?_ | refine q1j rfl ?_) | (show drOn ..; first | refine q1n ?_ | refine q1q ?_ | refine q1p ?_) | (show q1o ..; refine q1c ?_) | (refine And.intro (by kernel_rfl : q1r _ = true) ?_) | (show q0i ..; first | refine q0q ?_ | refine q0c ?_ | refine q1h (by kernel_rfl) ?_ | refine q0r ?_ | refine q0f ?_) | refine q0a ?_ | refine q0m ?_ | refine q0k ?_ | (show retQ ..; first | refine q0o ?_ | refine q0b ?_) | refine q0e ?_)
      (refine q2h (by kernel_rfl) (must_yes _ _ _) ?_ ?_)
      case refine_2 => rintro p H' m' ⟨⟨_, h⟩, _⟩; cases h
      rintro r H' m' ⟨⟨_, h⟩, rfl, rfl⟩
      clear h
      repeat' (first | (show q0z ..; first | refine q0d ?_ | refine q0p rfl ?_) | (show q1f ..; first | refine q0n rfl rfl ?_ | refine q0g rfl ?_) | (show goOn ..; first | refine q0s ?_ | refine q0u ?_ | refine q0v ?_) | (show q1i ..; refine q0j ?_) | (show q1s ..; (refine q1a (r := ?_) ?_ ?_; rotate_left 1; (focus first | exact g1 | exact hp))) | (show dr ..; first | refine q1m ?_ | refine dr_n rfl ?_) | (show drGo ..; first | refine q2j rfl ?_ | refine q1j rfl ?_) | (show drOn ..; first | refine q1n ?_ | refine q1q ?_ | refine q1p ?_) | (show q1o ..; refine q1c ?_) | (show q2l ..; (refine q1l (r := ?_) ?_ ?_; rotate_left 1; (focus first | exact g1 | exact hp))) | (refine And.intro (by kernel_rfl : q3e _ _ _ = true) ?_) | (show q0i ..; first | refine q0q ?_ | refine q0c ?_ | refine q9d (by kernel_rfl) ?_ | refine q0r ?_ | refine q0f ?_) | refine q0a ?_ | refine q0m ?_ | refine q0k ?_ | (show retQ ..; first | refine q0o ?_ | refine q0b ?_) | refine q0e ?_)
      exact ⟨(fun _ => ⟨rfl, by first | rfl | trivial, by simp only [go_sem]⟩), (fun h => by cases h), by omega, (fun j hj => by (repeat rw [q2k _ _ (by omega)]); exact A1 j (by omega))⟩
end Go.Proofs.YteibeoipnjhicaaGreat.kdev
