import Derived.Test.YteibeoipnjhicaaGreatEcf
import Derived.Test.YteibeoipnjhicaaGreatSrOb
namespace Go.Proofs.YteibeoipnjhicaaGreat
open Go Go.RowKit
set_option linter.unusedVariables false
set_option linter.unusedSimpArgs false
set_option maxHeartbeats 16000000
set_option maxRecDepth 100000
attribute [go_sem] q2s
attribute [local irreducible] q1a dr q0i Ex.then Ex.inBlock retQ q1r q3f q3e Pure CSat evOp q2r rdOf upd hset strip sp0 cut envL q3h q4c Keep BdL evBs q3n q3z
theorem q7j (l : List Ob) : ∀ e ∈ l.map Ob.enc, e.length = szOb := fun e he => by obtain ⟨y, _, rfl⟩ := List.mem_map.1 he; exact Ob.len y
theorem flat_mlen (l : List Ob) : (l.map Ob.enc).flatten.length = l.length * 51 := by rw [q2x (q7j l), List.length_map]; rfl
theorem flat_mset (l : List Ob) (k : Nat) (x : Ob) (hk : k < l.length) : ((l.set k x).map Ob.enc).flatten = splice (l.map Ob.enc).flatten (k * 51) (Ob.enc x) := by
  induction l generalizing k with
  | nil => simp at hk
  | cons a l ih =>
    cases k with
    | zero =>
      simp only [List.set_cons_zero, List.map_cons, List.flatten_cons, Nat.zero_mul, splice, List.take_zero, List.nil_append, Nat.zero_add]
      rw [List.drop_left' (by rw [Ob.len, Ob.len])]
    | succ k =>
      have := ih k (by simpa using hk)
      simp only [List.set_cons_succ, List.map_cons, List.flatten_cons, this]
      have e : (Ob.enc a).length = 51 := Ob.len a
      have h1 : ∀ (R : List PV), (Ob.enc a ++ R).take ((k + 1) * 51) = Ob.enc a ++ R.take (k * 51) := fun R => by
        rw [List.take_append, List.take_of_length_le (by rw [e]; omega), e, show (k + 1) * 51 - 51 = k * 51 by omega]
      have h2 : ∀ (R : List PV), (Ob.enc a ++ R).drop ((k + 1) * 51 + (Ob.enc x).length) = R.drop (k * 51 + (Ob.enc x).length) := fun R => by
        rw [List.drop_append, List.drop_eq_nil_of_le (by rw [e]; omega), e, show (k + 1) * 51 + (Ob.enc x).length - 51 = k * 51 + (Ob.enc x).length by omega, List.nil_append]
      unfold splice
      rw [h1, h2]
      simp only [List.append_assoc]
theorem ins_ob {fn : FuncId} (hins : InsertC Tryz.prog fn 58 szOb) {l : List Ob} {k : Nat} (hk : k ≤ l.length) (x : Ob) (hl : l.length ≤ 1000000) {H : Heap} {m id ix e1 z1 : Nat} (hid : H id = some (.box (l.map Ob.enc).flatten)) (hix : H ix = some (.box [Ob.enc x].flatten)) (hne : ix ≠ id) :
    CSat Tryz.prog fn [.bs id l.length 58 szOb, .int .i64 k, .bs ix 1 e1 z1] H m (fun out H' m' =>
      (out = .ret (.bs id ((l.take k ++ x :: l.drop k).length) 58 szOb) ∧ H' = hset H id (some (.box ((l.take k ++ x :: l.drop k).map Ob.enc).flatten)) ∧ m' = m) ∨
      (out = .ret (.bs m ((l.take k ++ x :: l.drop k).length) 58 szOb) ∧ H' = hset H m (some (.box ((l.take k ++ x :: l.drop k).map Ob.enc).flatten)) ∧ m' = m + 1)) := by
  have := insert_csat hins (els := l.map Ob.enc) (q7j l) (by simpa using hl) (k := k) (by simpa using hk) (xe := [Ob.enc x].flatten) (by simp only [List.flatten_cons, List.flatten_nil, List.append_nil]; exact Ob.len x) (m := m) (e1 := e1) (z1 := z1) hid hix hne
  have e : (l.map Ob.enc).take k ++ [Ob.enc x].flatten :: (l.map Ob.enc).drop k = (l.take k ++ x :: l.drop k).map Ob.enc := by simp
  rw [e, List.length_map, List.length_map] at this
  exact this
theorem obj_with (l : List Ob) (x : Ob) (hl : l.length ≤ 1000000) (hs : RisO l) : Pure Tryz.prog 118 [.agg (Ls.enc (LsO l)), .agg (Ob.enc x)] (.sl ((withL l x).map Ob.enc)) := by
  have hat := obj_at l x.id hl hs
  have hcl : CloneC Tryz.prog 167 58 szOb := cloneOb_calls
  have hins : InsertC Tryz.prog 168 58 szOb := fun l v k x vb cv base w h1 h2 {cx tx} h3 h4 h5 h6 h7 => insertOb_calls l v k x vb cv base w h1 h2 h3 h4 h5 h6 h7
  have hpl := pos_le l x.id
  cases hh : hitO l x.id with
  | true =>
    rw [hh] at hat
    obtain ⟨y, hy, hyid, hk⟩ := hit_lt hh
    have hw : withL l x = l.set (posO l x.id) x := by unfold withL; rw [if_pos hh]
    rw [hw]
    clear hh hw
    refine pureF (by kernel_rfl) (by simp only [go_sem, *]) Tryz.func118 Tryz.results118 rfl (by simp [Tryz.ntmps118]) (by kernel_rfl) ?_
    repeat' (first | (show q1a ..; first | refine q0d ?_ | refine q0p rfl ?_) | (show q1f ..; first | (refine run_bs rfl rfl ?_; first | refine q0u ?_ | (refine q0y ?_; refine q0j ?_)) | refine q0n rfl rfl ?_ | refine q0h rfl ?_) | (show goOn ..; first | refine q0s ?_ | refine q0u ?_ | refine q0y ?_) | (show q1k ..; refine q0j ?_) | (show q1u ..; (refine q0z (r := ?_) ?_ ?_; rotate_left 1; (focus first | exact q9t _ | exact hat))) | (show dr ..; first | refine q1l ?_ | refine dr_n rfl ?_) | (show drGo ..; first | refine dr_nw rfl ?_ | refine q2i rfl ?_ | refine q1j rfl ?_) | (show drOn ..; first | refine q1m ?_ | refine q1q ?_ | refine q1p ?_) | (show q1o ..; refine q1b ?_) | (show q2h ..; (refine q1i (r := ?_) ?_ ?_; rotate_left 1; (focus first | exact q9t _ | exact hat))) | (refine And.intro (by kernel_rfl : q1r _ = true) ?_) | (show q0i ..; first | refine q0q ?_ | refine q0c ?_ | refine q1h (by kernel_rfl) ?_ | refine q0r ?_ | refine q0f ?_ | refine q0t ?_) | (show q1d ..; first | refine cd_t ?_ | refine cd_f ?_ | refine cd_n (fun _ => ?_) (fun _ => ?_) | refine cd_b (fun _ => ?_) (fun _ => ?_)) | refine q0a ?_ | refine q0m ?_ | refine q0l ?_ | (show retQ ..; first | refine q0o ?_ | refine q0b ?_) | refine q0e ?_)
    (refine q2j (by kernel_rfl) (clone_csat hcl (els := l.map Ob.enc) (q7j l) (by simpa using hl) _ _) ?_ ?_)
    case refine_2 => rintro p H' m' (⟨_, h, _⟩ | ⟨h, _⟩) <;> cases h
    rintro r H' m' (⟨hnil, _⟩ | ⟨h, rfl, rfl⟩)
    · have : l = [] := by simpa using hnil
      subst this; simp at hk
    · cases h
      have h1 : ((posO l x.id : Int) < (l.length : Int)) = True := eq_true (by omega)
      have h2 : (posO l x.id * 51 + 51 ≤ ((l.map Ob.enc).flatten).length) = True := eq_true (by rw [flat_mlen]; omega)
      repeat' (first | (show q1a ..; first | refine q0d ?_ | refine q0p rfl ?_) | (show q1f ..; first | (refine run_bs rfl rfl ?_; first | refine q0u ?_ | (refine q0y ?_; refine q0j ?_)) | refine q0n rfl rfl ?_ | refine q0h rfl ?_) | (show goOn ..; first | refine q0s ?_ | refine q0u ?_ | refine q0y ?_) | (show q1k ..; refine q0j ?_) | (show dr ..; first | refine q1l ?_ | refine dr_n rfl ?_) | (show drGo ..; first | refine dr_nw rfl ?_ | refine q2i rfl ?_ | refine q1j rfl ?_) | (show drOn ..; first | refine q1m ?_ | refine q1q ?_ | refine q1p ?_) | (show q1o ..; refine q1b ?_) | (refine And.intro (by kernel_rfl : q1r _ = true) ?_) | (show q0i ..; first | refine q0q ?_ | refine q0c ?_ | refine q1h (by kernel_rfl) ?_ | refine q0r ?_ | refine q0f ?_ | refine q0t ?_) | (show q1d ..; first | refine cd_t ?_ | refine cd_f ?_ | refine cd_n (fun _ => ?_) (fun _ => ?_) | refine cd_b (fun _ => ?_) (fun _ => ?_)) | refine q0a ?_ | refine q0m ?_ | refine q0l ?_ | (show retQ ..; first | refine q0o ?_ | refine q0b ?_) | refine q0e ?_)
      refine ⟨_, rfl, fz_bs szOb (by (try simp only [go_sem]); try rfl) (by rw [List.length_map, List.length_set]) (q7j _) (flat_mset _ _ _ hk) (by simp only [go_sem])⟩
  | false =>
    rw [hh] at hat
    have hw : withL l x = l.take (posO l x.id) ++ x :: l.drop (posO l x.id) := by unfold withL; rw [if_neg (by rw [hh]; simp)]
    rw [hw]
    clear hh hw
    refine pureF (by kernel_rfl) (by simp only [go_sem, *]) Tryz.func118 Tryz.results118 rfl (by simp [Tryz.ntmps118]) (by kernel_rfl) ?_
    repeat' (first | (show q1a ..; first | refine q0d ?_ | refine q0p rfl ?_) | (show q1f ..; first | (refine run_bs rfl rfl ?_; first | refine q0u ?_ | (refine q0y ?_; refine q0j ?_)) | refine q0n rfl rfl ?_ | refine q0h rfl ?_) | (show goOn ..; first | refine q0s ?_ | refine q0u ?_ | refine q0y ?_) | (show q1k ..; refine q0j ?_) | (show q1u ..; (refine q0z (r := ?_) ?_ ?_; rotate_left 1; (focus first | exact q9t _ | exact hat))) | (show dr ..; first | refine q1l ?_ | refine dr_n rfl ?_) | (show drGo ..; first | refine dr_nw rfl ?_ | refine q2i rfl ?_ | refine q1j rfl ?_) | (show drOn ..; first | refine q1m ?_ | refine q1q ?_ | refine q1p ?_) | (show q1o ..; refine q1b ?_) | (show q2h ..; (refine q1i (r := ?_) ?_ ?_; rotate_left 1; (focus first | exact q9t _ | exact hat))) | (refine And.intro (by kernel_rfl : q1r _ = true) ?_) | (show q0i ..; first | refine q0q ?_ | refine q0c ?_ | refine q1h (by kernel_rfl) ?_ | refine q0r ?_ | refine q0f ?_ | refine q0t ?_) | (show q1d ..; first | refine cd_t ?_ | refine cd_f ?_ | refine cd_n (fun _ => ?_) (fun _ => ?_) | refine cd_b (fun _ => ?_) (fun _ => ?_)) | refine q0a ?_ | refine q0m ?_ | refine q0l ?_ | (show retQ ..; first | refine q0o ?_ | refine q0b ?_) | refine q0e ?_)
    (refine q2j (by kernel_rfl) (clone_csat hcl (els := l.map Ob.enc) (q7j l) (by simpa using hl) _ _) ?_ ?_)
    case refine_2 => rintro p H' m' (⟨_, h, _⟩ | ⟨h, _⟩) <;> cases h
    rintro r H' m' (⟨hnil, h, rfl, rfl⟩ | ⟨h, rfl, rfl⟩)
    · cases h
      have : l = [] := by simpa using hnil
      subst this
      have hp0 : posO ([] : List Ob) x.id = 0 := rfl
      repeat' (first | (show q1a ..; first | refine q0d ?_ | refine q0p rfl ?_) | (show q1f ..; first | (refine run_bs rfl rfl ?_; first | refine q0u ?_ | (refine q0y ?_; refine q0j ?_)) | refine q0n rfl rfl ?_ | refine q0h rfl ?_) | (show goOn ..; first | refine q0s ?_ | refine q0u ?_ | refine q0y ?_) | (show q1k ..; refine q0j ?_) | (show dr ..; first | refine q1l ?_ | refine dr_n rfl ?_) | (show drGo ..; first | refine dr_nw rfl ?_ | refine q2i rfl ?_ | refine q1j rfl ?_) | (show drOn ..; first | refine q1m ?_ | refine q1q ?_ | refine q1p ?_) | (show q1o ..; refine q1b ?_) | (refine And.intro (by kernel_rfl : q1r _ = true) ?_) | (show q0i ..; first | refine q0q ?_ | refine q0c ?_ | refine q1h (by kernel_rfl) ?_ | refine q0r ?_ | refine q0f ?_ | refine q0t ?_) | (show q1d ..; first | refine cd_t ?_ | refine cd_f ?_ | refine cd_n (fun _ => ?_) (fun _ => ?_) | refine cd_b (fun _ => ?_) (fun _ => ?_)) | refine q0a ?_ | refine q0m ?_ | refine q0l ?_ | (show retQ ..; first | refine q0o ?_ | refine q0b ?_) | refine q0e ?_)
      (refine q2j (by kernel_rfl) (insert0_csat hins (xe := [Ob.enc x].flatten) (by simp only [List.flatten_cons, List.flatten_nil, List.append_nil]; exact Ob.len x) (by simp only [go_sem])) ?_ ?_)
      case refine_2 => rintro p H' m' ⟨h, _⟩; cases h
      rintro r H' m' ⟨h, rfl, rfl⟩
      cases h
      repeat' (first | (show q1a ..; first | refine q0d ?_ | refine q0p rfl ?_) | (show q1f ..; first | (refine run_bs rfl rfl ?_; first | refine q0u ?_ | (refine q0y ?_; refine q0j ?_)) | refine q0n rfl rfl ?_ | refine q0h rfl ?_) | (show goOn ..; first | refine q0s ?_ | refine q0u ?_ | refine q0y ?_) | (show q1k ..; refine q0j ?_) | (show dr ..; first | refine q1l ?_ | refine dr_n rfl ?_) | (show drGo ..; first | refine dr_nw rfl ?_ | refine q2i rfl ?_ | refine q1j rfl ?_) | (show drOn ..; first | refine q1m ?_ | refine q1q ?_ | refine q1p ?_) | (show q1o ..; refine q1b ?_) | (refine And.intro (by kernel_rfl : q1r _ = true) ?_) | (show q0i ..; first | refine q0q ?_ | refine q0c ?_ | refine q1h (by kernel_rfl) ?_ | refine q0r ?_ | refine q0f ?_ | refine q0t ?_) | (show q1d ..; first | refine cd_t ?_ | refine cd_f ?_ | refine cd_n (fun _ => ?_) (fun _ => ?_) | refine cd_b (fun _ => ?_) (fun _ => ?_)) | refine q0a ?_ | refine q0m ?_ | refine q0l ?_ | (show retQ ..; first | refine q0o ?_ | refine q0b ?_) | refine q0e ?_)
      refine ⟨_, rfl, fz_bs szOb (by (try simp only [go_sem]); try rfl) (by simp) (q7j _) (by simp) (by simp only [go_sem])⟩
    · cases h
      repeat' (first | (show q1a ..; first | refine q0d ?_ | refine q0p rfl ?_) | (show q1f ..; first | (refine run_bs rfl rfl ?_; first | refine q0u ?_ | (refine q0y ?_; refine q0j ?_)) | refine q0n rfl rfl ?_ | refine q0h rfl ?_) | (show goOn ..; first | refine q0s ?_ | refine q0u ?_ | refine q0y ?_) | (show q1k ..; refine q0j ?_) | (show dr ..; first | refine q1l ?_ | refine dr_n rfl ?_) | (show drGo ..; first | refine dr_nw rfl ?_ | refine q2i rfl ?_ | refine q1j rfl ?_) | (show drOn ..; first | refine q1m ?_ | refine q1q ?_ | refine q1p ?_) | (show q1o ..; refine q1b ?_) | (refine And.intro (by kernel_rfl : q1r _ = true) ?_) | (show q0i ..; first | refine q0q ?_ | refine q0c ?_ | refine q1h (by kernel_rfl) ?_ | refine q0r ?_ | refine q0f ?_ | refine q0t ?_) | (show q1d ..; first | refine cd_t ?_ | refine cd_f ?_ | refine cd_n (fun _ => ?_) (fun _ => ?_) | refine cd_b (fun _ => ?_) (fun _ => ?_)) | refine q0a ?_ | refine q0m ?_ | refine q0l ?_ | (show retQ ..; first | refine q0o ?_ | refine q0b ?_) | refine q0e ?_)
      (refine q2j (by kernel_rfl) (ins_ob hins hpl x hl (id := 2) (ix := 3) (by simp only [go_sem]) (by simp only [go_sem]) (by decide)) ?_ ?_)
      case refine_2 => rintro p H' m' (⟨h, _⟩ | ⟨h, _⟩) <;> cases h
      rintro r H' m' (⟨h, rfl, rfl⟩ | ⟨h, rfl, rfl⟩)
      all_goals cases h
      all_goals repeat' (first | (show q1a ..; first | refine q0d ?_ | refine q0p rfl ?_) | (show q1f ..; first | (refine run_bs rfl rfl ?_; first | refine q0u ?_ | (refine q0y ?_; refine q0j ?_)) | refine q0n rfl rfl ?_ | refine q0h rfl ?_) | (show goOn ..; first | refine q0s ?_ | refine q0u ?_ | refine q0y ?_) | (show q1k ..; refine q0j ?_) | (show dr ..; first | refine q1l ?_ | refine dr_n rfl ?_) | (show drGo ..; first | refine dr_nw rfl ?_ | refine q2i rfl ?_ | refine q1j rfl ?_) | (show drOn ..; first | refine q1m ?_ | refine q1q ?_ | refine q1p ?_) | (show q1o ..; refine q1b ?_) | (refine And.intro (by kernel_rfl : q1r _ = true) ?_) | (show q0i ..; first | refine q0q ?_ | refine q0c ?_ | refine q1h (by kernel_rfl) ?_ | refine q0r ?_ | refine q0f ?_ | refine q0t ?_) | (show q1d ..; first | refine cd_t ?_ | refine cd_f ?_ | refine cd_n (fun _ => ?_) (fun _ => ?_) | refine cd_b (fun _ => ?_) (fun _ => ?_)) | refine q0a ?_ | refine q0m ?_ | refine q0l ?_ | (show retQ ..; first | refine q0o ?_ | refine q0b ?_) | refine q0e ?_)
      all_goals (refine ⟨_, rfl, fz_bs szOb (by (try simp only [go_sem]); try rfl) (by simp) (q7j _) (by simp) (by simp only [go_sem])⟩)
theorem obj_put (w : Wd) (o : Ob) (hl : w.objects.length ≤ 1000000) (hs : RisO w.objects) : Pure Tryz.prog 69 [.agg (Wd.enc w), .agg (Ob.enc o)] (.agg (Wd.enc (putW w o))) := by
  have hw := obj_with w.objects o hl hs
  refine q2y (by kernel_rfl) (by simp only [go_sem, *]) (by simp only [go_sem, *]) Tryz.func69 Tryz.results69 rfl (by simp [Tryz.ntmps69]) (by kernel_rfl) ?_
  repeat' (first | (show q1a ..; first | refine q0d ?_ | refine q0p rfl ?_) | (show q1f ..; first | refine q0n rfl rfl ?_ | refine q0h rfl ?_) | (show goOn ..; first | refine q0s ?_ | refine q0u ?_ | refine q0y ?_) | (show q1k ..; refine q0j ?_) | (show q1u ..; (refine q0z (r := ?_) ?_ ?_; rotate_left 1; (focus first | exact q7m _ | exact hw))) | (show dr ..; first | refine q1l ?_ | refine dr_n rfl ?_) | (show drGo ..; first | refine q2i rfl ?_ | refine q1j rfl ?_) | (show drOn ..; first | refine q1m ?_ | refine q1q ?_ | refine q1p ?_) | (show q1o ..; refine q1b ?_) | (show q2h ..; (refine q1i (r := ?_) ?_ ?_; rotate_left 1; (focus first | exact q7m _ | exact hw))) | (refine And.intro (by kernel_rfl : q1r _ = true) ?_) | (show q0i ..; first | refine q0q ?_ | refine q0c ?_ | refine q1h (by kernel_rfl) ?_ | refine q0r ?_ | refine q0f ?_ | refine q0t ?_) | (show q1d ..; first | refine cd_t ?_ | refine cd_f ?_ | refine cd_n (fun _ => ?_) (fun _ => ?_) | refine cd_b (fun _ => ?_) (fun _ => ?_)) | refine q0a ?_ | refine q0m ?_ | refine q0l ?_ | (show retQ ..; first | refine q0o ?_ | refine q0b ?_) | refine q0e ?_)
  all_goals (rename_i hc; unfold putW; rw [hc]; rfl)
end Go.Proofs.YteibeoipnjhicaaGreat
