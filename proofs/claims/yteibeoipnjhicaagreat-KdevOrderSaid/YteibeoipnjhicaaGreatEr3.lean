import Derived.Test.YteibeoipnjhicaaGreatEr2
import Derived.Test.YteibeoipnjhicaaGreatDfr
namespace Go.Proofs.YteibeoipnjhicaaGreat
open Go Go.RowKit
set_option linter.unusedVariables false
set_option linter.unusedSimpArgs false
set_option maxHeartbeats 16000000
set_option maxRecDepth 100000
attribute [go_sem] q2s
theorem dir_ris {w : Wd} {t : Ob} {id : Int} {b : Bool} (hf : FewW w) (hw : q5h w = true) : RisZ (dirR w t id b).1.links := by
  unfold dirR
  split
  · rename_i hc
    simp only [Bool.and_eq_true] at hc
    split
    · exact okay_links (q7y hf hw id) hc.2.1
    · exact fun i j x y hx => by simp [Ob.zero] at hx
  · exact fun i j x y hx => by simp [Ob.zero] at hx
theorem look_okay {w : Wd} {t : Ob} {r : Rf} (hf : FewW w) (hw : q5h w = true) : Okay (q5u w t r).1 := by
  have hz : Okay Ob.zero := ⟨Nat.zero_le _, .inr rfl⟩
  unfold q5u
  split
  · split
    · exact q7y hf hw _
    · exact hz
  · exact hz
theorem see_okay {w : Wd} {t : Ob} {r : Rf} {k : Int} (hf : FewW w) (hw : q5h w = true) : Okay (seeR w t r k).1 := by
  have hz : Okay Ob.zero := ⟨Nat.zero_le _, .inr rfl⟩
  unfold seeR
  split
  · split
    · split
      · exact look_okay hf hw
      · exact hz
    · exact hz
  · exact hz
@[go_sem] theorem cut1_int (v : PV) : cut Tryz.prog 3 [v] 0 = some v := by kernel_rfl
@[go_sem] theorem cut1_u64 (v : PV) : cut Tryz.prog 22 [v] 0 = some v := by kernel_rfl
@[go_sem] theorem cut1_bool (v : PV) : cut Tryz.prog 4 [v] 0 = some v := by kernel_rfl
@[go_sem] theorem cut1_err (v : PV) : cut Tryz.prog 33 [v] 0 = some v := by kernel_rfl
attribute [local irreducible] q1a dr q0i Ex.then Ex.inBlock retQ q1r q3f q3e Pure CSat evOp q2r rdOf upd hset strip sp0 cut envL q3h q4c Keep BdL evBs q3n q3z
theorem named_csat {H : Heap} {m i : Nat} (t : Ob) (w : Wd) (r : Rf) (hb : H i = some (.box (q6a t w))) (hi : i < m) (ht : q4i t.label = true) (htl : t.label.length ≤ 20) (hf : FewW w) (hw : q5h w = true) :
    CSat Tryz.prog 223 [.ptr i 0, .agg (Rf.enc r)] H m (fun out H' m' => out = outE (q5u w t r) ∧ m ≤ m' ∧ ∀ j, j < m → H' j = H j) := by
  have hn := hf.n
  have h2 := obj_find w r.id (by omega) (q5d hw).1
  rw [findO_eq (q5d hw).1] at h2
  have hl := (dirR_few hf t r.cont false).2
  have hris := dir_ris (t := t) (id := r.cont) (b := false) hf hw
  have dirC := fun (H : Heap) (m : Nat) (hb : H i = some (.box (q6a t w))) (hi : i < m) => dir_csat (H := H) (m := m) t w r.cont false hb hi ht htl hf hw
  have n0 : (i = m) = False := eq_false (by omega)
  have n1 : (i = m + 1) = False := eq_false (by omega)
  unfold q5u
  generalize dirR w t r.cont false = D at dirC hl hris ⊢
  obtain ⟨d, e⟩ := D
  simp only at hl hris ⊢
  have h3 := bin_search d.links r.id (by omega) hris
  cases he : (e == 0) with
  | false =>
    have hoe : outE (d, e) = .pan (thr e) := by unfold outE; rw [if_neg (by rw [he]; simp)]
    have hoz : outE (Ob.zero, e) = .pan (thr e) := by unfold outE; rw [if_neg (by rw [he]; simp)]
    rw [hoe] at dirC
    simp only [Bool.false_eq_true, if_false]
    rw [hoz]
    refine q4u (by kernel_rfl) Tryz.func223 Tryz.results223 rfl (by simp [Tryz.ntmps223]) (by kernel_rfl) ?_
    repeat' (first | (show q1a ..; first | refine q0d ?_ | refine q0p rfl ?_) | (show q1f ..; first | refine q0n rfl rfl ?_ | refine q0h rfl ?_) | (show goOn ..; first | refine q0s ?_ | refine q0u ?_ | refine q0y ?_) | (show q1k ..; refine q0j ?_) | (show dr ..; first | refine q1l ?_ | refine dr_n rfl ?_) | (show drGo ..; first | refine q2i rfl ?_ | refine q1j rfl ?_) | (show drOn ..; first | refine q1m ?_ | refine q1q ?_ | refine q1p ?_) | (show q1o ..; refine q1b ?_) | (refine And.intro (by kernel_rfl : q1r _ = true) ?_) | (show q0i ..; first | refine q0q ?_ | refine q0c ?_ | refine q1h (by kernel_rfl) ?_ | refine q0r ?_ | refine q0f ?_) | refine q0a ?_ | refine q0m ?_ | refine q0l ?_ | (show retQ ..; first | refine q0o ?_ | refine q0b ?_) | refine q0e ?_)
    (refine q2j (by kernel_rfl) (dirC _ _ (by simp only [go_sem, *]) (by omega)) ?_ ?_)
    case refine_1 => rintro r H' m' ⟨h, _⟩; cases h
    rintro p H1 m1 ⟨h, L1, A1⟩
    cases h
    repeat' (first | refine q0l ?_ | refine q1e ?_ | refine q4x ?_)
    exact ⟨rfl, by omega, (fun j hj => by rw [A1 j (by omega)]; repeat rw [q2l _ _ (by omega)])⟩
  | true =>
    have hoe : outE (d, e) = .ret (.agg (Ob.enc d)) := by unfold outE; rw [if_pos he]
    rw [hoe] at dirC
    simp only [if_true]
    generalize d.links.any (· == r.id) = b at h3 ⊢
    refine q4u (by kernel_rfl) Tryz.func223 Tryz.results223 rfl (by simp [Tryz.ntmps223]) (by kernel_rfl) ?_
    repeat' (first | (show q1a ..; first | refine q0d ?_ | refine q0p rfl ?_) | (show q1f ..; first | refine q0n rfl rfl ?_ | refine q0h rfl ?_) | (show goOn ..; first | refine q0s ?_ | refine q0u ?_ | refine q0y ?_) | (show q1k ..; refine q0j ?_) | (show dr ..; first | refine q1l ?_ | refine dr_n rfl ?_) | (show drGo ..; first | refine q2i rfl ?_ | refine q1j rfl ?_) | (show drOn ..; first | refine q1m ?_ | refine q1q ?_ | refine q1p ?_) | (show q1o ..; refine q1b ?_) | (refine And.intro (by kernel_rfl : q1r _ = true) ?_) | (show q0i ..; first | refine q0q ?_ | refine q0c ?_ | refine q1h (by kernel_rfl) ?_ | refine q0r ?_ | refine q0f ?_) | refine q0a ?_ | refine q0m ?_ | refine q0l ?_ | (show retQ ..; first | refine q0o ?_ | refine q0b ?_) | refine q0e ?_)
    (refine q2j (by kernel_rfl) (dirC _ _ (by simp only [go_sem, *]) (by omega)) ?_ ?_)
    case refine_2 => rintro p H' m' ⟨h, _⟩; cases h
    rintro r H1 m1 ⟨h, L1, A1⟩
    cases h
    have low : ∀ j, j < m → H1 j = H j := fun j hj => by rw [A1 j (by omega)]; repeat rw [q2l _ _ (by omega)]
    have c0 : H1 i = some (.box (q6a t w)) := by rw [A1 i (by omega)]; simp only [go_sem, *]
    have c1 : H1 (m + 1) = some (.box (Ob.enc Ob.zero)) := by rw [A1 (m + 1) (by omega)]; simp only [go_sem, *]
    have c2 : H1 m = some (.box (Rf.enc r)) := by rw [A1 m (by omega)]; simp only [go_sem, *]
    clear A1 dirC
    have k0 : (i = m1) = False := eq_false (by omega)
    have k1 : (m = m1) = False := eq_false (by omega)
    have k2 : (m + 1 = m1) = False := eq_false (by omega)
    have k3 : (i = m1 + 1) = False := eq_false (by omega)
    have k4 : (m = m1 + 1) = False := eq_false (by omega)
    have k5 : (m + 1 = m1 + 1) = False := eq_false (by omega)
    have k6 : (m1 = m) = False := eq_false (by omega)
    have k7 : (m1 = m + 1) = False := eq_false (by omega)
    cases b with
    | false =>
      repeat' (first | (show q1a ..; first | refine q0d ?_ | refine q0p rfl ?_) | (show q1f ..; first | refine q0n rfl rfl ?_ | refine q0h rfl ?_) | (show goOn ..; first | refine q0s ?_ | refine q0u ?_ | refine q0y ?_) | (show q1k ..; refine q0j ?_) | (show q1u ..; (refine q0z (r := ?_) ?_ ?_; rotate_left 1; (focus exact h3))) | (show dr ..; first | refine q1l ?_ | refine dr_n rfl ?_) | (show drGo ..; first | refine q2i rfl ?_ | refine q1j rfl ?_) | (show drOn ..; first | refine q1m ?_ | refine q1q ?_ | refine q1p ?_) | (show q1o ..; refine q1b ?_) | (show q2h ..; (refine q1i (r := ?_) ?_ ?_; rotate_left 1; (focus exact h3))) | (refine And.intro (by kernel_rfl : q1r _ = true) ?_) | (show q0i ..; first | refine q0q ?_ | refine q0c ?_ | refine q1h (by kernel_rfl) ?_ | refine q0r ?_ | refine q0f ?_) | refine q0a ?_ | refine q0m ?_ | refine q0l ?_ | (show retQ ..; first | refine q0o ?_ | refine q0b ?_) | refine q0e ?_)
      (refine q2j (by kernel_rfl) (must_no _ _ _ _) ?_ ?_)
      case refine_1 => rintro r H' m' ⟨h, _⟩; cases h
      rintro p H' m' ⟨h, rfl, rfl⟩
      cases h
      repeat' (first | refine q0l ?_ | refine q1e ?_ | refine q4x ?_)
      exact ⟨rfl, by omega, (fun j hj => by (repeat rw [q2l _ _ (by omega)]); exact low j hj)⟩
    | true =>
      repeat' (first | (show q1a ..; first | refine q0d ?_ | refine q0p rfl ?_) | (show q1f ..; first | refine q0n rfl rfl ?_ | refine q0h rfl ?_) | (show goOn ..; first | refine q0s ?_ | refine q0u ?_ | refine q0y ?_) | (show q1k ..; refine q0j ?_) | (show q1u ..; (refine q0z (r := ?_) ?_ ?_; rotate_left 1; (focus exact h3))) | (show dr ..; first | refine q1l ?_ | refine dr_n rfl ?_) | (show drGo ..; first | refine q2i rfl ?_ | refine q1j rfl ?_) | (show drOn ..; first | refine q1m ?_ | refine q1q ?_ | refine q1p ?_) | (show q1o ..; refine q1b ?_) | (show q2h ..; (refine q1i (r := ?_) ?_ ?_; rotate_left 1; (focus exact h3))) | (refine And.intro (by kernel_rfl : q1r _ = true) ?_) | (show q0i ..; first | refine q0q ?_ | refine q0c ?_ | refine q1h (by kernel_rfl) ?_ | refine q0r ?_ | refine q0f ?_) | refine q0a ?_ | refine q0m ?_ | refine q0l ?_ | (show retQ ..; first | refine q0o ?_ | refine q0b ?_) | refine q0e ?_)
      (refine q2j (by kernel_rfl) (must_yes _ _ _ _) ?_ ?_)
      case refine_2 => rintro p H' m' ⟨⟨_, h⟩, _⟩; cases h
      rintro r H' m' ⟨⟨_, h⟩, rfl, rfl⟩
      clear h
      have b0 : (i == m1 + 1) = false := by simp; omega
      have b1 : (m == m1 + 1) = false := by simp; omega
      have b2 : (m1 + 1 == i) = false := by simp; omega
      have b3 : (m1 + 1 == m) = false := by simp; omega
      repeat' (first | (show q1a ..; first | refine q0d ?_ | refine q0p rfl ?_) | (show q1f ..; first | refine q0n rfl rfl ?_ | refine q0h rfl ?_) | (show goOn ..; first | refine q0s ?_ | refine q0u ?_ | refine q0y ?_) | (show q1k ..; refine q0j ?_) | (show q1u ..; (refine q0z (r := ?_) ?_ ?_; rotate_left 1; (focus exact h2))) | (show dr ..; first | refine q1l ?_ | refine dr_n rfl ?_) | (show drGo ..; first | refine q2i rfl ?_ | refine q1j rfl ?_) | (show drOn ..; first | refine q1m ?_ | refine q1q ?_ | refine q1p ?_) | (show q1o ..; refine q1b ?_) | (show q2h ..; (refine q1i (r := ?_) ?_ ?_; rotate_left 1; (focus exact h2))) | (show q0i ..; first | refine q0q ?_ | refine q0c ?_ | refine q1h (by kernel_rfl) ?_ | refine q0r ?_ | refine q0f ?_) | refine q0a ?_ | refine q0m ?_ | refine q0l ?_ | (show retQ ..; first | refine q0o ?_ | refine q0b ?_) | refine q0e ?_)
      refine And.intro (by simp [q1r, okPair, q6n, Eff.wr, Rg.meets, rdOf, go_sem, b0, b1, b2, b3]) ?_
      repeat' (first | (show q1a ..; first | refine q0d ?_ | refine q0p rfl ?_) | (show q1f ..; first | refine q0n rfl rfl ?_ | refine q0h rfl ?_) | (show goOn ..; first | refine q0s ?_ | refine q0u ?_ | refine q0y ?_) | (show q1k ..; refine q0j ?_) | (show q1u ..; (refine q0z (r := ?_) ?_ ?_; rotate_left 1; (focus exact h2))) | (show dr ..; first | refine q1l ?_ | refine dr_n rfl ?_) | (show drGo ..; first | refine q2i rfl ?_ | refine q1j rfl ?_) | (show drOn ..; first | refine q1m ?_ | refine q1q ?_ | refine q1p ?_) | (show q1o ..; refine q1b ?_) | (show q2h ..; (refine q1i (r := ?_) ?_ ?_; rotate_left 1; (focus exact h2))) | (refine And.intro (by kernel_rfl : q1r _ = true) ?_) | (show q0i ..; first | refine q0q ?_ | refine q0c ?_ | refine q1h (by kernel_rfl) ?_ | refine q0r ?_ | refine q0f ?_) | refine q0a ?_ | refine q0m ?_ | refine q0l ?_ | (show retQ ..; first | refine q0o ?_ | refine q0b ?_) | refine q0e ?_)
      exact ⟨rfl, by omega, fun j hj => by (repeat rw [q2l _ _ (by omega)]); exact low j hj⟩
theorem seen_csat {H : Heap} {m i : Nat} (t : Ob) (w : Wd) (r : Rf) (kind : Int) (hb : H i = some (.box (q6a t w))) (hi : i < m) (ht : q4i t.label = true) (htl : t.label.length ≤ 20) (hf : FewW w) (hw : q5h w = true) :
    CSat Tryz.prog 178 [.ptr i 0, .agg (Rf.enc r), .int .i64 kind] H m (fun out H' m' => out = outE (seeR w t r kind) ∧ m ≤ m' ∧ ∀ j, j < m → H' j = H j) := by
  have hok := look_okay (t := t) (r := r) hf hw
  have namC := fun (H : Heap) (m : Nat) (hb : H i = some (.box (q6a t w))) (hi : i < m) => named_csat (H := H) (m := m) t w r hb hi ht htl hf hw
  have n0 : (i = m) = False := eq_false (by omega)
  have n1 : (i = m + 1) = False := eq_false (by omega)
  unfold seeR
  generalize q5u w t r = D at namC hok ⊢
  obtain ⟨o, e⟩ := D
  simp only at hok ⊢
  have seesC := fun (H : Heap) (m : Nat) (hb : H i = some (.box (q6a t w))) (hi : i < m) => sees_csat (H := H) (m := m) t w o hb hi ht htl hok
  generalize q7q t o = b2 at seesC ⊢
  cases he : (e == 0) with
  | false =>
    have hoe : outE (o, e) = .pan (thr e) := by unfold outE; rw [if_neg (by rw [he]; simp)]
    have hoz : outE (Ob.zero, e) = .pan (thr e) := by unfold outE; rw [if_neg (by rw [he]; simp)]
    rw [hoe] at namC
    simp only [Bool.false_eq_true, if_false]
    rw [hoz]
    refine q4u (by kernel_rfl) Tryz.func178 Tryz.results178 rfl (by simp [Tryz.ntmps178]) (by kernel_rfl) ?_
    repeat' (first | (show q1a ..; first | refine q0d ?_ | refine q0p rfl ?_ | refine q1c rfl rfl ?_) | (show q1f ..; first | refine q0n rfl rfl ?_ | refine q0h rfl ?_) | (show goOn ..; first | refine q0s ?_ | refine q0u ?_ | refine q0y ?_) | (show q1k ..; refine q0j ?_) | (show wGo ..; first | refine q1v ?_ | refine q2b ?_ | refine q1x ?_ | refine q1z ?_ | refine gw_u ?_ | refine q1w (fun _ => ?_) (fun _ => ?_) | refine q2a (fun _ => ?_) (fun _ => ?_) | refine q1y (fun _ => ?_) (fun _ => ?_) | refine q2c (fun _ => ?_) (fun _ => ?_)) | (show q0i ..; first | refine q0q ?_ | refine q0c ?_ | refine q0r ?_ | refine q0f ?_) | refine q0a ?_ | refine q0m ?_ | refine q0l ?_ | (show retQ ..; first | refine q0o ?_ | refine q0b ?_) | refine q0e ?_)
    (refine q2j (by kernel_rfl) (namC _ _ (by simp only [go_sem, *]) (by omega)) ?_ ?_)
    case refine_1 => rintro r H' m' ⟨h, _⟩; cases h
    rintro p H1 m1 ⟨h, L1, A1⟩
    cases h
    repeat' (first | refine q0l ?_ | refine q1e ?_ | refine q4x ?_)
    exact ⟨rfl, by omega, (fun j hj => by rw [A1 j (by omega)]; repeat rw [q2l _ _ (by omega)])⟩
  | true =>
    have hoe : outE (o, e) = .ret (.agg (Ob.enc o)) := by unfold outE; rw [if_pos he]
    rw [hoe] at namC
    simp only [if_true]
    refine q4u (by kernel_rfl) Tryz.func178 Tryz.results178 rfl (by simp [Tryz.ntmps178]) (by kernel_rfl) ?_
    repeat' (first | (show q1a ..; first | refine q0d ?_ | refine q0p rfl ?_ | refine q1c rfl rfl ?_) | (show q1f ..; first | refine q0n rfl rfl ?_ | refine q0h rfl ?_) | (show goOn ..; first | refine q0s ?_ | refine q0u ?_ | refine q0y ?_) | (show q1k ..; refine q0j ?_) | (show wGo ..; first | refine q1v ?_ | refine q2b ?_ | refine q1x ?_ | refine q1z ?_ | refine gw_u ?_ | refine q1w (fun _ => ?_) (fun _ => ?_) | refine q2a (fun _ => ?_) (fun _ => ?_) | refine q1y (fun _ => ?_) (fun _ => ?_) | refine q2c (fun _ => ?_) (fun _ => ?_)) | (show q0i ..; first | refine q0q ?_ | refine q0c ?_ | refine q0r ?_ | refine q0f ?_) | refine q0a ?_ | refine q0m ?_ | refine q0l ?_ | (show retQ ..; first | refine q0o ?_ | refine q0b ?_) | refine q0e ?_)
    (refine q2j (by kernel_rfl) (namC _ _ (by simp only [go_sem, *]) (by omega)) ?_ ?_)
    case refine_2 => rintro p H' m' ⟨h, _⟩; cases h
    rintro r H1 m1 ⟨h, L1, A1⟩
    cases h
    have low : ∀ j, j < m → H1 j = H j := fun j hj => by rw [A1 j (by omega)]; repeat rw [q2l _ _ (by omega)]
    have c0 : H1 i = some (.box (q6a t w)) := by rw [A1 i (by omega)]; simp only [go_sem, *]
    have c1 : H1 (m + 1) = some (.box (Ob.enc Ob.zero)) := by rw [A1 (m + 1) (by omega)]; simp only [go_sem, *]
    clear A1 namC
    have k0 : (i = m1) = False := eq_false (by omega)
    have k2 : (m + 1 = m1) = False := eq_false (by omega)
    have k7 : (m1 = m + 1) = False := eq_false (by omega)
    cases hb3 : ((kind == 0) || (o.kind == kind)) with
    | false =>
      rw [Bool.or_eq_false_iff] at hb3
      obtain ⟨g1, g2⟩ := hb3
      repeat' (first | (show q1a ..; first | refine q0d ?_ | refine q0p rfl ?_ | refine q1c rfl rfl ?_) | (show q1f ..; first | refine q0n rfl rfl ?_ | refine q0h rfl ?_) | (show goOn ..; first | refine q0s ?_ | refine q0u ?_ | refine q0y ?_) | (show q1k ..; refine q0j ?_) | (show wGo ..; first | refine q1v ?_ | refine q2b ?_ | refine q1x ?_ | refine q1z ?_ | refine gw_u ?_ | refine q1w (fun _ => ?_) (fun _ => ?_) | refine q2a (fun _ => ?_) (fun _ => ?_) | refine q1y (fun _ => ?_) (fun _ => ?_) | refine q2c (fun _ => ?_) (fun _ => ?_)) | (show q0i ..; first | refine q0q ?_ | refine q0c ?_ | refine q0r ?_ | refine q0f ?_) | refine q0a ?_ | refine q0m ?_ | refine q0l ?_ | (show retQ ..; first | refine q0o ?_ | refine q0b ?_) | refine q0e ?_)
      (refine q2j (by kernel_rfl) (must_no _ _ _ _) ?_ ?_)
      case refine_1 => rintro r H' m' ⟨h, _⟩; cases h
      rintro p H' m' ⟨h, rfl, rfl⟩
      cases h
      repeat' (first | refine q0l ?_ | refine q1e ?_ | refine q4x ?_)
      exact ⟨rfl, by omega, (fun j hj => by (repeat rw [q2l _ _ (by omega)]); exact low j hj)⟩
    | true =>
      simp only [if_true]
      have fin : ∀ (E2 : Heap) (M2 : Nat), True := fun _ _ => trivial
      cases hg1 : (kind == 0) with
      | true =>
        repeat' (first | (show q1a ..; first | refine q0d ?_ | refine q0p rfl ?_ | refine q1c rfl rfl ?_) | (show q1f ..; first | refine q0n rfl rfl ?_ | refine q0h rfl ?_) | (show goOn ..; first | refine q0s ?_ | refine q0u ?_ | refine q0y ?_) | (show q1k ..; refine q0j ?_) | (show wGo ..; first | refine q1v ?_ | refine q2b ?_ | refine q1x ?_ | refine q1z ?_ | refine gw_u ?_ | refine q1w (fun _ => ?_) (fun _ => ?_) | refine q2a (fun _ => ?_) (fun _ => ?_) | refine q1y (fun _ => ?_) (fun _ => ?_) | refine q2c (fun _ => ?_) (fun _ => ?_)) | (show q0i ..; first | refine q0q ?_ | refine q0c ?_ | refine q0r ?_ | refine q0f ?_) | refine q0a ?_ | refine q0m ?_ | refine q0l ?_ | (show retQ ..; first | refine q0o ?_ | refine q0b ?_) | refine q0e ?_)
        (refine q2j (by kernel_rfl) (must_yes _ _ _ _) ?_ ?_)
        case refine_2 => rintro p H' m' ⟨⟨_, h⟩, _⟩; cases h
        rintro r H' m' ⟨⟨_, h⟩, rfl, rfl⟩
        clear h
        repeat' (first | (show q1a ..; first | refine q0d ?_ | refine q0p rfl ?_ | refine q1c rfl rfl ?_) | (show q1f ..; first | refine q0n rfl rfl ?_ | refine q0h rfl ?_) | (show goOn ..; first | refine q0s ?_ | refine q0u ?_ | refine q0y ?_) | (show q1k ..; refine q0j ?_) | (show wGo ..; first | refine q1v ?_ | refine q2b ?_ | refine q1x ?_ | refine q1z ?_ | refine gw_u ?_ | refine q1w (fun _ => ?_) (fun _ => ?_) | refine q2a (fun _ => ?_) (fun _ => ?_) | refine q1y (fun _ => ?_) (fun _ => ?_) | refine q2c (fun _ => ?_) (fun _ => ?_)) | (show q0i ..; first | refine q0q ?_ | refine q0c ?_ | refine q0r ?_ | refine q0f ?_) | refine q0a ?_ | refine q0m ?_ | refine q0l ?_ | (show retQ ..; first | refine q0o ?_ | refine q0b ?_) | refine q0e ?_)
        (refine q2j (by kernel_rfl) (seesC _ _ (by simp only [go_sem, *]) (by omega)) ?_ ?_)
        case refine_2 => rintro p H' m' ⟨h, _⟩; cases h
        rintro r H2 m2 ⟨h, L2, A2⟩
        cases h
        have low2 : ∀ j, j < m → H2 j = H j := fun j hj => by rw [A2 j (by omega)]; (repeat rw [q2l _ _ (by omega)]); exact low j hj
        have e1 : H2 (m + 1) = some (.box (Ob.enc Ob.zero)) := by rw [A2 (m + 1) (by omega)]; simp only [go_sem, *]
        have e2 : H2 m1 = some (.box (Ob.enc o)) := by rw [A2 m1 (by omega)]; simp only [go_sem, *]
        clear A2 seesC
        cases b2 with
        | false =>
          repeat' (first | (show q1a ..; first | refine q0d ?_ | refine q0p rfl ?_ | refine q1c rfl rfl ?_) | (show q1f ..; first | refine q0n rfl rfl ?_ | refine q0h rfl ?_) | (show goOn ..; first | refine q0s ?_ | refine q0u ?_ | refine q0y ?_) | (show q1k ..; refine q0j ?_) | (show wGo ..; first | refine q1v ?_ | refine q2b ?_ | refine q1x ?_ | refine q1z ?_ | refine gw_u ?_ | refine q1w (fun _ => ?_) (fun _ => ?_) | refine q2a (fun _ => ?_) (fun _ => ?_) | refine q1y (fun _ => ?_) (fun _ => ?_) | refine q2c (fun _ => ?_) (fun _ => ?_)) | (show q0i ..; first | refine q0q ?_ | refine q0c ?_ | refine q0r ?_ | refine q0f ?_) | refine q0a ?_ | refine q0m ?_ | refine q0l ?_ | (show retQ ..; first | refine q0o ?_ | refine q0b ?_) | refine q0e ?_)
          (refine q2j (by kernel_rfl) (must_no _ _ _ _) ?_ ?_)
          case refine_1 => rintro r H' m' ⟨h, _⟩; cases h
          rintro p H' m' ⟨h, rfl, rfl⟩
          cases h
          repeat' (first | refine q0l ?_ | refine q1e ?_ | refine q4x ?_)
          exact ⟨rfl, by omega, low2⟩
        | true =>
          repeat' (first | (show q1a ..; first | refine q0d ?_ | refine q0p rfl ?_ | refine q1c rfl rfl ?_) | (show q1f ..; first | refine q0n rfl rfl ?_ | refine q0h rfl ?_) | (show goOn ..; first | refine q0s ?_ | refine q0u ?_ | refine q0y ?_) | (show q1k ..; refine q0j ?_) | (show wGo ..; first | refine q1v ?_ | refine q2b ?_ | refine q1x ?_ | refine q1z ?_ | refine gw_u ?_ | refine q1w (fun _ => ?_) (fun _ => ?_) | refine q2a (fun _ => ?_) (fun _ => ?_) | refine q1y (fun _ => ?_) (fun _ => ?_) | refine q2c (fun _ => ?_) (fun _ => ?_)) | (show q0i ..; first | refine q0q ?_ | refine q0c ?_ | refine q0r ?_ | refine q0f ?_) | refine q0a ?_ | refine q0m ?_ | refine q0l ?_ | (show retQ ..; first | refine q0o ?_ | refine q0b ?_) | refine q0e ?_)
          (refine q2j (by kernel_rfl) (must_yes _ _ _ _) ?_ ?_)
          case refine_2 => rintro p H' m' ⟨⟨_, h⟩, _⟩; cases h
          rintro r H' m' ⟨⟨_, h⟩, rfl, rfl⟩
          clear h
          repeat' (first | (show q1a ..; first | refine q0d ?_ | refine q0p rfl ?_ | refine q1c rfl rfl ?_) | (show q1f ..; first | refine q0n rfl rfl ?_ | refine q0h rfl ?_) | (show goOn ..; first | refine q0s ?_ | refine q0u ?_ | refine q0y ?_) | (show q1k ..; refine q0j ?_) | (show wGo ..; first | refine q1v ?_ | refine q2b ?_ | refine q1x ?_ | refine q1z ?_ | refine gw_u ?_ | refine q1w (fun _ => ?_) (fun _ => ?_) | refine q2a (fun _ => ?_) (fun _ => ?_) | refine q1y (fun _ => ?_) (fun _ => ?_) | refine q2c (fun _ => ?_) (fun _ => ?_)) | (show q0i ..; first | refine q0q ?_ | refine q0c ?_ | refine q0r ?_ | refine q0f ?_) | refine q0a ?_ | refine q0m ?_ | refine q0l ?_ | (show retQ ..; first | refine q0o ?_ | refine q0b ?_) | refine q0e ?_)
          exact ⟨rfl, by omega, fun j hj => by (repeat rw [q2l _ _ (by omega)]); exact low2 j hj⟩
      | false =>
        rw [hg1, Bool.false_or] at hb3
        repeat' (first | (show q1a ..; first | refine q0d ?_ | refine q0p rfl ?_ | refine q1c rfl rfl ?_) | (show q1f ..; first | refine q0n rfl rfl ?_ | refine q0h rfl ?_) | (show goOn ..; first | refine q0s ?_ | refine q0u ?_ | refine q0y ?_) | (show q1k ..; refine q0j ?_) | (show wGo ..; first | refine q1v ?_ | refine q2b ?_ | refine q1x ?_ | refine q1z ?_ | refine gw_u ?_ | refine q1w (fun _ => ?_) (fun _ => ?_) | refine q2a (fun _ => ?_) (fun _ => ?_) | refine q1y (fun _ => ?_) (fun _ => ?_) | refine q2c (fun _ => ?_) (fun _ => ?_)) | (show q0i ..; first | refine q0q ?_ | refine q0c ?_ | refine q0r ?_ | refine q0f ?_) | refine q0a ?_ | refine q0m ?_ | refine q0l ?_ | (show retQ ..; first | refine q0o ?_ | refine q0b ?_) | refine q0e ?_)
        (refine q2j (by kernel_rfl) (must_yes _ _ _ _) ?_ ?_)
        case refine_2 => rintro p H' m' ⟨⟨_, h⟩, _⟩; cases h
        rintro r H' m' ⟨⟨_, h⟩, rfl, rfl⟩
        clear h
        repeat' (first | (show q1a ..; first | refine q0d ?_ | refine q0p rfl ?_ | refine q1c rfl rfl ?_) | (show q1f ..; first | refine q0n rfl rfl ?_ | refine q0h rfl ?_) | (show goOn ..; first | refine q0s ?_ | refine q0u ?_ | refine q0y ?_) | (show q1k ..; refine q0j ?_) | (show wGo ..; first | refine q1v ?_ | refine q2b ?_ | refine q1x ?_ | refine q1z ?_ | refine gw_u ?_ | refine q1w (fun _ => ?_) (fun _ => ?_) | refine q2a (fun _ => ?_) (fun _ => ?_) | refine q1y (fun _ => ?_) (fun _ => ?_) | refine q2c (fun _ => ?_) (fun _ => ?_)) | (show q0i ..; first | refine q0q ?_ | refine q0c ?_ | refine q0r ?_ | refine q0f ?_) | refine q0a ?_ | refine q0m ?_ | refine q0l ?_ | (show retQ ..; first | refine q0o ?_ | refine q0b ?_) | refine q0e ?_)
        (refine q2j (by kernel_rfl) (seesC _ _ (by simp only [go_sem, *]) (by omega)) ?_ ?_)
        case refine_2 => rintro p H' m' ⟨h, _⟩; cases h
        rintro r H2 m2 ⟨h, L2, A2⟩
        cases h
        have low2 : ∀ j, j < m → H2 j = H j := fun j hj => by rw [A2 j (by omega)]; (repeat rw [q2l _ _ (by omega)]); exact low j hj
        have e1 : H2 (m + 1) = some (.box (Ob.enc Ob.zero)) := by rw [A2 (m + 1) (by omega)]; simp only [go_sem, *]
        have e2 : H2 m1 = some (.box (Ob.enc o)) := by rw [A2 m1 (by omega)]; simp only [go_sem, *]
        clear A2 seesC
        cases b2 with
        | false =>
          repeat' (first | (show q1a ..; first | refine q0d ?_ | refine q0p rfl ?_ | refine q1c rfl rfl ?_) | (show q1f ..; first | refine q0n rfl rfl ?_ | refine q0h rfl ?_) | (show goOn ..; first | refine q0s ?_ | refine q0u ?_ | refine q0y ?_) | (show q1k ..; refine q0j ?_) | (show wGo ..; first | refine q1v ?_ | refine q2b ?_ | refine q1x ?_ | refine q1z ?_ | refine gw_u ?_ | refine q1w (fun _ => ?_) (fun _ => ?_) | refine q2a (fun _ => ?_) (fun _ => ?_) | refine q1y (fun _ => ?_) (fun _ => ?_) | refine q2c (fun _ => ?_) (fun _ => ?_)) | (show q0i ..; first | refine q0q ?_ | refine q0c ?_ | refine q0r ?_ | refine q0f ?_) | refine q0a ?_ | refine q0m ?_ | refine q0l ?_ | (show retQ ..; first | refine q0o ?_ | refine q0b ?_) | refine q0e ?_)
          (refine q2j (by kernel_rfl) (must_no _ _ _ _) ?_ ?_)
          case refine_1 => rintro r H' m' ⟨h, _⟩; cases h
          rintro p H' m' ⟨h, rfl, rfl⟩
          cases h
          repeat' (first | refine q0l ?_ | refine q1e ?_ | refine q4x ?_)
          exact ⟨rfl, by omega, low2⟩
        | true =>
          repeat' (first | (show q1a ..; first | refine q0d ?_ | refine q0p rfl ?_ | refine q1c rfl rfl ?_) | (show q1f ..; first | refine q0n rfl rfl ?_ | refine q0h rfl ?_) | (show goOn ..; first | refine q0s ?_ | refine q0u ?_ | refine q0y ?_) | (show q1k ..; refine q0j ?_) | (show wGo ..; first | refine q1v ?_ | refine q2b ?_ | refine q1x ?_ | refine q1z ?_ | refine gw_u ?_ | refine q1w (fun _ => ?_) (fun _ => ?_) | refine q2a (fun _ => ?_) (fun _ => ?_) | refine q1y (fun _ => ?_) (fun _ => ?_) | refine q2c (fun _ => ?_) (fun _ => ?_)) | (show q0i ..; first | refine q0q ?_ | refine q0c ?_ | refine q0r ?_ | refine q0f ?_) | refine q0a ?_ | refine q0m ?_ | refine q0l ?_ | (show retQ ..; first | refine q0o ?_ | refine q0b ?_) | refine q0e ?_)
          (refine q2j (by kernel_rfl) (must_yes _ _ _ _) ?_ ?_)
          case refine_2 => rintro p H' m' ⟨⟨_, h⟩, _⟩; cases h
          rintro r H' m' ⟨⟨_, h⟩, rfl, rfl⟩
          clear h
          repeat' (first | (show q1a ..; first | refine q0d ?_ | refine q0p rfl ?_ | refine q1c rfl rfl ?_) | (show q1f ..; first | refine q0n rfl rfl ?_ | refine q0h rfl ?_) | (show goOn ..; first | refine q0s ?_ | refine q0u ?_ | refine q0y ?_) | (show q1k ..; refine q0j ?_) | (show wGo ..; first | refine q1v ?_ | refine q2b ?_ | refine q1x ?_ | refine q1z ?_ | refine gw_u ?_ | refine q1w (fun _ => ?_) (fun _ => ?_) | refine q2a (fun _ => ?_) (fun _ => ?_) | refine q1y (fun _ => ?_) (fun _ => ?_) | refine q2c (fun _ => ?_) (fun _ => ?_)) | (show q0i ..; first | refine q0q ?_ | refine q0c ?_ | refine q0r ?_ | refine q0f ?_) | refine q0a ?_ | refine q0m ?_ | refine q0l ?_ | (show retQ ..; first | refine q0o ?_ | refine q0b ?_) | refine q0e ?_)
          exact ⟨rfl, by omega, fun j hj => by (repeat rw [q2l _ _ (by omega)]); exact low2 j hj⟩
/-- What a closure is given: a finder in a box of its own. -/
def ClC (g : FuncId) (cap : List PV) (t : Ob) (w : Wd) (H0 : Heap) (m0 : Nat) (R : Ob × Int) : Prop :=
  ∀ (H : Heap) (m i : Nat), m0 ≤ i → i < m → (∀ j, j < m0 → H j = H0 j) → H i = some (.box (q6a t w)) → CSat Tryz.prog g ([.ptr i 0] ++ cap) H m (fun out H' m' => out = outE R ∧ m ≤ m' ∧ ∀ j, j < m → H' j = H j)
theorem see1 {H0 : Heap} {m0 c k : Nat} (t : Ob) (w : Wd) (r : Rf) (kind : Int) (hc : H0 c = some (.box (Rf.enc r))) (hcm : c < m0) (hk : H0 k = some (.box [.int .i64 kind])) (hkm : k < m0) (ht : q4i t.label = true) (htl : t.label.length ≤ 20) (hf : FewW w) (hw : q5h w = true) : ClC 177 [.ptr c 0, .ptr k 0] t w H0 m0 (seeR w t r kind) := by
  intro H m i hi him hH hb
  have hcc : H c = some (.box (Rf.enc r)) := by rw [hH c hcm]; exact hc
  have hkk : H k = some (.box [.int .i64 kind]) := by rw [hH k hkm]; exact hk
  have n0 : (i = m) = False := eq_false (by omega)
  have n1 : (c = m) = False := eq_false (by omega)
  have n2 : (k = m) = False := eq_false (by omega)
  have namC := fun (H : Heap) (m : Nat) (hb : H i = some (.box (q6a t w))) (hi : i < m) => seen_csat (H := H) (m := m) t w r kind hb hi ht htl hf hw
  generalize seeR w t r kind = D at namC ⊢
  obtain ⟨o, e⟩ := D
  simp only [List.cons_append, List.nil_append]
  cases he : (e == 0) with
  | false =>
    have hoe : outE (o, e) = .pan (thr e) := by unfold outE; rw [if_neg (by rw [he]; simp)]
    rw [hoe] at namC ⊢
    refine q4u (by kernel_rfl) Tryz.func177 Tryz.results177 rfl (by simp [Tryz.ntmps177]) (by kernel_rfl) ?_
    repeat' (first | (show q1a ..; first | refine q0d ?_ | refine q0p rfl ?_) | (show q1f ..; first | refine q0n rfl rfl ?_ | refine q0h rfl ?_) | (show goOn ..; first | refine q0s ?_ | refine q0u ?_ | refine q0y ?_) | (show q1k ..; refine q0j ?_) | (show q0i ..; first | refine q0q ?_ | refine q0c ?_ | refine q0r ?_ | refine q0f ?_) | refine q0a ?_ | refine q0m ?_ | refine q0l ?_ | (show retQ ..; first | refine q0o ?_ | refine q0b ?_) | refine q0e ?_)
    (refine q2j (by kernel_rfl) (namC (hset H m (some (.box (Ob.enc Ob.zero)))) (m + 1) (by simp only [go_sem, *]) (by omega)) ?_ ?_)
    case refine_1 => rintro r H' m' ⟨h, _⟩; cases h
    rintro p H1 m1 ⟨h, L1, A1⟩
    cases h
    repeat' (first | refine q0l ?_ | refine q1e ?_ | refine q4x ?_)
    exact ⟨rfl, by omega, (fun j hj => by rw [A1 j (by omega)]; repeat rw [q2l _ _ (by omega)])⟩
  | true =>
    have hoe : outE (o, e) = .ret (.agg (Ob.enc o)) := by unfold outE; rw [if_pos he]
    rw [hoe] at namC ⊢
    refine q4u (by kernel_rfl) Tryz.func177 Tryz.results177 rfl (by simp [Tryz.ntmps177]) (by kernel_rfl) ?_
    repeat' (first | (show q1a ..; first | refine q0d ?_ | refine q0p rfl ?_) | (show q1f ..; first | refine q0n rfl rfl ?_ | refine q0h rfl ?_) | (show goOn ..; first | refine q0s ?_ | refine q0u ?_ | refine q0y ?_) | (show q1k ..; refine q0j ?_) | (show q0i ..; first | refine q0q ?_ | refine q0c ?_ | refine q0r ?_ | refine q0f ?_) | refine q0a ?_ | refine q0m ?_ | refine q0l ?_ | (show retQ ..; first | refine q0o ?_ | refine q0b ?_) | refine q0e ?_)
    (refine q2j (by kernel_rfl) (namC (hset H m (some (.box (Ob.enc Ob.zero)))) (m + 1) (by simp only [go_sem, *]) (by omega)) ?_ ?_)
    case refine_2 => rintro p H' m' ⟨h, _⟩; cases h
    rintro r H1 m1 ⟨h, L1, A1⟩
    cases h
    have low : ∀ j, j < m → H1 j = H j := fun j hj => by rw [A1 j (by omega)]; repeat rw [q2l _ _ (by omega)]
    have c1 : H1 m = some (.box (Ob.enc Ob.zero)) := by rw [A1 m (by omega)]; simp only [go_sem, *]
    clear A1
    repeat' (first | (show q1a ..; first | refine q0d ?_ | refine q0p rfl ?_) | (show q1f ..; first | refine q0n rfl rfl ?_ | refine q0h rfl ?_) | (show goOn ..; first | refine q0s ?_ | refine q0u ?_ | refine q0y ?_) | (show q1k ..; refine q0j ?_) | (show q0i ..; first | refine q0q ?_ | refine q0c ?_ | refine q0r ?_ | refine q0f ?_) | refine q0a ?_ | refine q0m ?_ | refine q0l ?_ | (show retQ ..; first | refine q0o ?_ | refine q0b ?_) | refine q0e ?_)
    exact ⟨rfl, by omega, fun j hj => by (repeat rw [q2l _ _ (by omega)]); exact low j hj⟩
theorem change1 {H0 : Heap} {m0 c k : Nat} (t : Ob) (w : Wd) (r : Rf) (kind : Int) (hc : H0 c = some (.box (Rf.enc r))) (hcm : c < m0) (hk : H0 k = some (.box [.int .i64 kind])) (hkm : k < m0) (ht : q4i t.label = true) (htl : t.label.length ≤ 20) (hf : FewW w) (hw : q5h w = true) : ClC 245 [.ptr c 0, .ptr k 0] t w H0 m0 (q4b w t r kind) := by
  intro H m i hi him hH hb
  have hcc : H c = some (.box (Rf.enc r)) := by rw [hH c hcm]; exact hc
  have hkk : H k = some (.box [.int .i64 kind]) := by rw [hH k hkm]; exact hk
  have n0 : (i = m) = False := eq_false (by omega)
  have n1 : (c = m) = False := eq_false (by omega)
  have n2 : (k = m) = False := eq_false (by omega)
  have hok := see_okay (t := t) (r := r) (k := kind) hf hw
  have namC := fun (H : Heap) (m : Nat) (hb : H i = some (.box (q6a t w))) (hi : i < m) => seen_csat (H := H) (m := m) t w r kind hb hi ht htl hf hw
  unfold q4b
  generalize seeR w t r kind = D at namC hok ⊢
  obtain ⟨o, e⟩ := D
  simp only [List.cons_append, List.nil_append] at hok ⊢
  have chgC := fun (H : Heap) (m : Nat) (hb : H i = some (.box (q6a t w))) (hi : i < m) => changes_csat (H := H) (m := m) t w o hb hi ht htl hok
  generalize chgR t o = b3 at chgC ⊢
  cases he : (e == 0) with
  | false =>
    have hoe : outE (o, e) = .pan (thr e) := by unfold outE; rw [if_neg (by rw [he]; simp)]
    have hoz : outE (Ob.zero, e) = .pan (thr e) := by unfold outE; rw [if_neg (by rw [he]; simp)]
    rw [hoe] at namC
    simp only [Bool.false_eq_true, if_false]
    rw [hoz]
    refine q4u (by kernel_rfl) Tryz.func245 Tryz.results245 rfl (by simp [Tryz.ntmps245]) (by kernel_rfl) ?_
    repeat' (first | (show q1a ..; first | refine q0d ?_ | refine q0p rfl ?_) | (show q1f ..; first | refine q0n rfl rfl ?_ | refine q0h rfl ?_) | (show goOn ..; first | refine q0s ?_ | refine q0u ?_ | refine q0y ?_) | (show q1k ..; refine q0j ?_) | (show q0i ..; first | refine q0q ?_ | refine q0c ?_ | refine q0r ?_ | refine q0f ?_) | refine q0a ?_ | refine q0m ?_ | refine q0l ?_ | (show retQ ..; first | refine q0o ?_ | refine q0b ?_) | refine q0e ?_)
    (refine q2j (by kernel_rfl) (namC (hset H m (some (.box (Ob.enc Ob.zero)))) (m + 1) (by simp only [go_sem, *]) (by omega)) ?_ ?_)
    case refine_1 => rintro r H' m' ⟨h, _⟩; cases h
    rintro p H1 m1 ⟨h, L1, A1⟩
    cases h
    repeat' (first | refine q0l ?_ | refine q1e ?_ | refine q4x ?_)
    exact ⟨rfl, by omega, (fun j hj => by rw [A1 j (by omega)]; repeat rw [q2l _ _ (by omega)])⟩
  | true =>
    have hoe : outE (o, e) = .ret (.agg (Ob.enc o)) := by unfold outE; rw [if_pos he]
    rw [hoe] at namC
    simp only [if_true]
    refine q4u (by kernel_rfl) Tryz.func245 Tryz.results245 rfl (by simp [Tryz.ntmps245]) (by kernel_rfl) ?_
    repeat' (first | (show q1a ..; first | refine q0d ?_ | refine q0p rfl ?_) | (show q1f ..; first | refine q0n rfl rfl ?_ | refine q0h rfl ?_) | (show goOn ..; first | refine q0s ?_ | refine q0u ?_ | refine q0y ?_) | (show q1k ..; refine q0j ?_) | (show q0i ..; first | refine q0q ?_ | refine q0c ?_ | refine q0r ?_ | refine q0f ?_) | refine q0a ?_ | refine q0m ?_ | refine q0l ?_ | (show retQ ..; first | refine q0o ?_ | refine q0b ?_) | refine q0e ?_)
    (refine q2j (by kernel_rfl) (namC (hset H m (some (.box (Ob.enc Ob.zero)))) (m + 1) (by simp only [go_sem, *]) (by omega)) ?_ ?_)
    case refine_2 => rintro p H' m' ⟨h, _⟩; cases h
    rintro r H1 m1 ⟨h, L1, A1⟩
    cases h
    have low : ∀ j, j < m → H1 j = H j := fun j hj => by rw [A1 j (by omega)]; repeat rw [q2l _ _ (by omega)]
    have c0 : H1 i = some (.box (q6a t w)) := by rw [A1 i (by omega)]; simp only [go_sem, *]
    have c1 : H1 m = some (.box (Ob.enc Ob.zero)) := by rw [A1 m (by omega)]; simp only [go_sem, *]
    clear A1 namC
    have k0 : (i = m1) = False := eq_false (by omega)
    have k2 : (m = m1) = False := eq_false (by omega)
    have k7 : (m1 = m) = False := eq_false (by omega)
    repeat' (first | (show q1a ..; first | refine q0d ?_ | refine q0p rfl ?_) | (show q1f ..; first | refine q0n rfl rfl ?_ | refine q0h rfl ?_) | (show goOn ..; first | refine q0s ?_ | refine q0u ?_ | refine q0y ?_) | (show q1k ..; refine q0j ?_) | (show q0i ..; first | refine q0q ?_ | refine q0c ?_ | refine q0r ?_ | refine q0f ?_) | refine q0a ?_ | refine q0m ?_ | refine q0l ?_ | (show retQ ..; first | refine q0o ?_ | refine q0b ?_) | refine q0e ?_)
    (refine q2j (by kernel_rfl) (chgC _ _ (by simp only [go_sem, *]) (by omega)) ?_ ?_)
    case refine_2 => rintro p H' m' ⟨h, _⟩; cases h
    rintro r H2 m2 ⟨h, L2, A2⟩
    cases h
    have low2 : ∀ j, j < m → H2 j = H j := fun j hj => by rw [A2 j (by omega)]; (repeat rw [q2l _ _ (by omega)]); exact low j hj
    have e1 : H2 m = some (.box (Ob.enc Ob.zero)) := by rw [A2 m (by omega)]; simp only [go_sem, *]
    have e2 : H2 m1 = some (.box (Ob.enc o)) := by rw [A2 m1 (by omega)]; simp only [go_sem, *]
    clear A2 chgC
    cases b3 with
    | false =>
      repeat' (first | (show q1a ..; first | refine q0d ?_ | refine q0p rfl ?_) | (show q1f ..; first | refine q0n rfl rfl ?_ | refine q0h rfl ?_) | (show goOn ..; first | refine q0s ?_ | refine q0u ?_ | refine q0y ?_) | (show q1k ..; refine q0j ?_) | (show q0i ..; first | refine q0q ?_ | refine q0c ?_ | refine q0r ?_ | refine q0f ?_) | refine q0a ?_ | refine q0m ?_ | refine q0l ?_ | (show retQ ..; first | refine q0o ?_ | refine q0b ?_) | refine q0e ?_)
      (refine q2j (by kernel_rfl) (must_no _ _ _ _) ?_ ?_)
      case refine_1 => rintro r H' m' ⟨h, _⟩; cases h
      rintro p H' m' ⟨h, rfl, rfl⟩
      cases h
      repeat' (first | refine q0l ?_ | refine q1e ?_ | refine q4x ?_)
      exact ⟨rfl, by omega, low2⟩
    | true =>
      repeat' (first | (show q1a ..; first | refine q0d ?_ | refine q0p rfl ?_) | (show q1f ..; first | refine q0n rfl rfl ?_ | refine q0h rfl ?_) | (show goOn ..; first | refine q0s ?_ | refine q0u ?_ | refine q0y ?_) | (show q1k ..; refine q0j ?_) | (show q0i ..; first | refine q0q ?_ | refine q0c ?_ | refine q0r ?_ | refine q0f ?_) | refine q0a ?_ | refine q0m ?_ | refine q0l ?_ | (show retQ ..; first | refine q0o ?_ | refine q0b ?_) | refine q0e ?_)
      (refine q2j (by kernel_rfl) (must_yes _ _ _ _) ?_ ?_)
      case refine_2 => rintro p H' m' ⟨⟨_, h⟩, _⟩; cases h
      rintro r H' m' ⟨⟨_, h⟩, rfl, rfl⟩
      clear h
      repeat' (first | (show q1a ..; first | refine q0d ?_ | refine q0p rfl ?_) | (show q1f ..; first | refine q0n rfl rfl ?_ | refine q0h rfl ?_) | (show goOn ..; first | refine q0s ?_ | refine q0u ?_ | refine q0y ?_) | (show q1k ..; refine q0j ?_) | (show q0i ..; first | refine q0q ?_ | refine q0c ?_ | refine q0r ?_ | refine q0f ?_) | refine q0a ?_ | refine q0m ?_ | refine q0l ?_ | (show retQ ..; first | refine q0o ?_ | refine q0b ?_) | refine q0e ?_)
      exact ⟨rfl, by omega, fun j hj => by (repeat rw [q2l _ _ (by omega)]); exact low2 j hj⟩
end Go.Proofs.YteibeoipnjhicaaGreat
