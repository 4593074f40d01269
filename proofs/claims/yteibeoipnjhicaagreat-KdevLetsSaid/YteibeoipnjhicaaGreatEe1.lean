import Derived.Test.YteibeoipnjhicaaGreatEc3
import Derived.Test.YteibeoipnjhicaaGreatRz1
namespace Go.Proofs.YteibeoipnjhicaaGreat
open Go Go.RowKit
set_option linter.unusedVariables false
set_option linter.unusedSimpArgs false
set_option maxHeartbeats 16000000
set_option maxRecDepth 100000
structure FewW (w : Wd) : Prop where
  n : w.objects.length ≤ 24
  ob : ∀ x ∈ w.objects, x.label.length ≤ 20 ∧ x.links.length ≤ 70 ∧ x.data.length ≤ 300 ∧ x.maps.length ≤ 20
theorem sidx {α : Type} {l : List α} {n : Nat} {x : α} (h : l[n]? = some x) : x ∈ l := List.mem_of_getElem? h
def q5o (w : Wd) (id : Int) : List Int := (w.objects.filter fun o => o.links.any (· == id)).map Ob.id
def holdN (l : List Ob) (id : Int) (n : Nat) : List Int := ((l.take n).filter fun o => o.links.any (· == id)).map Ob.id
theorem hold_yes {l : List Ob} {id : Int} {n : Nat} {x : Ob} (hx : l[n]? = some x) (h : x.links.any (· == id) = true) : holdN l id (n + 1) = holdN l id n ++ [x.id] := by
  unfold holdN; rw [q4w hx, List.filter_append, List.filter_cons, if_pos h, List.filter_nil, List.map_append]; rfl
theorem hold_no {l : List Ob} {id : Int} {n : Nat} {x : Ob} (hx : l[n]? = some x) (h : x.links.any (· == id) = false) : holdN l id (n + 1) = holdN l id n := by
  unfold holdN; rw [q4w hx, List.filter_append, List.filter_cons, if_neg (by rw [h]; simp), List.filter_nil, List.append_nil]
theorem hold_len (l : List Ob) (id : Int) (n : Nat) : (holdN l id n).length ≤ l.length := by
  unfold holdN
  rw [List.length_map]
  refine Nat.le_trans (List.length_filter_le _ _) ?_
  rw [List.length_take]; omega
theorem hold_all (w : Wd) (id : Int) {n : Nat} (h : w.objects.length ≤ n) : holdN w.objects id n = q5o w id := by unfold holdN q5o; rw [List.take_of_length_le h]
theorem holders_len (w : Wd) (id : Int) : (q5o w id).length ≤ w.objects.length := by rw [← hold_all w id (Nat.le_refl _)]; exact hold_len _ _ _
def usesR (w : Wd) (o : Ob) : Int := o.links.foldl (fun s id => IntKind.i64.wrap (s + (q2p w id).1.quota)) (pagesR o)
def usesN (w : Wd) (o : Ob) (n : Nat) : Int := (o.links.take n).foldl (fun s id => IntKind.i64.wrap (s + (q2p w id).1.quota)) (pagesR o)
theorem uses_succ {w : Wd} {o : Ob} {n : Nat} {x : Int} (hx : o.links[n]? = some x) : usesN w o (n + 1) = IntKind.i64.wrap (usesN w o n + (q2p w x).1.quota) := by
  unfold usesN; rw [q4w hx, List.foldl_append]; rfl
def q8i (w : Wd) : Nat → Int → List Int → List Int
  | 0, _, _ => []
  | f + 1, id, out => match q5o w id with
    | [] => out
    | h :: _ => q8i w f h (out ++ [h])
def above (w : Wd) (id : Int) : List Int := q8i w (w.objects.length + 1) id []
theorem aboveG_len (w : Wd) : ∀ (f : Nat) (id : Int) (out : List Int), (q8i w f id out).length ≤ out.length + f
  | 0, _, _ => Nat.zero_le _
  | f + 1, id, out => by
    unfold q8i
    split
    · omega
    · rename_i h t _
      have := aboveG_len w f h (out ++ [h])
      simp only [List.length_append, List.length_cons, List.length_nil] at this
      omega
theorem above_len (w : Wd) (id : Int) : (above w id).length ≤ w.objects.length + 1 := by have := aboveG_len w (w.objects.length + 1) id []; unfold above; simpa using this
def upR (w : Wd) (id : Int) : Bool := ((id == w.root) && ((above w id).length == 0)) || (match (above w id)[(above w id).length - 1]? with
  | some z => z == w.root
  | none => false)
def q7k (w : Wd) (o : Ob) : Bool :=
  if (o.id == w.root) = true then ((((q5o w o.id).length : Int) == 0) && ((o.kind == 2) && decide (o.quota ≤ 1024)))
  else if (decide (((q5o w o.id).length : Int) < 1) || (decide (((q5o w o.id).length : Int) > 1) && (!o.fixed || (o.kind == 2) || (o.kind == 4)))) = true then false
  else (o.kind != 2) || upR w o.id
attribute [local irreducible] q1a dr q0i Ex.then Ex.inBlock retQ q1r q3f q3e Pure CSat evOp q2r rdOf upd hset strip sp0 cut envL q3h q4c Keep BdL evBs q3n q3z
theorem r14_has (l : List Int) (n : Int) (hl : l.length ≤ 9223372036854775807) : Pure Tryz.prog 170 [.sl (l.map u64), .int .u64 n] (.bool (l.any (· == n))) := by
  refine q2y (by kernel_rfl) (by simp only [go_sem, *]) (by simp only [go_sem, *]) Tryz.func170 Tryz.results170 rfl (by simp [Tryz.ntmps170]) (by kernel_rfl) ?_
  repeat' (first | (show q1a ..; first | refine q0d ?_ | refine q0p rfl ?_) | (show q1f ..; refine q0n rfl rfl ?_) | (show goOn ..; refine q0s ?_) | (show q0i ..; first | refine q0q ?_ | refine q0c ?_ | refine q0r ?_ | refine q0f ?_ | refine q0k ?_ | refine q0w ?_ | refine q0t ?_) | (show q1d ..; first | refine cd_t ?_ | refine cd_f ?_ | refine cd_n (fun _ => ?_) (fun _ => ?_) | refine cd_b (fun _ => ?_) (fun _ => ?_)) | refine q0a ?_ | refine q0m ?_ | refine q0l ?_ | refine q0v ?_ | refine q0g ?_ | refine q0x ?_ | refine bl_pass rfl ?_ | refine q1g ?_ | refine q1e ?_ | (show retQ ..; first | refine q0o ?_ | refine q0b ?_) | refine q0e ?_)
  refine q3g (S := Nat) (fun k => l.length - k) (fun k => k ≤ l.length ∧ ∀ j, j < k → ∀ y, l[j]? = some y → (y == n) = false) (fun k => [(0, .sl (l.map u64)), (1, .int .u64 n), (5, .int .i64 k)]) (fun _ => []) (fun _ => 0) 0 ⟨Nat.zero_le _, fun j hj => absurd hj (Nat.not_lt_zero j)⟩ (by (refine q2q ?_ ?_ <;> repeat' (first | exact q2d | exact q2f | refine q1n (by (try simp only [go_sem, *]); try rfl) (by simp only [go_sem, *]) ?_ | refine q2g (by (try simp only [go_sem, *]); try rfl) (by omega) (by simp only [go_sem, *]) ?_ | refine q2e (by (try simp only [go_sem, *]); try rfl) (by omega) (by simp only [go_sem, *]) ?_))) ?_
  rintro k ⟨hk, hs⟩
  rcases Nat.lt_or_ge k l.length with hlt | hge
  · obtain ⟨x, hx⟩ := q3j hlt
    have h0 := q3o hlt
    have h4 := q3d k (by omega)
    repeat' (first | (show q1a ..; first | refine q0d ?_ | refine q0p rfl ?_) | (show q1f ..; refine q0n rfl rfl ?_) | (show goOn ..; refine q0s ?_) | (show q0i ..; first | refine q0q ?_ | refine q0c ?_ | refine q0r ?_ | refine q0f ?_ | refine q0k ?_ | refine q0w ?_ | refine q0t ?_) | (show q1d ..; first | refine cd_t ?_ | refine cd_f ?_ | refine cd_n (fun _ => ?_) (fun _ => ?_) | refine cd_b (fun _ => ?_) (fun _ => ?_)) | refine q0a ?_ | refine q0m ?_ | refine q0l ?_ | refine q0v ?_ | refine q0g ?_ | refine q0x ?_ | refine bl_pass rfl ?_ | refine q1g ?_ | refine q1e ?_ | (show retQ ..; first | refine q0o ?_ | refine q0b ?_) | refine q0e ?_)
    all_goals rename_i hc
    · refine q2w ?_
      symm
      exact List.any_eq_true.2 ⟨x, sidx hx, hc⟩
    · exact again (k + 1) ⟨by omega, none_to hx hs hc⟩ (by omega) (by (refine q2q ?_ ?_ <;> repeat' (first | exact q2d | exact q2f | refine q1n (by (try simp only [go_sem, *]); try rfl) (by simp only [go_sem, *]) ?_ | refine q2g (by (try simp only [go_sem, *]); try rfl) (by omega) (by simp only [go_sem, *]) ?_ | refine q2e (by (try simp only [go_sem, *]); try rfl) (by omega) (by simp only [go_sem, *]) ?_)))
  · have h0 := q2z hge
    repeat' (first | (show q1a ..; first | refine q0d ?_ | refine q0p rfl ?_) | (show q1f ..; refine q0n rfl rfl ?_) | (show goOn ..; refine q0s ?_) | (show q0i ..; first | refine q0q ?_ | refine q0c ?_ | refine q0r ?_ | refine q0f ?_ | refine q0k ?_ | refine q0w ?_ | refine q0t ?_) | (show q1d ..; first | refine cd_t ?_ | refine cd_f ?_ | refine cd_n (fun _ => ?_) (fun _ => ?_) | refine cd_b (fun _ => ?_) (fun _ => ?_)) | refine q0a ?_ | refine q0m ?_ | refine q0l ?_ | refine q0v ?_ | refine q0g ?_ | refine q0x ?_ | refine bl_pass rfl ?_ | refine q1g ?_ | refine q1e ?_ | (show retQ ..; first | refine q0o ?_ | refine q0b ?_) | refine q0e ?_)
    refine q2w ?_
    symm
    rw [List.any_eq_false]
    intro x hx
    obtain ⟨j, hj⟩ := List.getElem?_of_mem hx
    rw [hs j (by have := q5f hj; omega) x hj]; simp
theorem r14_holders (w : Wd) (id : Int) (hw : w.L) (hf : FewW w) : Pure Tryz.prog 121 [.agg (Wd.enc w), .int .u64 id] (.sl ((q5o w id).map u64)) := by
  have hn20 := hf.n
  refine q2y (by kernel_rfl) (by simp only [go_sem, *]) (by simp only [go_sem, *]) Tryz.func121 Tryz.results121 rfl (by simp [Tryz.ntmps121]) (by kernel_rfl) ?_
  repeat' (first | (show q1a ..; first | refine q0d ?_ | refine q0p rfl ?_) | (show q1f ..; first | refine q0n rfl rfl ?_ | refine q0h rfl ?_) | (show goOn ..; first | refine q0s ?_ | refine q0u ?_ | refine q0y ?_ | refine q1t ?_ | refine q1s ?_) | (show q1k ..; refine q0j ?_) | (show q0i ..; first | refine q0q ?_ | refine q0c ?_ | refine q0r ?_ | refine q0f ?_ | refine q0k ?_ | refine q0w ?_ | refine q0t ?_) | (show q1d ..; first | refine cd_t ?_ | refine cd_f ?_ | refine cd_n (fun _ => ?_) (fun _ => ?_) | refine cd_b (fun _ => ?_) (fun _ => ?_)) | refine q0a ?_ | refine q0m ?_ | refine q0l ?_ | refine q0v ?_ | refine q0g ?_ | refine q0x ?_ | refine bl_pass rfl ?_ | refine q1g ?_ | refine q1e ?_ | (show retQ ..; first | refine q0o ?_ | refine q0b ?_) | refine q0e ?_)
  refine q3g (S := Nat × List Int × Nat) (fun s => w.objects.length - s.1) (fun s => s.1 ≤ w.objects.length ∧ 1 ≤ s.2.2 ∧ holdN w.objects id s.1 = s.2.1) (fun s => [(1, .int .u64 id), (2, .ptr 0 0), (5, accV s.2.2 s.2.1), (6, .int .i64 s.1)]) (fun s => (0, .box (Wd.enc w)) :: accG s.2.2 22 1 u64 s.2.1) (fun s => accM 1 s.2.2 s.2.1) (0, [], 1) ⟨Nat.zero_le _, Nat.le_refl _, rfl⟩ (by simp only [q3a, q3c, q3b]; (refine q2q ?_ ?_ <;> repeat' (first | exact q2d | exact q2f | refine q1n (by (try simp only [go_sem, *]); try rfl) (by simp only [go_sem, *]) ?_ | refine q2g (by (try simp only [go_sem, *]); try rfl) (by omega) (by simp only [go_sem, *]) ?_ | refine q2e (by (try simp only [go_sem, *]); try rfl) (by omega) (by simp only [go_sem, *]) ?_))) ?_
  rintro ⟨n, acc, rid⟩ ⟨hn, hr, hs⟩
  simp only at hn hr hs
  have ha : acc.length < 1000000 := by rw [← hs]; have := hold_len w.objects id n; omega
  have hb1 := q5r ha
  have hb2 := q6i (b := 8) ha (by decide)
  have i0 : (rid = 0) = False := eq_false (by omega)
  have i1 : (0 = rid) = False := eq_false (by omega)
  rcases Nat.lt_or_ge n w.objects.length with hlt | hge
  · obtain ⟨x, hx⟩ := q3j hlt
    have h0 := q3o hlt
    have h4 := q3d n (by omega)
    have hh := r14_has x.links id (hw.2 x (sidx hx)).1.2.1
    cases hc : x.links.any (· == id) with
    | true =>
      rw [hc] at hh
      have hs' := hold_yes hx hc
      rw [hs] at hs'
      rcases q4f acc with hnil | hne
      · subst hnil
        simp only [q3a, q3c, q3b]
        repeat' (first | (show q1a ..; first | refine q0d ?_ | refine q0p rfl ?_) | (show q1f ..; first | refine q0n rfl rfl ?_ | refine q0h rfl ?_) | (show goOn ..; first | refine q0s ?_ | refine q0u ?_ | refine q0y ?_ | refine q1t ?_ | refine q1s ?_) | (show q1k ..; refine q0j ?_) | (show q1u ..; (refine q0z (r := ?_) ?_ ?_; rotate_left 1; (focus exact hh))) | (show q0i ..; first | refine q0q ?_ | refine q0c ?_ | refine q0r ?_ | refine q0f ?_ | refine q0k ?_ | refine q0w ?_ | refine q0t ?_) | (show q1d ..; first | refine cd_t ?_ | refine cd_f ?_ | refine cd_n (fun _ => ?_) (fun _ => ?_) | refine cd_b (fun _ => ?_) (fun _ => ?_)) | refine q0a ?_ | refine q0m ?_ | refine q0l ?_ | refine q0v ?_ | refine q0g ?_ | refine q0x ?_ | refine bl_pass rfl ?_ | refine q1g ?_ | refine q1e ?_ | (show retQ ..; first | refine q0o ?_ | refine q0b ?_) | refine q0e ?_)
        refine again (n + 1, [] ++ [x.id], 1) ⟨hlt, Nat.le_refl _, hs'⟩ (by simp only; omega) ?_
        simp only [q3k, q3m, q3l]
        (refine q2q ?_ ?_ <;> repeat' (first | exact q2d | exact q2f | refine q1n (by (try simp only [go_sem, *]); try rfl) (by simp only [go_sem, *]) ?_ | refine q2g (by (try simp only [go_sem, *]); try rfl) (by omega) (by simp only [go_sem, *]) ?_ | refine q2e (by (try simp only [go_sem, *]); try rfl) (by omega) (by simp only [go_sem, *]) ?_))
      · simp only [q3p hne, q3r hne, q3q hne]
        repeat' (first | (show q1a ..; first | refine q0d ?_ | refine q0p rfl ?_) | (show q1f ..; first | refine q0n rfl rfl ?_ | refine q0h rfl ?_) | (show goOn ..; first | refine q0s ?_ | refine q0u ?_ | refine q0y ?_ | refine q1t ?_ | refine q1s ?_) | (show q1k ..; refine q0j ?_) | (show q1u ..; (refine q0z (r := ?_) ?_ ?_; rotate_left 1; (focus exact hh))) | (show q0i ..; first | refine q0q ?_ | refine q0c ?_ | refine q0r ?_ | refine q0f ?_ | refine q0k ?_ | refine q0w ?_ | refine q0t ?_) | (show q1d ..; first | refine cd_t ?_ | refine cd_f ?_ | refine cd_n (fun _ => ?_) (fun _ => ?_) | refine cd_b (fun _ => ?_) (fun _ => ?_)) | refine q0a ?_ | refine q0m ?_ | refine q0l ?_ | refine q0v ?_ | refine q0g ?_ | refine q0x ?_ | refine bl_pass rfl ?_ | refine q1g ?_ | refine q1e ?_ | (show retQ ..; first | refine q0o ?_ | refine q0b ?_) | refine q0e ?_)
        refine again (n + 1, acc ++ [x.id], rid) ⟨hlt, hr, hs'⟩ (by simp only; omega) ?_
        simp only [q3k, q3m, q3l]
        (refine q2q ?_ ?_ <;> repeat' (first | exact q2d | exact q2f | refine q1n (by (try simp only [go_sem, *]); try rfl) (by simp only [go_sem, *]) ?_ | refine q2g (by (try simp only [go_sem, *]); try rfl) (by omega) (by simp only [go_sem, *]) ?_ | refine q2e (by (try simp only [go_sem, *]); try rfl) (by omega) (by simp only [go_sem, *]) ?_))
    | false =>
      rw [hc] at hh
      have hs' := hold_no hx hc
      rw [hs] at hs'
      rcases q4f acc with hnil | hne
      · subst hnil
        simp only [q3a, q3c, q3b]
        repeat' (first | (show q1a ..; first | refine q0d ?_ | refine q0p rfl ?_) | (show q1f ..; first | refine q0n rfl rfl ?_ | refine q0h rfl ?_) | (show goOn ..; first | refine q0s ?_ | refine q0u ?_ | refine q0y ?_ | refine q1t ?_ | refine q1s ?_) | (show q1k ..; refine q0j ?_) | (show q1u ..; (refine q0z (r := ?_) ?_ ?_; rotate_left 1; (focus exact hh))) | (show q0i ..; first | refine q0q ?_ | refine q0c ?_ | refine q0r ?_ | refine q0f ?_ | refine q0k ?_ | refine q0w ?_ | refine q0t ?_) | (show q1d ..; first | refine cd_t ?_ | refine cd_f ?_ | refine cd_n (fun _ => ?_) (fun _ => ?_) | refine cd_b (fun _ => ?_) (fun _ => ?_)) | refine q0a ?_ | refine q0m ?_ | refine q0l ?_ | refine q0v ?_ | refine q0g ?_ | refine q0x ?_ | refine bl_pass rfl ?_ | refine q1g ?_ | refine q1e ?_ | (show retQ ..; first | refine q0o ?_ | refine q0b ?_) | refine q0e ?_)
        refine again (n + 1, [], 1) ⟨hlt, Nat.le_refl _, hs'⟩ (by simp only; omega) ?_
        simp only [q3a, q3c, q3b]
        (refine q2q ?_ ?_ <;> repeat' (first | exact q2d | exact q2f | refine q1n (by (try simp only [go_sem, *]); try rfl) (by simp only [go_sem, *]) ?_ | refine q2g (by (try simp only [go_sem, *]); try rfl) (by omega) (by simp only [go_sem, *]) ?_ | refine q2e (by (try simp only [go_sem, *]); try rfl) (by omega) (by simp only [go_sem, *]) ?_))
      · simp only [q3p hne, q3r hne, q3q hne]
        repeat' (first | (show q1a ..; first | refine q0d ?_ | refine q0p rfl ?_) | (show q1f ..; first | refine q0n rfl rfl ?_ | refine q0h rfl ?_) | (show goOn ..; first | refine q0s ?_ | refine q0u ?_ | refine q0y ?_ | refine q1t ?_ | refine q1s ?_) | (show q1k ..; refine q0j ?_) | (show q1u ..; (refine q0z (r := ?_) ?_ ?_; rotate_left 1; (focus exact hh))) | (show q0i ..; first | refine q0q ?_ | refine q0c ?_ | refine q0r ?_ | refine q0f ?_ | refine q0k ?_ | refine q0w ?_ | refine q0t ?_) | (show q1d ..; first | refine cd_t ?_ | refine cd_f ?_ | refine cd_n (fun _ => ?_) (fun _ => ?_) | refine cd_b (fun _ => ?_) (fun _ => ?_)) | refine q0a ?_ | refine q0m ?_ | refine q0l ?_ | refine q0v ?_ | refine q0g ?_ | refine q0x ?_ | refine bl_pass rfl ?_ | refine q1g ?_ | refine q1e ?_ | (show retQ ..; first | refine q0o ?_ | refine q0b ?_) | refine q0e ?_)
        refine again (n + 1, acc, rid) ⟨hlt, hr, hs'⟩ (by simp only; omega) ?_
        simp only [q3p hne, q3r hne, q3q hne]
        (refine q2q ?_ ?_ <;> repeat' (first | exact q2d | exact q2f | refine q1n (by (try simp only [go_sem, *]); try rfl) (by simp only [go_sem, *]) ?_ | refine q2g (by (try simp only [go_sem, *]); try rfl) (by omega) (by simp only [go_sem, *]) ?_ | refine q2e (by (try simp only [go_sem, *]); try rfl) (by omega) (by simp only [go_sem, *]) ?_))
  · have h0 := q2z hge
    rw [hold_all w id hge] at hs
    rw [hs]
    rcases q4f acc with hnil | hne
    · subst hnil
      simp only [q3a, q3c, q3b]
      repeat' (first | (show q1a ..; first | refine q0d ?_ | refine q0p rfl ?_) | (show q1f ..; first | refine q0n rfl rfl ?_ | refine q0h rfl ?_) | (show goOn ..; first | refine q0s ?_ | refine q0u ?_ | refine q0y ?_ | refine q1t ?_ | refine q1s ?_) | (show q1k ..; refine q0j ?_) | (show q0i ..; first | refine q0q ?_ | refine q0c ?_ | refine q0r ?_ | refine q0f ?_ | refine q0k ?_ | refine q0w ?_ | refine q0t ?_) | (show q1d ..; first | refine cd_t ?_ | refine cd_f ?_ | refine cd_n (fun _ => ?_) (fun _ => ?_) | refine cd_b (fun _ => ?_) (fun _ => ?_)) | refine q0a ?_ | refine q0m ?_ | refine q0l ?_ | refine q0v ?_ | refine q0g ?_ | refine q0x ?_ | refine bl_pass rfl ?_ | refine q1g ?_ | refine q1e ?_ | (show retQ ..; first | refine q0o ?_ | refine q0b ?_) | refine q0e ?_)
      rfl
    · simp only [q3p hne, q3r hne, q3q hne]
      repeat' (first | (show q1a ..; first | refine q0d ?_ | refine q0p rfl ?_) | (show q1f ..; first | refine q0n rfl rfl ?_ | refine q0h rfl ?_) | (show goOn ..; first | refine q0s ?_ | refine q0u ?_ | refine q0y ?_ | refine q1t ?_ | refine q1s ?_) | (show q1k ..; refine q0j ?_) | (show q0i ..; first | refine q0q ?_ | refine q0c ?_ | refine q0r ?_ | refine q0f ?_ | refine q0k ?_ | refine q0w ?_ | refine q0t ?_) | (show q1d ..; first | refine cd_t ?_ | refine cd_f ?_ | refine cd_n (fun _ => ?_) (fun _ => ?_) | refine cd_b (fun _ => ?_) (fun _ => ?_)) | refine q0a ?_ | refine q0m ?_ | refine q0l ?_ | refine q0v ?_ | refine q0g ?_ | refine q0x ?_ | refine bl_pass rfl ?_ | refine q1g ?_ | refine q1e ?_ | (show retQ ..; first | refine q0o ?_ | refine q0b ?_) | refine q0e ?_)
      rfl
theorem r14_uses (w : Wd) (o : Ob) (hf : FewW w) (hl : o.links.length ≤ 100000) : Pure Tryz.prog 120 [.agg (Wd.enc w), .agg (Ob.enc o)] (.int .i64 (usesR w o)) := by
  have hn20 := hf.n
  have hp := r13_pages o
  refine q2y (by kernel_rfl) (by simp only [go_sem, *]) (by simp only [go_sem, *]) Tryz.func120 Tryz.results120 rfl (by simp [Tryz.ntmps120]) (by kernel_rfl) ?_
  repeat' (first | (show q1a ..; first | refine q0d ?_ | refine q0p rfl ?_) | (show q1f ..; first | refine q0n rfl rfl ?_ | refine q0h rfl ?_) | (show goOn ..; first | refine q0s ?_ | refine q0u ?_ | refine q0y ?_) | (show q1k ..; refine q0j ?_) | (show q1u ..; (refine q0z (r := ?_) ?_ ?_; rotate_left 1; (focus exact hp))) | (show dr ..; first | refine q1l ?_ | refine dr_n rfl ?_) | (show drGo ..; first | refine q2i rfl ?_ | refine q1j rfl ?_) | (show drOn ..; first | refine q1m ?_ | refine q1q ?_ | refine q1p ?_) | (show q1o ..; refine q1b ?_) | (show q2h ..; (refine q1i (r := ?_) ?_ ?_; rotate_left 1; (focus exact hp))) | (refine And.intro (by kernel_rfl : q1r _ = true) ?_) | (show q0i ..; first | refine q0q ?_ | refine q0c ?_ | refine q1h (by kernel_rfl) ?_ | refine q0r ?_ | refine q0f ?_ | refine q0k ?_ | refine q0w ?_ | refine q0t ?_) | (show q1d ..; first | refine cd_t ?_ | refine cd_f ?_ | refine cd_n (fun _ => ?_) (fun _ => ?_) | refine cd_b (fun _ => ?_) (fun _ => ?_)) | refine q0a ?_ | refine q0m ?_ | refine q0l ?_ | refine q0v ?_ | refine q0g ?_ | refine q0x ?_ | refine bl_pass rfl ?_ | refine q1g ?_ | refine q1e ?_ | (show retQ ..; first | refine q0o ?_ | refine q0b ?_) | refine q0e ?_)
  refine q3g (S := Nat) (fun n => o.links.length - n) (fun n => n ≤ o.links.length) (fun n => [(2, .ptr 0 0), (3, .ptr 1 0), (5, .int .i64 (usesN w o n)), (6, .int .i64 n)]) (fun _ => [(0, .box (Wd.enc w)), (1, .box (Ob.enc o))]) (fun _ => 2) 0 (Nat.zero_le _) (by (refine q2q ?_ ?_ <;> repeat' (first | exact q2d | exact q2f | refine q1n (by (try simp only [go_sem, *]); try rfl) (by simp only [go_sem, *]) ?_ | refine q2g (by (try simp only [go_sem, *]); try rfl) (by omega) (by simp only [go_sem, *]) ?_ | refine q2e (by (try simp only [go_sem, *]); try rfl) (by omega) (by simp only [go_sem, *]) ?_))) ?_
  intro n hn
  rcases Nat.lt_or_ge n o.links.length with hlt | hge
  · obtain ⟨x, hx⟩ := q3j hlt
    have h0 := q3o hlt
    have h4 := q3d n (by omega)
    have h5 := uses_succ (w := w) hx
    have hfd := q5l w x (by omega)
    repeat' (first | (show q1a ..; first | refine q0d ?_ | refine q0p rfl ?_) | (show q1f ..; first | refine q0n rfl rfl ?_ | refine q0h rfl ?_) | (show goOn ..; first | refine q0s ?_ | refine q0u ?_ | refine q0y ?_) | (show q1k ..; refine q0j ?_) | (show q1u ..; (refine q0z (r := ?_) ?_ ?_; rotate_left 1; (focus exact hfd))) | (show dr ..; first | refine q1l ?_ | refine dr_n rfl ?_) | (show drGo ..; first | refine q2i rfl ?_ | refine q1j rfl ?_) | (show drOn ..; first | refine q1m ?_ | refine q1q ?_ | refine q1p ?_) | (show q1o ..; refine q1b ?_) | (show q2h ..; (refine q1i (r := ?_) ?_ ?_; rotate_left 1; (focus exact hfd))) | (refine And.intro (by kernel_rfl : q1r _ = true) ?_) | (show q0i ..; first | refine q0q ?_ | refine q0c ?_ | refine q1h (by kernel_rfl) ?_ | refine q0r ?_ | refine q0f ?_ | refine q0k ?_ | refine q0w ?_ | refine q0t ?_) | (show q1d ..; first | refine cd_t ?_ | refine cd_f ?_ | refine cd_n (fun _ => ?_) (fun _ => ?_) | refine cd_b (fun _ => ?_) (fun _ => ?_)) | refine q0a ?_ | refine q0m ?_ | refine q0l ?_ | refine q0v ?_ | refine q0g ?_ | refine q0x ?_ | refine bl_pass rfl ?_ | refine q1g ?_ | refine q1e ?_ | (show retQ ..; first | refine q0o ?_ | refine q0b ?_) | refine q0e ?_)
    exact again (n + 1) (show n + 1 ≤ o.links.length from hlt) (show o.links.length - (n + 1) < o.links.length - n by omega) (by (refine q2q ?_ ?_ <;> repeat' (first | exact q2d | exact q2f | refine q1n (by (try simp only [go_sem, *]); try rfl) (by simp only [go_sem, *]) ?_ | refine q2g (by (try simp only [go_sem, *]); try rfl) (by omega) (by simp only [go_sem, *]) ?_ | refine q2e (by (try simp only [go_sem, *]); try rfl) (by omega) (by simp only [go_sem, *]) ?_)))
  · have h0 := q2z hge
    have e : usesN w o n = usesR w o := by unfold usesN usesR; rw [List.take_of_length_le hge]
    repeat' (first | (show q1a ..; first | refine q0d ?_ | refine q0p rfl ?_) | (show q1f ..; first | refine q0n rfl rfl ?_ | refine q0h rfl ?_) | (show goOn ..; first | refine q0s ?_ | refine q0u ?_ | refine q0y ?_) | (show q1k ..; refine q0j ?_) | (show dr ..; first | refine q1l ?_ | refine dr_n rfl ?_) | (show drGo ..; first | refine q2i rfl ?_ | refine q1j rfl ?_) | (show drOn ..; first | refine q1m ?_ | refine q1q ?_ | refine q1p ?_) | (show q1o ..; refine q1b ?_) | (refine And.intro (by kernel_rfl : q1r _ = true) ?_) | (show q0i ..; first | refine q0q ?_ | refine q0c ?_ | refine q1h (by kernel_rfl) ?_ | refine q0r ?_ | refine q0f ?_ | refine q0k ?_ | refine q0w ?_ | refine q0t ?_) | (show q1d ..; first | refine cd_t ?_ | refine cd_f ?_ | refine cd_n (fun _ => ?_) (fun _ => ?_) | refine cd_b (fun _ => ?_) (fun _ => ?_)) | refine q0a ?_ | refine q0m ?_ | refine q0l ?_ | refine q0v ?_ | refine q0g ?_ | refine q0x ?_ | refine bl_pass rfl ?_ | refine q1g ?_ | refine q1e ?_ | (show retQ ..; first | refine q0o ?_ | refine q0b ?_) | refine q0e ?_)
    rfl
theorem r14_above (w : Wd) (id : Int) (hw : w.L) (hf : FewW w) : Pure Tryz.prog 171 [.agg (Wd.enc w), .int .u64 id] (.sl ((above w id).map u64)) := by
  have hn20 := hf.n
  obtain ⟨R, hR⟩ : ∃ R, R = above w id := ⟨_, rfl⟩
  have hR0 : q8i w (w.objects.length + 1) id [] = R := hR.symm
  rw [← hR]
  clear hR
  refine q2y (by kernel_rfl) (by simp only [go_sem, *]) (by simp only [go_sem, *]) Tryz.func171 Tryz.results171 rfl (by simp [Tryz.ntmps171]) (by kernel_rfl) ?_
  repeat' (first | (show q1a ..; first | refine q0d ?_ | refine q0p rfl ?_) | (show q1f ..; first | refine q0n rfl rfl ?_ | refine q0h rfl ?_) | (show goOn ..; first | refine q0s ?_ | refine q0u ?_ | refine q0y ?_ | refine q1t ?_ | refine q1s ?_) | (show q1k ..; refine q0j ?_) | (show q0i ..; first | refine q0q ?_ | refine q0c ?_ | refine q0r ?_ | refine q0f ?_ | refine q0k ?_ | refine q0w ?_ | refine q0t ?_) | (show q1d ..; first | refine cd_t ?_ | refine cd_f ?_ | refine cd_n (fun _ => ?_) (fun _ => ?_) | refine cd_b (fun _ => ?_) (fun _ => ?_)) | refine q0a ?_ | refine q0m ?_ | refine q0l ?_ | refine q0v ?_ | refine q0g ?_ | refine q0x ?_ | refine bl_pass rfl ?_ | refine q1g ?_ | refine q1e ?_ | (show retQ ..; first | refine q0o ?_ | refine q0b ?_) | refine q0e ?_)
  refine q3g (S := Int × List Int × Nat) (fun s => w.objects.length + 1 - s.2.1.length) (fun s => s.2.1.length ≤ w.objects.length + 1 ∧ 1 ≤ s.2.2 ∧ q8i w (w.objects.length + 1 - s.2.1.length) s.1 s.2.1 = R) (fun s => [(1, .int .u64 s.1), (2, .ptr 0 0), (5, accV s.2.2 s.2.1)]) (fun s => (0, .box (Wd.enc w)) :: accG s.2.2 22 1 u64 s.2.1) (fun s => accM 1 s.2.2 s.2.1) (id, [], 1) ⟨Nat.zero_le _, Nat.le_refl _, hR0⟩ (by simp only [q3a, q3c, q3b]; (refine q2q ?_ ?_ <;> repeat' (first | exact q2d | exact q2f | refine q1n (by (try simp only [go_sem, *]); try rfl) (by simp only [go_sem, *]) ?_ | refine q2g (by (try simp only [go_sem, *]); try rfl) (by omega) (by simp only [go_sem, *]) ?_ | refine q2e (by (try simp only [go_sem, *]); try rfl) (by omega) (by simp only [go_sem, *]) ?_))) ?_
  rintro ⟨i, acc, rid⟩ ⟨hn, hr, hs⟩
  simp only at hn hr hs
  have ha : acc.length < 1000000 := by omega
  have hb1 := q5r ha
  have hb2 := q6i (b := 8) ha (by decide)
  have i0 : (rid = 0) = False := eq_false (by omega)
  have i1 : (0 = rid) = False := eq_false (by omega)
  have hho := r14_holders w i hw hf
  have hhl := holders_len w i
  rcases Nat.lt_or_ge w.objects.length acc.length with hbig | hle
  · have hc : decide ((acc.length : Int) ≤ (w.objects.length : Int)) = false := decide_eq_false (by omega)
    have hRn : R = [] := by rw [← hs, show w.objects.length + 1 - acc.length = 0 by omega]; rfl
    subst hRn
    rcases q4f acc with hnil | hne
    · subst hnil; simp at hbig
    · clear hs hR0
      simp only [q3p hne, q3r hne, q3q hne]
      repeat' (first | (show q1a ..; first | refine q0d ?_ | refine q0p rfl ?_) | (show q1f ..; first | refine q0n rfl rfl ?_ | refine q0h rfl ?_) | (show goOn ..; first | refine q0s ?_ | refine q0u ?_ | refine q0y ?_ | refine q1t ?_ | refine q1s ?_) | (show q1k ..; refine q0j ?_) | (show q0i ..; first | refine q0q ?_ | refine q0c ?_ | refine q0r ?_ | refine q0f ?_ | refine q0k ?_ | refine q0w ?_ | refine q0t ?_) | (show q1d ..; first | refine cd_t ?_ | refine cd_f ?_ | refine cd_n (fun _ => ?_) (fun _ => ?_) | refine cd_b (fun _ => ?_) (fun _ => ?_)) | refine q0a ?_ | refine q0m ?_ | refine q0l ?_ | refine q0v ?_ | refine q0g ?_ | refine q0x ?_ | refine bl_pass rfl ?_ | refine q1g ?_ | refine q1e ?_ | (show retQ ..; first | refine q0o ?_ | refine q0b ?_) | refine q0e ?_)
      rfl
  · have hc : decide ((acc.length : Int) ≤ (w.objects.length : Int)) = true := decide_eq_true (by omega)
    have hc0 : decide (((0 : Nat) : Int) ≤ (w.objects.length : Int)) = true := decide_eq_true (by omega)
    obtain ⟨f, hfu⟩ : ∃ f, w.objects.length + 1 - acc.length = f + 1 := ⟨w.objects.length - acc.length, by omega⟩
    rw [hfu] at hs
    unfold q8i at hs
    cases hh : q5o w i with
    | nil =>
      rw [hh] at hho hs
      simp only at hs
      subst hs
      clear hh hR0 hfu
      rcases q4f acc with hnil | hne
      · subst hnil
        simp only [q3a, q3c, q3b]
        repeat' (first | (show q1a ..; first | refine q0d ?_ | refine q0p rfl ?_) | (show q1f ..; first | refine q0n rfl rfl ?_ | refine q0h rfl ?_) | (show goOn ..; first | refine q0s ?_ | refine q0u ?_ | refine q0y ?_ | refine q1t ?_ | refine q1s ?_) | (show q1k ..; refine q0j ?_) | (show q1u ..; (refine q0z (r := ?_) ?_ ?_; rotate_left 1; (focus exact hho))) | (show q0i ..; first | refine q0q ?_ | refine q0c ?_ | refine q0r ?_ | refine q0f ?_ | refine q0k ?_ | refine q0w ?_ | refine q0t ?_) | (show q1d ..; first | refine cd_t ?_ | refine cd_f ?_ | refine cd_n (fun _ => ?_) (fun _ => ?_) | refine cd_b (fun _ => ?_) (fun _ => ?_)) | refine q0a ?_ | refine q0m ?_ | refine q0l ?_ | refine q0v ?_ | refine q0g ?_ | refine q0x ?_ | refine bl_pass rfl ?_ | refine q1g ?_ | refine q1e ?_ | (show retQ ..; first | refine q0o ?_ | refine q0b ?_) | refine q0e ?_)
        all_goals rfl
      · simp only [q3p hne, q3r hne, q3q hne]
        repeat' (first | (show q1a ..; first | refine q0d ?_ | refine q0p rfl ?_) | (show q1f ..; first | refine q0n rfl rfl ?_ | refine q0h rfl ?_) | (show goOn ..; first | refine q0s ?_ | refine q0u ?_ | refine q0y ?_ | refine q1t ?_ | refine q1s ?_) | (show q1k ..; refine q0j ?_) | (show q1u ..; (refine q0z (r := ?_) ?_ ?_; rotate_left 1; (focus exact hho))) | (show q0i ..; first | refine q0q ?_ | refine q0c ?_ | refine q0r ?_ | refine q0f ?_ | refine q0k ?_ | refine q0w ?_ | refine q0t ?_) | (show q1d ..; first | refine cd_t ?_ | refine cd_f ?_ | refine cd_n (fun _ => ?_) (fun _ => ?_) | refine cd_b (fun _ => ?_) (fun _ => ?_)) | refine q0a ?_ | refine q0m ?_ | refine q0l ?_ | refine q0v ?_ | refine q0g ?_ | refine q0x ?_ | refine bl_pass rfl ?_ | refine q1g ?_ | refine q1e ?_ | (show retQ ..; first | refine q0o ?_ | refine q0b ?_) | refine q0e ?_)
        all_goals rfl
    | cons h t =>
      rw [hh] at hho hs
      simp only at hs
      have hz : (((h :: t).length : Int) == 0) = false := by simp; omega
      have hx0 : (h :: t)[0]? = some h := rfl
      clear hh hR0
      generalize h :: t = L at hho hz hx0
      rcases q4f acc with hnil | hne
      · subst hnil
        simp only [q3a, q3c, q3b]
        repeat' (first | (show q1a ..; first | refine q0d ?_ | refine q0p rfl ?_) | (show q1f ..; first | refine q0n rfl rfl ?_ | refine q0h rfl ?_) | (show goOn ..; first | refine q0s ?_ | refine q0u ?_ | refine q0y ?_ | refine q1t ?_ | refine q1s ?_) | (show q1k ..; refine q0j ?_) | (show q1u ..; (refine q0z (r := ?_) ?_ ?_; rotate_left 1; (focus exact hho))) | (show q0i ..; first | refine q0q ?_ | refine q0c ?_ | refine q0r ?_ | refine q0f ?_ | refine q0k ?_ | refine q0w ?_ | refine q0t ?_) | (show q1d ..; first | refine cd_t ?_ | refine cd_f ?_ | refine cd_n (fun _ => ?_) (fun _ => ?_) | refine cd_b (fun _ => ?_) (fun _ => ?_)) | refine q0a ?_ | refine q0m ?_ | refine q0l ?_ | refine q0v ?_ | refine q0g ?_ | refine q0x ?_ | refine bl_pass rfl ?_ | refine q1g ?_ | refine q1e ?_ | (show retQ ..; first | refine q0o ?_ | refine q0b ?_) | refine q0e ?_)
        refine again (h, [] ++ [h], 1) ⟨(by simp), Nat.le_refl _, by rw [← hs]; congr 1; simp only [List.length_nil, List.nil_append, List.length_cons] at hfu ⊢; omega⟩ (by simp) ?_
        simp only [q3k, q3m, q3l]
        (refine q2q ?_ ?_ <;> repeat' (first | exact q2d | exact q2f | refine q1n (by (try simp only [go_sem, *]); try rfl) (by simp only [go_sem, *]) ?_ | refine q2g (by (try simp only [go_sem, *]); try rfl) (by omega) (by simp only [go_sem, *]) ?_ | refine q2e (by (try simp only [go_sem, *]); try rfl) (by omega) (by simp only [go_sem, *]) ?_))
      · simp only [q3p hne, q3r hne, q3q hne]
        repeat' (first | (show q1a ..; first | refine q0d ?_ | refine q0p rfl ?_) | (show q1f ..; first | refine q0n rfl rfl ?_ | refine q0h rfl ?_) | (show goOn ..; first | refine q0s ?_ | refine q0u ?_ | refine q0y ?_ | refine q1t ?_ | refine q1s ?_) | (show q1k ..; refine q0j ?_) | (show q1u ..; (refine q0z (r := ?_) ?_ ?_; rotate_left 1; (focus exact hho))) | (show q0i ..; first | refine q0q ?_ | refine q0c ?_ | refine q0r ?_ | refine q0f ?_ | refine q0k ?_ | refine q0w ?_ | refine q0t ?_) | (show q1d ..; first | refine cd_t ?_ | refine cd_f ?_ | refine cd_n (fun _ => ?_) (fun _ => ?_) | refine cd_b (fun _ => ?_) (fun _ => ?_)) | refine q0a ?_ | refine q0m ?_ | refine q0l ?_ | refine q0v ?_ | refine q0g ?_ | refine q0x ?_ | refine bl_pass rfl ?_ | refine q1g ?_ | refine q1e ?_ | (show retQ ..; first | refine q0o ?_ | refine q0b ?_) | refine q0e ?_)
        refine again (h, acc ++ [h], rid) ⟨(by simp only [List.length_append, List.length_cons, List.length_nil]; omega), hr, by rw [← hs]; congr 1; simp only [List.length_append, List.length_cons, List.length_nil]; omega⟩ (by simp only [List.length_append, List.length_cons, List.length_nil]; omega) ?_
        simp only [q3k, q3m, q3l]
        (refine q2q ?_ ?_ <;> repeat' (first | exact q2d | exact q2f | refine q1n (by (try simp only [go_sem, *]); try rfl) (by simp only [go_sem, *]) ?_ | refine q2g (by (try simp only [go_sem, *]); try rfl) (by omega) (by simp only [go_sem, *]) ?_ | refine q2e (by (try simp only [go_sem, *]); try rfl) (by omega) (by simp only [go_sem, *]) ?_))
theorem r14_up (w : Wd) (id : Int) (hw : w.L) (hf : FewW w) : Pure Tryz.prog 122 [.agg (Wd.enc w), .int .u64 id] (.bool (upR w id)) := by
  have hab := r14_above w id hw hf
  have hlen := above_len w id
  have hn20 := hf.n
  unfold upR
  generalize above w id = l at hab hlen
  rcases q4f l with hnil | hne
  · subst hnil
    have e1 : (((0 : Nat) : Int) == 0) = true := rfl
    have e2 : decide (((0 : Nat) : Int) > 0) = false := rfl
    refine q2y (by kernel_rfl) (by simp only [go_sem, *]) (by simp only [go_sem, *]) Tryz.func122 Tryz.results122 rfl (by simp [Tryz.ntmps122]) (by kernel_rfl) ?_
    repeat' (first | (show q1a ..; first | refine q0d ?_ | refine q0p rfl ?_ | refine q1c rfl rfl ?_) | (show q1f ..; first | refine q0n rfl rfl ?_ | refine q0h rfl ?_) | (show goOn ..; first | refine q0s ?_ | refine q0u ?_ | refine q0y ?_) | (show q1k ..; refine q0j ?_) | (show q1u ..; (refine q0z (r := ?_) ?_ ?_; rotate_left 1; (focus exact hab))) | (show wGo ..; first | refine q1v ?_ | refine q2b ?_ | refine q1x ?_ | refine q1z ?_ | refine gw_u ?_ | refine q1w (fun _ => ?_) (fun _ => ?_) | refine q2a (fun _ => ?_) (fun _ => ?_) | refine q1y (fun _ => ?_) (fun _ => ?_) | refine q2c (fun _ => ?_) (fun _ => ?_)) | (show dr ..; first | refine q1l ?_ | refine dr_n rfl ?_ | refine q2t rfl rfl ?_) | (show drGo ..; first | refine q2i rfl ?_ | refine q1j rfl ?_) | (show drOn ..; first | refine q1m ?_ | refine q1q ?_ | refine q1p ?_) | (show q1o ..; refine q1b ?_) | (show q2h ..; (refine q1i (r := ?_) ?_ ?_; rotate_left 1; (focus exact hab))) | (refine And.intro (by kernel_rfl : q1r _ = true) ?_) | (show q0i ..; first | refine q0q ?_ | refine q0c ?_ | refine q1h (by kernel_rfl) ?_ | refine q0r ?_ | refine q0f ?_) | refine q0a ?_ | refine q0m ?_ | refine q0l ?_ | (show retQ ..; first | refine q0o ?_ | refine q0b ?_) | refine q0e ?_)
    all_goals (refine q2w ?_; simp [*])
  · have hpos : 0 < l.length := List.length_pos_iff.2 hne
    obtain ⟨z, hz⟩ := q3j (by omega : l.length - 1 < l.length)
    have e1 : ((l.length : Int) == 0) = false := by simp; omega
    have e2 : decide ((l.length : Int) > 0) = true := decide_eq_true (by omega)
    have e3 : IntKind.i64.wrap ((l.length : Int) - 1) = ((l.length - 1 : Nat) : Int) := by rw [IntKind.wrap_i64]; omega
    have e4 : (l.length == 0) = false := by simp; omega
    rw [hz, e4]
    refine q2y (by kernel_rfl) (by simp only [go_sem, *]) (by simp only [go_sem, *]) Tryz.func122 Tryz.results122 rfl (by simp [Tryz.ntmps122]) (by kernel_rfl) ?_
    repeat' (first | (show q1a ..; first | refine q0d ?_ | refine q0p rfl ?_ | refine q1c rfl rfl ?_) | (show q1f ..; first | refine q0n rfl rfl ?_ | refine q0h rfl ?_) | (show goOn ..; first | refine q0s ?_ | refine q0u ?_ | refine q0y ?_) | (show q1k ..; refine q0j ?_) | (show q1u ..; (refine q0z (r := ?_) ?_ ?_; rotate_left 1; (focus exact hab))) | (show wGo ..; first | refine q1v ?_ | refine q2b ?_ | refine q1x ?_ | refine q1z ?_ | refine gw_u ?_ | refine q1w (fun _ => ?_) (fun _ => ?_) | refine q2a (fun _ => ?_) (fun _ => ?_) | refine q1y (fun _ => ?_) (fun _ => ?_) | refine q2c (fun _ => ?_) (fun _ => ?_)) | (show dr ..; first | refine q1l ?_ | refine dr_n rfl ?_ | refine q2t rfl rfl ?_) | (show drGo ..; first | refine q2i rfl ?_ | refine q1j rfl ?_) | (show drOn ..; first | refine q1m ?_ | refine q1q ?_ | refine q1p ?_) | (show q1o ..; refine q1b ?_) | (show q2h ..; (refine q1i (r := ?_) ?_ ?_; rotate_left 1; (focus exact hab))) | (refine And.intro (by kernel_rfl : q1r _ = true) ?_) | (show q0i ..; first | refine q0q ?_ | refine q0c ?_ | refine q1h (by kernel_rfl) ?_ | refine q0r ?_ | refine q0f ?_) | refine q0a ?_ | refine q0m ?_ | refine q0l ?_ | (show retQ ..; first | refine q0o ?_ | refine q0b ?_) | refine q0e ?_)
    all_goals (refine q2w ?_; simp [*])
theorem r14_placed (w : Wd) (o : Ob) (hw : w.L) (hf : FewW w) : Pure Tryz.prog 72 [.agg (Wd.enc w), .agg (Ob.enc o)] (.bool (q7k w o)) := by
  have hho := r14_holders w o.id hw hf
  have hup := r14_up w o.id hw hf
  unfold q7k
  generalize q5o w o.id = l at hho
  generalize upR w o.id = u at hup
  refine q2y (by kernel_rfl) (by simp only [go_sem, *]) (by simp only [go_sem, *]) Tryz.func72 Tryz.results72 rfl (by simp [Tryz.ntmps72]) (by kernel_rfl) ?_
  repeat' (first | (show q1a ..; first | refine q0d ?_ | refine q0p rfl ?_ | refine q1c rfl rfl ?_) | (show q1f ..; first | refine q0n rfl rfl ?_ | refine q0h rfl ?_) | (show goOn ..; first | refine q0s ?_ | refine q0u ?_ | refine q0y ?_) | (show q1k ..; refine q0j ?_) | (show q1u ..; (refine q0z (r := ?_) ?_ ?_; rotate_left 1; (focus first | exact hho | exact hup))) | (show wGo ..; first | refine q1v ?_ | refine q2b ?_ | refine q1x ?_ | refine q1z ?_ | refine gw_u ?_ | refine q1w (fun _ => ?_) (fun _ => ?_) | refine q2a (fun _ => ?_) (fun _ => ?_) | refine q1y (fun _ => ?_) (fun _ => ?_) | refine q2c (fun _ => ?_) (fun _ => ?_)) | (show q0i ..; first | refine q0q ?_ | refine q0c ?_ | refine q0r ?_ | refine q0f ?_ | refine q0t ?_) | (show q1d ..; first | refine cd_t ?_ | refine cd_f ?_ | refine cd_n (fun _ => ?_) (fun _ => ?_) | refine cd_b (fun _ => ?_) (fun _ => ?_)) | refine q0a ?_ | refine q0m ?_ | refine q0l ?_ | (show retQ ..; first | refine q0o ?_ | refine q0b ?_) | refine q0e ?_)
  all_goals (refine q2w ?_; first | (simp only [*, Bool.not_true, Bool.not_false, Bool.and_true, Bool.true_and, Bool.and_false, Bool.false_and, Bool.or_true, Bool.true_or, Bool.or_false, Bool.false_or, Bool.and_self, Bool.or_self, decide_true, decide_false, Bool.not_not, if_true, if_false, Bool.false_eq_true, eq_self]; done) | (simp [*]; done) | (simp_all; done))
end Go.Proofs.YteibeoipnjhicaaGreat
