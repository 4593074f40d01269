import Derived.Test.YteibeoipnjhicaaGreatEc3
import Derived.Test.YteibeoipnjhicaaGreatRz1
namespace Go.Proofs.YteibeoipnjhicaaGreat
open Go Go.RowKit
set_option linter.unusedVariables false
set_option linter.unusedSimpArgs false
set_option maxHeartbeats 16000000
set_option maxRecDepth 100000
structure FewW (w : Wd) : Prop where
  n : w.objects.length ≤ 24
  ob : ∀ x ∈ w.objects, x.label.length ≤ 20 ∧ x.links.length ≤ 70 ∧ x.data.length ≤ 300 ∧ x.maps.length ≤ 20
theorem sidx {α : Type} {l : List α} {n : Nat} {x : α} (h : l[n]? = some x) : x ∈ l := List.mem_of_getElem? h
def q5l (w : Wd) (id : Int) : List Int := (w.objects.filter fun o => o.links.any (· == id)).map Ob.id
def holdN (l : List Ob) (id : Int) (n : Nat) : List Int := ((l.take n).filter fun o => o.links.any (· == id)).map Ob.id
theorem hold_yes {l : List Ob} {id : Int} {n : Nat} {x : Ob} (hx : l[n]? = some x) (h : x.links.any (· == id) = true) : holdN l id (n + 1) = holdN l id n ++ [x.id] := by
  unfold holdN; rw [q4v hx, List.filter_append, List.filter_cons, if_pos h, List.filter_nil, List.map_append]; rfl
theorem hold_no {l : List Ob} {id : Int} {n : Nat} {x : Ob} (hx : l[n]? = some x) (h : x.links.any (· == id) = false) : holdN l id (n + 1) = holdN l id n := by
  unfold holdN; rw [q4v hx, List.filter_append, List.filter_cons, if_neg (by rw [h]; simp), List.filter_nil, List.append_nil]
theorem hold_len (l : List Ob) (id : Int) (n : Nat) : (holdN l id n).length ≤ l.length := by
  unfold holdN
  rw [List.length_map]
  refine Nat.le_trans (List.length_filter_le _ _) ?_
  rw [List.length_take]; omega
theorem hold_all (w : Wd) (id : Int) {n : Nat} (h : w.objects.length ≤ n) : holdN w.objects id n = q5l w id := by unfold holdN q5l; rw [List.take_of_length_le h]
theorem holders_len (w : Wd) (id : Int) : (q5l w id).length ≤ w.objects.length := by rw [← hold_all w id (Nat.le_refl _)]; exact hold_len _ _ _
def usesR (w : Wd) (o : Ob) : Int := o.links.foldl (fun s id => IntKind.i64.wrap (s + (q4b w id).1.quota)) (pagesR o)
def usesN (w : Wd) (o : Ob) (n : Nat) : Int := (o.links.take n).foldl (fun s id => IntKind.i64.wrap (s + (q4b w id).1.quota)) (pagesR o)
theorem uses_succ {w : Wd} {o : Ob} {n : Nat} {x : Int} (hx : o.links[n]? = some x) : usesN w o (n + 1) = IntKind.i64.wrap (usesN w o n + (q4b w x).1.quota) := by
  unfold usesN; rw [q4v hx, List.foldl_append]; rfl
def aboveG (w : Wd) : Nat → Int → List Int → List Int
  | 0, _, _ => []
  | f + 1, id, out => match q5l w id with
    | [] => out
    | h :: _ => aboveG w f h (out ++ [h])
def above (w : Wd) (id : Int) : List Int := aboveG w (w.objects.length + 1) id []
theorem aboveG_len (w : Wd) : ∀ (f : Nat) (id : Int) (out : List Int), (aboveG w f id out).length ≤ out.length + f
  | 0, _, _ => Nat.zero_le _
  | f + 1, id, out => by
    unfold aboveG
    split
    · omega
    · rename_i h t _
      have := aboveG_len w f h (out ++ [h])
      simp only [List.length_append, List.length_cons, List.length_nil] at this
      omega
theorem above_len (w : Wd) (id : Int) : (above w id).length ≤ w.objects.length + 1 := by have := aboveG_len w (w.objects.length + 1) id []; unfold above; simpa using this
def upR (w : Wd) (id : Int) : Bool := ((id == w.root) && ((above w id).length == 0)) || (match (above w id)[(above w id).length - 1]? with
  | some z => z == w.root
  | none => false)
def placedR (w : Wd) (o : Ob) : Bool :=
  if (o.id == w.root) = true then ((((q5l w o.id).length : Int) == 0) && ((o.kind == 2) && decide (o.quota ≤ 1024)))
  else if (decide (((q5l w o.id).length : Int) < 1) || (decide (((q5l w o.id).length : Int) > 1) && (!o.fixed || (o.kind == 2) || (o.kind == 4)))) = true then false
  else (o.kind != 2) || upR w o.id
attribute [local irreducible] q0x dr q0g Ex.then Ex.inBlock retQ q1x q3g q3e Pure CSat evOp q2o rdOf upd hset strip sp0 cut envL q2u q4j Keep BdL evBs q3m q4g
theorem r14_has (l : List Int) (n : Int) (hl : l.length ≤ 9223372036854775807) : Pure Tryz.prog 170 [.sl (l.map u64), .int .u64 n] (.bool (l.any (· == n))) := by
  refine q2i (by kernel_rfl) (by simp only [go_sem, *]) (by simp only [go_sem, *]) Tryz.func170 Tryz.results170 rfl (by simp [Tryz.ntmps170]) (by kernel_rfl) ?_
  repeat' (first | (show q0x ..; first | refine q0d ?_ | refine q0p rfl ?_) | (show q1d ..; refine q0n rfl rfl ?_) | (show goOn ..; refine q0s ?_) | (show q0g ..; first | refine q0q ?_ | refine q0c ?_ | refine q0r ?_ | refine q0f ?_ | refine q0t ?_ | refine q1b ?_ | refine q0k ?_) | (show q0y ..; first | refine cd_t ?_ | refine cd_f ?_ | refine cd_n (fun _ => ?_) (fun _ => ?_) | refine cd_b (fun _ => ?_) (fun _ => ?_)) | refine q0a ?_ | refine q0m ?_ | refine q0l ?_ | refine q1a ?_ | refine q0j ?_ | refine q1c ?_ | refine bl_pass rfl ?_ | refine q1f ?_ | refine bl_pan ?_ | (show retQ ..; first | refine q0o ?_ | refine q0b ?_) | refine q0e ?_)
  refine q3l (S := Nat) (fun k => l.length - k) (fun k => k ≤ l.length ∧ ∀ j, j < k → ∀ y, l[j]? = some y → (y == n) = false) (fun k => [(0, .sl (l.map u64)), (1, .int .u64 n), (5, .int .i64 k)]) (fun _ => []) (fun _ => 0) 0 ⟨Nat.zero_le _, fun j hj => absurd hj (Nat.not_lt_zero j)⟩ (by (refine q2q ?_ ?_ <;> repeat' (first | exact q2a | exact q2c | refine q1i (by (try simp only [go_sem, *]); try rfl) (by simp only [go_sem, *]) ?_ | refine q2d (by (try simp only [go_sem, *]); try rfl) (by omega) (by simp only [go_sem, *]) ?_ | refine q2b (by (try simp only [go_sem, *]); try rfl) (by omega) (by simp only [go_sem, *]) ?_))) ?_
  rintro k ⟨hk, hs⟩
  rcases Nat.lt_or_ge k l.length with hlt | hge
  · obtain ⟨x, hx⟩ := q3d hlt
    have h0 := q3k hlt
    have h4 := q3f k (by omega)
    repeat' (first | (show q0x ..; first | refine q0d ?_ | refine q0p rfl ?_) | (show q1d ..; refine q0n rfl rfl ?_) | (show goOn ..; refine q0s ?_) | (show q0g ..; first | refine q0q ?_ | refine q0c ?_ | refine q0r ?_ | refine q0f ?_ | refine q0t ?_ | refine q1b ?_ | refine q0k ?_) | (show q0y ..; first | refine cd_t ?_ | refine cd_f ?_ | refine cd_n (fun _ => ?_) (fun _ => ?_) | refine cd_b (fun _ => ?_) (fun _ => ?_)) | refine q0a ?_ | refine q0m ?_ | refine q0l ?_ | refine q1a ?_ | refine q0j ?_ | refine q1c ?_ | refine bl_pass rfl ?_ | refine q1f ?_ | refine bl_pan ?_ | (show retQ ..; first | refine q0o ?_ | refine q0b ?_) | refine q0e ?_)
    all_goals rename_i hc
    · refine q2s ?_
      symm
      exact List.any_eq_true.2 ⟨x, sidx hx, hc⟩
    · exact again (k + 1) ⟨by omega, none_to hx hs hc⟩ (by omega) (by (refine q2q ?_ ?_ <;> repeat' (first | exact q2a | exact q2c | refine q1i (by (try simp only [go_sem, *]); try rfl) (by simp only [go_sem, *]) ?_ | refine q2d (by (try simp only [go_sem, *]); try rfl) (by omega) (by simp only [go_sem, *]) ?_ | refine q2b (by (try simp only [go_sem, *]); try rfl) (by omega) (by simp only [go_sem, *]) ?_)))
  · have h0 := q3a hge
    repeat' (first | (show q0x ..; first | refine q0d ?_ | refine q0p rfl ?_) | (show q1d ..; refine q0n rfl rfl ?_) | (show goOn ..; refine q0s ?_) | (show q0g ..; first | refine q0q ?_ | refine q0c ?_ | refine q0r ?_ | refine q0f ?_ | refine q0t ?_ | refine q1b ?_ | refine q0k ?_) | (show q0y ..; first | refine cd_t ?_ | refine cd_f ?_ | refine cd_n (fun _ => ?_) (fun _ => ?_) | refine cd_b (fun _ => ?_) (fun _ => ?_)) | refine q0a ?_ | refine q0m ?_ | refine q0l ?_ | refine q1a ?_ | refine q0j ?_ | refine q1c ?_ | refine bl_pass rfl ?_ | refine q1f ?_ | refine bl_pan ?_ | (show retQ ..; first | refine q0o ?_ | refine q0b ?_) | refine q0e ?_)
    refine q2s ?_
    symm
    rw [List.any_eq_false]
    intro x hx
    obtain ⟨j, hj⟩ := List.getElem?_of_mem hx
    rw [hs j (by have := q4t hj; omega) x hj]; simp
theorem r14_holders (w : Wd) (id : Int) (hw : w.L) (hf : FewW w) : Pure Tryz.prog 121 [.agg (Wd.enc w), .int .u64 id] (.sl ((q5l w id).map u64)) := by
  have hn20 := hf.n
  refine q2i (by kernel_rfl) (by simp only [go_sem, *]) (by simp only [go_sem, *]) Tryz.func121 Tryz.results121 rfl (by simp [Tryz.ntmps121]) (by kernel_rfl) ?_
  repeat' (first | (show q0x ..; first | refine q0d ?_ | refine q0p rfl ?_) | (show q1d ..; first | refine q0n rfl rfl ?_ | refine q0h rfl ?_) | (show goOn ..; first | refine q0s ?_ | refine q0v ?_ | refine q0w ?_ | refine q2k ?_ | refine q2j ?_) | (show q1g ..; refine q0i ?_) | (show q0g ..; first | refine q0q ?_ | refine q0c ?_ | refine q0r ?_ | refine q0f ?_ | refine q0t ?_ | refine q1b ?_ | refine q0k ?_) | (show q0y ..; first | refine cd_t ?_ | refine cd_f ?_ | refine cd_n (fun _ => ?_) (fun _ => ?_) | refine cd_b (fun _ => ?_) (fun _ => ?_)) | refine q0a ?_ | refine q0m ?_ | refine q0l ?_ | refine q1a ?_ | refine q0j ?_ | refine q1c ?_ | refine bl_pass rfl ?_ | refine q1f ?_ | refine bl_pan ?_ | (show retQ ..; first | refine q0o ?_ | refine q0b ?_) | refine q0e ?_)
  refine q3l (S := Nat × List Int × Nat) (fun s => w.objects.length - s.1) (fun s => s.1 ≤ w.objects.length ∧ 1 ≤ s.2.2 ∧ holdN w.objects id s.1 = s.2.1) (fun s => [(1, .int .u64 id), (2, .ptr 0 0), (5, accV s.2.2 s.2.1), (6, .int .i64 s.1)]) (fun s => (0, .box (Wd.enc w)) :: accG s.2.2 22 1 u64 s.2.1) (fun s => accM 1 s.2.2 s.2.1) (0, [], 1) ⟨Nat.zero_le _, Nat.le_refl _, rfl⟩ (by simp only [q2w, q2y, q2x]; (refine q2q ?_ ?_ <;> repeat' (first | exact q2a | exact q2c | refine q1i (by (try simp only [go_sem, *]); try rfl) (by simp only [go_sem, *]) ?_ | refine q2d (by (try simp only [go_sem, *]); try rfl) (by omega) (by simp only [go_sem, *]) ?_ | refine q2b (by (try simp only [go_sem, *]); try rfl) (by omega) (by simp only [go_sem, *]) ?_))) ?_
  rintro ⟨n, acc, rid⟩ ⟨hn, hr, hs⟩
  simp only at hn hr hs
  have ha : acc.length < 1000000 := by rw [← hs]; have := hold_len w.objects id n; omega
  have hb1 := app_max ha
  have hb2 := app_by (b := 8) ha (by decide)
  have i0 : (rid = 0) = False := eq_false (by omega)
  have i1 : (0 = rid) = False := eq_false (by omega)
  rcases Nat.lt_or_ge n w.objects.length with hlt | hge
  · obtain ⟨x, hx⟩ := q3d hlt
    have h0 := q3k hlt
    have h4 := q3f n (by omega)
    have hh := r14_has x.links id (hw.2 x (sidx hx)).1.2.1
    cases hc : x.links.any (· == id) with
    | true =>
      rw [hc] at hh
      have hs' := hold_yes hx hc
      rw [hs] at hs'
      rcases q4o acc with hnil | hne
      · subst hnil
        simp only [q2w, q2y, q2x]
        repeat' (first | (show q0x ..; first | refine q0d ?_ | refine q0p rfl ?_) | (show q1d ..; first | refine q0n rfl rfl ?_ | refine q0h rfl ?_) | (show goOn ..; first | refine q0s ?_ | refine q0v ?_ | refine q0w ?_ | refine q2k ?_ | refine q2j ?_) | (show q1g ..; refine q0i ?_) | (show q1j ..; (refine q0u (r := ?_) ?_ ?_; rotate_left 1; (focus exact hh))) | (show q0g ..; first | refine q0q ?_ | refine q0c ?_ | refine q0r ?_ | refine q0f ?_ | refine q0t ?_ | refine q1b ?_ | refine q0k ?_) | (show q0y ..; first | refine cd_t ?_ | refine cd_f ?_ | refine cd_n (fun _ => ?_) (fun _ => ?_) | refine cd_b (fun _ => ?_) (fun _ => ?_)) | refine q0a ?_ | refine q0m ?_ | refine q0l ?_ | refine q1a ?_ | refine q0j ?_ | refine q1c ?_ | refine bl_pass rfl ?_ | refine q1f ?_ | refine bl_pan ?_ | (show retQ ..; first | refine q0o ?_ | refine q0b ?_) | refine q0e ?_)
        refine again (n + 1, [] ++ [x.id], 1) ⟨hlt, Nat.le_refl _, hs'⟩ (by simp only; omega) ?_
        simp only [q3h, q3j, q3i]
        (refine q2q ?_ ?_ <;> repeat' (first | exact q2a | exact q2c | refine q1i (by (try simp only [go_sem, *]); try rfl) (by simp only [go_sem, *]) ?_ | refine q2d (by (try simp only [go_sem, *]); try rfl) (by omega) (by simp only [go_sem, *]) ?_ | refine q2b (by (try simp only [go_sem, *]); try rfl) (by omega) (by simp only [go_sem, *]) ?_))
      · simp only [q3q hne, q3s hne, q3r hne]
        repeat' (first | (show q0x ..; first | refine q0d ?_ | refine q0p rfl ?_) | (show q1d ..; first | refine q0n rfl rfl ?_ | refine q0h rfl ?_) | (show goOn ..; first | refine q0s ?_ | refine q0v ?_ | refine q0w ?_ | refine q2k ?_ | refine q2j ?_) | (show q1g ..; refine q0i ?_) | (show q1j ..; (refine q0u (r := ?_) ?_ ?_; rotate_left 1; (focus exact hh))) | (show q0g ..; first | refine q0q ?_ | refine q0c ?_ | refine q0r ?_ | refine q0f ?_ | refine q0t ?_ | refine q1b ?_ | refine q0k ?_) | (show q0y ..; first | refine cd_t ?_ | refine cd_f ?_ | refine cd_n (fun _ => ?_) (fun _ => ?_) | refine cd_b (fun _ => ?_) (fun _ => ?_)) | refine q0a ?_ | refine q0m ?_ | refine q0l ?_ | refine q1a ?_ | refine q0j ?_ | refine q1c ?_ | refine bl_pass rfl ?_ | refine q1f ?_ | refine bl_pan ?_ | (show retQ ..; first | refine q0o ?_ | refine q0b ?_) | refine q0e ?_)
        refine again (n + 1, acc ++ [x.id], rid) ⟨hlt, hr, hs'⟩ (by simp only; omega) ?_
        simp only [q3h, q3j, q3i]
        (refine q2q ?_ ?_ <;> repeat' (first | exact q2a | exact q2c | refine q1i (by (try simp only [go_sem, *]); try rfl) (by simp only [go_sem, *]) ?_ | refine q2d (by (try simp only [go_sem, *]); try rfl) (by omega) (by simp only [go_sem, *]) ?_ | refine q2b (by (try simp only [go_sem, *]); try rfl) (by omega) (by simp only [go_sem, *]) ?_))
    | false =>
      rw [hc] at hh
      have hs' := hold_no hx hc
      rw [hs] at hs'
      rcases q4o acc with hnil | hne
      · subst hnil
        simp only [q2w, q2y, q2x]
        repeat' (first | (show q0x ..; first | refine q0d ?_ | refine q0p rfl ?_) | (show q1d ..; first | refine q0n rfl rfl ?_ | refine q0h rfl ?_) | (show goOn ..; first | refine q0s ?_ | refine q0v ?_ | refine q0w ?_ | refine q2k ?_ | refine q2j ?_) | (show q1g ..; refine q0i ?_) | (show q1j ..; (refine q0u (r := ?_) ?_ ?_; rotate_left 1; (focus exact hh))) | (show q0g ..; first | refine q0q ?_ | refine q0c ?_ | refine q0r ?_ | refine q0f ?_ | refine q0t ?_ | refine q1b ?_ | refine q0k ?_) | (show q0y ..; first | refine cd_t ?_ | refine cd_f ?_ | refine cd_n (fun _ => ?_) (fun _ => ?_) | refine cd_b (fun _ => ?_) (fun _ => ?_)) | refine q0a ?_ | refine q0m ?_ | refine q0l ?_ | refine q1a ?_ | refine q0j ?_ | refine q1c ?_ | refine bl_pass rfl ?_ | refine q1f ?_ | refine bl_pan ?_ | (show retQ ..; first | refine q0o ?_ | refine q0b ?_) | refine q0e ?_)
        refine again (n + 1, [], 1) ⟨hlt, Nat.le_refl _, hs'⟩ (by simp only; omega) ?_
        simp only [q2w, q2y, q2x]
        (refine q2q ?_ ?_ <;> repeat' (first | exact q2a | exact q2c | refine q1i (by (try simp only [go_sem, *]); try rfl) (by simp only [go_sem, *]) ?_ | refine q2d (by (try simp only [go_sem, *]); try rfl) (by omega) (by simp only [go_sem, *]) ?_ | refine q2b (by (try simp only [go_sem, *]); try rfl) (by omega) (by simp only [go_sem, *]) ?_))
      · simp only [q3q hne, q3s hne, q3r hne]
        repeat' (first | (show q0x ..; first | refine q0d ?_ | refine q0p rfl ?_) | (show q1d ..; first | refine q0n rfl rfl ?_ | refine q0h rfl ?_) | (show goOn ..; first | refine q0s ?_ | refine q0v ?_ | refine q0w ?_ | refine q2k ?_ | refine q2j ?_) | (show q1g ..; refine q0i ?_) | (show q1j ..; (refine q0u (r := ?_) ?_ ?_; rotate_left 1; (focus exact hh))) | (show q0g ..; first | refine q0q ?_ | refine q0c ?_ | refine q0r ?_ | refine q0f ?_ | refine q0t ?_ | refine q1b ?_ | refine q0k ?_) | (show q0y ..; first | refine cd_t ?_ | refine cd_f ?_ | refine cd_n (fun _ => ?_) (fun _ => ?_) | refine cd_b (fun _ => ?_) (fun _ => ?_)) | refine q0a ?_ | refine q0m ?_ | refine q0l ?_ | refine q1a ?_ | refine q0j ?_ | refine q1c ?_ | refine bl_pass rfl ?_ | refine q1f ?_ | refine bl_pan ?_ | (show retQ ..; first | refine q0o ?_ | refine q0b ?_) | refine q0e ?_)
        refine again (n + 1, acc, rid) ⟨hlt, hr, hs'⟩ (by simp only; omega) ?_
        simp only [q3q hne, q3s hne, q3r hne]
        (refine q2q ?_ ?_ <;> repeat' (first | exact q2a | exact q2c | refine q1i (by (try simp only [go_sem, *]); try rfl) (by simp only [go_sem, *]) ?_ | refine q2d (by (try simp only [go_sem, *]); try rfl) (by omega) (by simp only [go_sem, *]) ?_ | refine q2b (by (try simp only [go_sem, *]); try rfl) (by omega) (by simp only [go_sem, *]) ?_))
  · have h0 := q3a hge
    rw [hold_all w id hge] at hs
    rw [hs]
    rcases q4o acc with hnil | hne
    · subst hnil
      simp only [q2w, q2y, q2x]
      repeat' (first | (show q0x ..; first | refine q0d ?_ | refine q0p rfl ?_) | (show q1d ..; first | refine q0n rfl rfl ?_ | refine q0h rfl ?_) | (show goOn ..; first | refine q0s ?_ | refine q0v ?_ | refine q0w ?_ | refine q2k ?_ | refine q2j ?_) | (show q1g ..; refine q0i ?_) | (show q0g ..; first | refine q0q ?_ | refine q0c ?_ | refine q0r ?_ | refine q0f ?_ | refine q0t ?_ | refine q1b ?_ | refine q0k ?_) | (show q0y ..; first | refine cd_t ?_ | refine cd_f ?_ | refine cd_n (fun _ => ?_) (fun _ => ?_) | refine cd_b (fun _ => ?_) (fun _ => ?_)) | refine q0a ?_ | refine q0m ?_ | refine q0l ?_ | refine q1a ?_ | refine q0j ?_ | refine q1c ?_ | refine bl_pass rfl ?_ | refine q1f ?_ | refine bl_pan ?_ | (show retQ ..; first | refine q0o ?_ | refine q0b ?_) | refine q0e ?_)
      rfl
    · simp only [q3q hne, q3s hne, q3r hne]
      repeat' (first | (show q0x ..; first | refine q0d ?_ | refine q0p rfl ?_) | (show q1d ..; first | refine q0n rfl rfl ?_ | refine q0h rfl ?_) | (show goOn ..; first | refine q0s ?_ | refine q0v ?_ | refine q0w ?_ | refine q2k ?_ | refine q2j ?_) | (show q1g ..; refine q0i ?_) | (show q0g ..; first | refine q0q ?_ | refine q0c ?_ | refine q0r ?_ | refine q0f ?_ | refine q0t ?_ | refine q1b ?_ | refine q0k ?_) | (show q0y ..; first | refine cd_t ?_ | refine cd_f ?_ | refine cd_n (fun _ => ?_) (fun _ => ?_) | refine cd_b (fun _ => ?_) (fun _ => ?_)) | refine q0a ?_ | refine q0m ?_ | refine q0l ?_ | refine q1a ?_ | refine q0j ?_ | refine q1c ?_ | refine bl_pass rfl ?_ | refine q1f ?_ | refine bl_pan ?_ | (show retQ ..; first | refine q0o ?_ | refine q0b ?_) | refine q0e ?_)
      rfl
theorem r14_uses (w : Wd) (o : Ob) (hf : FewW w) (hl : o.links.length ≤ 100000) : Pure Tryz.prog 120 [.agg (Wd.enc w), .agg (Ob.enc o)] (.int .i64 (usesR w o)) := by
  have hn20 := hf.n
  have hp := r13_pages o
  refine q2i (by kernel_rfl) (by simp only [go_sem, *]) (by simp only [go_sem, *]) Tryz.func120 Tryz.results120 rfl (by simp [Tryz.ntmps120]) (by kernel_rfl) ?_
  repeat' (first | (show q0x ..; first | refine q0d ?_ | refine q0p rfl ?_) | (show q1d ..; first | refine q0n rfl rfl ?_ | refine q0h rfl ?_) | (show goOn ..; first | refine q0s ?_ | refine q0v ?_ | refine q0w ?_) | (show q1g ..; refine q0i ?_) | (show q1j ..; (refine q0u (r := ?_) ?_ ?_; rotate_left 1; (focus exact hp))) | (show dr ..; first | refine q1k ?_ | refine dr_n rfl ?_) | (show drGo ..; first | refine q2h rfl ?_ | refine q1n rfl ?_) | (show drOn ..; first | refine q1l ?_ | refine q1z ?_ | refine q1y ?_) | (show q1w ..; refine q1e ?_) | (show q2l ..; (refine q1m (r := ?_) ?_ ?_; rotate_left 1; (focus exact hp))) | (refine And.intro (by kernel_rfl : q1x _ = true) ?_) | (show q0g ..; first | refine q0q ?_ | refine q0c ?_ | refine q1h (by kernel_rfl) ?_ | refine q0r ?_ | refine q0f ?_ | refine q0t ?_ | refine q1b ?_ | refine q0k ?_) | (show q0y ..; first | refine cd_t ?_ | refine cd_f ?_ | refine cd_n (fun _ => ?_) (fun _ => ?_) | refine cd_b (fun _ => ?_) (fun _ => ?_)) | refine q0a ?_ | refine q0m ?_ | refine q0l ?_ | refine q1a ?_ | refine q0j ?_ | refine q1c ?_ | refine bl_pass rfl ?_ | refine q1f ?_ | refine bl_pan ?_ | (show retQ ..; first | refine q0o ?_ | refine q0b ?_) | refine q0e ?_)
  refine q3l (S := Nat) (fun n => o.links.length - n) (fun n => n ≤ o.links.length) (fun n => [(2, .ptr 0 0), (3, .ptr 1 0), (5, .int .i64 (usesN w o n)), (6, .int .i64 n)]) (fun _ => [(0, .box (Wd.enc w)), (1, .box (Ob.enc o))]) (fun _ => 2) 0 (Nat.zero_le _) (by (refine q2q ?_ ?_ <;> repeat' (first | exact q2a | exact q2c | refine q1i (by (try simp only [go_sem, *]); try rfl) (by simp only [go_sem, *]) ?_ | refine q2d (by (try simp only [go_sem, *]); try rfl) (by omega) (by simp only [go_sem, *]) ?_ | refine q2b (by (try simp only [go_sem, *]); try rfl) (by omega) (by simp only [go_sem, *]) ?_))) ?_
  intro n hn
  rcases Nat.lt_or_ge n o.links.length with hlt | hge
  · obtain ⟨x, hx⟩ := q3d hlt
    have h0 := q3k hlt
    have h4 := q3f n (by omega)
    have h5 := uses_succ (w := w) hx
    have hfd := r13_find w x (by omega)
    repeat' (first | (show q0x ..; first | refine q0d ?_ | refine q0p rfl ?_) | (show q1d ..; first | refine q0n rfl rfl ?_ | refine q0h rfl ?_) | (show goOn ..; first | refine q0s ?_ | refine q0v ?_ | refine q0w ?_) | (show q1g ..; refine q0i ?_) | (show q1j ..; (refine q0u (r := ?_) ?_ ?_; rotate_left 1; (focus exact hfd))) | (show dr ..; first | refine q1k ?_ | refine dr_n rfl ?_) | (show drGo ..; first | refine q2h rfl ?_ | refine q1n rfl ?_) | (show drOn ..; first | refine q1l ?_ | refine q1z ?_ | refine q1y ?_) | (show q1w ..; refine q1e ?_) | (show q2l ..; (refine q1m (r := ?_) ?_ ?_; rotate_left 1; (focus exact hfd))) | (refine And.intro (by kernel_rfl : q1x _ = true) ?_) | (show q0g ..; first | refine q0q ?_ | refine q0c ?_ | refine q1h (by kernel_rfl) ?_ | refine q0r ?_ | refine q0f ?_ | refine q0t ?_ | refine q1b ?_ | refine q0k ?_) | (show q0y ..; first | refine cd_t ?_ | refine cd_f ?_ | refine cd_n (fun _ => ?_) (fun _ => ?_) | refine cd_b (fun _ => ?_) (fun _ => ?_)) | refine q0a ?_ | refine q0m ?_ | refine q0l ?_ | refine q1a ?_ | refine q0j ?_ | refine q1c ?_ | refine bl_pass rfl ?_ | refine q1f ?_ | refine bl_pan ?_ | (show retQ ..; first | refine q0o ?_ | refine q0b ?_) | refine q0e ?_)
    exact again (n + 1) (show n + 1 ≤ o.links.length from hlt) (show o.links.length - (n + 1) < o.links.length - n by omega) (by (refine q2q ?_ ?_ <;> repeat' (first | exact q2a | exact q2c | refine q1i (by (try simp only [go_sem, *]); try rfl) (by simp only [go_sem, *]) ?_ | refine q2d (by (try simp only [go_sem, *]); try rfl) (by omega) (by simp only [go_sem, *]) ?_ | refine q2b (by (try simp only [go_sem, *]); try rfl) (by omega) (by simp only [go_sem, *]) ?_)))
  · have h0 := q3a hge
    have e : usesN w o n = usesR w o := by unfold usesN usesR; rw [List.take_of_length_le hge]
    repeat' (first | (show q0x ..; first | refine q0d ?_ | refine q0p rfl ?_) | (show q1d ..; first | refine q0n rfl rfl ?_ | refine q0h rfl ?_) | (show goOn ..; first | refine q0s ?_ | refine q0v ?_ | refine q0w ?_) | (show q1g ..; refine q0i ?_) | (show dr ..; first | refine q1k ?_ | refine dr_n rfl ?_) | (show drGo ..; first | refine q2h rfl ?_ | refine q1n rfl ?_) | (show drOn ..; first | refine q1l ?_ | refine q1z ?_ | refine q1y ?_) | (show q1w ..; refine q1e ?_) | (refine And.intro (by kernel_rfl : q1x _ = true) ?_) | (show q0g ..; first | refine q0q ?_ | refine q0c ?_ | refine q1h (by kernel_rfl) ?_ | refine q0r ?_ | refine q0f ?_ | refine q0t ?_ | refine q1b ?_ | refine q0k ?_) | (show q0y ..; first | refine cd_t ?_ | refine cd_f ?_ | refine cd_n (fun _ => ?_) (fun _ => ?_) | refine cd_b (fun _ => ?_) (fun _ => ?_)) | refine q0a ?_ | refine q0m ?_ | refine q0l ?_ | refine q1a ?_ | refine q0j ?_ | refine q1c ?_ | refine bl_pass rfl ?_ | refine q1f ?_ | refine bl_pan ?_ | (show retQ ..; first | refine q0o ?_ | refine q0b ?_) | refine q0e ?_)
    rfl
theorem r14_above (w : Wd) (id : Int) (hw : w.L) (hf : FewW w) : Pure Tryz.prog 171 [.agg (Wd.enc w), .int .u64 id] (.sl ((above w id).map u64)) := by
  have hn20 := hf.n
  obtain ⟨R, hR⟩ : ∃ R, R = above w id := ⟨_, rfl⟩
  have hR0 : aboveG w (w.objects.length + 1) id [] = R := hR.symm
  rw [← hR]
  clear hR
  refine q2i (by kernel_rfl) (by simp only [go_sem, *]) (by simp only [go_sem, *]) Tryz.func171 Tryz.results171 rfl (by simp [Tryz.ntmps171]) (by kernel_rfl) ?_
  repeat' (first | (show q0x ..; first | refine q0d ?_ | refine q0p rfl ?_) | (show q1d ..; first | refine q0n rfl rfl ?_ | refine q0h rfl ?_) | (show goOn ..; first | refine q0s ?_ | refine q0v ?_ | refine q0w ?_ | refine q2k ?_ | refine q2j ?_) | (show q1g ..; refine q0i ?_) | (show q0g ..; first | refine q0q ?_ | refine q0c ?_ | refine q0r ?_ | refine q0f ?_ | refine q0t ?_ | refine q1b ?_ | refine q0k ?_) | (show q0y ..; first | refine cd_t ?_ | refine cd_f ?_ | refine cd_n (fun _ => ?_) (fun _ => ?_) | refine cd_b (fun _ => ?_) (fun _ => ?_)) | refine q0a ?_ | refine q0m ?_ | refine q0l ?_ | refine q1a ?_ | refine q0j ?_ | refine q1c ?_ | refine bl_pass rfl ?_ | refine q1f ?_ | refine bl_pan ?_ | (show retQ ..; first | refine q0o ?_ | refine q0b ?_) | refine q0e ?_)
  refine q3l (S := Int × List Int × Nat) (fun s => w.objects.length + 1 - s.2.1.length) (fun s => s.2.1.length ≤ w.objects.length + 1 ∧ 1 ≤ s.2.2 ∧ aboveG w (w.objects.length + 1 - s.2.1.length) s.1 s.2.1 = R) (fun s => [(1, .int .u64 s.1), (2, .ptr 0 0), (5, accV s.2.2 s.2.1)]) (fun s => (0, .box (Wd.enc w)) :: accG s.2.2 22 1 u64 s.2.1) (fun s => accM 1 s.2.2 s.2.1) (id, [], 1) ⟨Nat.zero_le _, Nat.le_refl _, hR0⟩ (by simp only [q2w, q2y, q2x]; (refine q2q ?_ ?_ <;> repeat' (first | exact q2a | exact q2c | refine q1i (by (try simp only [go_sem, *]); try rfl) (by simp only [go_sem, *]) ?_ | refine q2d (by (try simp only [go_sem, *]); try rfl) (by omega) (by simp only [go_sem, *]) ?_ | refine q2b (by (try simp only [go_sem, *]); try rfl) (by omega) (by simp only [go_sem, *]) ?_))) ?_
  rintro ⟨i, acc, rid⟩ ⟨hn, hr, hs⟩
  simp only at hn hr hs
  have ha : acc.length < 1000000 := by omega
  have hb1 := app_max ha
  have hb2 := app_by (b := 8) ha (by decide)
  have i0 : (rid = 0) = False := eq_false (by omega)
  have i1 : (0 = rid) = False := eq_false (by omega)
  have hho := r14_holders w i hw hf
  have hhl := holders_len w i
  rcases Nat.lt_or_ge w.objects.length acc.length with hbig | hle
  · have hc : decide ((acc.length : Int) ≤ (w.objects.length : Int)) = false := decide_eq_false (by omega)
    have hRn : R = [] := by rw [← hs, show w.objects.length + 1 - acc.length = 0 by omega]; rfl
    subst hRn
    rcases q4o acc with hnil | hne
    · subst hnil; simp at hbig
    · clear hs hR0
      simp only [q3q hne, q3s hne, q3r hne]
      repeat' (first | (show q0x ..; first | refine q0d ?_ | refine q0p rfl ?_) | (show q1d ..; first | refine q0n rfl rfl ?_ | refine q0h rfl ?_) | (show goOn ..; first | refine q0s ?_ | refine q0v ?_ | refine q0w ?_ | refine q2k ?_ | refine q2j ?_) | (show q1g ..; refine q0i ?_) | (show q0g ..; first | refine q0q ?_ | refine q0c ?_ | refine q0r ?_ | refine q0f ?_ | refine q0t ?_ | refine q1b ?_ | refine q0k ?_) | (show q0y ..; first | refine cd_t ?_ | refine cd_f ?_ | refine cd_n (fun _ => ?_) (fun _ => ?_) | refine cd_b (fun _ => ?_) (fun _ => ?_)) | refine q0a ?_ | refine q0m ?_ | refine q0l ?_ | refine q1a ?_ | refine q0j ?_ | refine q1c ?_ | refine bl_pass rfl ?_ | refine q1f ?_ | refine bl_pan ?_ | (show retQ ..; first | refine q0o ?_ | refine q0b ?_) | refine q0e ?_)
      rfl
  · have hc : decide ((acc.length : Int) ≤ (w.objects.length : Int)) = true := decide_eq_true (by omega)
    have hc0 : decide (((0 : Nat) : Int) ≤ (w.objects.length : Int)) = true := decide_eq_true (by omega)
    obtain ⟨f, hfu⟩ : ∃ f, w.objects.length + 1 - acc.length = f + 1 := ⟨w.objects.length - acc.length, by omega⟩
    rw [hfu] at hs
    unfold aboveG at hs
    cases hh : q5l w i with
    | nil =>
      rw [hh] at hho hs
      simp only at hs
      subst hs
      clear hh hR0 hfu
      rcases q4o acc with hnil | hne
      · subst hnil
        simp only [q2w, q2y, q2x]
        repeat' (first | (show q0x ..; first | refine q0d ?_ | refine q0p rfl ?_) | (show q1d ..; first | refine q0n rfl rfl ?_ | refine q0h rfl ?_) | (show goOn ..; first | refine q0s ?_ | refine q0v ?_ | refine q0w ?_ | refine q2k ?_ | refine q2j ?_) | (show q1g ..; refine q0i ?_) | (show q1j ..; (refine q0u (r := ?_) ?_ ?_; rotate_left 1; (focus exact hho))) | (show q0g ..; first | refine q0q ?_ | refine q0c ?_ | refine q0r ?_ | refine q0f ?_ | refine q0t ?_ | refine q1b ?_ | refine q0k ?_) | (show q0y ..; first | refine cd_t ?_ | refine cd_f ?_ | refine cd_n (fun _ => ?_) (fun _ => ?_) | refine cd_b (fun _ => ?_) (fun _ => ?_)) | refine q0a ?_ | refine q0m ?_ | refine q0l ?_ | refine q1a ?_ | refine q0j ?_ | refine q1c ?_ | refine bl_pass rfl ?_ | refine q1f ?_ | refine bl_pan ?_ | (show retQ ..; first | refine q0o ?_ | refine q0b ?_) | refine q0e ?_)
        all_goals rfl
      · simp only [q3q hne, q3s hne, q3r hne]
        repeat' (first | (show q0x ..; first | refine q0d ?_ | refine q0p rfl ?_) | (show q1d ..; first | refine q0n rfl rfl ?_ | refine q0h rfl ?_) | (show goOn ..; first | refine q0s ?_ | refine q0v ?_ | refine q0w ?_ | refine q2k ?_ | refine q2j ?_) | (show q1g ..; refine q0i ?_) | (show q1j ..; (refine q0u (r := ?_) ?_ ?_; rotate_left 1; (focus exact hho))) | (show q0g ..; first | refine q0q ?_ | refine q0c ?_ | refine q0r ?_ | refine q0f ?_ | refine q0t ?_ | refine q1b ?_ | refine q0k ?_) | (show q0y ..; first | refine cd_t ?_ | refine cd_f ?_ | refine cd_n (fun _ => ?_) (fun _ => ?_) | refine cd_b (fun _ => ?_) (fun _ => ?_)) | refine q0a ?_ | refine q0m ?_ | refine q0l ?_ | refine q1a ?_ | refine q0j ?_ | refine q1c ?_ | refine bl_pass rfl ?_ | refine q1f ?_ | refine bl_pan ?_ | (show retQ ..; first | refine q0o ?_ | refine q0b ?_) | refine q0e ?_)
        all_goals rfl
    | cons h t =>
      rw [hh] at hho hs
      simp only at hs
      have hz : (((h :: t).length : Int) == 0) = false := by simp; omega
      have hx0 : (h :: t)[0]? = some h := rfl
      clear hh hR0
      generalize h :: t = L at hho hz hx0
      rcases q4o acc with hnil | hne
      · subst hnil
        simp only [q2w, q2y, q2x]
        repeat' (first | (show q0x ..; first | refine q0d ?_ | refine q0p rfl ?_) | (show q1d ..; first | refine q0n rfl rfl ?_ | refine q0h rfl ?_) | (show goOn ..; first | refine q0s ?_ | refine q0v ?_ | refine q0w ?_ | refine q2k ?_ | refine q2j ?_) | (show q1g ..; refine q0i ?_) | (show q1j ..; (refine q0u (r := ?_) ?_ ?_; rotate_left 1; (focus exact hho))) | (show q0g ..; first | refine q0q ?_ | refine q0c ?_ | refine q0r ?_ | refine q0f ?_ | refine q0t ?_ | refine q1b ?_ | refine q0k ?_) | (show q0y ..; first | refine cd_t ?_ | refine cd_f ?_ | refine cd_n (fun _ => ?_) (fun _ => ?_) | refine cd_b (fun _ => ?_) (fun _ => ?_)) | refine q0a ?_ | refine q0m ?_ | refine q0l ?_ | refine q1a ?_ | refine q0j ?_ | refine q1c ?_ | refine bl_pass rfl ?_ | refine q1f ?_ | refine bl_pan ?_ | (show retQ ..; first | refine q0o ?_ | refine q0b ?_) | refine q0e ?_)
        refine again (h, [] ++ [h], 1) ⟨(by simp), Nat.le_refl _, by rw [← hs]; congr 1; simp only [List.length_nil, List.nil_append, List.length_cons] at hfu ⊢; omega⟩ (by simp) ?_
        simp only [q3h, q3j, q3i]
        (refine q2q ?_ ?_ <;> repeat' (first | exact q2a | exact q2c | refine q1i (by (try simp only [go_sem, *]); try rfl) (by simp only [go_sem, *]) ?_ | refine q2d (by (try simp only [go_sem, *]); try rfl) (by omega) (by simp only [go_sem, *]) ?_ | refine q2b (by (try simp only [go_sem, *]); try rfl) (by omega) (by simp only [go_sem, *]) ?_))
      · simp only [q3q hne, q3s hne, q3r hne]
        repeat' (first | (show q0x ..; first | refine q0d ?_ | refine q0p rfl ?_) | (show q1d ..; first | refine q0n rfl rfl ?_ | refine q0h rfl ?_) | (show goOn ..; first | refine q0s ?_ | refine q0v ?_ | refine q0w ?_ | refine q2k ?_ | refine q2j ?_) | (show q1g ..; refine q0i ?_) | (show q1j ..; (refine q0u (r := ?_) ?_ ?_; rotate_left 1; (focus exact hho))) | (show q0g ..; first | refine q0q ?_ | refine q0c ?_ | refine q0r ?_ | refine q0f ?_ | refine q0t ?_ | refine q1b ?_ | refine q0k ?_) | (show q0y ..; first | refine cd_t ?_ | refine cd_f ?_ | refine cd_n (fun _ => ?_) (fun _ => ?_) | refine cd_b (fun _ => ?_) (fun _ => ?_)) | refine q0a ?_ | refine q0m ?_ | refine q0l ?_ | refine q1a ?_ | refine q0j ?_ | refine q1c ?_ | refine bl_pass rfl ?_ | refine q1f ?_ | refine bl_pan ?_ | (show retQ ..; first | refine q0o ?_ | refine q0b ?_) | refine q0e ?_)
        refine again (h, acc ++ [h], rid) ⟨(by simp only [List.length_append, List.length_cons, List.length_nil]; omega), hr, by rw [← hs]; congr 1; simp only [List.length_append, List.length_cons, List.length_nil]; omega⟩ (by simp only [List.length_append, List.length_cons, List.length_nil]; omega) ?_
        simp only [q3h, q3j, q3i]
        (refine q2q ?_ ?_ <;> repeat' (first | exact q2a | exact q2c | refine q1i (by (try simp only [go_sem, *]); try rfl) (by simp only [go_sem, *]) ?_ | refine q2d (by (try simp only [go_sem, *]); try rfl) (by omega) (by simp only [go_sem, *]) ?_ | refine q2b (by (try simp only [go_sem, *]); try rfl) (by omega) (by simp only [go_sem, *]) ?_))
theorem r14_up (w : Wd) (id : Int) (hw : w.L) (hf : FewW w) : Pure Tryz.prog 122 [.agg (Wd.enc w), .int .u64 id] (.bool (upR w id)) := by
  have hab := r14_above w id hw hf
  have hlen := above_len w id
  have hn20 := hf.n
  unfold upR
  generalize above w id = l at hab hlen
  rcases q4o l with hnil | hne
  · subst hnil
    have e1 : (((0 : Nat) : Int) == 0) = true := rfl
    have e2 : decide (((0 : Nat) : Int) > 0) = false := rfl
    refine q2i (by kernel_rfl) (by simp only [go_sem, *]) (by simp only [go_sem, *]) Tryz.func122 Tryz.results122 rfl (by simp [Tryz.ntmps122]) (by kernel_rfl) ?_
    repeat' (first | (show q0x ..; first | refine q0d ?_ | refine q0p rfl ?_ | refine q0z rfl rfl ?_) | (show q1d ..; first | refine q0n rfl rfl ?_ | refine q0h rfl ?_) | (show goOn ..; first | refine q0s ?_ | refine q0v ?_ | refine q0w ?_) | (show q1g ..; refine q0i ?_) | (show q1j ..; (refine q0u (r := ?_) ?_ ?_; rotate_left 1; (focus exact hab))) | (show wGo ..; first | refine q1o ?_ | refine q1u ?_ | refine q1q ?_ | refine q1s ?_ | refine gw_u ?_ | refine q1p (fun _ => ?_) (fun _ => ?_) | refine q1t (fun _ => ?_) (fun _ => ?_) | refine q1r (fun _ => ?_) (fun _ => ?_) | refine q1v (fun _ => ?_) (fun _ => ?_)) | (show dr ..; first | refine q1k ?_ | refine dr_n rfl ?_ | refine q3b rfl rfl ?_) | (show drGo ..; first | refine q2h rfl ?_ | refine q1n rfl ?_) | (show drOn ..; first | refine q1l ?_ | refine q1z ?_ | refine q1y ?_) | (show q1w ..; refine q1e ?_) | (show q2l ..; (refine q1m (r := ?_) ?_ ?_; rotate_left 1; (focus exact hab))) | (refine And.intro (by kernel_rfl : q1x _ = true) ?_) | (show q0g ..; first | refine q0q ?_ | refine q0c ?_ | refine q1h (by kernel_rfl) ?_ | refine q0r ?_ | refine q0f ?_) | refine q0a ?_ | refine q0m ?_ | refine q0l ?_ | (show retQ ..; first | refine q0o ?_ | refine q0b ?_) | refine q0e ?_)
    all_goals (refine q2s ?_; simp [*])
  · have hpos : 0 < l.length := List.length_pos_iff.2 hne
    obtain ⟨z, hz⟩ := q3d (by omega : l.length - 1 < l.length)
    have e1 : ((l.length : Int) == 0) = false := by simp; omega
    have e2 : decide ((l.length : Int) > 0) = true := decide_eq_true (by omega)
    have e3 : IntKind.i64.wrap ((l.length : Int) - 1) = ((l.length - 1 : Nat) : Int) := by rw [IntKind.wrap_i64]; omega
    have e4 : (l.length == 0) = false := by simp; omega
    rw [hz, e4]
    refine q2i (by kernel_rfl) (by simp only [go_sem, *]) (by simp only [go_sem, *]) Tryz.func122 Tryz.results122 rfl (by simp [Tryz.ntmps122]) (by kernel_rfl) ?_
    repeat' (first | (show q0x ..; first | refine q0d ?_ | refine q0p rfl ?_ | refine q0z rfl rfl ?_) | (show q1d ..; first | refine q0n rfl rfl ?_ | refine q0h rfl ?_) | (show goOn ..; first | refine q0s ?_ | refine q0v ?_ | refine q0w ?_) | (show q1g ..; refine q0i ?_) | (show q1j ..; (refine q0u (r := ?_) ?_ ?_; rotate_left 1; (focus exact hab))) | (show wGo ..; first | refine q1o ?_ | refine q1u ?_ | refine q1q ?_ | refine q1s ?_ | refine gw_u ?_ | refine q1p (fun _ => ?_) (fun _ => ?_) | refine q1t (fun _ => ?_) (fun _ => ?_) | refine q1r (fun _ => ?_) (fun _ => ?_) | refine q1v (fun _ => ?_) (fun _ => ?_)) | (show dr ..; first | refine q1k ?_ | refine dr_n rfl ?_ | refine q3b rfl rfl ?_) | (show drGo ..; first | refine q2h rfl ?_ | refine q1n rfl ?_) | (show drOn ..; first | refine q1l ?_ | refine q1z ?_ | refine q1y ?_) | (show q1w ..; refine q1e ?_) | (show q2l ..; (refine q1m (r := ?_) ?_ ?_; rotate_left 1; (focus exact hab))) | (refine And.intro (by kernel_rfl : q1x _ = true) ?_) | (show q0g ..; first | refine q0q ?_ | refine q0c ?_ | refine q1h (by kernel_rfl) ?_ | refine q0r ?_ | refine q0f ?_) | refine q0a ?_ | refine q0m ?_ | refine q0l ?_ | (show retQ ..; first | refine q0o ?_ | refine q0b ?_) | refine q0e ?_)
    all_goals (refine q2s ?_; simp [*])
theorem r14_placed (w : Wd) (o : Ob) (hw : w.L) (hf : FewW w) : Pure Tryz.prog 72 [.agg (Wd.enc w), .agg (Ob.enc o)] (.bool (placedR w o)) := by
  have hho := r14_holders w o.id hw hf
  have hup := r14_up w o.id hw hf
  unfold placedR
  generalize q5l w o.id = l at hho
  generalize upR w o.id = u at hup
  refine q2i (by kernel_rfl) (by simp only [go_sem, *]) (by simp only [go_sem, *]) Tryz.func72 Tryz.results72 rfl (by simp [Tryz.ntmps72]) (by kernel_rfl) ?_
  repeat' (first | (show q0x ..; first | refine q0d ?_ | refine q0p rfl ?_ | refine q0z rfl rfl ?_) | (show q1d ..; first | refine q0n rfl rfl ?_ | refine q0h rfl ?_) | (show goOn ..; first | refine q0s ?_ | refine q0v ?_ | refine q0w ?_) | (show q1g ..; refine q0i ?_) | (show q1j ..; (refine q0u (r := ?_) ?_ ?_; rotate_left 1; (focus first | exact hho | exact hup))) | (show wGo ..; first | refine q1o ?_ | refine q1u ?_ | refine q1q ?_ | refine q1s ?_ | refine gw_u ?_ | refine q1p (fun _ => ?_) (fun _ => ?_) | refine q1t (fun _ => ?_) (fun _ => ?_) | refine q1r (fun _ => ?_) (fun _ => ?_) | refine q1v (fun _ => ?_) (fun _ => ?_)) | (show q0g ..; first | refine q0q ?_ | refine q0c ?_ | refine q0r ?_ | refine q0f ?_ | refine q0k ?_) | (show q0y ..; first | refine cd_t ?_ | refine cd_f ?_ | refine cd_n (fun _ => ?_) (fun _ => ?_) | refine cd_b (fun _ => ?_) (fun _ => ?_)) | refine q0a ?_ | refine q0m ?_ | refine q0l ?_ | (show retQ ..; first | refine q0o ?_ | refine q0b ?_) | refine q0e ?_)
  all_goals (refine q2s ?_; first | (simp only [*, Bool.not_true, Bool.not_false, Bool.and_true, Bool.true_and, Bool.and_false, Bool.false_and, Bool.or_true, Bool.true_or, Bool.or_false, Bool.false_or, Bool.and_self, Bool.or_self, decide_true, decide_false, Bool.not_not, if_true, if_false, Bool.false_eq_true, eq_self]; done) | (simp [*]; done) | (simp_all; done))
end Go.Proofs.YteibeoipnjhicaaGreat
