import Derived.Test.YteibeoipnjhicaaGreatKd8
import Derived.Test.YteibeoipnjhicaaGreatKop
namespace Go.Proofs.YteibeoipnjhicaaGreat.kdev
open Go Go.RowKit Go.Proofs.YteibeoipnjhicaaGreat
set_option linter.unusedVariables false
set_option linter.unusedSimpArgs false
set_option maxHeartbeats 16000000
set_option maxRecDepth 100000
theorem inn_le {o : Ob} (h : sound o = true) : o.inn.length ≤ 64 := by
  by_cases hk : (o.kind == 6) = true
  · exact (q6s h hk).1
  · have : o.inn = [] := by
      unfold sound q6w aloneOf at h
      simp only [Bool.and_eq_true] at h
      obtain ⟨⟨_, _, _, _, _, _, hs⟩, _⟩ := h
      unfold q7u at hs
      simp only [Bool.and_eq_true, decide_eq_true_eq] at hs
      have hi := hs.2.2.2.2.2.2.1
      rw [← hi]
      split
      · rfl
      · split
        · rfl
        · split
          · rfl
          · split
            · rfl
            · split
              · rfl
              · first | rfl | (rw [if_neg hk]; rfl)
    rw [this]; exact Nat.zero_le _
theorem find_inn {w : Wd} (hf : FewW w) (hw : fitW w = true) (id : Int) : (q2p w id).1.inn.length ≤ 64 := by
  rcases (q7y hf (q4p hw) id).2 with h | h
  · exact inn_le h
  · rw [h]; exact Nat.zero_le _
/-- How the rows of what came, and comes, are laid out. -/
theorem rows_comb (inn words all : List Int) (r : Nat) (hi : inn.length ≤ 64) (hw : words.length ≤ 80) (ha : all = (inn ++ words).take 64) (hr : r = min (inn ++ words).length 64) :
    (inn = [] ∧ words = [] ∧ all = []) ∨
    (inn = [] ∧ (0 < words.length) = True ∧ (words.length * 8 ≤ 140737488355328) = True ∧ (words.length ≤ maxLen) = True ∧ (if (64 : Int) < (words.length : Int) then 64 else (words.length : Int)) = (r : Int) ∧ (0 ≤ (r : Int)) = True ∧ ((r : Int) ≤ (words.length : Int)) = True ∧ List.take r (List.map u64 words) = List.map u64 all) ∨
    (words = [] ∧ (0 < inn.length) = True ∧ (inn.length * 8 ≤ 140737488355328) = True ∧ (inn.length ≤ maxLen) = True ∧ (if (64 : Int) < (inn.length : Int) then 64 else (inn.length : Int)) = (r : Int) ∧ (0 ≤ (r : Int)) = True ∧ ((r : Int) ≤ (inn.length : Int)) = True ∧ List.take r (List.map u64 inn) = List.map u64 all) ∨
    ((0 < words.length) = True ∧ (0 < inn.length) = True ∧ (inn.length * 8 ≤ 140737488355328) = True ∧ (inn.length ≤ maxLen) = True ∧ ((inn.length + words.length) * 8 ≤ 140737488355328) = True ∧ (inn.length + words.length ≤ maxLen) = True ∧ (List.map u64 inn ++ List.map u64 words).length = inn.length + words.length ∧ (if (64 : Int) < ((inn.length + words.length : Nat) : Int) then 64 else ((inn.length + words.length : Nat) : Int)) = (r : Int) ∧ (0 ≤ (r : Int)) = True ∧ ((r : Int) ≤ ((inn.length + words.length : Nat) : Int)) = True ∧ List.take r (List.map u64 inn ++ List.map u64 words) = List.map u64 all) := by
  have hT : List.take r (List.map u64 inn ++ List.map u64 words) = List.map u64 all := by
    rw [← List.map_append, ← List.map_take, ha, hr]
    congr 1
    rcases Nat.le_total (inn ++ words).length 64 with h | h
    · rw [Nat.min_eq_left h, List.take_of_length_le (Nat.le_refl _), List.take_of_length_le h]
    · rw [Nat.min_eq_right h]
  rw [List.length_append] at hr
  have em : ∀ n : Nat, n ≤ 1000 → (n ≤ maxLen) = True := fun n h => eq_true (by unfold maxLen; omega)
  rcases q4f inn with i0 | i0 <;> rcases q4f words with j0 | j0
  · subst i0; subst j0; exact .inl ⟨rfl, rfl, by rw [ha]; rfl⟩
  · subst i0
    have h1 : 0 < words.length := List.length_pos_iff.2 j0
    simp only [List.length_nil, Nat.zero_add] at hr
    exact .inr (.inl ⟨rfl, eq_true h1, eq_true (by omega), em _ (by omega), by split <;> omega, eq_true (by omega), eq_true (by omega), by simpa using hT⟩)
  · subst j0
    have h1 : 0 < inn.length := List.length_pos_iff.2 i0
    simp only [List.length_nil, Nat.add_zero] at hr
    exact .inr (.inr (.inl ⟨rfl, eq_true h1, eq_true (by omega), em _ (by omega), by split <;> omega, eq_true (by omega), eq_true (by omega), by simpa using hT⟩))
  · have h1 : 0 < inn.length := List.length_pos_iff.2 i0
    have h2 : 0 < words.length := List.length_pos_iff.2 j0
    exact .inr (.inr (.inr ⟨eq_true h2, eq_true h1, eq_true (by omega), em _ (by omega), eq_true (by omega), em _ (by omega), by simp, by split <;> omega, eq_true (by omega), eq_true (by omega), hT⟩))
@[go_sem] theorem all_app (a b : List Int) (k : Nat) : Option.all (fun c : List PV => c.length == 1) (List.map u64 a ++ List.map u64 b)[k]? = true := by
  rw [← List.map_append, List.getElem?_map]; exact all_opt _
@[go_sem] theorem build_In_nil (dev : Int) : q4l Tryz.prog 62 [(0, .int .u64 dev), (1, .sl [])] = some (.agg (In.enc ⟨dev, []⟩)) := by kernel_rfl
attribute [local irreducible] q1a dr q0i Ex.then Ex.inBlock retQ q1r q3f q3e Pure CSat evOp q2r rdOf upd hset strip sp0 cut envL q3h q4c Keep BdL evBs q3n q3z
theorem law24_order (w : Wd) (id d x : Int) (words : List Int) (xw : w.wf) (xi : U id) (xd : U d) (xx : U x) (xl : (∀ y ∈ words, U y) ∧ words.length ≤ maxLen) :
    Pure Tryz.prog 4 [.agg (Wd.enc w), .int .u64 id, .int .u64 d, .int .u64 x, .sl (words.map u64)] (.bool true) := by
  have hk := q9k
  have lo : ∀ x ∈ w.objects, x.L := fun x hx => Ob.lens (xw.2.2.2.1 x hx)
  have b1 := law24_few w xw.2.2.2.2 lo
  cases h1 : fewS w with
  | false =>
    rw [h1] at b1
    refine q2y (by kernel_rfl) (by simp only [go_sem, *]) (by simp only [go_sem, *]) Tryz.func4 Tryz.results4 rfl (by simp [Tryz.ntmps4]) (by kernel_rfl) ?_
    repeat' (first | (show q1a ..; first | refine q0d ?_ | refine q0p rfl ?_ | refine q1c rfl rfl ?_) | (show q1f ..; first | refine q0n rfl rfl ?_ | refine q0h rfl ?_) | (show goOn ..; first | refine q0s ?_ | refine q0u ?_ | refine q0y ?_ | refine q1t ?_ | refine q1s ?_) | (show q1k ..; refine q0j ?_) | (show q1u ..; (refine q0z (r := ?_) ?_ ?_; rotate_left 1; (focus first | exact b1 | exact hk))) | (show wGo ..; first | refine q1v ?_ | refine q2b ?_ | refine q1x ?_ | refine q1z ?_ | refine gw_u ?_ | refine q1w (fun _ => ?_) (fun _ => ?_) | refine q2a (fun _ => ?_) (fun _ => ?_) | refine q1y (fun _ => ?_) (fun _ => ?_) | refine q2c (fun _ => ?_) (fun _ => ?_)) | (show dr ..; first | refine q1l ?_ | refine dr_n rfl ?_ | refine q2t rfl rfl ?_) | (show drGo ..; first | refine q2i rfl ?_ | refine q1j rfl ?_) | (show drOn ..; first | refine q1m ?_ | refine q1q ?_ | refine q1p ?_ | refine q2n ?_ | refine q2m ?_) | (show q1o ..; refine q1b ?_) | (show q2h ..; (refine q1i (r := ?_) ?_ ?_; rotate_left 1; (focus first | exact b1 | exact hk))) | (refine And.intro (by kernel_rfl : q1r _ = true) ?_) | (show q0i ..; first | refine q0q ?_ | refine q0c ?_ | refine q1h (by kernel_rfl) ?_ | refine q0r ?_ | refine q0f ?_ | refine q0k ?_ | refine q0w ?_ | refine q0t ?_) | (show q1d ..; first | refine cd_t ?_ | refine cd_f ?_ | refine cd_n (fun _ => ?_) (fun _ => ?_) | refine cd_b (fun _ => ?_) (fun _ => ?_)) | refine q0a ?_ | refine q0m ?_ | refine q0l ?_ | refine q0v ?_ | refine q0g ?_ | refine q0x ?_ | refine bl_pass rfl ?_ | refine q1g ?_ | refine q1e ?_ | (show retQ ..; first | refine q0o ?_ | refine q0b ?_) | refine q0e ?_)
    all_goals rfl
  | true =>
  obtain ⟨hf, hw⟩ := fewS_of h1
  have b2 := q8b w id (by have := hf.n; omega)
  cases h2 : isThr w id with
  | false =>
    rw [h1] at b1
    rw [h2] at b2
    refine q2y (by kernel_rfl) (by simp only [go_sem, *]) (by simp only [go_sem, *]) Tryz.func4 Tryz.results4 rfl (by simp [Tryz.ntmps4]) (by kernel_rfl) ?_
    repeat' (first | (show q1a ..; first | refine q0d ?_ | refine q0p rfl ?_ | refine q1c rfl rfl ?_) | (show q1f ..; first | refine q0n rfl rfl ?_ | refine q0h rfl ?_) | (show goOn ..; first | refine q0s ?_ | refine q0u ?_ | refine q0y ?_ | refine q1t ?_ | refine q1s ?_) | (show q1k ..; refine q0j ?_) | (show q1u ..; (refine q0z (r := ?_) ?_ ?_; rotate_left 1; (focus first | exact b1 | exact b2 | exact hk))) | (show wGo ..; first | refine q1v ?_ | refine q2b ?_ | refine q1x ?_ | refine q1z ?_ | refine gw_u ?_ | refine q1w (fun _ => ?_) (fun _ => ?_) | refine q2a (fun _ => ?_) (fun _ => ?_) | refine q1y (fun _ => ?_) (fun _ => ?_) | refine q2c (fun _ => ?_) (fun _ => ?_)) | (show dr ..; first | refine q1l ?_ | refine dr_n rfl ?_ | refine q2t rfl rfl ?_) | (show drGo ..; first | refine q2i rfl ?_ | refine q1j rfl ?_) | (show drOn ..; first | refine q1m ?_ | refine q1q ?_ | refine q1p ?_ | refine q2n ?_ | refine q2m ?_) | (show q1o ..; refine q1b ?_) | (show q2h ..; (refine q1i (r := ?_) ?_ ?_; rotate_left 1; (focus first | exact b1 | exact b2 | exact hk))) | (refine And.intro (by kernel_rfl : q1r _ = true) ?_) | (show q0i ..; first | refine q0q ?_ | refine q0c ?_ | refine q1h (by kernel_rfl) ?_ | refine q0r ?_ | refine q0f ?_ | refine q0k ?_ | refine q0w ?_ | refine q0t ?_) | (show q1d ..; first | refine cd_t ?_ | refine cd_f ?_ | refine cd_n (fun _ => ?_) (fun _ => ?_) | refine cd_b (fun _ => ?_) (fun _ => ?_)) | refine q0a ?_ | refine q0m ?_ | refine q0l ?_ | refine q0v ?_ | refine q0g ?_ | refine q0x ?_ | refine bl_pass rfl ?_ | refine q1g ?_ | refine q1e ?_ | (show retQ ..; first | refine q0o ?_ | refine q0b ?_) | refine q0e ?_)
    all_goals rfl
  | true =>
  rw [h1] at b1
  have h2' := h2
  rw [h2] at b2
  cases h3 : decide ((words.length : Int) > 80) with
  | true =>
    refine q2y (by kernel_rfl) (by simp only [go_sem, *]) (by simp only [go_sem, *]) Tryz.func4 Tryz.results4 rfl (by simp [Tryz.ntmps4]) (by kernel_rfl) ?_
    repeat' (first | (show q1a ..; first | refine q0d ?_ | refine q0p rfl ?_ | refine q1c rfl rfl ?_) | (show q1f ..; first | refine q0n rfl rfl ?_ | refine q0h rfl ?_) | (show goOn ..; first | refine q0s ?_ | refine q0u ?_ | refine q0y ?_ | refine q1t ?_ | refine q1s ?_) | (show q1k ..; refine q0j ?_) | (show q1u ..; (refine q0z (r := ?_) ?_ ?_; rotate_left 1; (focus first | exact b1 | exact b2 | exact hk))) | (show wGo ..; first | refine q1v ?_ | refine q2b ?_ | refine q1x ?_ | refine q1z ?_ | refine gw_u ?_ | refine q1w (fun _ => ?_) (fun _ => ?_) | refine q2a (fun _ => ?_) (fun _ => ?_) | refine q1y (fun _ => ?_) (fun _ => ?_) | refine q2c (fun _ => ?_) (fun _ => ?_)) | (show dr ..; first | refine q1l ?_ | refine dr_n rfl ?_ | refine q2t rfl rfl ?_) | (show drGo ..; first | refine q2i rfl ?_ | refine q1j rfl ?_) | (show drOn ..; first | refine q1m ?_ | refine q1q ?_ | refine q1p ?_ | refine q2n ?_ | refine q2m ?_) | (show q1o ..; refine q1b ?_) | (show q2h ..; (refine q1i (r := ?_) ?_ ?_; rotate_left 1; (focus first | exact b1 | exact b2 | exact hk))) | (refine And.intro (by kernel_rfl : q1r _ = true) ?_) | (show q0i ..; first | refine q0q ?_ | refine q0c ?_ | refine q1h (by kernel_rfl) ?_ | refine q0r ?_ | refine q0f ?_ | refine q0k ?_ | refine q0w ?_ | refine q0t ?_) | (show q1d ..; first | refine cd_t ?_ | refine cd_f ?_ | refine cd_n (fun _ => ?_) (fun _ => ?_) | refine cd_b (fun _ => ?_) (fun _ => ?_)) | refine q0a ?_ | refine q0m ?_ | refine q0l ?_ | refine q0v ?_ | refine q0g ?_ | refine q0x ?_ | refine bl_pass rfl ?_ | refine q1g ?_ | refine q1e ?_ | (show retQ ..; first | refine q0o ?_ | refine q0b ?_) | refine q0e ?_)
    all_goals rfl
  | false =>
  have hw80 : words.length ≤ 80 := by have := of_decide_eq_false h3; omega
  have lw : w.L := ⟨xw.2.2.2.2, fun x hx => ⟨lo x hx, by have := (hf.ob x hx).1; omega⟩⟩
  have g : Good w := ⟨lw, hf, hw⟩
  clear h1 h2 lo xw xl
  have hn24 := hf.n
  have c0 := q5l w x (by omega)
  have cf := q9u w [⟨x, words⟩] g (by simp) (by intro y hy; simp only [List.mem_singleton] at hy; subst hy; show words.length ≤ 100; omega)
  have hin := find_inn hf hw x
  obtain ⟨all, hall⟩ : ∃ all, all = ((q2p w x).1.inn ++ words).take 64 := ⟨_, rfl⟩
  obtain ⟨r, hr⟩ : ∃ r, r = min ((q2p w x).1.inn ++ words).length 64 := ⟨_, rfl⟩
  have hcomb := rows_comb _ _ all r hin hw80 hall hr
  have co := q8c w id 41 (arg3 d x 7) hf hw
  have ho3 : q4y w (q2p w id).1 41 (arg3 d x 7) = outR w (q2p w id).1 (arg3 d x 7) := rfl
  have hd3 : devR w (q2p w id).1 (arg3 d x 7) = devR w (q2p w id).1 (arg2 d x) := rfl
  have ha3 : arg3 d x 7 2 = 7 := rfl
  rw [ho3] at co
  unfold outR at co
  rw [hd3, ha3] at co
  cases he : ((devR w (q2p w id).1 (arg2 d x)).2 == 0) with
  | false =>
    have e1 := feed_err g (x := x) (l := words) h2' he
    have gv := q8f g [⟨x, words⟩]
    have cd := q8c (q5p w [⟨x, words⟩]) id 42 (arg2 d x) gv.few gv.fit
    rw [e1] at cd
    rw [he] at co
    simp only [Bool.false_eq_true, if_false] at co
    generalize (devR w (q2p w id).1 (arg2 d x)).2 = e at he cd co
    generalize q5p w [⟨x, words⟩] = V at cf cd
    generalize q2p w x = F at c0 hcomb
    obtain ⟨⟨oid, kind, label, quota, fixed, links, data, maps, thread, gate, inn, out⟩, ok⟩ := F
    simp only at c0 hcomb
    have he' : (e != 0) = true := by simp [bne, he]
    clear hall hr hin e1 gv g lw hf hw ho3 hd3 ha3 h2'
    rcases hcomb with ⟨rfl, rfl, rfl⟩ | ⟨rfl, q0, q1, q2, q3, q4, q5, q6⟩ | ⟨rfl, q0, q1, q2, q3, q4, q5, q6⟩ | ⟨q0, q1, q2, q3, q4, q5, q6, q7, q8, q9, q10⟩
    all_goals refine q2y (by kernel_rfl) (by simp only [go_sem, *]) (by simp only [go_sem, *]) Tryz.func4 Tryz.results4 rfl (by simp [Tryz.ntmps4]) (by kernel_rfl) ?_
    all_goals repeat' (first | (show q1a ..; first | refine q0d ?_ | refine q0p rfl ?_ | refine q1c rfl rfl ?_) | (show q1f ..; first | refine q0n rfl rfl ?_ | refine q0h rfl ?_) | (show goOn ..; first | refine q0s ?_ | refine q0u ?_ | refine q0y ?_ | refine q1t ?_ | refine q1s ?_) | (show q1k ..; refine q0j ?_) | (show q1u ..; (refine q0z (r := ?_) ?_ ?_; rotate_left 1; (focus first | exact b1 | exact b2 | exact c0 | exact cf))) | (show wGo ..; first | refine q1v ?_ | refine q2b ?_ | refine q1x ?_ | refine q1z ?_ | refine gw_u ?_ | refine q1w (fun _ => ?_) (fun _ => ?_) | refine q2a (fun _ => ?_) (fun _ => ?_) | refine q1y (fun _ => ?_) (fun _ => ?_) | refine q2c (fun _ => ?_) (fun _ => ?_)) | (show dr ..; first | refine q1l ?_ | refine dr_n rfl ?_ | refine q2t rfl rfl ?_) | (show drGo ..; first | refine q2i rfl ?_ | refine q1j rfl ?_) | (show drOn ..; first | refine q1m ?_ | refine q1q ?_ | refine q1p ?_ | refine q2n ?_ | refine q2m ?_) | (show q1o ..; refine q1b ?_) | (show q2h ..; (refine q1i (r := ?_) ?_ ?_; rotate_left 1; (focus first | exact b1 | exact b2 | exact c0 | exact cf))) | (refine And.intro (by kernel_rfl : q1r _ = true) ?_) | (show q0i ..; first | refine q0q ?_ | refine q0c ?_ | refine q1h (by kernel_rfl) ?_ | refine q0r ?_ | refine q0f ?_ | refine q0k ?_ | refine q0w ?_ | refine q0t ?_) | (show q1d ..; first | refine cd_t ?_ | refine cd_f ?_ | refine cd_n (fun _ => ?_) (fun _ => ?_) | refine cd_b (fun _ => ?_) (fun _ => ?_)) | refine q0a ?_ | refine q0m ?_ | refine q0l ?_ | refine q0v ?_ | refine q0g ?_ | refine q0x ?_ | refine bl_pass rfl ?_ | refine q1g ?_ | refine q1e ?_ | (show retQ ..; first | refine q0o ?_ | refine q0b ?_) | refine q0e ?_)
    · refine q3g (S := Nat) (fun n => ([] : List Int).length - n) (fun n => n = 0) (fun n => [(1, .int .u64 id), (2, .int .u64 d), (3, .int .u64 x), (5, .ptr 0 0), (11, .ptr 1 0), (13, .ptr 2 0), (70, .sl (([] : List Int).map u64)), (71, .int .i64 ([] : List Int).length), (72, .int .i64 n)]) (fun n => [(0, .box (Wd.enc w)), (1, .box (Ob.enc ⟨oid, kind, label, quota, fixed, links, data, maps, thread, gate, [], out⟩)), (2, .box (Wd.enc V))]) (fun _ => 3) 0 rfl (by (refine q2q ?_ ?_ <;> repeat' (first | exact q2d | exact q2f | refine q1n (by (try simp only [go_sem, *]); try rfl) (by simp only [go_sem, *]) ?_ | refine q2g (by (try simp only [go_sem, *]); try rfl) (by omega) (by simp only [go_sem, *]) ?_ | refine q2e (by (try simp only [go_sem, *]); try rfl) (by omega) (by simp only [go_sem, *]) ?_))) ?_
      rintro n rfl
      have z1 : ((0 : Nat) : Int) = 0 := rfl
      cases hz : decide ((0 : Int) < (([] : List Int).length : Int)) with
      | true =>
        exact absurd (of_decide_eq_true hz) (by simp)
      | false =>
        repeat' (first | (show q1a ..; first | refine q0d ?_ | refine q0p rfl ?_ | refine q1c rfl rfl ?_) | (show q1f ..; first | refine q0n rfl rfl ?_ | refine q0h rfl ?_) | (show goOn ..; first | refine q0s ?_ | refine q0u ?_ | refine q0y ?_ | refine q1t ?_ | refine q1s ?_) | (show q1k ..; refine q0j ?_) | (show q1u ..; (refine q0z (r := ?_) ?_ ?_; rotate_left 1; (focus first | exact cd | exact co | exact c0 | exact hk))) | (show wGo ..; first | refine q1v ?_ | refine q2b ?_ | refine q1x ?_ | refine q1z ?_ | refine gw_u ?_ | refine q1w (fun _ => ?_) (fun _ => ?_) | refine q2a (fun _ => ?_) (fun _ => ?_) | refine q1y (fun _ => ?_) (fun _ => ?_) | refine q2c (fun _ => ?_) (fun _ => ?_)) | (show dr ..; first | refine q1l ?_ | refine dr_n rfl ?_ | refine q2t rfl rfl ?_) | (show drGo ..; first | refine q2i rfl ?_ | refine q1j rfl ?_) | (show drOn ..; first | refine q1m ?_ | refine q1q ?_ | refine q1p ?_ | refine q2n ?_ | refine q2m ?_) | (show q1o ..; refine q1b ?_) | (show q2h ..; (refine q1i (r := ?_) ?_ ?_; rotate_left 1; (focus first | exact cd | exact co | exact c0 | exact hk))) | (refine And.intro (by kernel_rfl : q1r _ = true) ?_) | (show q0i ..; first | refine q0q ?_ | refine q0c ?_ | refine q1h (by kernel_rfl) ?_ | refine q0r ?_ | refine q0f ?_ | refine q0k ?_ | refine q0w ?_ | refine q0t ?_) | (show q1d ..; first | refine cd_t ?_ | refine cd_f ?_ | refine cd_n (fun _ => ?_) (fun _ => ?_) | refine cd_b (fun _ => ?_) (fun _ => ?_)) | refine q0a ?_ | refine q0m ?_ | refine q0l ?_ | refine q0v ?_ | refine q0g ?_ | refine q0x ?_ | refine bl_pass rfl ?_ | refine q1g ?_ | refine q1e ?_ | (show retQ ..; first | refine q0o ?_ | refine q0b ?_) | refine q0e ?_)
        all_goals rfl
    · refine q3g (S := Nat) (fun n => all.length - n) (fun n => n = 0) (fun n => [(1, .int .u64 id), (2, .int .u64 d), (3, .int .u64 x), (5, .ptr 0 0), (11, .ptr 1 0), (13, .ptr 2 0), (70, .sl (all.map u64)), (71, .int .i64 all.length), (72, .int .i64 n)]) (fun n => [(0, .box (Wd.enc w)), (1, .box (Ob.enc ⟨oid, kind, label, quota, fixed, links, data, maps, thread, gate, [], out⟩)), (2, .box (Wd.enc V))]) (fun _ => 3) 0 rfl (by (refine q2q ?_ ?_ <;> repeat' (first | exact q2d | exact q2f | refine q1n (by (try simp only [go_sem, *]); try rfl) (by simp only [go_sem, *]) ?_ | refine q2g (by (try simp only [go_sem, *]); try rfl) (by omega) (by simp only [go_sem, *]) ?_ | refine q2e (by (try simp only [go_sem, *]); try rfl) (by omega) (by simp only [go_sem, *]) ?_))) ?_
      rintro n rfl
      have z1 : ((0 : Nat) : Int) = 0 := rfl
      cases hz : decide ((0 : Int) < (all.length : Int)) with
      | true =>
        have hlt : 0 < all.length := by have := of_decide_eq_true hz; omega
        obtain ⟨v, hv⟩ := q3j hlt
        repeat' (first | (show q1a ..; first | refine q0d ?_ | refine q0p rfl ?_ | refine q1c rfl rfl ?_) | (show q1f ..; first | refine q0n rfl rfl ?_ | refine q0h rfl ?_) | (show goOn ..; first | refine q0s ?_ | refine q0u ?_ | refine q0y ?_ | refine q1t ?_ | refine q1s ?_) | (show q1k ..; refine q0j ?_) | (show q1u ..; (refine q0z (r := ?_) ?_ ?_; rotate_left 1; (focus first | exact cd | exact hk))) | (show wGo ..; first | refine q1v ?_ | refine q2b ?_ | refine q1x ?_ | refine q1z ?_ | refine gw_u ?_ | refine q1w (fun _ => ?_) (fun _ => ?_) | refine q2a (fun _ => ?_) (fun _ => ?_) | refine q1y (fun _ => ?_) (fun _ => ?_) | refine q2c (fun _ => ?_) (fun _ => ?_)) | (show dr ..; first | refine q1l ?_ | refine dr_n rfl ?_ | refine q2t rfl rfl ?_) | (show drGo ..; first | refine q2i rfl ?_ | refine q1j rfl ?_) | (show drOn ..; first | refine q1m ?_ | refine q1q ?_ | refine q1p ?_ | refine q2n ?_ | refine q2m ?_) | (show q1o ..; refine q1b ?_) | (show q2h ..; (refine q1i (r := ?_) ?_ ?_; rotate_left 1; (focus first | exact cd | exact hk))) | (refine And.intro (by kernel_rfl : q1r _ = true) ?_) | (show q0i ..; first | refine q0q ?_ | refine q0c ?_ | refine q1h (by kernel_rfl) ?_ | refine q0r ?_ | refine q0f ?_ | refine q0k ?_ | refine q0w ?_ | refine q0t ?_) | (show q1d ..; first | refine cd_t ?_ | refine cd_f ?_ | refine cd_n (fun _ => ?_) (fun _ => ?_) | refine cd_b (fun _ => ?_) (fun _ => ?_)) | refine q0a ?_ | refine q0m ?_ | refine q0l ?_ | refine q0v ?_ | refine q0g ?_ | refine q0x ?_ | refine bl_pass rfl ?_ | refine q1g ?_ | refine q1e ?_ | (show retQ ..; first | refine q0o ?_ | refine q0b ?_) | refine q0e ?_)
        all_goals rfl
      | false =>
        repeat' (first | (show q1a ..; first | refine q0d ?_ | refine q0p rfl ?_ | refine q1c rfl rfl ?_) | (show q1f ..; first | refine q0n rfl rfl ?_ | refine q0h rfl ?_) | (show goOn ..; first | refine q0s ?_ | refine q0u ?_ | refine q0y ?_ | refine q1t ?_ | refine q1s ?_) | (show q1k ..; refine q0j ?_) | (show q1u ..; (refine q0z (r := ?_) ?_ ?_; rotate_left 1; (focus first | exact cd | exact co | exact c0 | exact hk))) | (show wGo ..; first | refine q1v ?_ | refine q2b ?_ | refine q1x ?_ | refine q1z ?_ | refine gw_u ?_ | refine q1w (fun _ => ?_) (fun _ => ?_) | refine q2a (fun _ => ?_) (fun _ => ?_) | refine q1y (fun _ => ?_) (fun _ => ?_) | refine q2c (fun _ => ?_) (fun _ => ?_)) | (show dr ..; first | refine q1l ?_ | refine dr_n rfl ?_ | refine q2t rfl rfl ?_) | (show drGo ..; first | refine q2i rfl ?_ | refine q1j rfl ?_) | (show drOn ..; first | refine q1m ?_ | refine q1q ?_ | refine q1p ?_ | refine q2n ?_ | refine q2m ?_) | (show q1o ..; refine q1b ?_) | (show q2h ..; (refine q1i (r := ?_) ?_ ?_; rotate_left 1; (focus first | exact cd | exact co | exact c0 | exact hk))) | (refine And.intro (by kernel_rfl : q1r _ = true) ?_) | (show q0i ..; first | refine q0q ?_ | refine q0c ?_ | refine q1h (by kernel_rfl) ?_ | refine q0r ?_ | refine q0f ?_ | refine q0k ?_ | refine q0w ?_ | refine q0t ?_) | (show q1d ..; first | refine cd_t ?_ | refine cd_f ?_ | refine cd_n (fun _ => ?_) (fun _ => ?_) | refine cd_b (fun _ => ?_) (fun _ => ?_)) | refine q0a ?_ | refine q0m ?_ | refine q0l ?_ | refine q0v ?_ | refine q0g ?_ | refine q0x ?_ | refine bl_pass rfl ?_ | refine q1g ?_ | refine q1e ?_ | (show retQ ..; first | refine q0o ?_ | refine q0b ?_) | refine q0e ?_)
        all_goals rfl
    · refine q3g (S := Nat) (fun n => all.length - n) (fun n => n = 0) (fun n => [(1, .int .u64 id), (2, .int .u64 d), (3, .int .u64 x), (5, .ptr 0 0), (11, .ptr 1 0), (13, .ptr 2 0), (70, .sl (all.map u64)), (71, .int .i64 all.length), (72, .int .i64 n)]) (fun n => [(0, .box (Wd.enc w)), (1, .box (Ob.enc ⟨oid, kind, label, quota, fixed, links, data, maps, thread, gate, inn, out⟩)), (2, .box (Wd.enc V))]) (fun _ => 3) 0 rfl (by (refine q2q ?_ ?_ <;> repeat' (first | exact q2d | exact q2f | refine q1n (by (try simp only [go_sem, *]); try rfl) (by simp only [go_sem, *]) ?_ | refine q2g (by (try simp only [go_sem, *]); try rfl) (by omega) (by simp only [go_sem, *]) ?_ | refine q2e (by (try simp only [go_sem, *]); try rfl) (by omega) (by simp only [go_sem, *]) ?_))) ?_
      rintro n rfl
      have z1 : ((0 : Nat) : Int) = 0 := rfl
      cases hz : decide ((0 : Int) < (all.length : Int)) with
      | true =>
        have hlt : 0 < all.length := by have := of_decide_eq_true hz; omega
        obtain ⟨v, hv⟩ := q3j hlt
        repeat' (first | (show q1a ..; first | refine q0d ?_ | refine q0p rfl ?_ | refine q1c rfl rfl ?_) | (show q1f ..; first | refine q0n rfl rfl ?_ | refine q0h rfl ?_) | (show goOn ..; first | refine q0s ?_ | refine q0u ?_ | refine q0y ?_ | refine q1t ?_ | refine q1s ?_) | (show q1k ..; refine q0j ?_) | (show q1u ..; (refine q0z (r := ?_) ?_ ?_; rotate_left 1; (focus first | exact cd | exact hk))) | (show wGo ..; first | refine q1v ?_ | refine q2b ?_ | refine q1x ?_ | refine q1z ?_ | refine gw_u ?_ | refine q1w (fun _ => ?_) (fun _ => ?_) | refine q2a (fun _ => ?_) (fun _ => ?_) | refine q1y (fun _ => ?_) (fun _ => ?_) | refine q2c (fun _ => ?_) (fun _ => ?_)) | (show dr ..; first | refine q1l ?_ | refine dr_n rfl ?_ | refine q2t rfl rfl ?_) | (show drGo ..; first | refine q2i rfl ?_ | refine q1j rfl ?_) | (show drOn ..; first | refine q1m ?_ | refine q1q ?_ | refine q1p ?_ | refine q2n ?_ | refine q2m ?_) | (show q1o ..; refine q1b ?_) | (show q2h ..; (refine q1i (r := ?_) ?_ ?_; rotate_left 1; (focus first | exact cd | exact hk))) | (refine And.intro (by kernel_rfl : q1r _ = true) ?_) | (show q0i ..; first | refine q0q ?_ | refine q0c ?_ | refine q1h (by kernel_rfl) ?_ | refine q0r ?_ | refine q0f ?_ | refine q0k ?_ | refine q0w ?_ | refine q0t ?_) | (show q1d ..; first | refine cd_t ?_ | refine cd_f ?_ | refine cd_n (fun _ => ?_) (fun _ => ?_) | refine cd_b (fun _ => ?_) (fun _ => ?_)) | refine q0a ?_ | refine q0m ?_ | refine q0l ?_ | refine q0v ?_ | refine q0g ?_ | refine q0x ?_ | refine bl_pass rfl ?_ | refine q1g ?_ | refine q1e ?_ | (show retQ ..; first | refine q0o ?_ | refine q0b ?_) | refine q0e ?_)
        all_goals rfl
      | false =>
        repeat' (first | (show q1a ..; first | refine q0d ?_ | refine q0p rfl ?_ | refine q1c rfl rfl ?_) | (show q1f ..; first | refine q0n rfl rfl ?_ | refine q0h rfl ?_) | (show goOn ..; first | refine q0s ?_ | refine q0u ?_ | refine q0y ?_ | refine q1t ?_ | refine q1s ?_) | (show q1k ..; refine q0j ?_) | (show q1u ..; (refine q0z (r := ?_) ?_ ?_; rotate_left 1; (focus first | exact cd | exact co | exact c0 | exact hk))) | (show wGo ..; first | refine q1v ?_ | refine q2b ?_ | refine q1x ?_ | refine q1z ?_ | refine gw_u ?_ | refine q1w (fun _ => ?_) (fun _ => ?_) | refine q2a (fun _ => ?_) (fun _ => ?_) | refine q1y (fun _ => ?_) (fun _ => ?_) | refine q2c (fun _ => ?_) (fun _ => ?_)) | (show dr ..; first | refine q1l ?_ | refine dr_n rfl ?_ | refine q2t rfl rfl ?_) | (show drGo ..; first | refine q2i rfl ?_ | refine q1j rfl ?_) | (show drOn ..; first | refine q1m ?_ | refine q1q ?_ | refine q1p ?_ | refine q2n ?_ | refine q2m ?_) | (show q1o ..; refine q1b ?_) | (show q2h ..; (refine q1i (r := ?_) ?_ ?_; rotate_left 1; (focus first | exact cd | exact co | exact c0 | exact hk))) | (refine And.intro (by kernel_rfl : q1r _ = true) ?_) | (show q0i ..; first | refine q0q ?_ | refine q0c ?_ | refine q1h (by kernel_rfl) ?_ | refine q0r ?_ | refine q0f ?_ | refine q0k ?_ | refine q0w ?_ | refine q0t ?_) | (show q1d ..; first | refine cd_t ?_ | refine cd_f ?_ | refine cd_n (fun _ => ?_) (fun _ => ?_) | refine cd_b (fun _ => ?_) (fun _ => ?_)) | refine q0a ?_ | refine q0m ?_ | refine q0l ?_ | refine q0v ?_ | refine q0g ?_ | refine q0x ?_ | refine bl_pass rfl ?_ | refine q1g ?_ | refine q1e ?_ | (show retQ ..; first | refine q0o ?_ | refine q0b ?_) | refine q0e ?_)
        all_goals rfl
    · refine q3g (S := Nat) (fun n => all.length - n) (fun n => n = 0) (fun n => [(1, .int .u64 id), (2, .int .u64 d), (3, .int .u64 x), (5, .ptr 0 0), (11, .ptr 1 0), (13, .ptr 2 0), (70, .sl (all.map u64)), (71, .int .i64 all.length), (72, .int .i64 n)]) (fun n => [(0, .box (Wd.enc w)), (1, .box (Ob.enc ⟨oid, kind, label, quota, fixed, links, data, maps, thread, gate, inn, out⟩)), (2, .box (Wd.enc V))]) (fun _ => 3) 0 rfl (by (refine q2q ?_ ?_ <;> repeat' (first | exact q2d | exact q2f | refine q1n (by (try simp only [go_sem, *]); try rfl) (by simp only [go_sem, *]) ?_ | refine q2g (by (try simp only [go_sem, *]); try rfl) (by omega) (by simp only [go_sem, *]) ?_ | refine q2e (by (try simp only [go_sem, *]); try rfl) (by omega) (by simp only [go_sem, *]) ?_))) ?_
      rintro n rfl
      have z1 : ((0 : Nat) : Int) = 0 := rfl
      cases hz : decide ((0 : Int) < (all.length : Int)) with
      | true =>
        have hlt : 0 < all.length := by have := of_decide_eq_true hz; omega
        obtain ⟨v, hv⟩ := q3j hlt
        repeat' (first | (show q1a ..; first | refine q0d ?_ | refine q0p rfl ?_ | refine q1c rfl rfl ?_) | (show q1f ..; first | refine q0n rfl rfl ?_ | refine q0h rfl ?_) | (show goOn ..; first | refine q0s ?_ | refine q0u ?_ | refine q0y ?_ | refine q1t ?_ | refine q1s ?_) | (show q1k ..; refine q0j ?_) | (show q1u ..; (refine q0z (r := ?_) ?_ ?_; rotate_left 1; (focus first | exact cd | exact hk))) | (show wGo ..; first | refine q1v ?_ | refine q2b ?_ | refine q1x ?_ | refine q1z ?_ | refine gw_u ?_ | refine q1w (fun _ => ?_) (fun _ => ?_) | refine q2a (fun _ => ?_) (fun _ => ?_) | refine q1y (fun _ => ?_) (fun _ => ?_) | refine q2c (fun _ => ?_) (fun _ => ?_)) | (show dr ..; first | refine q1l ?_ | refine dr_n rfl ?_ | refine q2t rfl rfl ?_) | (show drGo ..; first | refine q2i rfl ?_ | refine q1j rfl ?_) | (show drOn ..; first | refine q1m ?_ | refine q1q ?_ | refine q1p ?_ | refine q2n ?_ | refine q2m ?_) | (show q1o ..; refine q1b ?_) | (show q2h ..; (refine q1i (r := ?_) ?_ ?_; rotate_left 1; (focus first | exact cd | exact hk))) | (refine And.intro (by kernel_rfl : q1r _ = true) ?_) | (show q0i ..; first | refine q0q ?_ | refine q0c ?_ | refine q1h (by kernel_rfl) ?_ | refine q0r ?_ | refine q0f ?_ | refine q0k ?_ | refine q0w ?_ | refine q0t ?_) | (show q1d ..; first | refine cd_t ?_ | refine cd_f ?_ | refine cd_n (fun _ => ?_) (fun _ => ?_) | refine cd_b (fun _ => ?_) (fun _ => ?_)) | refine q0a ?_ | refine q0m ?_ | refine q0l ?_ | refine q0v ?_ | refine q0g ?_ | refine q0x ?_ | refine bl_pass rfl ?_ | refine q1g ?_ | refine q1e ?_ | (show retQ ..; first | refine q0o ?_ | refine q0b ?_) | refine q0e ?_)
        all_goals rfl
      | false =>
        repeat' (first | (show q1a ..; first | refine q0d ?_ | refine q0p rfl ?_ | refine q1c rfl rfl ?_) | (show q1f ..; first | refine q0n rfl rfl ?_ | refine q0h rfl ?_) | (show goOn ..; first | refine q0s ?_ | refine q0u ?_ | refine q0y ?_ | refine q1t ?_ | refine q1s ?_) | (show q1k ..; refine q0j ?_) | (show q1u ..; (refine q0z (r := ?_) ?_ ?_; rotate_left 1; (focus first | exact cd | exact co | exact c0 | exact hk))) | (show wGo ..; first | refine q1v ?_ | refine q2b ?_ | refine q1x ?_ | refine q1z ?_ | refine gw_u ?_ | refine q1w (fun _ => ?_) (fun _ => ?_) | refine q2a (fun _ => ?_) (fun _ => ?_) | refine q1y (fun _ => ?_) (fun _ => ?_) | refine q2c (fun _ => ?_) (fun _ => ?_)) | (show dr ..; first | refine q1l ?_ | refine dr_n rfl ?_ | refine q2t rfl rfl ?_) | (show drGo ..; first | refine q2i rfl ?_ | refine q1j rfl ?_) | (show drOn ..; first | refine q1m ?_ | refine q1q ?_ | refine q1p ?_ | refine q2n ?_ | refine q2m ?_) | (show q1o ..; refine q1b ?_) | (show q2h ..; (refine q1i (r := ?_) ?_ ?_; rotate_left 1; (focus first | exact cd | exact co | exact c0 | exact hk))) | (refine And.intro (by kernel_rfl : q1r _ = true) ?_) | (show q0i ..; first | refine q0q ?_ | refine q0c ?_ | refine q1h (by kernel_rfl) ?_ | refine q0r ?_ | refine q0f ?_ | refine q0k ?_ | refine q0w ?_ | refine q0t ?_) | (show q1d ..; first | refine cd_t ?_ | refine cd_f ?_ | refine cd_n (fun _ => ?_) (fun _ => ?_) | refine cd_b (fun _ => ?_) (fun _ => ?_)) | refine q0a ?_ | refine q0m ?_ | refine q0l ?_ | refine q0v ?_ | refine q0g ?_ | refine q0x ?_ | refine bl_pass rfl ?_ | refine q1g ?_ | refine q1e ?_ | (show retQ ..; first | refine q0o ?_ | refine q0b ?_) | refine q0e ?_)
        all_goals rfl
  | true =>
    obtain ⟨hdv, hk6, hm, hfd⟩ := dev_is g he
    have hax : arg2 d x 1 = x := rfl
    rw [hax] at hdv hk6 hm hfd
    rw [feed_vn (l := words) hk6, ← hall] at cf
    have hal : all.length ≤ 64 := by rw [hall, List.length_take]; omega
    have cdn := fun (q : List Int) (hq : q.length ≤ 64) => q8c (vn w (q2p w x).1 q) id 42 (arg2 d x) (vn_good g hm hk6 hq).few (vn_good g hm hk6 hq).fit
    have cnil := cdn [] (by simp)
    rw [vn_thr g hm hk6 [] h2', vn_nil g hm hdv] at cnil
    have ccons : ∀ (v : Int) (q : List Int), (v :: q).length ≤ 64 → Pure Tryz.prog 23 [.agg (Wd.enc (vn w (q2p w x).1 (v :: q))), .int .u64 id, .int .i64 42, .agg (args (arg2 d x))] (.tup [.agg (Wd.enc (vn w (q2p w x).1 q)), .int .u64 v, .int .i64 0, .bool true]) := fun v q hq => by
      have := cdn (v :: q) hq
      rw [vn_thr g hm hk6 (v :: q) h2', vn_cons g hm hdv] at this
      exact this
    rw [hdv] at co
    simp only [beq_self_eq_true, if_true] at co
    have hu := (q6s (q5g (q4p hw) hm) hk6).2
    have c5 : (q2p w x).1.out.length < 1024 → Pure Tryz.prog 29 [.agg (Wd.enc (w.ins (outO (q2p w x).1 7))), .int .u64 x] (.tup [.agg (Ob.enc (outO (q2p w x).1 7)), .bool true]) := fun hl => by
      have := q5l (w.ins (outO (q2p w x).1 7)) x (by have := (out_ins g hm hk6 (v := 7) hl).few.n; omega)
      rw [out_find g hk6] at this
      exact this
    clear hall hr hin ho3 hd3 ha3 cdn hdv he hk6
    generalize q2p w x = F at c0 hcomb cf cnil ccons co hu c5 hfd
    obtain ⟨⟨oid, kind, label, quota, fixed, links, data, maps, thread, gate, inn, out⟩, ok⟩ := F
    simp only at c0 hcomb cf cnil ccons co hu c5 hfd
    subst hfd
    have hlen : (out ++ [7]).length = out.length + 1 := by simp
    have w1 : IntKind.i64.wrap ((out.length : Int) + 1) = ((out.length + 1 : Nat) : Int) := q3d _ (by omega)
    have w2 : IntKind.i64.wrap (((out.length + 1 : Nat) : Int) - 1) = (out.length : Int) := by rw [IntKind.wrap_i64]; omega
    have hx7 : (out ++ [7])[out.length]? = some 7 := by simp
    have z1 : (0 ≤ (out.length : Int)) = True := eq_true (by omega)
    have z2 : ((out.length : Int) ≤ ((out.length + 1 : Nat) : Int)) = True := eq_true (by omega)
    have hT7 : List.take out.length (List.map u64 (out ++ [7])) = List.map u64 out := by rw [List.map_append, List.take_left' (by simp)]
    have cats := q9h out out (by omega)
    rw [decide_eq_true rfl] at cats
    unfold outO at co c5
    simp only at co c5
    rcases hcomb with ⟨rfl, rfl, rfl⟩ | ⟨rfl, q0, q1, q2, q3, q4, q5, q6⟩ | ⟨rfl, q0, q1, q2, q3, q4, q5, q6⟩ | ⟨q0, q1, q2, q3, q4, q5, q6, q7, q8, q9, q10⟩
    all_goals refine q2y (by kernel_rfl) (by simp only [go_sem, *]) (by simp only [go_sem, *]) Tryz.func4 Tryz.results4 rfl (by simp [Tryz.ntmps4]) (by kernel_rfl) ?_
    all_goals repeat' (first | (show q1a ..; first | refine q0d ?_ | refine q0p rfl ?_ | refine q1c rfl rfl ?_) | (show q1f ..; first | refine q0n rfl rfl ?_ | refine q0h rfl ?_) | (show goOn ..; first | refine q0s ?_ | refine q0u ?_ | refine q0y ?_ | refine q1t ?_ | refine q1s ?_) | (show q1k ..; refine q0j ?_) | (show q1u ..; (refine q0z (r := ?_) ?_ ?_; rotate_left 1; (focus first | exact b1 | exact b2 | exact c0 | exact cf))) | (show wGo ..; first | refine q1v ?_ | refine q2b ?_ | refine q1x ?_ | refine q1z ?_ | refine gw_u ?_ | refine q1w (fun _ => ?_) (fun _ => ?_) | refine q2a (fun _ => ?_) (fun _ => ?_) | refine q1y (fun _ => ?_) (fun _ => ?_) | refine q2c (fun _ => ?_) (fun _ => ?_)) | (show dr ..; first | refine q1l ?_ | refine dr_n rfl ?_ | refine q2t rfl rfl ?_) | (show drGo ..; first | refine q2i rfl ?_ | refine q1j rfl ?_) | (show drOn ..; first | refine q1m ?_ | refine q1q ?_ | refine q1p ?_ | refine q2n ?_ | refine q2m ?_) | (show q1o ..; refine q1b ?_) | (show q2h ..; (refine q1i (r := ?_) ?_ ?_; rotate_left 1; (focus first | exact b1 | exact b2 | exact c0 | exact cf))) | (refine And.intro (by kernel_rfl : q1r _ = true) ?_) | (show q0i ..; first | refine q0q ?_ | refine q0c ?_ | refine q1h (by kernel_rfl) ?_ | refine q0r ?_ | refine q0f ?_ | refine q0k ?_ | refine q0w ?_ | refine q0t ?_) | (show q1d ..; first | refine cd_t ?_ | refine cd_f ?_ | refine cd_n (fun _ => ?_) (fun _ => ?_) | refine cd_b (fun _ => ?_) (fun _ => ?_)) | refine q0a ?_ | refine q0m ?_ | refine q0l ?_ | refine q0v ?_ | refine q0g ?_ | refine q0x ?_ | refine bl_pass rfl ?_ | refine q1g ?_ | refine q1e ?_ | (show retQ ..; first | refine q0o ?_ | refine q0b ?_) | refine q0e ?_)
    · refine q3g (S := Nat) (fun n => ([] : List Int).length - n) (fun n => n ≤ ([] : List Int).length) (fun n => [(1, .int .u64 id), (2, .int .u64 d), (3, .int .u64 x), (5, .ptr 0 0), (11, .ptr 1 0), (13, .ptr 2 0), (70, .sl (([] : List Int).map u64)), (71, .int .i64 ([] : List Int).length), (72, .int .i64 n)]) (fun n => [(0, .box (Wd.enc w)), (1, .box (Ob.enc ⟨oid, kind, label, quota, fixed, links, data, maps, thread, gate, [], out⟩)), (2, .box (Wd.enc (vn w ⟨oid, kind, label, quota, fixed, links, data, maps, thread, gate, [], out⟩ (([] : List Int).drop n))))]) (fun _ => 3) 0 (Nat.zero_le _) (by (refine q2q ?_ ?_ <;> repeat' (first | exact q2d | exact q2f | refine q1n (by (try simp only [go_sem, *]); try rfl) (by simp only [go_sem, *]) ?_ | refine q2g (by (try simp only [go_sem, *]); try rfl) (by omega) (by simp only [go_sem, *]) ?_ | refine q2e (by (try simp only [go_sem, *]); try rfl) (by omega) (by simp only [go_sem, *]) ?_))) ?_
      intro n hn
      rcases Nat.lt_or_ge n ([] : List Int).length with hlt | hge
      · exact absurd hlt (by simp)
      · have h0 := q2z hge
        rw [show ([] : List Int).drop n = [] from List.drop_of_length_le hge]
        cases hfull : decide ((out.length : Int) < 1024) with
        | true =>
          rw [hfull] at co
          simp only [if_true] at co
          have c5 := c5 (by have := of_decide_eq_true hfull; omega)
          repeat' (first | (show q1a ..; first | refine q0d ?_ | refine q0p rfl ?_ | refine q1c rfl rfl ?_) | (show q1f ..; first | refine q0n rfl rfl ?_ | refine q0h rfl ?_) | (show goOn ..; first | refine q0s ?_ | refine q0u ?_ | refine q0y ?_ | refine q1t ?_ | refine q1s ?_) | (show q1k ..; refine q0j ?_) | (show q1u ..; (refine q0z (r := ?_) ?_ ?_; rotate_left 1; (focus first | exact cnil | exact co | exact c5 | exact cats | exact hk))) | (show wGo ..; first | refine q1v ?_ | refine q2b ?_ | refine q1x ?_ | refine q1z ?_ | refine gw_u ?_ | refine q1w (fun _ => ?_) (fun _ => ?_) | refine q2a (fun _ => ?_) (fun _ => ?_) | refine q1y (fun _ => ?_) (fun _ => ?_) | refine q2c (fun _ => ?_) (fun _ => ?_)) | (show dr ..; first | refine q1l ?_ | refine dr_n rfl ?_ | refine q2t rfl rfl ?_) | (show drGo ..; first | refine q2i rfl ?_ | refine q1j rfl ?_) | (show drOn ..; first | refine q1m ?_ | refine q1q ?_ | refine q1p ?_ | refine q2n ?_ | refine q2m ?_) | (show q1o ..; refine q1b ?_) | (show q2h ..; (refine q1i (r := ?_) ?_ ?_; rotate_left 1; (focus first | exact cnil | exact co | exact c5 | exact cats | exact hk))) | (refine And.intro (by kernel_rfl : q1r _ = true) ?_) | (show q0i ..; first | refine q0q ?_ | refine q0c ?_ | refine q1h (by kernel_rfl) ?_ | refine q0r ?_ | refine q0f ?_ | refine q0k ?_ | refine q0w ?_ | refine q0t ?_) | (show q1d ..; first | refine cd_t ?_ | refine cd_f ?_ | refine cd_n (fun _ => ?_) (fun _ => ?_) | refine cd_b (fun _ => ?_) (fun _ => ?_)) | refine q0a ?_ | refine q0m ?_ | refine q0l ?_ | refine q0v ?_ | refine q0g ?_ | refine q0x ?_ | refine bl_pass rfl ?_ | refine q1g ?_ | refine q1e ?_ | (show retQ ..; first | refine q0o ?_ | refine q0b ?_) | refine q0e ?_)
          all_goals rfl
        | false =>
          rw [hfull] at co
          simp only [Bool.false_eq_true, if_false] at co
          repeat' (first | (show q1a ..; first | refine q0d ?_ | refine q0p rfl ?_ | refine q1c rfl rfl ?_) | (show q1f ..; first | refine q0n rfl rfl ?_ | refine q0h rfl ?_) | (show goOn ..; first | refine q0s ?_ | refine q0u ?_ | refine q0y ?_ | refine q1t ?_ | refine q1s ?_) | (show q1k ..; refine q0j ?_) | (show q1u ..; (refine q0z (r := ?_) ?_ ?_; rotate_left 1; (focus first | exact cnil | exact co | exact c0 | exact cats | exact hk))) | (show wGo ..; first | refine q1v ?_ | refine q2b ?_ | refine q1x ?_ | refine q1z ?_ | refine gw_u ?_ | refine q1w (fun _ => ?_) (fun _ => ?_) | refine q2a (fun _ => ?_) (fun _ => ?_) | refine q1y (fun _ => ?_) (fun _ => ?_) | refine q2c (fun _ => ?_) (fun _ => ?_)) | (show dr ..; first | refine q1l ?_ | refine dr_n rfl ?_ | refine q2t rfl rfl ?_) | (show drGo ..; first | refine q2i rfl ?_ | refine q1j rfl ?_) | (show drOn ..; first | refine q1m ?_ | refine q1q ?_ | refine q1p ?_ | refine q2n ?_ | refine q2m ?_) | (show q1o ..; refine q1b ?_) | (show q2h ..; (refine q1i (r := ?_) ?_ ?_; rotate_left 1; (focus first | exact cnil | exact co | exact c0 | exact cats | exact hk))) | (refine And.intro (by kernel_rfl : q1r _ = true) ?_) | (show q0i ..; first | refine q0q ?_ | refine q0c ?_ | refine q1h (by kernel_rfl) ?_ | refine q0r ?_ | refine q0f ?_ | refine q0k ?_ | refine q0w ?_ | refine q0t ?_) | (show q1d ..; first | refine cd_t ?_ | refine cd_f ?_ | refine cd_n (fun _ => ?_) (fun _ => ?_) | refine cd_b (fun _ => ?_) (fun _ => ?_)) | refine q0a ?_ | refine q0m ?_ | refine q0l ?_ | refine q0v ?_ | refine q0g ?_ | refine q0x ?_ | refine bl_pass rfl ?_ | refine q1g ?_ | refine q1e ?_ | (show retQ ..; first | refine q0o ?_ | refine q0b ?_) | refine q0e ?_)
          all_goals rfl
    · refine q3g (S := Nat) (fun n => all.length - n) (fun n => n ≤ all.length) (fun n => [(1, .int .u64 id), (2, .int .u64 d), (3, .int .u64 x), (5, .ptr 0 0), (11, .ptr 1 0), (13, .ptr 2 0), (70, .sl (all.map u64)), (71, .int .i64 all.length), (72, .int .i64 n)]) (fun n => [(0, .box (Wd.enc w)), (1, .box (Ob.enc ⟨oid, kind, label, quota, fixed, links, data, maps, thread, gate, [], out⟩)), (2, .box (Wd.enc (vn w ⟨oid, kind, label, quota, fixed, links, data, maps, thread, gate, [], out⟩ (all.drop n))))]) (fun _ => 3) 0 (Nat.zero_le _) (by (refine q2q ?_ ?_ <;> repeat' (first | exact q2d | exact q2f | refine q1n (by (try simp only [go_sem, *]); try rfl) (by simp only [go_sem, *]) ?_ | refine q2g (by (try simp only [go_sem, *]); try rfl) (by omega) (by simp only [go_sem, *]) ?_ | refine q2e (by (try simp only [go_sem, *]); try rfl) (by omega) (by simp only [go_sem, *]) ?_))) ?_
      intro n hn
      rcases Nat.lt_or_ge n all.length with hlt | hge
      · obtain ⟨v, hv⟩ := q3j hlt
        have h0 := q3o hlt
        have h4 := q3d n (by omega)
        have hd : all.drop n = v :: all.drop (n + 1) := by
          rw [List.drop_eq_getElem_cons hlt]
          congr 1
          rw [List.getElem?_eq_getElem hlt] at hv
          exact Option.some.inj hv
        have c := ccons v (all.drop (n + 1)) (by rw [← hd, List.length_drop]; omega)
        rw [hd]
        clear hd
        repeat' (first | (show q1a ..; first | refine q0d ?_ | refine q0p rfl ?_ | refine q1c rfl rfl ?_) | (show q1f ..; first | refine q0n rfl rfl ?_ | refine q0h rfl ?_) | (show goOn ..; first | refine q0s ?_ | refine q0u ?_ | refine q0y ?_ | refine q1t ?_ | refine q1s ?_) | (show q1k ..; refine q0j ?_) | (show q1u ..; (refine q0z (r := ?_) ?_ ?_; rotate_left 1; (focus exact c))) | (show wGo ..; first | refine q1v ?_ | refine q2b ?_ | refine q1x ?_ | refine q1z ?_ | refine gw_u ?_ | refine q1w (fun _ => ?_) (fun _ => ?_) | refine q2a (fun _ => ?_) (fun _ => ?_) | refine q1y (fun _ => ?_) (fun _ => ?_) | refine q2c (fun _ => ?_) (fun _ => ?_)) | (show dr ..; first | refine q1l ?_ | refine dr_n rfl ?_ | refine q2t rfl rfl ?_) | (show drGo ..; first | refine q2i rfl ?_ | refine q1j rfl ?_) | (show drOn ..; first | refine q1m ?_ | refine q1q ?_ | refine q1p ?_ | refine q2n ?_ | refine q2m ?_) | (show q1o ..; refine q1b ?_) | (show q2h ..; (refine q1i (r := ?_) ?_ ?_; rotate_left 1; (focus exact c))) | (refine And.intro (by kernel_rfl : q1r _ = true) ?_) | (show q0i ..; first | refine q0q ?_ | refine q0c ?_ | refine q1h (by kernel_rfl) ?_ | refine q0r ?_ | refine q0f ?_ | refine q0k ?_ | refine q0w ?_ | refine q0t ?_) | (show q1d ..; first | refine cd_t ?_ | refine cd_f ?_ | refine cd_n (fun _ => ?_) (fun _ => ?_) | refine cd_b (fun _ => ?_) (fun _ => ?_)) | refine q0a ?_ | refine q0m ?_ | refine q0l ?_ | refine q0v ?_ | refine q0g ?_ | refine q0x ?_ | refine bl_pass rfl ?_ | refine q1g ?_ | refine q1e ?_ | (show retQ ..; first | refine q0o ?_ | refine q0b ?_) | refine q0e ?_)
        all_goals (refine again (n + 1) hlt (show all.length - (n + 1) < all.length - n by omega) (by (refine q2q ?_ ?_ <;> repeat' (first | exact q2d | exact q2f | refine q1n (by (try simp only [go_sem, *]); try rfl) (by simp only [go_sem, *]) ?_ | refine q2g (by (try simp only [go_sem, *]); try rfl) (by omega) (by simp only [go_sem, *]) ?_ | refine q2e (by (try simp only [go_sem, *]); try rfl) (by omega) (by simp only [go_sem, *]) ?_))))
      · have h0 := q2z hge
        rw [show all.drop n = [] from List.drop_of_length_le hge]
        cases hfull : decide ((out.length : Int) < 1024) with
        | true =>
          rw [hfull] at co
          simp only [if_true] at co
          have c5 := c5 (by have := of_decide_eq_true hfull; omega)
          repeat' (first | (show q1a ..; first | refine q0d ?_ | refine q0p rfl ?_ | refine q1c rfl rfl ?_) | (show q1f ..; first | refine q0n rfl rfl ?_ | refine q0h rfl ?_) | (show goOn ..; first | refine q0s ?_ | refine q0u ?_ | refine q0y ?_ | refine q1t ?_ | refine q1s ?_) | (show q1k ..; refine q0j ?_) | (show q1u ..; (refine q0z (r := ?_) ?_ ?_; rotate_left 1; (focus first | exact cnil | exact co | exact c5 | exact cats | exact hk))) | (show wGo ..; first | refine q1v ?_ | refine q2b ?_ | refine q1x ?_ | refine q1z ?_ | refine gw_u ?_ | refine q1w (fun _ => ?_) (fun _ => ?_) | refine q2a (fun _ => ?_) (fun _ => ?_) | refine q1y (fun _ => ?_) (fun _ => ?_) | refine q2c (fun _ => ?_) (fun _ => ?_)) | (show dr ..; first | refine q1l ?_ | refine dr_n rfl ?_ | refine q2t rfl rfl ?_) | (show drGo ..; first | refine q2i rfl ?_ | refine q1j rfl ?_) | (show drOn ..; first | refine q1m ?_ | refine q1q ?_ | refine q1p ?_ | refine q2n ?_ | refine q2m ?_) | (show q1o ..; refine q1b ?_) | (show q2h ..; (refine q1i (r := ?_) ?_ ?_; rotate_left 1; (focus first | exact cnil | exact co | exact c5 | exact cats | exact hk))) | (refine And.intro (by kernel_rfl : q1r _ = true) ?_) | (show q0i ..; first | refine q0q ?_ | refine q0c ?_ | refine q1h (by kernel_rfl) ?_ | refine q0r ?_ | refine q0f ?_ | refine q0k ?_ | refine q0w ?_ | refine q0t ?_) | (show q1d ..; first | refine cd_t ?_ | refine cd_f ?_ | refine cd_n (fun _ => ?_) (fun _ => ?_) | refine cd_b (fun _ => ?_) (fun _ => ?_)) | refine q0a ?_ | refine q0m ?_ | refine q0l ?_ | refine q0v ?_ | refine q0g ?_ | refine q0x ?_ | refine bl_pass rfl ?_ | refine q1g ?_ | refine q1e ?_ | (show retQ ..; first | refine q0o ?_ | refine q0b ?_) | refine q0e ?_)
          all_goals rfl
        | false =>
          rw [hfull] at co
          simp only [Bool.false_eq_true, if_false] at co
          repeat' (first | (show q1a ..; first | refine q0d ?_ | refine q0p rfl ?_ | refine q1c rfl rfl ?_) | (show q1f ..; first | refine q0n rfl rfl ?_ | refine q0h rfl ?_) | (show goOn ..; first | refine q0s ?_ | refine q0u ?_ | refine q0y ?_ | refine q1t ?_ | refine q1s ?_) | (show q1k ..; refine q0j ?_) | (show q1u ..; (refine q0z (r := ?_) ?_ ?_; rotate_left 1; (focus first | exact cnil | exact co | exact c0 | exact cats | exact hk))) | (show wGo ..; first | refine q1v ?_ | refine q2b ?_ | refine q1x ?_ | refine q1z ?_ | refine gw_u ?_ | refine q1w (fun _ => ?_) (fun _ => ?_) | refine q2a (fun _ => ?_) (fun _ => ?_) | refine q1y (fun _ => ?_) (fun _ => ?_) | refine q2c (fun _ => ?_) (fun _ => ?_)) | (show dr ..; first | refine q1l ?_ | refine dr_n rfl ?_ | refine q2t rfl rfl ?_) | (show drGo ..; first | refine q2i rfl ?_ | refine q1j rfl ?_) | (show drOn ..; first | refine q1m ?_ | refine q1q ?_ | refine q1p ?_ | refine q2n ?_ | refine q2m ?_) | (show q1o ..; refine q1b ?_) | (show q2h ..; (refine q1i (r := ?_) ?_ ?_; rotate_left 1; (focus first | exact cnil | exact co | exact c0 | exact cats | exact hk))) | (refine And.intro (by kernel_rfl : q1r _ = true) ?_) | (show q0i ..; first | refine q0q ?_ | refine q0c ?_ | refine q1h (by kernel_rfl) ?_ | refine q0r ?_ | refine q0f ?_ | refine q0k ?_ | refine q0w ?_ | refine q0t ?_) | (show q1d ..; first | refine cd_t ?_ | refine cd_f ?_ | refine cd_n (fun _ => ?_) (fun _ => ?_) | refine cd_b (fun _ => ?_) (fun _ => ?_)) | refine q0a ?_ | refine q0m ?_ | refine q0l ?_ | refine q0v ?_ | refine q0g ?_ | refine q0x ?_ | refine bl_pass rfl ?_ | refine q1g ?_ | refine q1e ?_ | (show retQ ..; first | refine q0o ?_ | refine q0b ?_) | refine q0e ?_)
          all_goals rfl
    · refine q3g (S := Nat) (fun n => all.length - n) (fun n => n ≤ all.length) (fun n => [(1, .int .u64 id), (2, .int .u64 d), (3, .int .u64 x), (5, .ptr 0 0), (11, .ptr 1 0), (13, .ptr 2 0), (70, .sl (all.map u64)), (71, .int .i64 all.length), (72, .int .i64 n)]) (fun n => [(0, .box (Wd.enc w)), (1, .box (Ob.enc ⟨oid, kind, label, quota, fixed, links, data, maps, thread, gate, inn, out⟩)), (2, .box (Wd.enc (vn w ⟨oid, kind, label, quota, fixed, links, data, maps, thread, gate, inn, out⟩ (all.drop n))))]) (fun _ => 3) 0 (Nat.zero_le _) (by (refine q2q ?_ ?_ <;> repeat' (first | exact q2d | exact q2f | refine q1n (by (try simp only [go_sem, *]); try rfl) (by simp only [go_sem, *]) ?_ | refine q2g (by (try simp only [go_sem, *]); try rfl) (by omega) (by simp only [go_sem, *]) ?_ | refine q2e (by (try simp only [go_sem, *]); try rfl) (by omega) (by simp only [go_sem, *]) ?_))) ?_
      intro n hn
      rcases Nat.lt_or_ge n all.length with hlt | hge
      · obtain ⟨v, hv⟩ := q3j hlt
        have h0 := q3o hlt
        have h4 := q3d n (by omega)
        have hd : all.drop n = v :: all.drop (n + 1) := by
          rw [List.drop_eq_getElem_cons hlt]
          congr 1
          rw [List.getElem?_eq_getElem hlt] at hv
          exact Option.some.inj hv
        have c := ccons v (all.drop (n + 1)) (by rw [← hd, List.length_drop]; omega)
        rw [hd]
        clear hd
        repeat' (first | (show q1a ..; first | refine q0d ?_ | refine q0p rfl ?_ | refine q1c rfl rfl ?_) | (show q1f ..; first | refine q0n rfl rfl ?_ | refine q0h rfl ?_) | (show goOn ..; first | refine q0s ?_ | refine q0u ?_ | refine q0y ?_ | refine q1t ?_ | refine q1s ?_) | (show q1k ..; refine q0j ?_) | (show q1u ..; (refine q0z (r := ?_) ?_ ?_; rotate_left 1; (focus exact c))) | (show wGo ..; first | refine q1v ?_ | refine q2b ?_ | refine q1x ?_ | refine q1z ?_ | refine gw_u ?_ | refine q1w (fun _ => ?_) (fun _ => ?_) | refine q2a (fun _ => ?_) (fun _ => ?_) | refine q1y (fun _ => ?_) (fun _ => ?_) | refine q2c (fun _ => ?_) (fun _ => ?_)) | (show dr ..; first | refine q1l ?_ | refine dr_n rfl ?_ | refine q2t rfl rfl ?_) | (show drGo ..; first | refine q2i rfl ?_ | refine q1j rfl ?_) | (show drOn ..; first | refine q1m ?_ | refine q1q ?_ | refine q1p ?_ | refine q2n ?_ | refine q2m ?_) | (show q1o ..; refine q1b ?_) | (show q2h ..; (refine q1i (r := ?_) ?_ ?_; rotate_left 1; (focus exact c))) | (refine And.intro (by kernel_rfl : q1r _ = true) ?_) | (show q0i ..; first | refine q0q ?_ | refine q0c ?_ | refine q1h (by kernel_rfl) ?_ | refine q0r ?_ | refine q0f ?_ | refine q0k ?_ | refine q0w ?_ | refine q0t ?_) | (show q1d ..; first | refine cd_t ?_ | refine cd_f ?_ | refine cd_n (fun _ => ?_) (fun _ => ?_) | refine cd_b (fun _ => ?_) (fun _ => ?_)) | refine q0a ?_ | refine q0m ?_ | refine q0l ?_ | refine q0v ?_ | refine q0g ?_ | refine q0x ?_ | refine bl_pass rfl ?_ | refine q1g ?_ | refine q1e ?_ | (show retQ ..; first | refine q0o ?_ | refine q0b ?_) | refine q0e ?_)
        all_goals (refine again (n + 1) hlt (show all.length - (n + 1) < all.length - n by omega) (by (refine q2q ?_ ?_ <;> repeat' (first | exact q2d | exact q2f | refine q1n (by (try simp only [go_sem, *]); try rfl) (by simp only [go_sem, *]) ?_ | refine q2g (by (try simp only [go_sem, *]); try rfl) (by omega) (by simp only [go_sem, *]) ?_ | refine q2e (by (try simp only [go_sem, *]); try rfl) (by omega) (by simp only [go_sem, *]) ?_))))
      · have h0 := q2z hge
        rw [show all.drop n = [] from List.drop_of_length_le hge]
        cases hfull : decide ((out.length : Int) < 1024) with
        | true =>
          rw [hfull] at co
          simp only [if_true] at co
          have c5 := c5 (by have := of_decide_eq_true hfull; omega)
          repeat' (first | (show q1a ..; first | refine q0d ?_ | refine q0p rfl ?_ | refine q1c rfl rfl ?_) | (show q1f ..; first | refine q0n rfl rfl ?_ | refine q0h rfl ?_) | (show goOn ..; first | refine q0s ?_ | refine q0u ?_ | refine q0y ?_ | refine q1t ?_ | refine q1s ?_) | (show q1k ..; refine q0j ?_) | (show q1u ..; (refine q0z (r := ?_) ?_ ?_; rotate_left 1; (focus first | exact cnil | exact co | exact c5 | exact cats | exact hk))) | (show wGo ..; first | refine q1v ?_ | refine q2b ?_ | refine q1x ?_ | refine q1z ?_ | refine gw_u ?_ | refine q1w (fun _ => ?_) (fun _ => ?_) | refine q2a (fun _ => ?_) (fun _ => ?_) | refine q1y (fun _ => ?_) (fun _ => ?_) | refine q2c (fun _ => ?_) (fun _ => ?_)) | (show dr ..; first | refine q1l ?_ | refine dr_n rfl ?_ | refine q2t rfl rfl ?_) | (show drGo ..; first | refine q2i rfl ?_ | refine q1j rfl ?_) | (show drOn ..; first | refine q1m ?_ | refine q1q ?_ | refine q1p ?_ | refine q2n ?_ | refine q2m ?_) | (show q1o ..; refine q1b ?_) | (show q2h ..; (refine q1i (r := ?_) ?_ ?_; rotate_left 1; (focus first | exact cnil | exact co | exact c5 | exact cats | exact hk))) | (refine And.intro (by kernel_rfl : q1r _ = true) ?_) | (show q0i ..; first | refine q0q ?_ | refine q0c ?_ | refine q1h (by kernel_rfl) ?_ | refine q0r ?_ | refine q0f ?_ | refine q0k ?_ | refine q0w ?_ | refine q0t ?_) | (show q1d ..; first | refine cd_t ?_ | refine cd_f ?_ | refine cd_n (fun _ => ?_) (fun _ => ?_) | refine cd_b (fun _ => ?_) (fun _ => ?_)) | refine q0a ?_ | refine q0m ?_ | refine q0l ?_ | refine q0v ?_ | refine q0g ?_ | refine q0x ?_ | refine bl_pass rfl ?_ | refine q1g ?_ | refine q1e ?_ | (show retQ ..; first | refine q0o ?_ | refine q0b ?_) | refine q0e ?_)
          all_goals rfl
        | false =>
          rw [hfull] at co
          simp only [Bool.false_eq_true, if_false] at co
          repeat' (first | (show q1a ..; first | refine q0d ?_ | refine q0p rfl ?_ | refine q1c rfl rfl ?_) | (show q1f ..; first | refine q0n rfl rfl ?_ | refine q0h rfl ?_) | (show goOn ..; first | refine q0s ?_ | refine q0u ?_ | refine q0y ?_ | refine q1t ?_ | refine q1s ?_) | (show q1k ..; refine q0j ?_) | (show q1u ..; (refine q0z (r := ?_) ?_ ?_; rotate_left 1; (focus first | exact cnil | exact co | exact c0 | exact cats | exact hk))) | (show wGo ..; first | refine q1v ?_ | refine q2b ?_ | refine q1x ?_ | refine q1z ?_ | refine gw_u ?_ | refine q1w (fun _ => ?_) (fun _ => ?_) | refine q2a (fun _ => ?_) (fun _ => ?_) | refine q1y (fun _ => ?_) (fun _ => ?_) | refine q2c (fun _ => ?_) (fun _ => ?_)) | (show dr ..; first | refine q1l ?_ | refine dr_n rfl ?_ | refine q2t rfl rfl ?_) | (show drGo ..; first | refine q2i rfl ?_ | refine q1j rfl ?_) | (show drOn ..; first | refine q1m ?_ | refine q1q ?_ | refine q1p ?_ | refine q2n ?_ | refine q2m ?_) | (show q1o ..; refine q1b ?_) | (show q2h ..; (refine q1i (r := ?_) ?_ ?_; rotate_left 1; (focus first | exact cnil | exact co | exact c0 | exact cats | exact hk))) | (refine And.intro (by kernel_rfl : q1r _ = true) ?_) | (show q0i ..; first | refine q0q ?_ | refine q0c ?_ | refine q1h (by kernel_rfl) ?_ | refine q0r ?_ | refine q0f ?_ | refine q0k ?_ | refine q0w ?_ | refine q0t ?_) | (show q1d ..; first | refine cd_t ?_ | refine cd_f ?_ | refine cd_n (fun _ => ?_) (fun _ => ?_) | refine cd_b (fun _ => ?_) (fun _ => ?_)) | refine q0a ?_ | refine q0m ?_ | refine q0l ?_ | refine q0v ?_ | refine q0g ?_ | refine q0x ?_ | refine bl_pass rfl ?_ | refine q1g ?_ | refine q1e ?_ | (show retQ ..; first | refine q0o ?_ | refine q0b ?_) | refine q0e ?_)
          all_goals rfl
    · refine q3g (S := Nat) (fun n => all.length - n) (fun n => n ≤ all.length) (fun n => [(1, .int .u64 id), (2, .int .u64 d), (3, .int .u64 x), (5, .ptr 0 0), (11, .ptr 1 0), (13, .ptr 2 0), (70, .sl (all.map u64)), (71, .int .i64 all.length), (72, .int .i64 n)]) (fun n => [(0, .box (Wd.enc w)), (1, .box (Ob.enc ⟨oid, kind, label, quota, fixed, links, data, maps, thread, gate, inn, out⟩)), (2, .box (Wd.enc (vn w ⟨oid, kind, label, quota, fixed, links, data, maps, thread, gate, inn, out⟩ (all.drop n))))]) (fun _ => 3) 0 (Nat.zero_le _) (by (refine q2q ?_ ?_ <;> repeat' (first | exact q2d | exact q2f | refine q1n (by (try simp only [go_sem, *]); try rfl) (by simp only [go_sem, *]) ?_ | refine q2g (by (try simp only [go_sem, *]); try rfl) (by omega) (by simp only [go_sem, *]) ?_ | refine q2e (by (try simp only [go_sem, *]); try rfl) (by omega) (by simp only [go_sem, *]) ?_))) ?_
      intro n hn
      rcases Nat.lt_or_ge n all.length with hlt | hge
      · obtain ⟨v, hv⟩ := q3j hlt
        have h0 := q3o hlt
        have h4 := q3d n (by omega)
        have hd : all.drop n = v :: all.drop (n + 1) := by
          rw [List.drop_eq_getElem_cons hlt]
          congr 1
          rw [List.getElem?_eq_getElem hlt] at hv
          exact Option.some.inj hv
        have c := ccons v (all.drop (n + 1)) (by rw [← hd, List.length_drop]; omega)
        rw [hd]
        clear hd
        repeat' (first | (show q1a ..; first | refine q0d ?_ | refine q0p rfl ?_ | refine q1c rfl rfl ?_) | (show q1f ..; first | refine q0n rfl rfl ?_ | refine q0h rfl ?_) | (show goOn ..; first | refine q0s ?_ | refine q0u ?_ | refine q0y ?_ | refine q1t ?_ | refine q1s ?_) | (show q1k ..; refine q0j ?_) | (show q1u ..; (refine q0z (r := ?_) ?_ ?_; rotate_left 1; (focus exact c))) | (show wGo ..; first | refine q1v ?_ | refine q2b ?_ | refine q1x ?_ | refine q1z ?_ | refine gw_u ?_ | refine q1w (fun _ => ?_) (fun _ => ?_) | refine q2a (fun _ => ?_) (fun _ => ?_) | refine q1y (fun _ => ?_) (fun _ => ?_) | refine q2c (fun _ => ?_) (fun _ => ?_)) | (show dr ..; first | refine q1l ?_ | refine dr_n rfl ?_ | refine q2t rfl rfl ?_) | (show drGo ..; first | refine q2i rfl ?_ | refine q1j rfl ?_) | (show drOn ..; first | refine q1m ?_ | refine q1q ?_ | refine q1p ?_ | refine q2n ?_ | refine q2m ?_) | (show q1o ..; refine q1b ?_) | (show q2h ..; (refine q1i (r := ?_) ?_ ?_; rotate_left 1; (focus exact c))) | (refine And.intro (by kernel_rfl : q1r _ = true) ?_) | (show q0i ..; first | refine q0q ?_ | refine q0c ?_ | refine q1h (by kernel_rfl) ?_ | refine q0r ?_ | refine q0f ?_ | refine q0k ?_ | refine q0w ?_ | refine q0t ?_) | (show q1d ..; first | refine cd_t ?_ | refine cd_f ?_ | refine cd_n (fun _ => ?_) (fun _ => ?_) | refine cd_b (fun _ => ?_) (fun _ => ?_)) | refine q0a ?_ | refine q0m ?_ | refine q0l ?_ | refine q0v ?_ | refine q0g ?_ | refine q0x ?_ | refine bl_pass rfl ?_ | refine q1g ?_ | refine q1e ?_ | (show retQ ..; first | refine q0o ?_ | refine q0b ?_) | refine q0e ?_)
        all_goals (refine again (n + 1) hlt (show all.length - (n + 1) < all.length - n by omega) (by (refine q2q ?_ ?_ <;> repeat' (first | exact q2d | exact q2f | refine q1n (by (try simp only [go_sem, *]); try rfl) (by simp only [go_sem, *]) ?_ | refine q2g (by (try simp only [go_sem, *]); try rfl) (by omega) (by simp only [go_sem, *]) ?_ | refine q2e (by (try simp only [go_sem, *]); try rfl) (by omega) (by simp only [go_sem, *]) ?_))))
      · have h0 := q2z hge
        rw [show all.drop n = [] from List.drop_of_length_le hge]
        cases hfull : decide ((out.length : Int) < 1024) with
        | true =>
          rw [hfull] at co
          simp only [if_true] at co
          have c5 := c5 (by have := of_decide_eq_true hfull; omega)
          repeat' (first | (show q1a ..; first | refine q0d ?_ | refine q0p rfl ?_ | refine q1c rfl rfl ?_) | (show q1f ..; first | refine q0n rfl rfl ?_ | refine q0h rfl ?_) | (show goOn ..; first | refine q0s ?_ | refine q0u ?_ | refine q0y ?_ | refine q1t ?_ | refine q1s ?_) | (show q1k ..; refine q0j ?_) | (show q1u ..; (refine q0z (r := ?_) ?_ ?_; rotate_left 1; (focus first | exact cnil | exact co | exact c5 | exact cats | exact hk))) | (show wGo ..; first | refine q1v ?_ | refine q2b ?_ | refine q1x ?_ | refine q1z ?_ | refine gw_u ?_ | refine q1w (fun _ => ?_) (fun _ => ?_) | refine q2a (fun _ => ?_) (fun _ => ?_) | refine q1y (fun _ => ?_) (fun _ => ?_) | refine q2c (fun _ => ?_) (fun _ => ?_)) | (show dr ..; first | refine q1l ?_ | refine dr_n rfl ?_ | refine q2t rfl rfl ?_) | (show drGo ..; first | refine q2i rfl ?_ | refine q1j rfl ?_) | (show drOn ..; first | refine q1m ?_ | refine q1q ?_ | refine q1p ?_ | refine q2n ?_ | refine q2m ?_) | (show q1o ..; refine q1b ?_) | (show q2h ..; (refine q1i (r := ?_) ?_ ?_; rotate_left 1; (focus first | exact cnil | exact co | exact c5 | exact cats | exact hk))) | (refine And.intro (by kernel_rfl : q1r _ = true) ?_) | (show q0i ..; first | refine q0q ?_ | refine q0c ?_ | refine q1h (by kernel_rfl) ?_ | refine q0r ?_ | refine q0f ?_ | refine q0k ?_ | refine q0w ?_ | refine q0t ?_) | (show q1d ..; first | refine cd_t ?_ | refine cd_f ?_ | refine cd_n (fun _ => ?_) (fun _ => ?_) | refine cd_b (fun _ => ?_) (fun _ => ?_)) | refine q0a ?_ | refine q0m ?_ | refine q0l ?_ | refine q0v ?_ | refine q0g ?_ | refine q0x ?_ | refine bl_pass rfl ?_ | refine q1g ?_ | refine q1e ?_ | (show retQ ..; first | refine q0o ?_ | refine q0b ?_) | refine q0e ?_)
          all_goals rfl
        | false =>
          rw [hfull] at co
          simp only [Bool.false_eq_true, if_false] at co
          repeat' (first | (show q1a ..; first | refine q0d ?_ | refine q0p rfl ?_ | refine q1c rfl rfl ?_) | (show q1f ..; first | refine q0n rfl rfl ?_ | refine q0h rfl ?_) | (show goOn ..; first | refine q0s ?_ | refine q0u ?_ | refine q0y ?_ | refine q1t ?_ | refine q1s ?_) | (show q1k ..; refine q0j ?_) | (show q1u ..; (refine q0z (r := ?_) ?_ ?_; rotate_left 1; (focus first | exact cnil | exact co | exact c0 | exact cats | exact hk))) | (show wGo ..; first | refine q1v ?_ | refine q2b ?_ | refine q1x ?_ | refine q1z ?_ | refine gw_u ?_ | refine q1w (fun _ => ?_) (fun _ => ?_) | refine q2a (fun _ => ?_) (fun _ => ?_) | refine q1y (fun _ => ?_) (fun _ => ?_) | refine q2c (fun _ => ?_) (fun _ => ?_)) | (show dr ..; first | refine q1l ?_ | refine dr_n rfl ?_ | refine q2t rfl rfl ?_) | (show drGo ..; first | refine q2i rfl ?_ | refine q1j rfl ?_) | (show drOn ..; first | refine q1m ?_ | refine q1q ?_ | refine q1p ?_ | refine q2n ?_ | refine q2m ?_) | (show q1o ..; refine q1b ?_) | (show q2h ..; (refine q1i (r := ?_) ?_ ?_; rotate_left 1; (focus first | exact cnil | exact co | exact c0 | exact cats | exact hk))) | (refine And.intro (by kernel_rfl : q1r _ = true) ?_) | (show q0i ..; first | refine q0q ?_ | refine q0c ?_ | refine q1h (by kernel_rfl) ?_ | refine q0r ?_ | refine q0f ?_ | refine q0k ?_ | refine q0w ?_ | refine q0t ?_) | (show q1d ..; first | refine cd_t ?_ | refine cd_f ?_ | refine cd_n (fun _ => ?_) (fun _ => ?_) | refine cd_b (fun _ => ?_) (fun _ => ?_)) | refine q0a ?_ | refine q0m ?_ | refine q0l ?_ | refine q0v ?_ | refine q0g ?_ | refine q0x ?_ | refine bl_pass rfl ?_ | refine q1g ?_ | refine q1e ?_ | (show retQ ..; first | refine q0o ?_ | refine q0b ?_) | refine q0e ?_)
          all_goals rfl
end Go.Proofs.YteibeoipnjhicaaGreat.kdev
