import Derived.Test.YtoibbedpaaeclaaGreatRz6
section
namespace Go.Proofs.YtoibbedpaaeclaaGreat
open Go Go.RowKit
set_option linter.unusedVariables false
set_option linter.unusedSimpArgs false
set_option maxHeartbeats 16000000
set_option maxRecDepth 100000
attribute [local irreducible] q0i dr q0d Ex.then Ex.inBlock retQ q1n q2d q2c Pure CSat evOp q1i rdOf upd hset strip sp0 cut envL q1g q3i Keep BdL evBs q2n q2s
def briefAt (l : List Ob) (k : Nat) : Bool := match l[k]? with
  | some x => briefOb x
  | none => true
def eqAt (l k : List Ob) (j : Nat) : Bool := match l[j]? with
  | some x => match k[j]? with
    | some y => q8c x y
    | none => true
  | none => true
def eqObs (l k : List Ob) : Bool := decide (l.length = k.length) && allB l.length (eqAt l k)
def sameWd (a b : Wd) : Bool := a.time == b.time && (a.key == b.key && (a.root == b.root && eqObs a.objects b.objects))
theorem r13_sameW (a b : Wd) (ha : a.L) : Pure Tryz.prog 28 [.agg (Wd.enc a), .agg (Wd.enc b)] (.bool (sameWd a b)) := by
  refine q2p (by kernel_rfl) (by simp only [go_sem, *]) (by simp only [go_sem, *]) Tryz.func28 Tryz.results28 rfl (by simp [Tryz.ntmps28]) (by kernel_rfl) ?_
  obtain ⟨hl, ho⟩ := ha
  by_cases hlen : a.objects.length = b.objects.length
  · have hd : decide (a.objects.length = b.objects.length) = true := decide_eq_true hlen
    have hlen' : ((a.objects.length : Int) == (b.objects.length : Int)) = true := by simp; omega
    repeat' (first | (show q0i ..; first | refine q0c ?_ | refine q0e rfl ?_ | refine q1a rfl rfl ?_) | (show q0k ..; refine q0f rfl rfl ?_) | (show goOn ..; first | refine q0g ?_ | refine q1d ?_) | (show wGo ..; first | refine q4b ?_ | refine q4y ?_ | refine q9s (fun _ => ?_) (fun _ => ?_)) | (show q0d ..; first | refine q0h ?_ | refine q0b ?_ | refine q0t ?_ | refine q0s ?_ | refine q0m ?_ | refine q0j ?_) | (show q0o ..; first | refine cd_t ?_ | refine cd_f ?_) | refine q0a ?_ | refine q2j ?_ | (show retQ ..; refine q0u ?_) | refine q0n ?_)
    all_goals first | (refine q1u ?_; unfold sameWd; simp only [*, Bool.not_true, Bool.not_false, Bool.and_true, Bool.true_and, Bool.and_false, Bool.false_and, Bool.or_true, Bool.true_or, Bool.or_false, Bool.false_or, Bool.and_self, Bool.or_self, decide_true, decide_false, Bool.not_not, if_true, if_false, Bool.false_eq_true, eq_self]; done) | skip
    rename_i t1 t2 t3
    refine q2l (S := Nat) (fun n => a.objects.length - n) (fun n => n ≤ a.objects.length ∧ ∀ j, j < n → eqAt a.objects b.objects j = true) (fun n => [(2, .ptr 0 0), (3, .ptr 1 0), (5, .int .i64 n)]) (fun _ => [(0, .box (Wd.enc a)), (1, .box (Wd.enc b))]) (fun _ => 2) 0 ⟨Nat.zero_le _, fun j hj => absurd hj (Nat.not_lt_zero j)⟩ (by (refine q1l ?_ ?_ <;> repeat' (first | exact q0v | exact q0y | refine q0p (by (try simp only [go_sem, *]); try rfl) (by simp only [go_sem, *]) ?_ | refine q0z (by (try simp only [go_sem, *]); try rfl) (by omega) (by simp only [go_sem, *]) ?_ | refine q0x (by (try simp only [go_sem, *]); try rfl) (by omega) (by simp only [go_sem, *]) ?_))) ?_
    rintro n ⟨hn, hs⟩
    have fin : ∀ c, allB a.objects.length (eqAt a.objects b.objects) = c → c = sameWd a b := fun c hb => by unfold sameWd eqObs; rw [hb, hd, t1, t2, t3]; rfl
    rcases Nat.lt_or_ge n a.objects.length with hlt | hge
    · obtain ⟨x, hx⟩ := q2b hlt
      obtain ⟨y, hy⟩ := q2b (hlen ▸ hlt : n < b.objects.length)
      have h0 := q2h hlt
      have hk0 := q2h (hlen ▸ hlt : n < b.objects.length)
      have h4 := q2a n (by omega)
      have hLx := (ho x (List.mem_of_getElem? hx)).1
      have e : eqAt a.objects b.objects n = q8c x y := by unfold eqAt; rw [hx]; simp only [hy]
      repeat' (first | (show q0i ..; first | refine q0c ?_ | refine q0e rfl ?_) | (show q0k ..; refine q0f rfl rfl ?_) | (show goOn ..; refine q0g ?_) | (show dr ..; first | refine q1y ?_ | refine dr_n rfl ?_) | (show drGo ..; first | refine q2t rfl ?_ | refine q2k rfl ?_) | (show drOn ..; refine q1z ?_) | (show q2e ..; (refine q1f (r := ?_) ?_ ?_; rotate_left 1; (focus exact q5m _ _ hLx))) | (refine And.intro (by kernel_rfl : q1n _ = true) ?_) | (show q0d ..; first | refine q0h ?_ | refine q0b ?_ | refine q1o (by kernel_rfl) ?_ | refine q0t ?_ | refine q0s ?_ | refine q0m ?_ | refine q0j ?_) | (show q0o ..; first | refine cd_t ?_ | refine cd_n (fun _ => ?_) (fun _ => ?_)) | refine q0a ?_ | refine q2j ?_ | refine q0q ?_ | refine q3k ?_ | (show retQ ..; refine q0u ?_) | refine q0n ?_)
      all_goals first
        | (refine q1u (fin _ (q2o hlt ?_)); simp only [*, Bool.not_true, Bool.not_false, Bool.and_true, Bool.true_and, Bool.and_false, Bool.false_and, Bool.or_true, Bool.true_or, Bool.or_false, Bool.false_or, Bool.and_self, Bool.or_self, decide_true, decide_false, Bool.not_not, if_true, if_false, Bool.false_eq_true, eq_self])
        | (refine again (n + 1) ⟨?_, q5d hs ?_⟩ ?_ (by (refine q1l ?_ ?_ <;> repeat' (first | exact q0v | exact q0y | refine q0p (by (try simp only [go_sem, *]); try rfl) (by simp only [go_sem, *]) ?_ | refine q0z (by (try simp only [go_sem, *]); try rfl) (by omega) (by simp only [go_sem, *]) ?_ | refine q0x (by (try simp only [go_sem, *]); try rfl) (by omega) (by simp only [go_sem, *]) ?_))); (focus omega); (focus simp only [*, Bool.not_true, Bool.not_false, Bool.and_true, Bool.true_and, Bool.and_false, Bool.false_and, Bool.or_true, Bool.true_or, Bool.or_false, Bool.false_or, Bool.and_self, Bool.or_self, decide_true, decide_false, Bool.not_not, if_true, if_false, Bool.false_eq_true, eq_self]); (focus omega))
    · have h0 := q1q hge
      have hk0 := q1q (by omega : b.objects.length ≤ n)
      repeat' (first | (show q0i ..; first | refine q0c ?_ | refine q0e rfl ?_) | (show q0k ..; refine q0f rfl rfl ?_) | (show goOn ..; refine q0g ?_) | (show q0d ..; first | refine q0h ?_ | refine q0b ?_ | refine q0t ?_ | refine q1s ?_ | refine q0j ?_) | (show q0o ..; refine cd_f ?_) | refine q0a ?_ | refine q1r ?_ | refine q1t ?_ | (show retQ ..; refine q0u ?_) | refine q0n ?_)
      exact q1u (fin _ (q2m fun j hj => hs j (by omega)))
  · have hlen' : ((a.objects.length : Int) == (b.objects.length : Int)) = false := by simp; omega
    have hd : decide (a.objects.length = b.objects.length) = false := decide_eq_false hlen
    repeat' (first | (show q0i ..; first | refine q0c ?_ | refine q0e rfl ?_ | refine q1a rfl rfl ?_) | (show q0k ..; refine q0f rfl rfl ?_) | (show goOn ..; first | refine q0g ?_ | refine q1d ?_) | (show wGo ..; first | refine q4b ?_ | refine q4y ?_ | refine q9s (fun _ => ?_) (fun _ => ?_)) | (show q0d ..; first | refine q0h ?_ | refine q0b ?_ | refine q0t ?_ | refine q0j ?_) | (show q0o ..; refine cd_t ?_) | refine q0a ?_ | refine q2j ?_ | (show retQ ..; refine q0u ?_) | refine q0n ?_)
    all_goals (refine q1u ?_; unfold sameWd eqObs; rw [hd]; simp only [*, Bool.not_true, Bool.not_false, Bool.and_true, Bool.true_and, Bool.and_false, Bool.false_and, Bool.or_true, Bool.true_or, Bool.or_false, Bool.false_or, Bool.and_self, Bool.or_self, decide_true, decide_false, Bool.not_not, if_true, if_false, Bool.false_eq_true, eq_self])
def pagesR (o : Ob) : Int := IntKind.i64.wrap (1 + IntKind.i64.wrap ((IntKind.i64.wrap (IntKind.i64.wrap ((o.data.length : Int) + 16) - 1)).tdiv 16))
theorem r13_pages (o : Ob) : Pure Tryz.prog 164 [.agg (Ob.enc o)] (.int .i64 (pagesR o)) := by
  refine q2p (by kernel_rfl) (by simp only [go_sem, *]) (by simp only [go_sem, *]) Tryz.func164 Tryz.results164 rfl (by simp [Tryz.ntmps164]) (by kernel_rfl) ?_
  repeat' (first | (show q0i ..; first | refine q0c ?_ | refine q0e rfl ?_) | (show q0k ..; refine q0f rfl rfl ?_) | (show goOn ..; first | refine q0g ?_ | refine q1d ?_) | (show q0d ..; first | refine q0h ?_ | refine q0b ?_ | refine q0t ?_) | refine q0a ?_ | (show retQ ..; refine q0u ?_) | refine q0n ?_)
  all_goals rfl
def levUp (n : Int) : Int := if (q6r n == 0) = true then 5 else q6r n
theorem r01_raise (n : Int) : Pure Tryz.prog 93 [.int .i64 n] (.int .i64 (levUp n)) := by
  refine q2p (by kernel_rfl) (by simp only [go_sem, *]) (by simp only [go_sem, *]) Tryz.func93 Tryz.results93 rfl (by simp [Tryz.ntmps93]) (by kernel_rfl) ?_
  repeat' (first | (show q0i ..; first | refine q0c ?_ | refine q0e rfl ?_) | (show q0k ..; first | refine q0f rfl rfl ?_ | refine q0l rfl ?_) | (show goOn ..; refine q0g ?_) | (show q1k ..; (refine q0r (r := ?_) ?_ ?_; rotate_left 1; (focus exact r01_of _))) | (show q0d ..; first | refine q0h ?_ | refine q0b ?_ | refine q0t ?_ | refine q0s ?_ | refine q0j ?_) | (show q0o ..; refine cd_b (fun _ => ?_) (fun _ => ?_)) | refine q0a ?_ | refine q2j ?_ | (show retQ ..; refine q0u ?_) | refine q0n ?_)
  all_goals (unfold levUp; simp only [*, if_true, if_false, Bool.false_eq_true]; try rfl)
def upPr (p : Pr) : Pr := ⟨p.cat, levUp p.lev⟩
theorem r2_raise (l : List Pr) (hl : l.length ≤ 900000) : Pure Tryz.prog 44 [.sl (l.map Pr.enc)] (.sl ((l.map upPr).map Pr.enc)) := by
  refine q2p (by kernel_rfl) (by simp only [go_sem, *]) (by simp only [go_sem, *]) Tryz.func44 Tryz.results44 rfl (by simp [Tryz.ntmps44]) (by kernel_rfl) ?_
  repeat' (first | (show q0i ..; first | refine q0c ?_ | refine q0e rfl ?_) | (show q0k ..; refine q0f rfl rfl ?_) | (show goOn ..; refine q0g ?_) | (show q0d ..; first | refine q0h ?_ | refine q0b ?_ | refine q0m ?_) | refine q0a ?_)
  refine q2l (S := Nat × List Pr × Nat) (fun s => l.length - s.1) (fun s => s.1 ≤ l.length ∧ (l.take s.1).map upPr = s.2.1) (fun s => [(0, .sl (l.map Pr.enc)), (3, accV s.2.2 s.2.1), (4, .int .i64 s.1)]) (fun s => accG s.2.2 76 2 Pr.enc s.2.1) (fun s => accM 0 s.2.2 s.2.1) (0, [], 0) ⟨Nat.zero_le _, rfl⟩ (by simp only [q3a, q3c, q3b]; (refine q1l ?_ ?_ <;> repeat' (first | exact q0v | exact q0y | refine q0p (by (try simp only [go_sem, *]); try rfl) (by simp only [go_sem, *]) ?_ | refine q0z (by (try simp only [go_sem, *]); try rfl) (by omega) (by simp only [go_sem, *]) ?_ | refine q0x (by (try simp only [go_sem, *]); try rfl) (by omega) (by simp only [go_sem, *]) ?_))) ?_
  rintro ⟨n, acc, id⟩ ⟨hn, hs⟩
  simp only at hn hs
  have ha : acc.length < 1000000 := by rw [← hs]; simp only [List.length_map, List.length_take]; omega
  have hb1 := q6o ha
  have hb2 := q8d (b := 16) ha (by decide)
  rcases Nat.lt_or_ge n l.length with hlt | hge
  · obtain ⟨x, hx⟩ := q2b hlt
    have h0 := q2h hlt
    have h4 := q2a n (by omega)
    have hy : (l.take (n + 1)).map upPr = (l.take n).map upPr ++ [upPr x] := by rw [q4h hx, List.map_append]; rfl
    rcases q5g acc with hnil | hne
    · subst hnil
      simp only [q3a, q3c, q3b]
      repeat' (first | (show q0i ..; first | refine q0c ?_ | refine q0e rfl ?_) | (show q0k ..; refine q0f rfl rfl ?_) | (show goOn ..; refine q0g ?_) | (show dr ..; first | refine q1y ?_ | refine dr_n rfl ?_) | (show drGo ..; first | refine q2t rfl ?_ | refine q2k rfl ?_) | (show drOn ..; first | refine q1z ?_ | refine dn_born ?_) | (show q2e ..; (refine q1f (r := ?_) ?_ ?_; rotate_left 1; (focus exact r01_raise _))) | (refine And.intro (by kernel_rfl : q1n _ = true) ?_) | (show q0d ..; first | refine q0h ?_ | refine q0b ?_ | refine q1o (by kernel_rfl) ?_ | refine q0s ?_ | refine q0m ?_ | refine q0j ?_) | (show q0o ..; refine cd_t ?_) | refine q0a ?_ | refine q0q ?_)
      · refine again (n + 1, [] ++ [upPr x], 0) ⟨hlt, by rw [hy, hs]⟩ (by simp only; omega) ?_
        simp only [q3n, q3p, q3o]
        (refine q1l ?_ ?_ <;> repeat' (first | exact q0v | exact q0y | refine q0p (by (try simp only [go_sem, *]); try rfl) (by simp only [go_sem, *]) ?_ | refine q0z (by (try simp only [go_sem, *]); try rfl) (by omega) (by simp only [go_sem, *]) ?_ | refine q0x (by (try simp only [go_sem, *]); try rfl) (by omega) (by simp only [go_sem, *]) ?_))
    · simp only [q3t hne, q3v hne, q3u hne]
      repeat' (first | (show q0i ..; first | refine q0c ?_ | refine q0e rfl ?_) | (show q0k ..; refine q0f rfl rfl ?_) | (show goOn ..; refine q0g ?_) | (show dr ..; first | refine q1y ?_ | refine dr_n rfl ?_) | (show drGo ..; first | refine q2t rfl ?_ | refine q2k rfl ?_) | (show drOn ..; first | refine q1z ?_ | refine dn_grow ?_) | (show q2e ..; (refine q1f (r := ?_) ?_ ?_; rotate_left 1; (focus exact r01_raise _))) | (refine And.intro (by kernel_rfl : q1n _ = true) ?_) | (show q0d ..; first | refine q0h ?_ | refine q0b ?_ | refine q1o (by kernel_rfl) ?_ | refine q0s ?_ | refine q0m ?_ | refine q0j ?_) | (show q0o ..; refine cd_t ?_) | refine q0a ?_ | refine q0q ?_)
      · refine again (n + 1, acc ++ [upPr x], id) ⟨hlt, by rw [hy, hs]⟩ (by simp only; omega) ?_
        simp only [q3n, q3p, q3o]
        (refine q1l ?_ ?_ <;> repeat' (first | exact q0v | exact q0y | refine q0p (by (try simp only [go_sem, *]); try rfl) (by simp only [go_sem, *]) ?_ | refine q0z (by (try simp only [go_sem, *]); try rfl) (by omega) (by simp only [go_sem, *]) ?_ | refine q0x (by (try simp only [go_sem, *]); try rfl) (by omega) (by simp only [go_sem, *]) ?_))
  · have h0 := q1q hge
    have hs' : l.map upPr = acc := by rw [← hs, List.take_of_length_le hge]
    rcases q5g acc with hnil | hne
    · subst hnil
      simp only [q3a, q3c, q3b]
      repeat' (first | (show q0i ..; first | refine q0c ?_ | refine q0e rfl ?_) | (show q0k ..; refine q0f rfl rfl ?_) | (show goOn ..; refine q0g ?_) | (show q0d ..; first | refine q0h ?_ | refine q0b ?_ | refine q0t ?_ | refine q1s ?_ | refine q0j ?_) | (show q0o ..; refine cd_f ?_) | refine q0a ?_ | refine q1r ?_ | refine q1t ?_ | (show retQ ..; refine q0u ?_) | refine q0n ?_)
      rw [hs']; rfl
    · simp only [q3t hne, q3v hne, q3u hne]
      repeat' (first | (show q0i ..; first | refine q0c ?_ | refine q0e rfl ?_) | (show q0k ..; refine q0f rfl rfl ?_) | (show goOn ..; refine q0g ?_) | (show q0d ..; first | refine q0h ?_ | refine q0b ?_ | refine q0t ?_ | refine q1s ?_ | refine q0j ?_) | (show q0o ..; refine cd_f ?_) | refine q0a ?_ | refine q1r ?_ | refine q1t ?_ | (show retQ ..; refine q0u ?_) | refine q0n ?_)
      rw [hs']
def q7g (o : Ob) : List Pr := if (o.kind == 4) = true then o.label.map upPr else o.label
end Go.Proofs.YtoibbedpaaeclaaGreat
end

section
namespace Go.Proofs.YtoibbedpaaeclaaGreat
open Go Go.RowKit
set_option linter.unusedVariables false
set_option linter.unusedSimpArgs false
set_option maxHeartbeats 16000000
set_option maxRecDepth 100000
attribute [local irreducible] q0i dr q0d Ex.then Ex.inBlock retQ q1n q2d q2c Pure CSat evOp q1i rdOf upd hset strip sp0 cut envL q1g q3i Keep BdL evBs q2n q2s
def q2i (w : Wd) (id : Int) : Ob × Bool := match w.objects.find? (fun x => x.id == id) with
  | some x => (x, true)
  | none => (Ob.zero, false)
theorem q6u (w : Wd) (id : Int) (hl : w.objects.length ≤ 1000000) : Pure Tryz.prog 29 [.agg (Wd.enc w), .int .u64 id] (.tup [.agg (Ob.enc (q2i w id).1), .bool (q2i w id).2]) := by
  refine q2p (by kernel_rfl) (by simp only [go_sem, *]) (by simp only [go_sem, *]) Tryz.func29 Tryz.results29 rfl (by simp [Tryz.ntmps29]) (by kernel_rfl) ?_
  repeat' (first | (show q0i ..; first | refine q0c ?_ | refine q0e rfl ?_) | (show q0k ..; refine q0f rfl rfl ?_) | (show goOn ..; first | refine q0g ?_ | refine q1d ?_) | (show q0d ..; first | refine q0h ?_ | refine q0b ?_ | refine q0m ?_) | refine q0a ?_)
  refine q2l (S := Nat) (fun n => w.objects.length - n) (fun n => n ≤ w.objects.length ∧ ∀ j, j < n → ∀ y, w.objects[j]? = some y → (y.id == id) = false) (fun n => [(1, .int .u64 id), (2, .ptr 0 0), (4, .ptr 1 0), (6, .int .i64 n)]) (fun _ => [(0, .box (Wd.enc w)), (1, .box (Ob.enc Ob.zero))]) (fun _ => 2) 0 ⟨Nat.zero_le _, fun j hj => absurd hj (Nat.not_lt_zero j)⟩ (by (refine q1l ?_ ?_ <;> repeat' (first | exact q0v | exact q0y | refine q0p (by (try simp only [go_sem, *]); try rfl) (by simp only [go_sem, *]) ?_ | refine q0z (by (try simp only [go_sem, *]); try rfl) (by omega) (by simp only [go_sem, *]) ?_ | refine q0x (by (try simp only [go_sem, *]); try rfl) (by omega) (by simp only [go_sem, *]) ?_))) ?_
  rintro n ⟨hn, hs⟩
  rcases Nat.lt_or_ge n w.objects.length with hlt | hge
  · obtain ⟨x, hx⟩ := q2b hlt
    have h0 := q2h hlt
    have h4 := q2a n (by omega)
    repeat' (first | (show q0i ..; first | refine q0c ?_ | refine q0e rfl ?_) | (show q0k ..; refine q0f rfl rfl ?_) | (show goOn ..; first | refine q0g ?_ | refine q1x ?_) | (show q2w ..; refine q1h ?_) | (show q0d ..; first | refine q0h ?_ | refine q0b ?_ | refine q0t ?_ | refine q0s ?_ | refine q0m ?_ | refine q0j ?_) | (show q0o ..; first | refine cd_t ?_ | refine cd_b (fun _ => ?_) (fun _ => ?_)) | refine q0a ?_ | refine q2j ?_ | refine q0q ?_ | refine q3k ?_ | (show retQ ..; refine q0u ?_) | refine q0n ?_)
    all_goals rename_i hc
    · have := find_at (p := fun p : Ob => p.id == id) hx hc hs
      unfold q2i; rw [this]
    · exact again (n + 1) ⟨by omega, none_to hx hs hc⟩ (by omega) (by (refine q1l ?_ ?_ <;> repeat' (first | exact q0v | exact q0y | refine q0p (by (try simp only [go_sem, *]); try rfl) (by simp only [go_sem, *]) ?_ | refine q0z (by (try simp only [go_sem, *]); try rfl) (by omega) (by simp only [go_sem, *]) ?_ | refine q0x (by (try simp only [go_sem, *]); try rfl) (by omega) (by simp only [go_sem, *]) ?_)))
  · have h0 := q1q hge
    have := find_none (p := fun p : Ob => p.id == id) hge hs
    repeat' (first | (show q0i ..; first | refine q0c ?_ | refine q0e rfl ?_) | (show q0k ..; refine q0f rfl rfl ?_) | (show goOn ..; first | refine q0g ?_ | refine q1x ?_) | (show q2w ..; refine q1h ?_) | (show q0d ..; first | refine q0h ?_ | refine q0b ?_ | refine q0t ?_ | refine q1s ?_ | refine q0j ?_) | (show q0o ..; refine cd_f ?_) | refine q0a ?_ | refine q1r ?_ | refine q1t ?_ | (show retQ ..; refine q0u ?_) | refine q0n ?_)
    unfold q2i; rw [this]
def stpR (o : Ob) (s : List Ob × Bool) (x : Ob) : List Ob × Bool :=
  let s1 := if (!s.2 && decide (x.id ≥ o.id)) = true then (s.1 ++ [o], true) else s
  if (x.id == o.id) = true then s1 else (s1.1 ++ [x], s1.2)
def putL (l : List Ob) (o : Ob) : List Ob := let s := l.foldl (stpR o) ([], false); if s.2 = true then s.1 else s.1 ++ [o]
def putR (w : Wd) (o : Ob) : Wd := if decide (((putL w.objects o).length : Int) > 1024) = true then w else { w with objects := putL w.objects o }
theorem stp_eq {o : Ob} {s : List Ob × Bool} {x : Ob} {acc : List Ob} {d b c : Bool} (hs : s = (acc, d)) (hb : decide (x.id ≥ o.id) = b) (hc : (x.id == o.id) = c) :
    stpR o s x = (if (!d && b) = true then (if c = true then (acc ++ [o], true) else (acc ++ [o] ++ [x], true)) else (if c = true then (acc, d) else (acc ++ [x], d))) := by
  subst hs; unfold stpR; simp only [hb, hc]; clear hb hc; cases c <;> cases d <;> cases b <;> rfl
end Go.Proofs.YtoibbedpaaeclaaGreat
end

section
namespace Go.Proofs.YtoibbedpaaeclaaGreat
open Go Go.RowKit
set_option linter.unusedVariables false
set_option linter.unusedSimpArgs false
set_option maxHeartbeats 16000000
set_option maxRecDepth 100000
structure FewW (w : Wd) : Prop where
  n : w.objects.length ≤ 24
  ob : ∀ x ∈ w.objects, x.label.length ≤ 20 ∧ x.links.length ≤ 70 ∧ x.data.length ≤ 300 ∧ x.maps.length ≤ 20
theorem sidx {α : Type} {l : List α} {n : Nat} {x : α} (h : l[n]? = some x) : x ∈ l := List.mem_of_getElem? h
def q2y (w : Wd) (id : Int) : List Int := (w.objects.filter fun o => o.links.any (· == id)).map Ob.id
def q7d (l : List Ob) (id : Int) (n : Nat) : List Int := ((l.take n).filter fun o => o.links.any (· == id)).map Ob.id
theorem hold_yes {l : List Ob} {id : Int} {n : Nat} {x : Ob} (hx : l[n]? = some x) (h : x.links.any (· == id) = true) : q7d l id (n + 1) = q7d l id n ++ [x.id] := by
  unfold q7d; rw [q4h hx, List.filter_append, List.filter_cons, if_pos h, List.filter_nil, List.map_append]; rfl
theorem hold_no {l : List Ob} {id : Int} {n : Nat} {x : Ob} (hx : l[n]? = some x) (h : x.links.any (· == id) = false) : q7d l id (n + 1) = q7d l id n := by
  unfold q7d; rw [q4h hx, List.filter_append, List.filter_cons, if_neg (by rw [h]; simp), List.filter_nil, List.append_nil]
theorem hold_len (l : List Ob) (id : Int) (n : Nat) : (q7d l id n).length ≤ l.length := by
  unfold q7d
  rw [List.length_map]
  refine Nat.le_trans (List.length_filter_le _ _) ?_
  rw [List.length_take]; omega
theorem hold_all (w : Wd) (id : Int) {n : Nat} (h : w.objects.length ≤ n) : q7d w.objects id n = q2y w id := by unfold q7d q2y; rw [List.take_of_length_le h]
theorem x0m (w : Wd) (id : Int) : (q2y w id).length ≤ w.objects.length := by rw [← hold_all w id (Nat.le_refl _)]; exact hold_len _ _ _
def usesR (w : Wd) (o : Ob) : Int := o.links.foldl (fun s id => IntKind.i64.wrap (s + (q2i w id).1.quota)) (pagesR o)
def usesN (w : Wd) (o : Ob) (n : Nat) : Int := (o.links.take n).foldl (fun s id => IntKind.i64.wrap (s + (q2i w id).1.quota)) (pagesR o)
theorem uses_succ {w : Wd} {o : Ob} {n : Nat} {x : Int} (hx : o.links[n]? = some x) : usesN w o (n + 1) = IntKind.i64.wrap (usesN w o n + (q2i w x).1.quota) := by
  unfold usesN; rw [q4h hx, List.foldl_append]; rfl
def q8z (w : Wd) : Nat → Int → List Int → List Int
  | 0, _, _ => []
  | f + 1, id, out => match q2y w id with
    | [] => out
    | h :: _ => q8z w f h (out ++ [h])
def above (w : Wd) (id : Int) : List Int := q8z w (w.objects.length + 1) id []
theorem aboveG_len (w : Wd) : ∀ (f : Nat) (id : Int) (out : List Int), (q8z w f id out).length ≤ out.length + f
  | 0, _, _ => Nat.zero_le _
  | f + 1, id, out => by
    unfold q8z
    split
    · omega
    · rename_i h t _
      have := aboveG_len w f h (out ++ [h])
      simp only [List.length_append, List.length_cons, List.length_nil] at this
      omega
theorem above_len (w : Wd) (id : Int) : (above w id).length ≤ w.objects.length + 1 := by have := aboveG_len w (w.objects.length + 1) id []; unfold above; simpa using this
def upR (w : Wd) (id : Int) : Bool := ((id == w.root) && ((above w id).length == 0)) || (match (above w id)[(above w id).length - 1]? with
  | some z => z == w.root
  | none => false)
def q8n (w : Wd) (o : Ob) : Bool :=
  if (o.id == w.root) = true then ((((q2y w o.id).length : Int) == 0) && ((o.kind == 2) && decide (o.quota ≤ 1024)))
  else if (decide (((q2y w o.id).length : Int) < 1) || (decide (((q2y w o.id).length : Int) > 1) && (!o.fixed || (o.kind == 2) || (o.kind == 4)))) = true then false
  else (o.kind != 2) || upR w o.id
attribute [local irreducible] q0i dr q0d Ex.then Ex.inBlock retQ q1n q2d q2c Pure CSat evOp q1i rdOf upd hset strip sp0 cut envL q1g q3i Keep BdL evBs q2n q2s
theorem r14_has (l : List Int) (n : Int) (hl : l.length ≤ 9223372036854775807) : Pure Tryz.prog 161 [.sl (l.map u64), .int .u64 n] (.bool (l.any (· == n))) := by
  refine q2p (by kernel_rfl) (by simp only [go_sem, *]) (by simp only [go_sem, *]) Tryz.func161 Tryz.results161 rfl (by simp [Tryz.ntmps161]) (by kernel_rfl) ?_
  repeat' (first | (show q0i ..; first | refine q0c ?_ | refine q0e rfl ?_) | (show q0k ..; refine q0f rfl rfl ?_) | (show goOn ..; refine q0g ?_) | (show q0d ..; first | refine q0h ?_ | refine q0b ?_ | refine q0m ?_) | refine q0a ?_)
  refine q2l (S := Nat) (fun k => l.length - k) (fun k => k ≤ l.length ∧ ∀ j, j < k → ∀ y, l[j]? = some y → (y == n) = false) (fun k => [(0, .sl (l.map u64)), (1, .int .u64 n), (5, .int .i64 k)]) (fun _ => []) (fun _ => 0) 0 ⟨Nat.zero_le _, fun j hj => absurd hj (Nat.not_lt_zero j)⟩ (by (refine q1l ?_ ?_ <;> repeat' (first | exact q0v | exact q0y | refine q0p (by (try simp only [go_sem, *]); try rfl) (by simp only [go_sem, *]) ?_ | refine q0z (by (try simp only [go_sem, *]); try rfl) (by omega) (by simp only [go_sem, *]) ?_ | refine q0x (by (try simp only [go_sem, *]); try rfl) (by omega) (by simp only [go_sem, *]) ?_))) ?_
  rintro k ⟨hk, hs⟩
  rcases Nat.lt_or_ge k l.length with hlt | hge
  · obtain ⟨x, hx⟩ := q2b hlt
    have h0 := q2h hlt
    have h4 := q2a k (by omega)
    repeat' (first | (show q0i ..; first | refine q0c ?_ | refine q0e rfl ?_) | (show q0k ..; refine q0f rfl rfl ?_) | (show goOn ..; refine q0g ?_) | (show q0d ..; first | refine q0h ?_ | refine q0b ?_ | refine q0t ?_ | refine q0s ?_ | refine q0m ?_ | refine q0j ?_) | (show q0o ..; first | refine cd_t ?_ | refine cd_b (fun _ => ?_) (fun _ => ?_)) | refine q0a ?_ | refine q2j ?_ | refine q0q ?_ | refine q3k ?_ | (show retQ ..; refine q0u ?_) | refine q0n ?_)
    all_goals rename_i hc
    · refine q1u ?_
      symm
      exact List.any_eq_true.2 ⟨x, sidx hx, hc⟩
    · exact again (k + 1) ⟨by omega, none_to hx hs hc⟩ (by omega) (by (refine q1l ?_ ?_ <;> repeat' (first | exact q0v | exact q0y | refine q0p (by (try simp only [go_sem, *]); try rfl) (by simp only [go_sem, *]) ?_ | refine q0z (by (try simp only [go_sem, *]); try rfl) (by omega) (by simp only [go_sem, *]) ?_ | refine q0x (by (try simp only [go_sem, *]); try rfl) (by omega) (by simp only [go_sem, *]) ?_)))
  · have h0 := q1q hge
    repeat' (first | (show q0i ..; first | refine q0c ?_ | refine q0e rfl ?_) | (show q0k ..; refine q0f rfl rfl ?_) | (show goOn ..; refine q0g ?_) | (show q0d ..; first | refine q0h ?_ | refine q0b ?_ | refine q0t ?_ | refine q1s ?_ | refine q0j ?_) | (show q0o ..; refine cd_f ?_) | refine q0a ?_ | refine q1r ?_ | refine q1t ?_ | (show retQ ..; refine q0u ?_) | refine q0n ?_)
    refine q1u ?_
    symm
    rw [List.any_eq_false]
    intro x hx
    obtain ⟨j, hj⟩ := List.getElem?_of_mem hx
    rw [hs j (by have := q3w hj; omega) x hj]; simp
theorem r14_holders (w : Wd) (id : Int) (hw : w.L) (hf : FewW w) : Pure Tryz.prog 113 [.agg (Wd.enc w), .int .u64 id] (.sl ((q2y w id).map u64)) := by
  have hn20 := hf.n
  refine q2p (by kernel_rfl) (by simp only [go_sem, *]) (by simp only [go_sem, *]) Tryz.func113 Tryz.results113 rfl (by simp [Tryz.ntmps113]) (by kernel_rfl) ?_
  repeat' (first | (show q0i ..; first | refine q0c ?_ | refine q0e rfl ?_) | (show q0k ..; refine q0f rfl rfl ?_) | (show goOn ..; first | refine q0g ?_ | refine q1d ?_) | (show q0d ..; first | refine q0h ?_ | refine q0b ?_ | refine q0m ?_) | refine q0a ?_)
  refine q2l (S := Nat × List Int × Nat) (fun s => w.objects.length - s.1) (fun s => s.1 ≤ w.objects.length ∧ 1 ≤ s.2.2 ∧ q7d w.objects id s.1 = s.2.1) (fun s => [(1, .int .u64 id), (2, .ptr 0 0), (5, accV s.2.2 s.2.1), (6, .int .i64 s.1)]) (fun s => (0, .box (Wd.enc w)) :: accG s.2.2 22 1 u64 s.2.1) (fun s => accM 1 s.2.2 s.2.1) (0, [], 1) ⟨Nat.zero_le _, Nat.le_refl _, rfl⟩ (by simp only [q3a, q3c, q3b]; (refine q1l ?_ ?_ <;> repeat' (first | exact q0v | exact q0y | refine q0p (by (try simp only [go_sem, *]); try rfl) (by simp only [go_sem, *]) ?_ | refine q0z (by (try simp only [go_sem, *]); try rfl) (by omega) (by simp only [go_sem, *]) ?_ | refine q0x (by (try simp only [go_sem, *]); try rfl) (by omega) (by simp only [go_sem, *]) ?_))) ?_
  rintro ⟨n, acc, rid⟩ ⟨hn, hr, hs⟩
  simp only at hn hr hs
  have ha : acc.length < 1000000 := by rw [← hs]; have := hold_len w.objects id n; omega
  have hb1 := q6o ha
  have hb2 := q8d (b := 8) ha (by decide)
  have i0 : (rid = 0) = False := eq_false (by omega)
  have i1 : (0 = rid) = False := eq_false (by omega)
  rcases Nat.lt_or_ge n w.objects.length with hlt | hge
  · obtain ⟨x, hx⟩ := q2b hlt
    have h0 := q2h hlt
    have h4 := q2a n (by omega)
    have hh := r14_has x.links id (hw.2 x (sidx hx)).1.2.1
    cases hc : x.links.any (· == id) with
    | true =>
      rw [hc] at hh
      have hs' := hold_yes hx hc
      rw [hs] at hs'
      rcases q5g acc with hnil | hne
      · subst hnil
        simp only [q3a, q3c, q3b]
        repeat' (first | (show q0i ..; first | refine q0c ?_ | refine q0e rfl ?_) | (show q0k ..; first | refine q0f rfl rfl ?_ | refine q0l rfl ?_) | (show goOn ..; first | refine q0g ?_ | refine q7u ?_) | (show q1k ..; (refine q0r (r := ?_) ?_ ?_; rotate_left 1; (focus exact hh))) | (show q0d ..; first | refine q0h ?_ | refine q0b ?_ | refine q0s ?_ | refine q0m ?_ | refine q0j ?_) | (show q0o ..; refine cd_t ?_) | refine q0a ?_ | refine q0q ?_)
        refine again (n + 1, [] ++ [x.id], 1) ⟨hlt, Nat.le_refl _, hs'⟩ (by simp only; omega) ?_
        simp only [q3n, q3p, q3o]
        (refine q1l ?_ ?_ <;> repeat' (first | exact q0v | exact q0y | refine q0p (by (try simp only [go_sem, *]); try rfl) (by simp only [go_sem, *]) ?_ | refine q0z (by (try simp only [go_sem, *]); try rfl) (by omega) (by simp only [go_sem, *]) ?_ | refine q0x (by (try simp only [go_sem, *]); try rfl) (by omega) (by simp only [go_sem, *]) ?_))
      · simp only [q3t hne, q3v hne, q3u hne]
        repeat' (first | (show q0i ..; first | refine q0c ?_ | refine q0e rfl ?_) | (show q0k ..; first | refine q0f rfl rfl ?_ | refine q0l rfl ?_) | (show goOn ..; first | refine q0g ?_ | refine q7a ?_) | (show q1k ..; (refine q0r (r := ?_) ?_ ?_; rotate_left 1; (focus exact hh))) | (show q0d ..; first | refine q0h ?_ | refine q0b ?_ | refine q0s ?_ | refine q0m ?_ | refine q0j ?_) | (show q0o ..; refine cd_t ?_) | refine q0a ?_ | refine q0q ?_)
        refine again (n + 1, acc ++ [x.id], rid) ⟨hlt, hr, hs'⟩ (by simp only; omega) ?_
        simp only [q3n, q3p, q3o]
        (refine q1l ?_ ?_ <;> repeat' (first | exact q0v | exact q0y | refine q0p (by (try simp only [go_sem, *]); try rfl) (by simp only [go_sem, *]) ?_ | refine q0z (by (try simp only [go_sem, *]); try rfl) (by omega) (by simp only [go_sem, *]) ?_ | refine q0x (by (try simp only [go_sem, *]); try rfl) (by omega) (by simp only [go_sem, *]) ?_))
    | false =>
      rw [hc] at hh
      have hs' := hold_no hx hc
      rw [hs] at hs'
      rcases q5g acc with hnil | hne
      · subst hnil
        simp only [q3a, q3c, q3b]
        repeat' (first | (show q0i ..; first | refine q0c ?_ | refine q0e rfl ?_) | (show q0k ..; first | refine q0f rfl rfl ?_ | refine q0l rfl ?_) | (show goOn ..; refine q0g ?_) | (show q1k ..; (refine q0r (r := ?_) ?_ ?_; rotate_left 1; (focus exact hh))) | (show q0d ..; first | refine q0h ?_ | refine q0b ?_ | refine q0s ?_ | refine q0m ?_ | refine q0j ?_) | (show q0o ..; first | refine cd_t ?_ | refine cd_f ?_) | refine q0a ?_ | refine q0q ?_)
        refine again (n + 1, [], 1) ⟨hlt, Nat.le_refl _, hs'⟩ (by simp only; omega) ?_
        simp only [q3a, q3c, q3b]
        (refine q1l ?_ ?_ <;> repeat' (first | exact q0v | exact q0y | refine q0p (by (try simp only [go_sem, *]); try rfl) (by simp only [go_sem, *]) ?_ | refine q0z (by (try simp only [go_sem, *]); try rfl) (by omega) (by simp only [go_sem, *]) ?_ | refine q0x (by (try simp only [go_sem, *]); try rfl) (by omega) (by simp only [go_sem, *]) ?_))
      · simp only [q3t hne, q3v hne, q3u hne]
        repeat' (first | (show q0i ..; first | refine q0c ?_ | refine q0e rfl ?_) | (show q0k ..; first | refine q0f rfl rfl ?_ | refine q0l rfl ?_) | (show goOn ..; refine q0g ?_) | (show q1k ..; (refine q0r (r := ?_) ?_ ?_; rotate_left 1; (focus exact hh))) | (show q0d ..; first | refine q0h ?_ | refine q0b ?_ | refine q0s ?_ | refine q0m ?_ | refine q0j ?_) | (show q0o ..; first | refine cd_t ?_ | refine cd_f ?_) | refine q0a ?_ | refine q0q ?_)
        refine again (n + 1, acc, rid) ⟨hlt, hr, hs'⟩ (by simp only; omega) ?_
        simp only [q3t hne, q3v hne, q3u hne]
        (refine q1l ?_ ?_ <;> repeat' (first | exact q0v | exact q0y | refine q0p (by (try simp only [go_sem, *]); try rfl) (by simp only [go_sem, *]) ?_ | refine q0z (by (try simp only [go_sem, *]); try rfl) (by omega) (by simp only [go_sem, *]) ?_ | refine q0x (by (try simp only [go_sem, *]); try rfl) (by omega) (by simp only [go_sem, *]) ?_))
  · have h0 := q1q hge
    rw [hold_all w id hge] at hs
    rw [hs]
    rcases q5g acc with hnil | hne
    · subst hnil
      simp only [q3a, q3c, q3b]
      repeat' (first | (show q0i ..; first | refine q0c ?_ | refine q0e rfl ?_) | (show q0k ..; refine q0f rfl rfl ?_) | (show goOn ..; refine q0g ?_) | (show q0d ..; first | refine q0h ?_ | refine q0b ?_ | refine q0t ?_ | refine q1s ?_ | refine q0j ?_) | (show q0o ..; refine cd_f ?_) | refine q0a ?_ | refine q1r ?_ | refine q1t ?_ | (show retQ ..; refine q0u ?_) | refine q0n ?_)
      rfl
    · simp only [q3t hne, q3v hne, q3u hne]
      repeat' (first | (show q0i ..; first | refine q0c ?_ | refine q0e rfl ?_) | (show q0k ..; refine q0f rfl rfl ?_) | (show goOn ..; refine q0g ?_) | (show q0d ..; first | refine q0h ?_ | refine q0b ?_ | refine q0t ?_ | refine q1s ?_ | refine q0j ?_) | (show q0o ..; refine cd_f ?_) | refine q0a ?_ | refine q1r ?_ | refine q1t ?_ | (show retQ ..; refine q0u ?_) | refine q0n ?_)
      rfl
theorem r14_uses (w : Wd) (o : Ob) (hf : FewW w) (hl : o.links.length ≤ 100000) : Pure Tryz.prog 112 [.agg (Wd.enc w), .agg (Ob.enc o)] (.int .i64 (usesR w o)) := by
  have hn20 := hf.n
  have hp := r13_pages o
  refine q2p (by kernel_rfl) (by simp only [go_sem, *]) (by simp only [go_sem, *]) Tryz.func112 Tryz.results112 rfl (by simp [Tryz.ntmps112]) (by kernel_rfl) ?_
  repeat' (first | (show q0i ..; first | refine q0c ?_ | refine q0e rfl ?_) | (show q0k ..; first | refine q0f rfl rfl ?_ | refine q0l rfl ?_) | (show goOn ..; first | refine q0g ?_ | refine q1d ?_) | (show q1k ..; (refine q0r (r := ?_) ?_ ?_; rotate_left 1; (focus exact hp))) | (show q0d ..; first | refine q0h ?_ | refine q0b ?_ | refine q0m ?_) | refine q0a ?_)
  refine q2l (S := Nat) (fun n => o.links.length - n) (fun n => n ≤ o.links.length) (fun n => [(2, .ptr 0 0), (3, .ptr 1 0), (5, .int .i64 (usesN w o n)), (6, .int .i64 n)]) (fun _ => [(0, .box (Wd.enc w)), (1, .box (Ob.enc o))]) (fun _ => 2) 0 (Nat.zero_le _) (by (refine q1l ?_ ?_ <;> repeat' (first | exact q0v | exact q0y | refine q0p (by (try simp only [go_sem, *]); try rfl) (by simp only [go_sem, *]) ?_ | refine q0z (by (try simp only [go_sem, *]); try rfl) (by omega) (by simp only [go_sem, *]) ?_ | refine q0x (by (try simp only [go_sem, *]); try rfl) (by omega) (by simp only [go_sem, *]) ?_))) ?_
  intro n hn
  rcases Nat.lt_or_ge n o.links.length with hlt | hge
  · obtain ⟨x, hx⟩ := q2b hlt
    have h0 := q2h hlt
    have h4 := q2a n (by omega)
    have h5 := uses_succ (w := w) hx
    have hfd := q6u w x (by omega)
    repeat' (first | (show q0i ..; first | refine q0c ?_ | refine q0e rfl ?_) | (show q0k ..; refine q0f rfl rfl ?_) | (show goOn ..; refine q0g ?_) | (show dr ..; first | refine q1y ?_ | refine dr_n rfl ?_) | (show drGo ..; first | refine q2t rfl ?_ | refine q2k rfl ?_) | (show drOn ..; first | refine q1z ?_ | refine dn_new ?_ | refine q8y ?_) | (show q6y ..; refine q5k ?_) | (show q2e ..; (refine q1f (r := ?_) ?_ ?_; rotate_left 1; (focus exact hfd))) | (refine And.intro (by kernel_rfl : q1n _ = true) ?_) | (show q0d ..; first | refine q0h ?_ | refine q0b ?_ | refine q1o (by kernel_rfl) ?_ | refine q0s ?_ | refine q0m ?_ | refine q0j ?_) | (show q0o ..; refine cd_t ?_) | refine q0a ?_ | refine q0q ?_)
    exact again (n + 1) (show n + 1 ≤ o.links.length from hlt) (show o.links.length - (n + 1) < o.links.length - n by omega) (by (refine q1l ?_ ?_ <;> repeat' (first | exact q0v | exact q0y | refine q0p (by (try simp only [go_sem, *]); try rfl) (by simp only [go_sem, *]) ?_ | refine q0z (by (try simp only [go_sem, *]); try rfl) (by omega) (by simp only [go_sem, *]) ?_ | refine q0x (by (try simp only [go_sem, *]); try rfl) (by omega) (by simp only [go_sem, *]) ?_)))
  · have h0 := q1q hge
    have e : usesN w o n = usesR w o := by unfold usesN usesR; rw [List.take_of_length_le hge]
    repeat' (first | (show q0i ..; first | refine q0c ?_ | refine q0e rfl ?_) | (show q0k ..; refine q0f rfl rfl ?_) | (show goOn ..; refine q0g ?_) | (show q0d ..; first | refine q0h ?_ | refine q0b ?_ | refine q0t ?_ | refine q1s ?_ | refine q0j ?_) | (show q0o ..; refine cd_f ?_) | refine q0a ?_ | refine q1r ?_ | refine q1t ?_ | (show retQ ..; refine q0u ?_) | refine q0n ?_)
    rfl
theorem r14_above (w : Wd) (id : Int) (hw : w.L) (hf : FewW w) : Pure Tryz.prog 165 [.agg (Wd.enc w), .int .u64 id] (.sl ((above w id).map u64)) := by
  have hn20 := hf.n
  obtain ⟨R, hR⟩ : ∃ R, R = above w id := ⟨_, rfl⟩
  have hR0 : q8z w (w.objects.length + 1) id [] = R := hR.symm
  rw [← hR]
  clear hR
  refine q2p (by kernel_rfl) (by simp only [go_sem, *]) (by simp only [go_sem, *]) Tryz.func165 Tryz.results165 rfl (by simp [Tryz.ntmps165]) (by kernel_rfl) ?_
  repeat' (first | (show q0i ..; first | refine q0c ?_ | refine q0e rfl ?_) | (show q0k ..; refine q0f rfl rfl ?_) | (show goOn ..; first | refine q0g ?_ | refine q1d ?_) | (show q0d ..; first | refine q0h ?_ | refine q0b ?_ | refine q0m ?_) | refine q0a ?_)
  refine q2l (S := Int × List Int × Nat) (fun s => w.objects.length + 1 - s.2.1.length) (fun s => s.2.1.length ≤ w.objects.length + 1 ∧ 1 ≤ s.2.2 ∧ q8z w (w.objects.length + 1 - s.2.1.length) s.1 s.2.1 = R) (fun s => [(1, .int .u64 s.1), (2, .ptr 0 0), (5, accV s.2.2 s.2.1)]) (fun s => (0, .box (Wd.enc w)) :: accG s.2.2 22 1 u64 s.2.1) (fun s => accM 1 s.2.2 s.2.1) (id, [], 1) ⟨Nat.zero_le _, Nat.le_refl _, hR0⟩ (by simp only [q3a, q3c, q3b]; (refine q1l ?_ ?_ <;> repeat' (first | exact q0v | exact q0y | refine q0p (by (try simp only [go_sem, *]); try rfl) (by simp only [go_sem, *]) ?_ | refine q0z (by (try simp only [go_sem, *]); try rfl) (by omega) (by simp only [go_sem, *]) ?_ | refine q0x (by (try simp only [go_sem, *]); try rfl) (by omega) (by simp only [go_sem, *]) ?_))) ?_
  rintro ⟨i, acc, rid⟩ ⟨hn, hr, hs⟩
  simp only at hn hr hs
  have ha : acc.length < 1000000 := by omega
  have hb1 := q6o ha
  have hb2 := q8d (b := 8) ha (by decide)
  have i0 : (rid = 0) = False := eq_false (by omega)
  have i1 : (0 = rid) = False := eq_false (by omega)
  have hho := r14_holders w i hw hf
  have hhl := x0m w i
  rcases Nat.lt_or_ge w.objects.length acc.length with hbig | hle
  · have hc : decide ((acc.length : Int) ≤ (w.objects.length : Int)) = false := decide_eq_false (by omega)
    have hRn : R = [] := by rw [← hs, show w.objects.length + 1 - acc.length = 0 by omega]; rfl
    subst hRn
    rcases q5g acc with hnil | hne
    · subst hnil; simp at hbig
    · clear hs hR0
      simp only [q3t hne, q3v hne, q3u hne]
      repeat' (first | (show q0i ..; first | refine q0c ?_ | refine q0e rfl ?_) | (show q0k ..; refine q0f rfl rfl ?_) | (show goOn ..; refine q0g ?_) | (show q0d ..; first | refine q0h ?_ | refine q0b ?_ | refine q0t ?_ | refine q1s ?_ | refine q0j ?_) | (show q0o ..; refine cd_f ?_) | refine q0a ?_ | refine q1r ?_ | refine q1t ?_ | (show retQ ..; refine q0u ?_) | refine q0n ?_)
      rfl
  · have hc : decide ((acc.length : Int) ≤ (w.objects.length : Int)) = true := decide_eq_true (by omega)
    have hc0 : decide (((0 : Nat) : Int) ≤ (w.objects.length : Int)) = true := decide_eq_true (by omega)
    obtain ⟨f, hfu⟩ : ∃ f, w.objects.length + 1 - acc.length = f + 1 := ⟨w.objects.length - acc.length, by omega⟩
    rw [hfu] at hs
    unfold q8z at hs
    cases hh : q2y w i with
    | nil =>
      rw [hh] at hho hs
      simp only at hs
      subst hs
      clear hh hR0 hfu
      rcases q5g acc with hnil | hne
      · subst hnil
        simp only [q3a, q3c, q3b]
        repeat' (first | (show q0i ..; first | refine q0c ?_ | refine q0e rfl ?_) | (show q0k ..; first | refine q0f rfl rfl ?_ | refine q0l rfl ?_) | (show goOn ..; refine q0g ?_) | (show q1k ..; (refine q0r (r := ?_) ?_ ?_; rotate_left 1; (focus exact hho))) | (show q0d ..; first | refine q0h ?_ | refine q0b ?_ | refine q0t ?_ | refine q0s ?_ | refine q0m ?_ | refine q0j ?_) | (show q0o ..; refine cd_t ?_) | refine q0a ?_ | refine q2j ?_ | refine q3k ?_ | (show retQ ..; refine q0u ?_) | refine q0n ?_)
        all_goals rfl
      · simp only [q3t hne, q3v hne, q3u hne]
        repeat' (first | (show q0i ..; first | refine q0c ?_ | refine q0e rfl ?_) | (show q0k ..; first | refine q0f rfl rfl ?_ | refine q0l rfl ?_) | (show goOn ..; refine q0g ?_) | (show q1k ..; (refine q0r (r := ?_) ?_ ?_; rotate_left 1; (focus exact hho))) | (show q0d ..; first | refine q0h ?_ | refine q0b ?_ | refine q0t ?_ | refine q0s ?_ | refine q0m ?_ | refine q0j ?_) | (show q0o ..; refine cd_t ?_) | refine q0a ?_ | refine q2j ?_ | refine q3k ?_ | (show retQ ..; refine q0u ?_) | refine q0n ?_)
        all_goals rfl
    | cons h t =>
      rw [hh] at hho hs
      simp only at hs
      have hz : (((h :: t).length : Int) == 0) = false := by simp; omega
      have hx0 : (h :: t)[0]? = some h := rfl
      clear hh hR0
      generalize h :: t = L at hho hz hx0
      rcases q5g acc with hnil | hne
      · subst hnil
        simp only [q3a, q3c, q3b]
        repeat' (first | (show q0i ..; first | refine q0c ?_ | refine q0e rfl ?_) | (show q0k ..; first | refine q0f rfl rfl ?_ | refine q0l rfl ?_) | (show goOn ..; first | refine q0g ?_ | refine q7u ?_) | (show q1k ..; (refine q0r (r := ?_) ?_ ?_; rotate_left 1; (focus exact hho))) | (show q0d ..; first | refine q0h ?_ | refine q0b ?_ | refine q0s ?_ | refine q0m ?_ | refine q0j ?_) | (show q0o ..; first | refine cd_t ?_ | refine cd_f ?_) | refine q0a ?_ | refine q0q ?_)
        refine again (h, [] ++ [h], 1) ⟨(by simp), Nat.le_refl _, by rw [← hs]; congr 1; simp only [List.length_nil, List.nil_append, List.length_cons] at hfu ⊢; omega⟩ (by simp) ?_
        simp only [q3n, q3p, q3o]
        (refine q1l ?_ ?_ <;> repeat' (first | exact q0v | exact q0y | refine q0p (by (try simp only [go_sem, *]); try rfl) (by simp only [go_sem, *]) ?_ | refine q0z (by (try simp only [go_sem, *]); try rfl) (by omega) (by simp only [go_sem, *]) ?_ | refine q0x (by (try simp only [go_sem, *]); try rfl) (by omega) (by simp only [go_sem, *]) ?_))
      · simp only [q3t hne, q3v hne, q3u hne]
        repeat' (first | (show q0i ..; first | refine q0c ?_ | refine q0e rfl ?_) | (show q0k ..; first | refine q0f rfl rfl ?_ | refine q0l rfl ?_) | (show goOn ..; first | refine q0g ?_ | refine q7a ?_) | (show q1k ..; (refine q0r (r := ?_) ?_ ?_; rotate_left 1; (focus exact hho))) | (show q0d ..; first | refine q0h ?_ | refine q0b ?_ | refine q0s ?_ | refine q0m ?_ | refine q0j ?_) | (show q0o ..; first | refine cd_t ?_ | refine cd_f ?_) | refine q0a ?_ | refine q0q ?_)
        refine again (h, acc ++ [h], rid) ⟨(by simp only [List.length_append, List.length_cons, List.length_nil]; omega), hr, by rw [← hs]; congr 1; simp only [List.length_append, List.length_cons, List.length_nil]; omega⟩ (by simp only [List.length_append, List.length_cons, List.length_nil]; omega) ?_
        simp only [q3n, q3p, q3o]
        (refine q1l ?_ ?_ <;> repeat' (first | exact q0v | exact q0y | refine q0p (by (try simp only [go_sem, *]); try rfl) (by simp only [go_sem, *]) ?_ | refine q0z (by (try simp only [go_sem, *]); try rfl) (by omega) (by simp only [go_sem, *]) ?_ | refine q0x (by (try simp only [go_sem, *]); try rfl) (by omega) (by simp only [go_sem, *]) ?_))
theorem r14_up (w : Wd) (id : Int) (hw : w.L) (hf : FewW w) : Pure Tryz.prog 114 [.agg (Wd.enc w), .int .u64 id] (.bool (upR w id)) := by
  have hab := r14_above w id hw hf
  have hlen := above_len w id
  have hn20 := hf.n
  unfold upR
  generalize above w id = l at hab hlen
  rcases q5g l with hnil | hne
  · subst hnil
    have e1 : (((0 : Nat) : Int) == 0) = true := rfl
    have e2 : decide (((0 : Nat) : Int) > 0) = false := rfl
    refine q2p (by kernel_rfl) (by simp only [go_sem, *]) (by simp only [go_sem, *]) Tryz.func114 Tryz.results114 rfl (by simp [Tryz.ntmps114]) (by kernel_rfl) ?_
    repeat' (first | (show q0i ..; first | refine q0c ?_ | refine q0e rfl ?_) | (show q0k ..; first | refine q0f rfl rfl ?_ | refine q0l rfl ?_) | (show goOn ..; first | refine q0g ?_ | refine q1d ?_) | (show q1k ..; (refine q0r (r := ?_) ?_ ?_; rotate_left 1; (focus exact hab))) | (show wGo ..; first | refine q3h ?_ | refine q4b ?_ | refine q3r ?_ | refine q4y ?_ | refine gw_u ?_ | refine q9r (fun _ => ?_) (fun _ => ?_)) | (show dr ..; first | refine q1y ?_ | refine dr_n rfl ?_ | refine q5j rfl rfl ?_) | (show drGo ..; refine q2t rfl ?_) | (show drOn ..; refine q1z ?_) | (refine And.intro (by kernel_rfl : q1n _ = true) ?_) | (show q0d ..; first | refine q0h ?_ | refine q0b ?_ | refine q1o (by kernel_rfl) ?_ | refine q0t ?_) | refine q0a ?_ | (show retQ ..; refine q0u ?_) | refine q0n ?_)
    all_goals (refine q1u ?_; simp [*])
  · have hpos : 0 < l.length := List.length_pos_iff.2 hne
    obtain ⟨z, hz⟩ := q2b (by omega : l.length - 1 < l.length)
    have e1 : ((l.length : Int) == 0) = false := by simp; omega
    have e2 : decide ((l.length : Int) > 0) = true := decide_eq_true (by omega)
    have e3 : IntKind.i64.wrap ((l.length : Int) - 1) = ((l.length - 1 : Nat) : Int) := by rw [IntKind.wrap_i64]; omega
    have e4 : (l.length == 0) = false := by simp; omega
    rw [hz, e4]
    refine q2p (by kernel_rfl) (by simp only [go_sem, *]) (by simp only [go_sem, *]) Tryz.func114 Tryz.results114 rfl (by simp [Tryz.ntmps114]) (by kernel_rfl) ?_
    repeat' (first | (show q0i ..; first | refine q0c ?_ | refine q0e rfl ?_) | (show q0k ..; first | refine q0f rfl rfl ?_ | refine q0l rfl ?_) | (show goOn ..; first | refine q0g ?_ | refine q1d ?_) | (show q1k ..; (refine q0r (r := ?_) ?_ ?_; rotate_left 1; (focus exact hab))) | (show wGo ..; first | refine q3h ?_ | refine q4b ?_ | refine q3r ?_ | refine q9r (fun _ => ?_) (fun _ => ?_)) | (show dr ..; first | refine q1y ?_ | refine dr_n rfl ?_ | refine q5j rfl rfl ?_) | (show drGo ..; refine q2t rfl ?_) | (show drOn ..; refine q1z ?_) | (refine And.intro (by kernel_rfl : q1n _ = true) ?_) | (show q0d ..; first | refine q0h ?_ | refine q0b ?_ | refine q1o (by kernel_rfl) ?_ | refine q0t ?_) | refine q0a ?_ | (show retQ ..; refine q0u ?_) | refine q0n ?_)
    all_goals (refine q1u ?_; simp [*])
theorem r14_placed (w : Wd) (o : Ob) (hw : w.L) (hf : FewW w) : Pure Tryz.prog 55 [.agg (Wd.enc w), .agg (Ob.enc o)] (.bool (q8n w o)) := by
  have hho := r14_holders w o.id hw hf
  have hup := r14_up w o.id hw hf
  unfold q8n
  generalize q2y w o.id = l at hho
  generalize upR w o.id = u at hup
  refine q2p (by kernel_rfl) (by simp only [go_sem, *]) (by simp only [go_sem, *]) Tryz.func55 Tryz.results55 rfl (by simp [Tryz.ntmps55]) (by kernel_rfl) ?_
  repeat' (first | (show q0i ..; first | refine q0c ?_ | refine q0e rfl ?_ | refine q1a rfl rfl ?_) | (show q0k ..; first | refine q0f rfl rfl ?_ | refine q0l rfl ?_) | (show goOn ..; first | refine q0g ?_ | refine q1d ?_) | (show q1k ..; (refine q0r (r := ?_) ?_ ?_; rotate_left 1; (focus first | exact hho | exact hup))) | (show wGo ..; first | refine q3h ?_ | refine q4b ?_ | refine q3r ?_ | refine q4y ?_ | refine gw_u ?_ | refine q9s (fun _ => ?_) (fun _ => ?_) | refine q9r (fun _ => ?_) (fun _ => ?_) | refine gw_fb (fun _ => ?_) (fun _ => ?_)) | (show q0d ..; first | refine q0h ?_ | refine q0b ?_ | refine q0t ?_ | refine q0s ?_ | refine q0j ?_) | (show q0o ..; first | refine cd_t ?_ | refine cd_f ?_ | refine cd_b (fun _ => ?_) (fun _ => ?_)) | refine q0a ?_ | refine q2j ?_ | (show retQ ..; refine q0u ?_) | refine q0n ?_)
  all_goals (refine q1u ?_; first | (simp only [*, Bool.not_true, Bool.not_false, Bool.and_true, Bool.true_and, Bool.and_false, Bool.false_and, Bool.or_true, Bool.true_or, Bool.or_false, Bool.false_or, Bool.and_self, Bool.or_self, decide_true, decide_false, Bool.not_not, if_true, if_false, Bool.false_eq_true, eq_self]; done) | (simp [*]; done) | (simp_all; done))
end Go.Proofs.YtoibbedpaaeclaaGreat
end

section
namespace Go.Proofs.YtoibbedpaaeclaaGreat
open Go Go.RowKit
set_option linter.unusedVariables false
set_option linter.unusedSimpArgs false
set_option maxHeartbeats 16000000
set_option maxRecDepth 100000
attribute [local go_sem] List.length_append
def wst (c lev : Int) (s : List Pr × Bool) (x : Pr) : List Pr × Bool :=
  if (x.cat != c) = true then ((if (!s.2 && decide (x.cat > c)) = true then (s.1 ++ [⟨c, lev⟩], true) else s).1 ++ [x], (if (!s.2 && decide (x.cat > c)) = true then (s.1 ++ [⟨c, lev⟩], true) else s).2)
  else if (!s.2 && decide (x.cat > c)) = true then (s.1 ++ [⟨c, lev⟩], true) else s
def q8h (l : List Pr) (c lev : Int) (n : Nat) : List Pr × Bool := (l.take n).foldl (wst c lev) ([], lev == 2)
def q8e (l : List Pr) (c lev : Int) : List Pr := if (q8h l c lev l.length).2 = true then (q8h l c lev l.length).1 else (q8h l c lev l.length).1 ++ [⟨c, lev⟩]
theorem withN_succ {l : List Pr} {c lev : Int} {n : Nat} {x : Pr} (hx : l[n]? = some x) : q8h l c lev (n + 1) = wst c lev (q8h l c lev n) x := by
  unfold q8h; rw [q4h hx, List.foldl_append]; rfl
theorem wst_mu (c lev : Int) : ∀ (l : List Pr) (s : List Pr × Bool), (l.foldl (wst c lev) s).1.length + (if (l.foldl (wst c lev) s).2 = true then 0 else 1) ≤ s.1.length + (if s.2 = true then 0 else 1) + l.length
  | [], s => by simp only [List.foldl_nil, List.length_nil, Nat.add_zero]; exact Nat.le_refl _
  | x :: l, s => by
    rw [List.foldl_cons]
    have h1 := wst_mu c lev l (wst c lev s x)
    have h2 : (wst c lev s x).1.length + (if (wst c lev s x).2 = true then 0 else 1) ≤ s.1.length + (if s.2 = true then 0 else 1) + 1 := by
      obtain ⟨a, b⟩ := s
      unfold wst
      cases b <;> by_cases h1 : (x.cat != c) = true <;> by_cases h2 : decide (x.cat > c) = true <;> simp [h1, h2]
    simp only [List.length_cons]
    omega
theorem withN_len (l : List Pr) (c lev : Int) (n : Nat) : (q8h l c lev n).1.length ≤ l.length + 1 := by
  have := wst_mu c lev (l.take n) ([], lev == 2)
  have h2 : (l.take n).length ≤ l.length := by rw [List.length_take]; omega
  unfold q8h
  simp only [List.length_nil] at this
  split at this <;> split at this <;> omega
theorem withR_len (l : List Pr) (c lev : Int) : (q8e l c lev).length ≤ l.length + 1 := by
  have := wst_mu c lev (l.take l.length) ([], lev == 2)
  rw [List.take_length] at this
  unfold q8e q8h
  rw [List.take_length]
  simp only [List.length_nil] at this
  split
  · rename_i h; rw [if_pos h] at this; split at this <;> omega
  · rename_i h; rw [if_neg h] at this; simp only [List.length_append, List.length_cons, List.length_nil]; split at this <;> omega
def q4g (a b : Int) : Int := if decide (q6r a > q6r b) = true then q6r a else q6r b
def joinN (a : List Pr) (n : Nat) : List Pr := (a.take n).foldl (fun out p => q8e out p.cat (q4g p.lev 2)) a
def q5x (a : List Pr) : List Pr := a.foldl (fun out p => q8e out p.cat (q4g p.lev 2)) a
theorem joinN_succ {a : List Pr} {n : Nat} {x : Pr} (hx : a[n]? = some x) : joinN a (n + 1) = q8e (joinN a n) x.cat (q4g x.lev 2) := by
  unfold joinN; rw [q4h hx, List.foldl_append]; rfl
theorem join_fold : ∀ (l a : List Pr), (l.foldl (fun out p => q8e out p.cat (q4g p.lev 2)) a).length ≤ a.length + l.length
  | [], a => by simp
  | x :: l, a => by
    rw [List.foldl_cons]
    have h1 := join_fold l (q8e a x.cat (q4g x.lev 2))
    have h2 := withR_len a x.cat (q4g x.lev 2)
    simp only [List.length_cons]
    omega
theorem joinN_len (a : List Pr) (n : Nat) : (joinN a n).length ≤ 2 * a.length := by
  have := join_fold (a.take n) a
  have h2 : (a.take n).length ≤ a.length := by rw [List.length_take]; omega
  unfold joinN; omega
theorem joinNil_len (a : List Pr) : (q5x a).length ≤ 2 * a.length := by have := join_fold a a; unfold q5x; omega
def q7i (d o : List Pr) : Bool := leqR d (q5x (o.map upPr))
def q7v (w : Wd) (d : Ob) (k : Nat) : Bool := match d.links[k]? with
  | some id => (q2i w id).2 && q7i d.label (q2i w id).1.label
  | none => true
def q9x (w : Wd) (d : Ob) : Bool := allB d.links.length (q7v w d) && ((d.kind != 2) || decide (usesR w d ≤ d.quota))
attribute [local irreducible] q0i dr q0d Ex.then Ex.inBlock retQ q1n q2d q2c Pure CSat evOp q1i rdOf upd hset strip sp0 cut envL q1g q3i Keep BdL evBs q2n q2s
theorem r2_with (l : List Pr) (c lev : Int) (hl : l.length ≤ 100000) : Pure Tryz.prog 92 [.sl (l.map Pr.enc), .int .u64 c, .int .i64 lev] (.sl ((q8e l c lev).map Pr.enc)) := by
  obtain ⟨R, hR⟩ : ∃ R, R = q8e l c lev := ⟨_, rfl⟩
  rw [← hR]
  unfold q8e at hR
  refine q2p (by kernel_rfl) (by simp only [go_sem, *]) (by simp only [go_sem, *]) Tryz.func92 Tryz.results92 rfl (by simp [Tryz.ntmps92]) (by kernel_rfl) ?_
  repeat' (first | (show q0i ..; first | refine q0c ?_ | refine q0e rfl ?_) | (show q0k ..; refine q0f rfl rfl ?_) | (show goOn ..; refine q0g ?_) | (show q0d ..; first | refine q0h ?_ | refine q0b ?_ | refine q0m ?_) | refine q0a ?_)
  refine q2l (S := Nat × List Pr × Bool × Nat) (fun s => l.length - s.1) (fun s => s.1 ≤ l.length ∧ q8h l c lev s.1 = (s.2.1, s.2.2.1)) (fun s => [(0, .sl (l.map Pr.enc)), (1, .int .u64 c), (2, .int .i64 lev), (7, accV s.2.2.2 s.2.1), (8, .bool s.2.2.1), (9, .int .i64 s.1)]) (fun s => accG s.2.2.2 76 2 Pr.enc s.2.1) (fun s => accM 0 s.2.2.2 s.2.1) (0, [], lev == 2, 0) ⟨Nat.zero_le _, rfl⟩ (by simp only [q3a, q3c, q3b]; (refine q1l ?_ ?_ <;> repeat' (first | exact q0v | exact q0y | refine q0p (by (try simp only [go_sem, *]); try rfl) (by simp only [go_sem, *]) ?_ | refine q0z (by (try simp only [go_sem, *]); try rfl) (by omega) (by simp only [go_sem, *]) ?_ | refine q0x (by (try simp only [go_sem, *]); try rfl) (by omega) (by simp only [go_sem, *]) ?_))) ?_
  rintro ⟨n, acc, done, id⟩ ⟨hn, hs⟩
  simp only at hn hs
  have ha : acc.length < 900000 := by
    have := withN_len l c lev n
    rw [hs] at this
    simp only at this
    omega
  have hb1 := q6o (k := acc.length) (by omega)
  have hb2 := q8d (b := 16) (k := acc.length) (by omega) (by decide)
  have hb3 := q6o (k := acc.length + 1) (by omega)
  have hb4 := q8d (b := 16) (k := acc.length + 1) (by omega) (by decide)
  have hb5 := q8d (b := 16) (k := 0) (by omega) (by decide)
  have hb6 := q8d (b := 16) (k := 1) (by omega) (by decide)
  have hb7 := q6o (k := 1) (by omega)
  rcases Nat.lt_or_ge n l.length with hlt | hge
  · obtain ⟨x, hx⟩ := q2b hlt
    have h0 := q2h hlt
    have h4 := q2a n (by omega)
    have hst := withN_succ (c := c) (lev := lev) hx
    rw [hs] at hst
    clear hR
    cases c2 : (x.cat != c) with
    | true =>
      cases done with
      | true =>
        have hst : q8h l c lev (n + 1) = (acc ++ [x], true) := by rw [hst]; unfold wst; simp [c2]
        rcases q5g acc with hnil | hne
        · subst hnil
          simp only [q3a, q3c, q3b]
          repeat' (first | (show q0i ..; first | refine q0c ?_ | refine q0e rfl ?_ | refine q1a rfl rfl ?_) | (show q0k ..; refine q0f rfl rfl ?_) | (show goOn ..; first | refine q0g ?_ | refine q7u ?_) | (show wGo ..; refine q3r ?_) | (show q0d ..; first | refine q0h ?_ | refine q0b ?_ | refine q0s ?_ | refine q0m ?_ | refine q0j ?_) | (show q0o ..; first | refine cd_t ?_ | refine cd_f ?_) | refine q0a ?_ | refine q0q ?_)
          refine again (n + 1, [] ++ [x], true, 0) ⟨hlt, hst⟩ (by simp only; omega) ?_
          simp only [q3n, q3p, q3o]
          (refine q1l ?_ ?_ <;> repeat' (first | exact q0v | exact q0y | refine q0p (by (try simp only [go_sem, *]); try rfl) (by simp only [go_sem, *]) ?_ | refine q0z (by (try simp only [go_sem, *]); try rfl) (by omega) (by simp only [go_sem, *]) ?_ | refine q0x (by (try simp only [go_sem, *]); try rfl) (by omega) (by simp only [go_sem, *]) ?_))
        · simp only [q3t hne, q3v hne, q3u hne]
          repeat' (first | (show q0i ..; first | refine q0c ?_ | refine q0e rfl ?_ | refine q1a rfl rfl ?_) | (show q0k ..; refine q0f rfl rfl ?_) | (show goOn ..; first | refine q0g ?_ | refine q7a ?_) | (show wGo ..; refine q3r ?_) | (show q0d ..; first | refine q0h ?_ | refine q0b ?_ | refine q0s ?_ | refine q0m ?_ | refine q0j ?_) | (show q0o ..; first | refine cd_t ?_ | refine cd_f ?_) | refine q0a ?_ | refine q0q ?_)
          refine again (n + 1, acc ++ [x], true, id) ⟨hlt, hst⟩ (by simp only; omega) ?_
          simp only [q3n, q3p, q3o]
          (refine q1l ?_ ?_ <;> repeat' (first | exact q0v | exact q0y | refine q0p (by (try simp only [go_sem, *]); try rfl) (by simp only [go_sem, *]) ?_ | refine q0z (by (try simp only [go_sem, *]); try rfl) (by omega) (by simp only [go_sem, *]) ?_ | refine q0x (by (try simp only [go_sem, *]); try rfl) (by omega) (by simp only [go_sem, *]) ?_))
      | false =>
        cases c1 : decide (x.cat > c) with
        | true =>
          have hst : q8h l c lev (n + 1) = (acc ++ [⟨c, lev⟩] ++ [x], true) := by rw [hst]; unfold wst; simp [c1, c2]
          rcases q5g acc with hnil | hne
          · subst hnil
            simp only [q3a, q3c, q3b]
            repeat' (first | (show q0i ..; first | refine q0c ?_ | refine q0e rfl ?_ | refine q1a rfl rfl ?_) | (show q0k ..; refine q0f rfl rfl ?_) | (show goOn ..; first | refine q0g ?_ | refine q7u ?_ | refine q7a ?_) | (show wGo ..; refine q3h ?_) | (show q0d ..; first | refine q0h ?_ | refine q0b ?_ | refine q0s ?_ | refine q0m ?_ | refine q0j ?_) | (show q0o ..; refine cd_t ?_) | refine q0a ?_ | refine q0q ?_)
            refine again (n + 1, [] ++ [⟨c, lev⟩] ++ [x], true, 0) ⟨hlt, hst⟩ (by simp only; omega) ?_
            simp only [q3n, q3p, q3o]
            (refine q1l ?_ ?_ <;> repeat' (first | exact q0v | exact q0y | refine q0p (by (try simp only [go_sem, *]); try rfl) (by simp only [go_sem, *]) ?_ | refine q0z (by (try simp only [go_sem, *]); try rfl) (by omega) (by simp only [go_sem, *]) ?_ | refine q0x (by (try simp only [go_sem, *]); try rfl) (by omega) (by simp only [go_sem, *]) ?_))
          · simp only [q3t hne, q3v hne, q3u hne]
            repeat' (first | (show q0i ..; first | refine q0c ?_ | refine q0e rfl ?_ | refine q1a rfl rfl ?_) | (show q0k ..; refine q0f rfl rfl ?_) | (show goOn ..; first | refine q0g ?_ | refine q7a ?_) | (show wGo ..; refine q3h ?_) | (show q0d ..; first | refine q0h ?_ | refine q0b ?_ | refine q0s ?_ | refine q0m ?_ | refine q0j ?_) | (show q0o ..; refine cd_t ?_) | refine q0a ?_ | refine q0q ?_)
            refine again (n + 1, acc ++ [⟨c, lev⟩] ++ [x], true, id) ⟨hlt, hst⟩ (by simp only; omega) ?_
            simp only [q3n, q3p, q3o]
            (refine q1l ?_ ?_ <;> repeat' (first | exact q0v | exact q0y | refine q0p (by (try simp only [go_sem, *]); try rfl) (by simp only [go_sem, *]) ?_ | refine q0z (by (try simp only [go_sem, *]); try rfl) (by omega) (by simp only [go_sem, *]) ?_ | refine q0x (by (try simp only [go_sem, *]); try rfl) (by omega) (by simp only [go_sem, *]) ?_))
        | false =>
          have hst : q8h l c lev (n + 1) = (acc ++ [x], false) := by rw [hst]; unfold wst; simp [c1, c2]
          rcases q5g acc with hnil | hne
          · subst hnil
            simp only [q3a, q3c, q3b]
            repeat' (first | (show q0i ..; first | refine q0c ?_ | refine q0e rfl ?_ | refine q1a rfl rfl ?_) | (show q0k ..; refine q0f rfl rfl ?_) | (show goOn ..; first | refine q0g ?_ | refine q7u ?_) | (show wGo ..; refine q3h ?_) | (show q0d ..; first | refine q0h ?_ | refine q0b ?_ | refine q0s ?_ | refine q0m ?_ | refine q0j ?_) | (show q0o ..; first | refine cd_t ?_ | refine cd_f ?_) | refine q0a ?_ | refine q0q ?_)
            refine again (n + 1, [] ++ [x], false, 0) ⟨hlt, hst⟩ (by simp only; omega) ?_
            simp only [q3n, q3p, q3o]
            (refine q1l ?_ ?_ <;> repeat' (first | exact q0v | exact q0y | refine q0p (by (try simp only [go_sem, *]); try rfl) (by simp only [go_sem, *]) ?_ | refine q0z (by (try simp only [go_sem, *]); try rfl) (by omega) (by simp only [go_sem, *]) ?_ | refine q0x (by (try simp only [go_sem, *]); try rfl) (by omega) (by simp only [go_sem, *]) ?_))
          · simp only [q3t hne, q3v hne, q3u hne]
            repeat' (first | (show q0i ..; first | refine q0c ?_ | refine q0e rfl ?_ | refine q1a rfl rfl ?_) | (show q0k ..; refine q0f rfl rfl ?_) | (show goOn ..; first | refine q0g ?_ | refine q7a ?_) | (show wGo ..; refine q3h ?_) | (show q0d ..; first | refine q0h ?_ | refine q0b ?_ | refine q0s ?_ | refine q0m ?_ | refine q0j ?_) | (show q0o ..; first | refine cd_t ?_ | refine cd_f ?_) | refine q0a ?_ | refine q0q ?_)
            refine again (n + 1, acc ++ [x], false, id) ⟨hlt, hst⟩ (by simp only; omega) ?_
            simp only [q3n, q3p, q3o]
            (refine q1l ?_ ?_ <;> repeat' (first | exact q0v | exact q0y | refine q0p (by (try simp only [go_sem, *]); try rfl) (by simp only [go_sem, *]) ?_ | refine q0z (by (try simp only [go_sem, *]); try rfl) (by omega) (by simp only [go_sem, *]) ?_ | refine q0x (by (try simp only [go_sem, *]); try rfl) (by omega) (by simp only [go_sem, *]) ?_))
    | false =>
      cases done with
      | true =>
        have hst : q8h l c lev (n + 1) = (acc, true) := by rw [hst]; unfold wst; simp [c2]
        rcases q5g acc with hnil | hne
        · subst hnil
          simp only [q3a, q3c, q3b]
          repeat' (first | (show q0i ..; first | refine q0c ?_ | refine q0e rfl ?_ | refine q1a rfl rfl ?_) | (show q0k ..; refine q0f rfl rfl ?_) | (show goOn ..; refine q0g ?_) | (show wGo ..; refine q3r ?_) | (show q0d ..; first | refine q0h ?_ | refine q0b ?_ | refine q0s ?_ | refine q0m ?_ | refine q0j ?_) | (show q0o ..; first | refine cd_t ?_ | refine cd_f ?_) | refine q0a ?_ | refine q0q ?_)
          refine again (n + 1, [], true, 0) ⟨hlt, hst⟩ (by simp only; omega) ?_
          simp only [q3a, q3c, q3b]
          (refine q1l ?_ ?_ <;> repeat' (first | exact q0v | exact q0y | refine q0p (by (try simp only [go_sem, *]); try rfl) (by simp only [go_sem, *]) ?_ | refine q0z (by (try simp only [go_sem, *]); try rfl) (by omega) (by simp only [go_sem, *]) ?_ | refine q0x (by (try simp only [go_sem, *]); try rfl) (by omega) (by simp only [go_sem, *]) ?_))
        · simp only [q3t hne, q3v hne, q3u hne]
          repeat' (first | (show q0i ..; first | refine q0c ?_ | refine q0e rfl ?_ | refine q1a rfl rfl ?_) | (show q0k ..; refine q0f rfl rfl ?_) | (show goOn ..; refine q0g ?_) | (show wGo ..; refine q3r ?_) | (show q0d ..; first | refine q0h ?_ | refine q0b ?_ | refine q0s ?_ | refine q0m ?_ | refine q0j ?_) | (show q0o ..; first | refine cd_t ?_ | refine cd_f ?_) | refine q0a ?_ | refine q0q ?_)
          refine again (n + 1, acc, true, id) ⟨hlt, hst⟩ (by simp only; omega) ?_
          simp only [q3t hne, q3v hne, q3u hne]
          (refine q1l ?_ ?_ <;> repeat' (first | exact q0v | exact q0y | refine q0p (by (try simp only [go_sem, *]); try rfl) (by simp only [go_sem, *]) ?_ | refine q0z (by (try simp only [go_sem, *]); try rfl) (by omega) (by simp only [go_sem, *]) ?_ | refine q0x (by (try simp only [go_sem, *]); try rfl) (by omega) (by simp only [go_sem, *]) ?_))
      | false =>
        cases c1 : decide (x.cat > c) with
        | true =>
          have hst : q8h l c lev (n + 1) = (acc ++ [⟨c, lev⟩], true) := by rw [hst]; unfold wst; simp [c1, c2]
          rcases q5g acc with hnil | hne
          · subst hnil
            simp only [q3a, q3c, q3b]
            repeat' (first | (show q0i ..; first | refine q0c ?_ | refine q0e rfl ?_ | refine q1a rfl rfl ?_) | (show q0k ..; refine q0f rfl rfl ?_) | (show goOn ..; first | refine q0g ?_ | refine q7u ?_) | (show wGo ..; refine q3h ?_) | (show q0d ..; first | refine q0h ?_ | refine q0b ?_ | refine q0s ?_ | refine q0m ?_ | refine q0j ?_) | (show q0o ..; first | refine cd_t ?_ | refine cd_f ?_) | refine q0a ?_ | refine q0q ?_)
            refine again (n + 1, [] ++ [⟨c, lev⟩], true, 0) ⟨hlt, hst⟩ (by simp only; omega) ?_
            simp only [q3n, q3p, q3o]
            (refine q1l ?_ ?_ <;> repeat' (first | exact q0v | exact q0y | refine q0p (by (try simp only [go_sem, *]); try rfl) (by simp only [go_sem, *]) ?_ | refine q0z (by (try simp only [go_sem, *]); try rfl) (by omega) (by simp only [go_sem, *]) ?_ | refine q0x (by (try simp only [go_sem, *]); try rfl) (by omega) (by simp only [go_sem, *]) ?_))
          · simp only [q3t hne, q3v hne, q3u hne]
            repeat' (first | (show q0i ..; first | refine q0c ?_ | refine q0e rfl ?_ | refine q1a rfl rfl ?_) | (show q0k ..; refine q0f rfl rfl ?_) | (show goOn ..; first | refine q0g ?_ | refine q7a ?_) | (show wGo ..; refine q3h ?_) | (show q0d ..; first | refine q0h ?_ | refine q0b ?_ | refine q0s ?_ | refine q0m ?_ | refine q0j ?_) | (show q0o ..; first | refine cd_t ?_ | refine cd_f ?_) | refine q0a ?_ | refine q0q ?_)
            refine again (n + 1, acc ++ [⟨c, lev⟩], true, id) ⟨hlt, hst⟩ (by simp only; omega) ?_
            simp only [q3n, q3p, q3o]
            (refine q1l ?_ ?_ <;> repeat' (first | exact q0v | exact q0y | refine q0p (by (try simp only [go_sem, *]); try rfl) (by simp only [go_sem, *]) ?_ | refine q0z (by (try simp only [go_sem, *]); try rfl) (by omega) (by simp only [go_sem, *]) ?_ | refine q0x (by (try simp only [go_sem, *]); try rfl) (by omega) (by simp only [go_sem, *]) ?_))
        | false =>
          have hst : q8h l c lev (n + 1) = (acc, false) := by rw [hst]; unfold wst; simp [c1, c2]
          rcases q5g acc with hnil | hne
          · subst hnil
            simp only [q3a, q3c, q3b]
            repeat' (first | (show q0i ..; first | refine q0c ?_ | refine q0e rfl ?_ | refine q1a rfl rfl ?_) | (show q0k ..; refine q0f rfl rfl ?_) | (show goOn ..; refine q0g ?_) | (show wGo ..; refine q3h ?_) | (show q0d ..; first | refine q0h ?_ | refine q0b ?_ | refine q0s ?_ | refine q0m ?_ | refine q0j ?_) | (show q0o ..; first | refine cd_t ?_ | refine cd_f ?_) | refine q0a ?_ | refine q0q ?_)
            refine again (n + 1, [], false, 0) ⟨hlt, hst⟩ (by simp only; omega) ?_
            simp only [q3a, q3c, q3b]
            (refine q1l ?_ ?_ <;> repeat' (first | exact q0v | exact q0y | refine q0p (by (try simp only [go_sem, *]); try rfl) (by simp only [go_sem, *]) ?_ | refine q0z (by (try simp only [go_sem, *]); try rfl) (by omega) (by simp only [go_sem, *]) ?_ | refine q0x (by (try simp only [go_sem, *]); try rfl) (by omega) (by simp only [go_sem, *]) ?_))
          · simp only [q3t hne, q3v hne, q3u hne]
            repeat' (first | (show q0i ..; first | refine q0c ?_ | refine q0e rfl ?_ | refine q1a rfl rfl ?_) | (show q0k ..; refine q0f rfl rfl ?_) | (show goOn ..; refine q0g ?_) | (show wGo ..; refine q3h ?_) | (show q0d ..; first | refine q0h ?_ | refine q0b ?_ | refine q0s ?_ | refine q0m ?_ | refine q0j ?_) | (show q0o ..; first | refine cd_t ?_ | refine cd_f ?_) | refine q0a ?_ | refine q0q ?_)
            refine again (n + 1, acc, false, id) ⟨hlt, hst⟩ (by simp only; omega) ?_
            simp only [q3t hne, q3v hne, q3u hne]
            (refine q1l ?_ ?_ <;> repeat' (first | exact q0v | exact q0y | refine q0p (by (try simp only [go_sem, *]); try rfl) (by simp only [go_sem, *]) ?_ | refine q0z (by (try simp only [go_sem, *]); try rfl) (by omega) (by simp only [go_sem, *]) ?_ | refine q0x (by (try simp only [go_sem, *]); try rfl) (by omega) (by simp only [go_sem, *]) ?_))
  · have h0 := q1q hge
    have hn' : n = l.length := by omega
    rw [← hn', hs] at hR
    clear hn' hs
    cases done with
    | true =>
      simp only [if_true] at hR
      subst hR
      rcases q5g R with hnil | hne
      · subst hnil
        simp only [q3a, q3c, q3b]
        repeat' (first | (show q0i ..; first | refine q0c ?_ | refine q0e rfl ?_) | (show q0k ..; refine q0f rfl rfl ?_) | (show goOn ..; refine q0g ?_) | (show q0d ..; first | refine q0h ?_ | refine q0b ?_ | refine q0t ?_ | refine q0s ?_ | refine q1s ?_ | refine q0j ?_) | (show q0o ..; refine cd_f ?_) | refine q0a ?_ | refine q1r ?_ | refine q1t ?_ | (show retQ ..; refine q0u ?_) | refine q0n ?_)
        rfl
      · simp only [q3t hne, q3v hne, q3u hne]
        repeat' (first | (show q0i ..; first | refine q0c ?_ | refine q0e rfl ?_) | (show q0k ..; refine q0f rfl rfl ?_) | (show goOn ..; refine q0g ?_) | (show q0d ..; first | refine q0h ?_ | refine q0b ?_ | refine q0t ?_ | refine q0s ?_ | refine q1s ?_ | refine q0j ?_) | (show q0o ..; refine cd_f ?_) | refine q0a ?_ | refine q1r ?_ | refine q1t ?_ | (show retQ ..; refine q0u ?_) | refine q0n ?_)
        rfl
    | false =>
      simp only [Bool.false_eq_true, if_false] at hR
      subst hR
      rcases q5g acc with hnil | hne
      · subst hnil
        simp only [q3a, q3c, q3b]
        repeat' (first | (show q0i ..; first | refine q0c ?_ | refine q0e rfl ?_) | (show q0k ..; refine q0f rfl rfl ?_) | (show goOn ..; first | refine q0g ?_ | refine q7u ?_) | (show q0d ..; first | refine q0h ?_ | refine q0b ?_ | refine q0t ?_ | refine q1s ?_ | refine q0j ?_) | (show q0o ..; first | refine cd_t ?_ | refine cd_f ?_) | refine q0a ?_ | refine q1r ?_ | refine q1t ?_ | (show retQ ..; refine q0u ?_) | refine q0n ?_)
        rfl
      · have hlA : (acc ++ [(⟨c, lev⟩ : Pr)]).length = acc.length + 1 := by simp
        simp only [q3t hne, q3v hne, q3u hne]
        repeat' (first | (show q0i ..; first | refine q0c ?_ | refine q0e rfl ?_) | (show q0k ..; refine q0f rfl rfl ?_) | (show goOn ..; first | refine q0g ?_ | refine q7a ?_) | (show q0d ..; first | refine q0h ?_ | refine q0b ?_ | refine q0t ?_ | refine q1s ?_ | refine q0j ?_) | (show q0o ..; first | refine cd_t ?_ | refine cd_f ?_) | refine q0a ?_ | refine q1r ?_ | refine q1t ?_ | (show retQ ..; refine q0u ?_) | refine q0n ?_)
        (try simp only [List.map_append, List.map_cons, List.map_nil]); try rfl
theorem r01_join (a b : Int) : Pure Tryz.prog 182 [.int .i64 a, .int .i64 b] (.int .i64 (q4g a b)) := by
  refine q2p (by kernel_rfl) (by simp only [go_sem, *]) (by simp only [go_sem, *]) Tryz.func182 Tryz.results182 rfl (by simp [Tryz.ntmps182]) (by kernel_rfl) ?_
  repeat' (first | (show q0i ..; first | refine q0c ?_ | refine q0e rfl ?_) | (show q0k ..; first | refine q0f rfl rfl ?_ | refine q0l rfl ?_) | (show goOn ..; refine q0g ?_) | (show q1k ..; (refine q0r (r := ?_) ?_ ?_; rotate_left 1; (focus exact r01_of _))) | (show q0d ..; first | refine q0h ?_ | refine q0b ?_ | refine q0t ?_ | refine q0s ?_ | refine q0j ?_) | (show q0o ..; refine cd_b (fun _ => ?_) (fun _ => ?_)) | refine q0a ?_ | refine q2j ?_ | (show retQ ..; refine q0u ?_) | refine q0n ?_)
  all_goals (rename_i hc; unfold q4g; rw [hc]; rfl)
theorem r2_join_nil (a : List Pr) (ha : a.length ≤ 1000) : Pure Tryz.prog 126 [.sl (a.map Pr.enc), .sl []] (.sl ((q5x a).map Pr.enc)) := by
  refine q2p (by kernel_rfl) (by simp only [go_sem, *]) (by simp only [go_sem, *]) Tryz.func126 Tryz.results126 rfl (by simp [Tryz.ntmps126]) (by kernel_rfl) ?_
  repeat' (first | (show q0i ..; first | refine q0c ?_ | refine q0e rfl ?_) | (show q0k ..; refine q0f rfl rfl ?_) | (show goOn ..; refine q0g ?_) | (show q0d ..; first | refine q0h ?_ | refine q0b ?_ | refine q0m ?_) | refine q0a ?_)
  refine q2l (S := Nat) (fun n => a.length - n) (fun n => n ≤ a.length) (fun n => [(0, .sl (a.map Pr.enc)), (1, .sl []), (5, .sl ((joinN a n).map Pr.enc)), (6, .int .i64 n)]) (fun _ => []) (fun _ => 0) 0 (Nat.zero_le _) (by (refine q1l ?_ ?_ <;> repeat' (first | exact q0v | exact q0y | refine q0p (by (try simp only [go_sem, *]); try rfl) (by simp only [go_sem, *]) ?_ | refine q0z (by (try simp only [go_sem, *]); try rfl) (by omega) (by simp only [go_sem, *]) ?_ | refine q0x (by (try simp only [go_sem, *]); try rfl) (by omega) (by simp only [go_sem, *]) ?_))) ?_
  intro n hn
  rcases Nat.lt_or_ge n a.length with hlt | hge
  · obtain ⟨x, hx⟩ := q2b hlt
    have h0 := q2h hlt
    have h4 := q2a n (by omega)
    have hg := r2_get [] x.cat (by simp)
    have hg2 : q1j [] x.cat = 2 := rfl
    rw [hg2, List.map_nil] at hg
    have hj := r01_join x.lev 2
    have hw := r2_with (joinN a n) x.cat (q4g x.lev 2) (by have := joinN_len a n; omega)
    have hs := joinN_succ hx
    repeat' (first | (show q0i ..; first | refine q0c ?_ | refine q0e rfl ?_) | (show q0k ..; refine q0f rfl rfl ?_) | (show goOn ..; refine q0g ?_) | (show dr ..; first | refine q1y ?_ | refine dr_n rfl ?_) | (show drGo ..; first | refine q2t rfl ?_ | refine q2k rfl ?_) | (show drOn ..; refine q1z ?_) | (show q2e ..; (refine q1f (r := ?_) ?_ ?_; rotate_left 1; (focus first | exact hg | exact hj | exact hw))) | (refine And.intro (by kernel_rfl : q1n _ = true) ?_) | (show q0d ..; first | refine q0h ?_ | refine q0b ?_ | refine q1o (by kernel_rfl) ?_ | refine q0s ?_ | refine q0m ?_ | refine q0j ?_) | (show q0o ..; refine cd_t ?_) | refine q0a ?_ | refine q0q ?_)
    exact again (n + 1) (show n + 1 ≤ a.length from hlt) (show a.length - (n + 1) < a.length - n by omega) (by (refine q1l ?_ ?_ <;> repeat' (first | exact q0v | exact q0y | refine q0p (by (try simp only [go_sem, *]); try rfl) (by simp only [go_sem, *]) ?_ | refine q0z (by (try simp only [go_sem, *]); try rfl) (by omega) (by simp only [go_sem, *]) ?_ | refine q0x (by (try simp only [go_sem, *]); try rfl) (by omega) (by simp only [go_sem, *]) ?_)))
  · have h0 := q1q hge
    have e : joinN a n = q5x a := by unfold joinN q5x; rw [List.take_of_length_le hge]
    rw [e]
    repeat' (first | (show q0i ..; first | refine q0c ?_ | refine q0e rfl ?_) | (show q0k ..; refine q0f rfl rfl ?_) | (show goOn ..; refine q0g ?_) | (show q0d ..; first | refine q0h ?_ | refine q0b ?_ | refine q0m ?_ | refine q1s ?_ | refine q0j ?_) | (show q0o ..; refine cd_f ?_) | refine q0a ?_ | refine q1r ?_ | refine q1t ?_)
    refine q2l (S := Unit) (fun _ => 0) (fun _ => True) (fun _ => [(1, .sl []), (5, .sl ((q5x a).map Pr.enc)), (7, .int .i64 (0 : Nat))]) (fun _ => []) (fun _ => 0) () trivial (by (refine q1l ?_ ?_ <;> repeat' (first | exact q0v | exact q0y | refine q0p (by (try simp only [go_sem, *]); try rfl) (by simp only [go_sem, *]) ?_ | refine q0z (by (try simp only [go_sem, *]); try rfl) (by omega) (by simp only [go_sem, *]) ?_ | refine q0x (by (try simp only [go_sem, *]); try rfl) (by omega) (by simp only [go_sem, *]) ?_))) ?_
    intro _ _
    have h1 : decide (((0 : Nat) : Int) < ((0 : Nat) : Int)) = false := rfl
    repeat' (first | (show q0i ..; first | refine q0c ?_ | refine q0e rfl ?_) | (show q0k ..; refine q0f rfl rfl ?_) | (show goOn ..; refine q0g ?_) | (show q0d ..; first | refine q0h ?_ | refine q0b ?_ | refine q0t ?_ | refine q1s ?_ | refine q0j ?_) | (show q0o ..; refine cd_f ?_) | refine q0a ?_ | refine q1r ?_ | refine q1t ?_ | (show retQ ..; refine q0u ?_) | refine q0n ?_)
    all_goals rfl
theorem r3_place (d o : List Pr) (hd : d.length ≤ 1000) (ho : o.length ≤ 400) : Pure Tryz.prog 111 [.sl (d.map Pr.enc), .sl (o.map Pr.enc)] (.bool (q7i d o)) := by
  have h1 := r2_raise o (by omega)
  have h2 := r2_join_nil (o.map upPr) (by simp; omega)
  have h3 := r2_leq d (q5x (o.map upPr)) (by omega) (by have := joinNil_len (o.map upPr); simp at this; omega)
  refine q2p (by kernel_rfl) (by simp only [go_sem, *]) (by simp only [go_sem, *]) Tryz.func111 Tryz.results111 rfl (by simp [Tryz.ntmps111]) (by kernel_rfl) ?_
  repeat' (first | (show q0i ..; first | refine q0c ?_ | refine q0e rfl ?_) | (show q0k ..; first | refine q0f rfl rfl ?_ | refine q0l rfl ?_) | (show goOn ..; refine q0g ?_) | (show q1k ..; (refine q0r (r := ?_) ?_ ?_; rotate_left 1; (focus first | exact h1 | exact h2 | exact h3))) | (show q0d ..; first | refine q0h ?_ | refine q0b ?_ | refine q0t ?_) | refine q0a ?_ | (show retQ ..; refine q0u ?_) | refine q0n ?_)
  all_goals rfl
theorem x0y {w : Wd} (hf : FewW w) (id : Int) : (q2i w id).1.label.length ≤ 20 := by
  unfold q2i
  split
  · rename_i x hx; exact (hf.ob x (List.mem_of_find?_eq_some hx)).1
  · exact Nat.zero_le _
theorem r14_links (w : Wd) (d : Ob) (hf : FewW w) (hd : d.label.length ≤ 20) (hl : d.links.length ≤ 100000) : Pure Tryz.prog 54 [.agg (Wd.enc w), .agg (Ob.enc d)] (.bool (q9x w d)) := by
  have hn20 := hf.n
  refine q2p (by kernel_rfl) (by simp only [go_sem, *]) (by simp only [go_sem, *]) Tryz.func54 Tryz.results54 rfl (by simp [Tryz.ntmps54]) (by kernel_rfl) ?_
  repeat' (first | (show q0i ..; first | refine q0c ?_ | refine q0e rfl ?_) | (show q0k ..; refine q0f rfl rfl ?_) | (show goOn ..; first | refine q0g ?_ | refine q1d ?_) | (show q0d ..; first | refine q0h ?_ | refine q0b ?_ | refine q0m ?_) | refine q0a ?_)
  refine q2l (S := Nat) (fun n => d.links.length - n) (fun n => n ≤ d.links.length ∧ ∀ j, j < n → q7v w d j = true) (fun n => [(2, .ptr 0 0), (3, .ptr 1 0), (5, .int .i64 n)]) (fun _ => [(0, .box (Wd.enc w)), (1, .box (Ob.enc d))]) (fun _ => 2) 0 ⟨Nat.zero_le _, fun j hj => absurd hj (Nat.not_lt_zero j)⟩ (by (refine q1l ?_ ?_ <;> repeat' (first | exact q0v | exact q0y | refine q0p (by (try simp only [go_sem, *]); try rfl) (by simp only [go_sem, *]) ?_ | refine q0z (by (try simp only [go_sem, *]); try rfl) (by omega) (by simp only [go_sem, *]) ?_ | refine q0x (by (try simp only [go_sem, *]); try rfl) (by omega) (by simp only [go_sem, *]) ?_))) ?_
  rintro n ⟨hn, hs⟩
  rcases Nat.lt_or_ge n d.links.length with hlt | hge
  · obtain ⟨x, hx⟩ := q2b hlt
    have h0 := q2h hlt
    have h4 := q2a n (by omega)
    have hfd := q6u w x (by omega)
    have hpl := r3_place d.label (q2i w x).1.label (by omega) (by have := x0y hf x; omega)
    have e : q7v w d n = ((q2i w x).2 && q7i d.label (q2i w x).1.label) := by unfold q7v; rw [hx]
    have fin : allB d.links.length (q7v w d) = false → false = q9x w d := fun hb => by unfold q9x; rw [hb]; rfl
    repeat' (first | (show q0i ..; first | refine q0c ?_ | refine q0e rfl ?_ | refine q1a rfl rfl ?_) | (show q0k ..; first | refine q0f rfl rfl ?_ | refine q0l rfl ?_) | (show goOn ..; refine q0g ?_) | (show q1k ..; (refine q0r (r := ?_) ?_ ?_; rotate_left 1; (focus first | exact hfd | exact hpl))) | (show wGo ..; first | refine q4b ?_ | refine q4y ?_ | refine q9s (fun _ => ?_) (fun _ => ?_)) | (show dr ..; first | refine q1y ?_ | refine dr_n rfl ?_) | (show drGo ..; first | refine q2t rfl ?_ | refine q2k rfl ?_) | (show drOn ..; first | refine q1z ?_ | refine dn_new ?_ | refine q8y ?_) | (show q6y ..; refine q5k ?_) | (show q2e ..; (refine q1f (r := ?_) ?_ ?_; rotate_left 1; (focus first | exact hfd | exact hpl))) | (refine And.intro (by kernel_rfl : q1n _ = true) ?_) | (show q0d ..; first | refine q0h ?_ | refine q0b ?_ | refine q1o (by kernel_rfl) ?_ | refine q0t ?_ | refine q0s ?_ | refine q0m ?_ | refine q0j ?_) | (show q0o ..; first | refine cd_t ?_ | refine cd_n (fun _ => ?_) (fun _ => ?_)) | refine q0a ?_ | refine q2j ?_ | refine q0q ?_ | refine q3k ?_ | (show retQ ..; refine q0u ?_) | refine q0n ?_)
    all_goals first
      | (refine q1u (fin (q2o hlt ?_)); simp only [*, Bool.not_true, Bool.not_false, Bool.and_true, Bool.true_and, Bool.and_false, Bool.false_and, Bool.or_true, Bool.true_or, Bool.or_false, Bool.false_or, Bool.and_self, Bool.or_self, decide_true, decide_false, Bool.not_not, if_true, if_false, Bool.false_eq_true, eq_self]; done)
      | (refine again (n + 1) ⟨?_, q5d hs ?_⟩ ?_ (by (refine q1l ?_ ?_ <;> repeat' (first | exact q0v | exact q0y | refine q0p (by (try simp only [go_sem, *]); try rfl) (by simp only [go_sem, *]) ?_ | refine q0z (by (try simp only [go_sem, *]); try rfl) (by omega) (by simp only [go_sem, *]) ?_ | refine q0x (by (try simp only [go_sem, *]); try rfl) (by omega) (by simp only [go_sem, *]) ?_))); (focus omega); (focus simp only [*, Bool.not_true, Bool.not_false, Bool.and_true, Bool.true_and, Bool.and_false, Bool.false_and, Bool.or_true, Bool.true_or, Bool.or_false, Bool.false_or, Bool.and_self, Bool.or_self, decide_true, decide_false, Bool.not_not, if_true, if_false, Bool.false_eq_true, eq_self]); (focus omega))
  · have h0 := q1q hge
    have hall : allB d.links.length (q7v w d) = true := q2m fun j hj => hs j (by omega)
    have hu := r14_uses w d hf hl
    repeat' (first | (show q0i ..; first | refine q0c ?_ | refine q0e rfl ?_) | (show q0k ..; refine q0f rfl rfl ?_) | (show goOn ..; refine q0g ?_) | (show wGo ..; first | refine q4b ?_ | refine q4y ?_ | refine q9s (fun _ => ?_) (fun _ => ?_)) | (show dr ..; first | refine q1y ?_ | refine dr_n rfl ?_ | refine q5j rfl rfl ?_) | (show drGo ..; first | refine q2t rfl ?_ | refine q2k rfl ?_) | (show drOn ..; refine q1z ?_) | (show q2e ..; (refine q1f (r := ?_) ?_ ?_; rotate_left 1; (focus exact hu))) | (refine And.intro (by kernel_rfl : q1n _ = true) ?_) | (show q0d ..; first | refine q0h ?_ | refine q0b ?_ | refine q1o (by kernel_rfl) ?_ | refine q0t ?_ | refine q1s ?_ | refine q0j ?_) | (show q0o ..; refine cd_f ?_) | refine q0a ?_ | refine q1r ?_ | refine q1t ?_ | (show retQ ..; refine q0u ?_) | refine q0n ?_)
    all_goals (refine q1u ?_; unfold q9x; simp [bne, *])
end Go.Proofs.YtoibbedpaaeclaaGreat
end

section
namespace Go.Proofs.YtoibbedpaaeclaaGreat
open Go Go.RowKit
set_option linter.unusedVariables false
set_option linter.unusedSimpArgs false
set_option maxHeartbeats 16000000
set_option maxRecDepth 100000
def andZ (a b : Int) : Int := IntKind.u64.wrap ((BitVec.ofInt IntKind.u64.bits a &&& BitVec.ofInt IntKind.u64.bits b).toNat : Int)
def xorZ (a b : Int) : Int := IntKind.u64.wrap ((BitVec.ofInt IntKind.u64.bits a ^^^ BitVec.ofInt IntKind.u64.bits b).toNat : Int)
def shrZ (a b : Int) : Int := a.fdiv (2 ^ min b.toNat IntKind.u64.bits)
@[local go_sem high] theorem and_ev (t : TypeId) (a b : Int) : q3f Tryz.prog .and t (.int .u64 a) (.int .u64 b) = some (.int .u64 (andZ a b)) := by simp [q3f, eInt, andZ]
@[local go_sem high] theorem xor_ev (t : TypeId) (a b : Int) : q3f Tryz.prog .xor t (.int .u64 a) (.int .u64 b) = some (.int .u64 (xorZ a b)) := by simp [q3f, eInt, xorZ]
@[local go_sem high] theorem shr_ev (t : TypeId) (a : Int) : q3f Tryz.prog .shr t (.int .u64 a) (.int .u64 30) = some (.int .u64 (shrZ a 30)) := by simp [q3f, x0z, shrZ]
attribute [local irreducible] q0i dr q0d Ex.then Ex.inBlock retQ q1n q2d q2c Pure CSat evOp q1i rdOf upd hset strip sp0 cut envL q1g q3i Keep BdL evBs q2n q2s
theorem mix_ex (x : Int) : ∃ r : Int, Pure Tryz.prog 214 [.int .u64 x] (.int .u64 r) := by
  apply Exists.intro
  refine q2p (by kernel_rfl) (by simp only [go_sem, *]) (by simp only [go_sem, *]) Tryz.func214 Tryz.results214 rfl (by simp [Tryz.ntmps214]) (by kernel_rfl) ?_
  repeat' (first | (show q0i ..; first | refine q0c ?_ | refine q0e rfl ?_) | (show q0k ..; refine q0f rfl rfl ?_) | (show goOn ..; refine q0g ?_) | (show q0d ..; first | refine q0h ?_ | refine q0b ?_ | refine q0t ?_) | refine q0a ?_ | (show retQ ..; refine q0u ?_) | refine q0n ?_)
  rfl
noncomputable def mixF (x : Int) : Int := Classical.choose (mix_ex x)
theorem r6_mix (x : Int) : Pure Tryz.prog 214 [.int .u64 x] (.int .u64 (mixF x)) := Classical.choose_spec (mix_ex x)
theorem rnd_ex (k r v : Int) : ∃ z : Int, Pure Tryz.prog 151 [.int .u64 k, .int .u64 r, .int .u64 v] (.int .u64 z) := by
  apply Exists.intro
  refine q2p (by kernel_rfl) (by simp only [go_sem, *]) (by simp only [go_sem, *]) Tryz.func151 Tryz.results151 rfl (by simp [Tryz.ntmps151]) (by kernel_rfl) ?_
  repeat' (first | (show q0i ..; first | refine q0c ?_ | refine q0e rfl ?_) | (show q0k ..; first | refine q0f rfl rfl ?_ | refine q0l rfl ?_) | (show goOn ..; refine q0g ?_) | (show q1k ..; (refine q0r (r := ?_) ?_ ?_; rotate_left 1; (focus exact r6_mix _))) | (show q0d ..; first | refine q0h ?_ | refine q0b ?_ | refine q0t ?_) | refine q0a ?_ | (show retQ ..; refine q0u ?_) | refine q0n ?_)
  rfl
noncomputable def rndF (k r v : Int) : Int := Classical.choose (rnd_ex k r v)
theorem r6_round (k r v : Int) : Pure Tryz.prog 151 [.int .u64 k, .int .u64 r, .int .u64 v] (.int .u64 (rndF k r v)) := Classical.choose_spec (rnd_ex k r v)
def inA (name : Int) : Int := shrZ (andZ (IntKind.u64.wrap (name - 1)) 2305843009213693951) 30
def inB (name : Int) : Int := andZ (andZ (IntKind.u64.wrap (name - 1)) 2305843009213693951) 1073741823
noncomputable def nst (key : Int) (k : Nat) (s : Int × Int) : Int × Int := if (7 - k) % 2 = 0 then (xorZ s.1 (andZ (rndF key ((7 - k : Nat) : Int) s.2) 2147483647), s.2) else (s.1, xorZ s.2 (andZ (rndF key ((7 - k : Nat) : Int) s.1) 1073741823))
noncomputable def nstN (key a b : Int) : Nat → Int × Int
  | 0 => (a, b)
  | k + 1 => nst key k (nstN key a b k)
theorem r6_number_ex (key name : Int) : ∃ z : Int, Pure Tryz.prog 166 [.int .u64 key, .int .u64 name] (.int .u64 z) := by
  apply Exists.intro
  refine q2p (by kernel_rfl) (by simp only [go_sem, *]) (by simp only [go_sem, *]) Tryz.func166 Tryz.results166 rfl (by simp [Tryz.ntmps166]) (by kernel_rfl) ?_
  repeat' (first | (show q0i ..; first | refine q0c ?_ | refine q0e rfl ?_) | (show q0k ..; refine q0f rfl rfl ?_) | (show goOn ..; refine q0g ?_) | (show q0d ..; first | refine q0h ?_ | refine q0b ?_ | refine q0m ?_) | refine q0a ?_)
  refine q2l (S := Nat) (fun k => 8 - k) (fun k => k ≤ 8) (fun k => [(0, .int .u64 key), (5, .int .u64 (nstN key (inA name) (inB name) k).1), (6, .int .u64 (nstN key (inA name) (inB name) k).2), (7, .int .u64 (k : Int))]) (fun _ => []) (fun _ => 0) 0 (Nat.zero_le _) (by (refine q1l ?_ ?_ <;> repeat' (first | exact q0v | exact q0y | refine q0p (by (try simp only [go_sem, *]); try rfl) (by simp only [go_sem, *]) ?_ | refine q0z (by (try simp only [go_sem, *]); try rfl) (by omega) (by simp only [go_sem, *]) ?_ | refine q0x (by (try simp only [go_sem, *]); try rfl) (by omega) (by simp only [go_sem, *]) ?_))) ?_
  intro k hk
  rcases Nat.lt_or_ge k 8 with hlt | hge
  · have h0 : decide ((k : Int) < 8) = true := decide_eq_true (by omega)
    have h1 : IntKind.u64.wrap ((k : Int) + 1) = ((k + 1 : Nat) : Int) := by rw [IntKind.wrap_u64]; omega
    have h2 : IntKind.u64.wrap (7 - (k : Int)) = ((7 - k : Nat) : Int) := by rw [IntKind.wrap_u64]; omega
    have h3 : Int.tmod ((7 - k : Nat) : Int) 2 = (((7 - k) % 2 : Nat) : Int) := by rw [Int.tmod_eq_emod_of_nonneg (by omega)]; omega
    have hst : nstN key (inA name) (inB name) (k + 1) = nst key k (nstN key (inA name) (inB name) k) := rfl
    generalize hs : nstN key (inA name) (inB name) k = s at hst
    by_cases hp : (7 - k) % 2 = 0
    · have h4 : ((((7 - k) % 2 : Nat) : Int) == 0) = true := by rw [hp]; rfl
      have hst2 : nstN key (inA name) (inB name) (k + 1) = (xorZ s.1 (andZ (rndF key ((7 - k : Nat) : Int) s.2) 2147483647), s.2) := by rw [hst]; unfold nst; rw [if_pos hp]
      clear hs hst
      repeat' (first | (show q0i ..; first | refine q0c ?_ | refine q0e rfl ?_) | (show q0k ..; first | refine q0f rfl rfl ?_ | refine q0l rfl ?_) | (show goOn ..; refine q0g ?_) | (show q1k ..; (refine q0r (r := ?_) ?_ ?_; rotate_left 1; (focus exact r6_round _ _ _))) | (show q0d ..; first | refine q0h ?_ | refine q0b ?_ | refine q0s ?_ | refine q0m ?_ | refine q0j ?_) | (show q0o ..; refine cd_t ?_) | refine q0a ?_ | refine q0q ?_)
      exact again (k + 1) (show k + 1 ≤ 8 by omega) (show 8 - (k + 1) < 8 - k by omega) (by (refine q1l ?_ ?_ <;> repeat' (first | exact q0v | exact q0y | refine q0p (by (try simp only [go_sem, *]); try rfl) (by simp only [go_sem, *]) ?_ | refine q0z (by (try simp only [go_sem, *]); try rfl) (by omega) (by simp only [go_sem, *]) ?_ | refine q0x (by (try simp only [go_sem, *]); try rfl) (by omega) (by simp only [go_sem, *]) ?_)))
    · have h4 : ((((7 - k) % 2 : Nat) : Int) == 0) = false := by simp; omega
      have hst2 : nstN key (inA name) (inB name) (k + 1) = (s.1, xorZ s.2 (andZ (rndF key ((7 - k : Nat) : Int) s.1) 1073741823)) := by rw [hst]; unfold nst; rw [if_neg hp]
      clear hs hst
      repeat' (first | (show q0i ..; first | refine q0c ?_ | refine q0e rfl ?_) | (show q0k ..; first | refine q0f rfl rfl ?_ | refine q0l rfl ?_) | (show goOn ..; refine q0g ?_) | (show q1k ..; (refine q0r (r := ?_) ?_ ?_; rotate_left 1; (focus exact r6_round _ _ _))) | (show q0d ..; first | refine q0h ?_ | refine q0b ?_ | refine q0s ?_ | refine q0m ?_ | refine q0j ?_) | (show q0o ..; first | refine cd_t ?_ | refine cd_f ?_) | refine q0a ?_ | refine q0q ?_)
      exact again (k + 1) (show k + 1 ≤ 8 by omega) (show 8 - (k + 1) < 8 - k by omega) (by (refine q1l ?_ ?_ <;> repeat' (first | exact q0v | exact q0y | refine q0p (by (try simp only [go_sem, *]); try rfl) (by simp only [go_sem, *]) ?_ | refine q0z (by (try simp only [go_sem, *]); try rfl) (by omega) (by simp only [go_sem, *]) ?_ | refine q0x (by (try simp only [go_sem, *]); try rfl) (by omega) (by simp only [go_sem, *]) ?_)))
  · obtain rfl : k = 8 := by omega
    have h0 : decide (((8 : Nat) : Int) < 8) = false := rfl
    repeat' (first | (show q0i ..; first | refine q0c ?_ | refine q0e rfl ?_) | (show q0k ..; refine q0f rfl rfl ?_) | (show goOn ..; refine q0g ?_) | (show q0d ..; first | refine q0h ?_ | refine q0b ?_ | refine q0t ?_ | refine q1s ?_ | refine q0j ?_) | (show q0o ..; refine cd_f ?_) | refine q0a ?_ | refine q1r ?_ | refine q1t ?_ | (show retQ ..; refine q0u ?_) | refine q0n ?_)
    rfl
noncomputable def numF (key name : Int) : Int := Classical.choose (r6_number_ex key name)
theorem r6_number (key name : Int) : Pure Tryz.prog 166 [.int .u64 key, .int .u64 name] (.int .u64 (numF key name)) := Classical.choose_spec (r6_number_ex key name)
noncomputable def hasZ (key : Int) (s : Sp) (name : Int) : Bool := decide (name ≥ 1) && (decide (name ≤ 2305843009213693952) && (decide (numF key name ≥ s.lo) && decide (numF key name < s.hi)))
theorem r7_has (key : Int) (s : Sp) (name : Int) : Pure Tryz.prog 115 [.int .u64 key, .agg (Sp.enc s), .int .u64 name] (.bool (hasZ key s name)) := by
  refine q2p (by kernel_rfl) (by simp only [go_sem, *]) (by simp only [go_sem, *]) Tryz.func115 Tryz.results115 rfl (by simp [Tryz.ntmps115]) (by kernel_rfl) ?_
  repeat' (first | (show q0i ..; first | refine q0c ?_ | refine q0e rfl ?_ | refine q1a rfl rfl ?_) | (show q0k ..; first | refine q0f rfl rfl ?_ | refine q0l rfl ?_) | (show goOn ..; first | refine q0g ?_ | refine q1d ?_) | (show q1k ..; (refine q0r (r := ?_) ?_ ?_; rotate_left 1; (focus exact r6_number _ _))) | (show wGo ..; first | refine q3h ?_ | refine q3r ?_ | refine q9r (fun _ => ?_) (fun _ => ?_)) | (show q0d ..; first | refine q0h ?_ | refine q0b ?_ | refine q0t ?_) | refine q0a ?_ | (show retQ ..; refine q0u ?_) | refine q0n ?_)
  all_goals (refine q1u ?_; unfold hasZ; simp only [*, Bool.not_true, Bool.not_false, Bool.and_true, Bool.true_and, Bool.and_false, Bool.false_and, Bool.or_true, Bool.true_or, Bool.or_false, Bool.false_or, Bool.and_self, Bool.or_self, decide_true, decide_false, Bool.not_not, if_true, if_false, Bool.false_eq_true, eq_self])
def apartZ (a b : Sp) : Bool := (a.lo == a.hi) || ((b.lo == b.hi) || (decide (a.hi ≤ b.lo) || decide (b.hi ≤ a.lo)))
theorem r7_apart (a b : Sp) : Pure Tryz.prog 116 [.agg (Sp.enc a), .agg (Sp.enc b)] (.bool (apartZ a b)) := by
  refine q2p (by kernel_rfl) (by simp only [go_sem, *]) (by simp only [go_sem, *]) Tryz.func116 Tryz.results116 rfl (by simp [Tryz.ntmps116]) (by kernel_rfl) ?_
  repeat' (first | (show q0i ..; first | refine q0c ?_ | refine q0e rfl ?_ | refine q1a rfl rfl ?_) | (show q0k ..; refine q0f rfl rfl ?_) | (show goOn ..; first | refine q0g ?_ | refine q1d ?_) | (show wGo ..; first | refine q4b ?_ | refine q4y ?_ | refine gw_fb (fun _ => ?_) (fun _ => ?_)) | (show q0d ..; first | refine q0h ?_ | refine q0b ?_ | refine q0t ?_) | refine q0a ?_ | (show retQ ..; refine q0u ?_) | refine q0n ?_)
  all_goals (refine q1u ?_; unfold apartZ; simp only [*, Bool.not_true, Bool.not_false, Bool.and_true, Bool.true_and, Bool.and_false, Bool.false_and, Bool.or_true, Bool.true_or, Bool.or_false, Bool.false_or, Bool.and_self, Bool.or_self, decide_true, decide_false, Bool.not_not, if_true, if_false, Bool.false_eq_true, eq_self])
noncomputable def q9v (w : Wd) (t : Ob) (i : Int) (k : Nat) : Bool := match w.objects[k]? with
  | some o => !(hasZ w.key t.thread.span o.id || ((o.kind == 4) && (((k : Int) != i) && !apartZ t.thread.span o.thread.span)))
  | none => true
noncomputable def q8l (w : Wd) (i : Nat) : Bool := match w.objects[i]? with
  | some t => if (t.kind == 4) = true then allB w.objects.length (q9v w t i) else true
  | none => true
noncomputable def q7f (w : Wd) : Bool := allB w.objects.length (q8l w)
theorem r14_spans (w : Wd) (hf : FewW w) : Pure Tryz.prog 56 [.agg (Wd.enc w)] (.bool (q7f w)) := by
  have hn20 := hf.n
  refine q2p (by kernel_rfl) (by simp only [go_sem, *]) (by simp only [go_sem, *]) Tryz.func56 Tryz.results56 rfl (by simp [Tryz.ntmps56]) (by kernel_rfl) ?_
  repeat' (first | (show q0i ..; first | refine q0c ?_ | refine q0e rfl ?_) | (show q0k ..; refine q0f rfl rfl ?_) | (show goOn ..; first | refine q0g ?_ | refine q1d ?_) | (show q0d ..; first | refine q0h ?_ | refine q0b ?_ | refine q0m ?_) | refine q0a ?_)
  refine q2l (S := Nat) (fun n => w.objects.length - n) (fun n => n ≤ w.objects.length ∧ ∀ j, j < n → q8l w j = true) (fun n => [(1, .ptr 0 0), (3, .int .i64 n)]) (fun _ => [(0, .box (Wd.enc w))]) (fun _ => 1) 0 ⟨Nat.zero_le _, fun j hj => absurd hj (Nat.not_lt_zero j)⟩ (by (refine q1l ?_ ?_ <;> repeat' (first | exact q0v | exact q0y | refine q0p (by (try simp only [go_sem, *]); try rfl) (by simp only [go_sem, *]) ?_ | refine q0z (by (try simp only [go_sem, *]); try rfl) (by omega) (by simp only [go_sem, *]) ?_ | refine q0x (by (try simp only [go_sem, *]); try rfl) (by omega) (by simp only [go_sem, *]) ?_))) ?_
  rintro n ⟨hn, hs⟩
  rcases Nat.lt_or_ge n w.objects.length with hlt | hge
  · obtain ⟨t, ht⟩ := q2b hlt
    have h0 := q2h hlt
    have h4 := q2a n (by omega)
    have et : q8l w n = if (t.kind == 4) = true then allB w.objects.length (q9v w t n) else true := by unfold q8l; rw [ht]
    have fin : allB w.objects.length (q8l w) = false → false = q7f w := fun hb => by unfold q7f; rw [hb]
    repeat' (first | (show q0i ..; first | refine q0c ?_ | refine q0e rfl ?_) | (show q0k ..; refine q0f rfl rfl ?_) | (show goOn ..; first | refine q0g ?_ | refine q1d ?_ | refine q1x ?_) | (show q2w ..; refine q1h ?_) | (show q0d ..; first | refine q0h ?_ | refine q0b ?_ | refine q0s ?_ | refine q0m ?_ | refine q0j ?_) | (show q0o ..; refine cd_t ?_) | refine q0a ?_)
    refine q2l (S := Nat) (fun k => w.objects.length - k) (fun k => k ≤ w.objects.length ∧ ((t.kind == 4) = true → ∀ j, j < k → q9v w t n j = true)) (fun k => [(1, .ptr 0 0), (3, .int .i64 n), (4, .ptr 1 0), (5, .int .i64 k)]) (fun _ => [(0, .box (Wd.enc w)), (1, .box (Ob.enc t))]) (fun _ => 2) 0 ⟨Nat.zero_le _, fun _ j hj => absurd hj (Nat.not_lt_zero j)⟩ (by (refine q1l ?_ ?_ <;> repeat' (first | exact q0v | exact q0y | refine q0p (by (try simp only [go_sem, *]); try rfl) (by simp only [go_sem, *]) ?_ | refine q0z (by (try simp only [go_sem, *]); try rfl) (by omega) (by simp only [go_sem, *]) ?_ | refine q0x (by (try simp only [go_sem, *]); try rfl) (by omega) (by simp only [go_sem, *]) ?_))) ?_
    rintro k ⟨hk, hq⟩
    cases hkd : (t.kind == 4) with
    | false =>
      have et2 : q8l w n = true := by rw [et, hkd]; rfl
      have hs' := q5d hs et2
      clear hs et hq
      rcases Nat.lt_or_ge k w.objects.length with hkl | hkg
      · have k0 := q2h hkl
        repeat' (first | (show q0i ..; first | refine q0c ?_ | refine q0e rfl ?_ | refine q1a rfl rfl ?_) | (show q0k ..; refine q0f rfl rfl ?_) | (show goOn ..; refine q0g ?_) | (show wGo ..; refine q3h ?_) | (show q0d ..; first | refine q0h ?_ | refine q0b ?_ | refine q1s ?_ | refine q0j ?_) | (show q0o ..; refine cd_f ?_) | refine q0a ?_ | refine q1r ?_ | refine q0q ?_ | refine q1t ?_)
        all_goals exact again (n + 1) ⟨hlt, hs'⟩ (show w.objects.length - (n + 1) < w.objects.length - n by omega) (by (refine q1l ?_ ?_ <;> repeat' (first | exact q0v | exact q0y | refine q0p (by (try simp only [go_sem, *]); try rfl) (by simp only [go_sem, *]) ?_ | refine q0z (by (try simp only [go_sem, *]); try rfl) (by omega) (by simp only [go_sem, *]) ?_ | refine q0x (by (try simp only [go_sem, *]); try rfl) (by omega) (by simp only [go_sem, *]) ?_)))
      · have k0 := q1q hkg
        repeat' (first | (show q0i ..; first | refine q0c ?_ | refine q0e rfl ?_ | refine q1a rfl rfl ?_) | (show q0k ..; refine q0f rfl rfl ?_) | (show goOn ..; refine q0g ?_) | (show wGo ..; refine q3r ?_) | (show q0d ..; first | refine q0h ?_ | refine q0b ?_ | refine q1s ?_ | refine q0j ?_) | (show q0o ..; refine cd_f ?_) | refine q0a ?_ | refine q1r ?_ | refine q0q ?_ | refine q1t ?_)
        all_goals exact again (n + 1) ⟨hlt, hs'⟩ (show w.objects.length - (n + 1) < w.objects.length - n by omega) (by (refine q1l ?_ ?_ <;> repeat' (first | exact q0v | exact q0y | refine q0p (by (try simp only [go_sem, *]); try rfl) (by simp only [go_sem, *]) ?_ | refine q0z (by (try simp only [go_sem, *]); try rfl) (by omega) (by simp only [go_sem, *]) ?_ | refine q0x (by (try simp only [go_sem, *]); try rfl) (by omega) (by simp only [go_sem, *]) ?_)))
    | true =>
      have hq := hq hkd
      rw [hkd, if_pos rfl] at et
      rcases Nat.lt_or_ge k w.objects.length with hkl | hkg
      · have k0 := q2h hkl
        obtain ⟨o, ho⟩ := q2b hkl
        have k4 := q2a k (by omega)
        have hh := r7_has w.key t.thread.span o.id
        have ha := r7_apart t.thread.span o.thread.span
        have e : q9v w t n k = !(hasZ w.key t.thread.span o.id || ((o.kind == 4) && (((k : Int) != (n : Int)) && !apartZ t.thread.span o.thread.span))) := by unfold q9v; rw [ho]
        generalize hasZ w.key t.thread.span o.id = b1 at hh e
        generalize apartZ t.thread.span o.thread.span = b2 at ha e
        repeat' (first | (show q0i ..; first | refine q0c ?_ | refine q0e rfl ?_ | refine q1a rfl rfl ?_) | (show q0k ..; first | refine q0f rfl rfl ?_ | refine q0l rfl ?_) | (show goOn ..; first | refine q0g ?_ | refine q1d ?_ | refine q1x ?_) | (show q2w ..; refine q1h ?_) | (show q1k ..; (refine q0r (r := ?_) ?_ ?_; rotate_left 1; (focus first | exact hh | exact ha))) | (show wGo ..; first | refine q3h ?_ | refine q4b ?_ | refine q3r ?_ | refine q4y ?_ | refine gw_u ?_ | refine gw_tn (fun _ => ?_) (fun _ => ?_) | refine q9r (fun _ => ?_) (fun _ => ?_) | refine gw_fb (fun _ => ?_) (fun _ => ?_)) | (show q0d ..; first | refine q0h ?_ | refine q0b ?_ | refine q0t ?_ | refine q0s ?_ | refine q0m ?_ | refine q0j ?_) | (show q0o ..; first | refine cd_t ?_ | refine cd_f ?_ | refine cd_n (fun _ => ?_) (fun _ => ?_)) | refine q0a ?_ | refine q2j ?_ | refine q0q ?_ | refine q3k ?_ | (show retQ ..; refine q0u ?_) | refine q0n ?_)
        all_goals first
          | (refine q1u (fin (q2o hlt ?_)); rw [et]; refine q2o hkl ?_; rw [e]; simp [bne, *]; done)
          | (refine again (k + 1) ⟨hkl, fun _ => q5d hq ?_⟩ (show w.objects.length - (k + 1) < w.objects.length - k by omega) (by (refine q1l ?_ ?_ <;> repeat' (first | exact q0v | exact q0y | refine q0p (by (try simp only [go_sem, *]); try rfl) (by simp only [go_sem, *]) ?_ | refine q0z (by (try simp only [go_sem, *]); try rfl) (by omega) (by simp only [go_sem, *]) ?_ | refine q0x (by (try simp only [go_sem, *]); try rfl) (by omega) (by simp only [go_sem, *]) ?_))); rw [e]; simp [bne, *]; done)
      · have k0 := q1q hkg
        have et2 : q8l w n = true := by rw [et]; exact q2m fun j hj => hq j (by omega)
        have hs' := q5d hs et2
        clear hs et hq
        repeat' (first | (show q0i ..; first | refine q0c ?_ | refine q0e rfl ?_ | refine q1a rfl rfl ?_) | (show q0k ..; refine q0f rfl rfl ?_) | (show goOn ..; refine q0g ?_) | (show wGo ..; refine q3r ?_) | (show q0d ..; first | refine q0h ?_ | refine q0b ?_ | refine q1s ?_ | refine q0j ?_) | (show q0o ..; refine cd_f ?_) | refine q0a ?_ | refine q1r ?_ | refine q0q ?_ | refine q1t ?_)
        all_goals exact again (n + 1) ⟨hlt, hs'⟩ (show w.objects.length - (n + 1) < w.objects.length - n by omega) (by (refine q1l ?_ ?_ <;> repeat' (first | exact q0v | exact q0y | refine q0p (by (try simp only [go_sem, *]); try rfl) (by simp only [go_sem, *]) ?_ | refine q0z (by (try simp only [go_sem, *]); try rfl) (by omega) (by simp only [go_sem, *]) ?_ | refine q0x (by (try simp only [go_sem, *]); try rfl) (by omega) (by simp only [go_sem, *]) ?_)))
  · have h0 := q1q hge
    have hall : allB w.objects.length (q8l w) = true := q2m fun j hj => hs j (by omega)
    repeat' (first | (show q0i ..; first | refine q0c ?_ | refine q0e rfl ?_) | (show q0k ..; refine q0f rfl rfl ?_) | (show goOn ..; refine q0g ?_) | (show q0d ..; first | refine q0h ?_ | refine q0b ?_ | refine q0t ?_ | refine q1s ?_ | refine q0j ?_) | (show q0o ..; refine cd_f ?_) | refine q0a ?_ | refine q1r ?_ | refine q1t ?_ | (show retQ ..; refine q0u ?_) | refine q0n ?_)
    all_goals (refine q1u ?_; unfold q7f; rw [hall])
noncomputable def q8j (w : Wd) (k : Nat) : Bool := match w.objects[k]? with
  | some x => q9x w x && q8n w x
  | none => true
noncomputable def fitW (w : Wd) : Bool := (q6q w && (q2i w w.root).2) && (allB w.objects.length (q8j w) && q7f w)
theorem r14_fit (w : Wd) (hw : w.L) (hf : FewW w) : Pure Tryz.prog 17 [.agg (Wd.enc w)] (.bool (fitW w)) := by
  have hn20 := hf.n
  have f1 := q6u w w.root (by omega)
  have f2 := r13_fit w hw
  have f3 := r14_spans w hf
  cases h1 : q6q w with
  | false =>
    rw [h1] at f2
    refine q2p (by kernel_rfl) (by simp only [go_sem, *]) (by simp only [go_sem, *]) Tryz.func17 Tryz.results17 rfl (by simp [Tryz.ntmps17]) (by kernel_rfl) ?_
    repeat' (first | (show q0i ..; first | refine q0c ?_ | refine q0e rfl ?_ | refine q1a rfl rfl ?_) | (show q0k ..; first | refine q0f rfl rfl ?_ | refine q0l rfl ?_) | (show goOn ..; first | refine q0g ?_ | refine q1d ?_ | refine q1x ?_) | (show q2w ..; refine q1h ?_) | (show q1k ..; (refine q0r (r := ?_) ?_ ?_; rotate_left 1; (focus first | exact f1 | exact f2))) | (show wGo ..; refine q4y ?_) | (show q0d ..; first | refine q0h ?_ | refine q0b ?_ | refine q0t ?_ | refine q0j ?_) | (show q0o ..; refine cd_t ?_) | refine q0a ?_ | refine q2j ?_ | (show retQ ..; refine q0u ?_) | refine q0n ?_)
    all_goals (refine q1u ?_; unfold fitW; rw [h1]; rfl)
  | true =>
  cases h2 : (q2i w w.root).2 with
  | false =>
    rw [h1] at f2
    rw [h2] at f1
    refine q2p (by kernel_rfl) (by simp only [go_sem, *]) (by simp only [go_sem, *]) Tryz.func17 Tryz.results17 rfl (by simp [Tryz.ntmps17]) (by kernel_rfl) ?_
    repeat' (first | (show q0i ..; first | refine q0c ?_ | refine q0e rfl ?_ | refine q1a rfl rfl ?_) | (show q0k ..; first | refine q0f rfl rfl ?_ | refine q0l rfl ?_) | (show goOn ..; first | refine q0g ?_ | refine q1d ?_ | refine q1x ?_) | (show q2w ..; refine q1h ?_) | (show q1k ..; (refine q0r (r := ?_) ?_ ?_; rotate_left 1; (focus first | exact f1 | exact f2))) | (show wGo ..; refine q4b ?_) | (show q0d ..; first | refine q0h ?_ | refine q0b ?_ | refine q0t ?_ | refine q0j ?_) | (show q0o ..; refine cd_t ?_) | refine q0a ?_ | refine q2j ?_ | (show retQ ..; refine q0u ?_) | refine q0n ?_)
    all_goals (refine q1u ?_; unfold fitW; rw [h1, h2]; rfl)
  | true =>
  rw [h1] at f2
  rw [h2] at f1
  have fin : ∀ b, (allB w.objects.length (q8j w) && q7f w) = b → b = fitW w := fun b hb => by unfold fitW; rw [h1, h2, hb]; rfl
  refine q2p (by kernel_rfl) (by simp only [go_sem, *]) (by simp only [go_sem, *]) Tryz.func17 Tryz.results17 rfl (by simp [Tryz.ntmps17]) (by kernel_rfl) ?_
  repeat' (first | (show q0i ..; first | refine q0c ?_ | refine q0e rfl ?_ | refine q1a rfl rfl ?_) | (show q0k ..; first | refine q0f rfl rfl ?_ | refine q0l rfl ?_) | (show goOn ..; first | refine q0g ?_ | refine q1d ?_ | refine q1x ?_) | (show q2w ..; refine q1h ?_) | (show q1k ..; (refine q0r (r := ?_) ?_ ?_; rotate_left 1; (focus first | exact f1 | exact f2))) | (show wGo ..; refine q4b ?_) | (show q0d ..; first | refine q0h ?_ | refine q0b ?_ | refine q0s ?_ | refine q0m ?_ | refine q0j ?_) | (show q0o ..; refine cd_f ?_) | refine q0a ?_)
  refine q2l (S := Nat) (fun n => w.objects.length - n) (fun n => n ≤ w.objects.length ∧ ∀ j, j < n → q8j w j = true) (fun n => [(1, .ptr 0 0), (5, .int .i64 n)]) (fun _ => [(0, .box (Wd.enc w))]) (fun _ => 1) 0 ⟨Nat.zero_le _, fun j hj => absurd hj (Nat.not_lt_zero j)⟩ (by (refine q1l ?_ ?_ <;> repeat' (first | exact q0v | exact q0y | refine q0p (by (try simp only [go_sem, *]); try rfl) (by simp only [go_sem, *]) ?_ | refine q0z (by (try simp only [go_sem, *]); try rfl) (by omega) (by simp only [go_sem, *]) ?_ | refine q0x (by (try simp only [go_sem, *]); try rfl) (by omega) (by simp only [go_sem, *]) ?_))) ?_
  rintro n ⟨hn, hs⟩
  rcases Nat.lt_or_ge n w.objects.length with hlt | hge
  · obtain ⟨x, hx⟩ := q2b hlt
    have h0 := q2h hlt
    have h4 := q2a n (by omega)
    have hxf := hf.ob x (sidx hx)
    have g1 := r14_links w x hf hxf.1 (by omega)
    have g2 := r14_placed w x hw hf
    have e : q8j w n = (q9x w x && q8n w x) := by unfold q8j; rw [hx]
    generalize q9x w x = b1 at g1 e
    generalize q8n w x = b2 at g2 e
    repeat' (first | (show q0i ..; first | refine q0c ?_ | refine q0e rfl ?_) | (show q0k ..; refine q0f rfl rfl ?_) | (show goOn ..; refine q0g ?_) | (show wGo ..; first | refine q4b ?_ | refine q4y ?_ | refine q9s (fun _ => ?_) (fun _ => ?_)) | (show dr ..; first | refine q1y ?_ | refine dr_n rfl ?_ | refine q5j rfl rfl ?_) | (show drGo ..; first | refine q2t rfl ?_ | refine q2k rfl ?_) | (show drOn ..; refine q1z ?_) | (show q2e ..; (refine q1f (r := ?_) ?_ ?_; rotate_left 1; (focus first | exact g1 | exact g2))) | (refine And.intro (by kernel_rfl : q1n _ = true) ?_) | (show q0d ..; first | refine q0h ?_ | refine q0b ?_ | refine q1o (by kernel_rfl) ?_ | refine q0t ?_ | refine q0s ?_ | refine q0m ?_ | refine q0j ?_) | (show q0o ..; first | refine cd_t ?_ | refine cd_n (fun _ => ?_) (fun _ => ?_)) | refine q0a ?_ | refine q2j ?_ | refine q0q ?_ | refine q3k ?_ | (show retQ ..; refine q0u ?_) | refine q0n ?_)
    all_goals first
      | (refine q1u (fin _ ?_); rw [q2o hlt (by rw [e]; simp [*])]; rfl)
      | (refine again (n + 1) ⟨hlt, q5d hs ?_⟩ (show w.objects.length - (n + 1) < w.objects.length - n by omega) (by (refine q1l ?_ ?_ <;> repeat' (first | exact q0v | exact q0y | refine q0p (by (try simp only [go_sem, *]); try rfl) (by simp only [go_sem, *]) ?_ | refine q0z (by (try simp only [go_sem, *]); try rfl) (by omega) (by simp only [go_sem, *]) ?_ | refine q0x (by (try simp only [go_sem, *]); try rfl) (by omega) (by simp only [go_sem, *]) ?_))); rw [e]; simp [*]; done)
  · have h0 := q1q hge
    have hall : allB w.objects.length (q8j w) = true := q2m fun j hj => hs j (by omega)
    have hfin := fin (q7f w) (by rw [hall]; rfl)
    clear fin
    repeat' (first | (show q0i ..; first | refine q0c ?_ | refine q0e rfl ?_) | (show q0k ..; first | refine q0f rfl rfl ?_ | refine q0l rfl ?_) | (show goOn ..; refine q0g ?_) | (show q1k ..; (refine q0r (r := ?_) ?_ ?_; rotate_left 1; (focus exact f3))) | (show q0d ..; first | refine q0h ?_ | refine q0b ?_ | refine q0t ?_ | refine q1s ?_ | refine q0j ?_) | (show q0o ..; refine cd_f ?_) | refine q0a ?_ | refine q1r ?_ | refine q1t ?_ | (show retQ ..; refine q0u ?_) | refine q0n ?_)
    all_goals first | rfl | (refine q1u ?_; first | exact hfin | exact hfin.symm) | (rw [hfin]) | (rw [← hfin])
end Go.Proofs.YtoibbedpaaeclaaGreat
end

section
namespace Go.Proofs.YtoibbedpaaeclaaGreat
open Go Go.RowKit Go.Shelf Go.Proofs.YtoibbedpaaeclaaGreatW.PrintWords Go.Proofs.YtoibbedpaaeclaaGreatW.PrintLast Go.Proofs.YtoibbedpaaeclaaGreatW.PrintMore
set_option linter.unusedVariables false
set_option linter.unusedSimpArgs false
/-- Which of two is the lesser. -/
def cmpI (x y : Int) : Int := if x < y then -1 else if y < x then 1 else 0
theorem cmp_calls (x y : Int) (w : World) : Calls Tryz.prog 171 #[.int .u64 x, .int .u64 y] w fun e w' => e = .returned (.int .i64 (cmpI x y)) ∧ Below w.heap.size w w' := by
  by_cases h1 : x < y
  · have d1 : decide (x < y) = true := decide_eq_true h1
    have d2 : decide (y < x) = false := decide_eq_false (by omega)
    have HR : Hid (cmpI x y = -1) := Lib.hid (if_pos h1)
    go_enter Tryz.func171, Tryz.ntmps171
    go_wp2
    go_ret
    exact ⟨by rw [HR.out]; rfl, (by repeat (first | with_reducible (exact Below.refl _ _) | with_reducible (apply below_alloc) | with_reducible (apply below_drew1) | with_reducible (apply pw_below_drewN) | (with_reducible (refine q2z ?_ ?_ _ _); rotate_left; omega)))⟩
  · have d1 : decide (x < y) = false := decide_eq_false h1
    by_cases h2 : y < x
    · have d2 : decide (y < x) = true := decide_eq_true h2
      have HR : Hid (cmpI x y = 1) := Lib.hid (by unfold cmpI; rw [if_neg h1, if_pos h2])
      go_enter Tryz.func171, Tryz.ntmps171
      go_wp2
      go_ret
      exact ⟨by rw [HR.out]; rfl, (by repeat (first | with_reducible (exact Below.refl _ _) | with_reducible (apply below_alloc) | with_reducible (apply below_drew1) | with_reducible (apply pw_below_drewN) | (with_reducible (refine q2z ?_ ?_ _ _); rotate_left; omega)))⟩
    · have d2 : decide (y < x) = false := decide_eq_false h2
      have HR : Hid (cmpI x y = 0) := Lib.hid (by unfold cmpI; rw [if_neg h1, if_neg h2])
      go_enter Tryz.func171, Tryz.ntmps171
      go_wp2
      go_ret
      exact ⟨by rw [HR.out]; rfl, (by repeat (first | with_reducible (exact Below.refl _ _) | with_reducible (apply below_alloc) | with_reducible (apply below_drew1) | with_reducible (apply pw_below_drewN) | (with_reducible (refine q2z ?_ ?_ _ _); rotate_left; omega)))⟩
theorem x1d (p q c : Int) (w : World) : Calls Tryz.prog 282 #[.agg #[.int .u64 p, .int .i64 q], .int .u64 c] w fun e w' => e = .returned (.int .i64 (cmpI p c)) ∧ Below w.heap.size w w' := by
  go_enter Tryz.func282, Tryz.ntmps282
  go_wp2_with (go_at_call 171; refine (cmp_calls _ _ _).mono ?_; rintro e w1 ⟨rfl, hb⟩)
  go_ret
  exact ⟨rfl, ((Below.refl _ _).alloc (Nat.le_refl _) _).trans (hb.mono (by simp))⟩
/-- Where a category is found, or belongs. -/
structure Spot (l : Lab) (c : Int) (k : Nat) : Prop where
  le : k ≤ l.length
  lo : ∀ i (h : i < l.length), i < k → l[i].1 < c
  hi : ∀ i (h : i < l.length), k ≤ i → c ≤ l[i].1
def Sorted (l : Lab) : Prop := ∀ i j (hi : i < l.length) (hj : j < l.length), i < j → l[i].1 < l[j].1
/-- Whether it is there. -/
def hitB (l : Lab) (c : Int) (k : Nat) : Bool := decide (∃ h : k < l.length, l[k].1 = c)
set_option maxRecDepth 100000 in
set_option maxHeartbeats 1000000 in
theorem search_calls (l : Lab) (A : Option Addr) (cap : Nat) (c : Int) (w : World) (hC : kPr.C w A l.length l) (hcap : l.length ≤ cap) (hs : Sorted l) (hlen : l.length ≤ 1000000) :
    Calls Tryz.prog 281 #[.slice A l.length cap, .int .u64 c, .func (.func 282) #[] #[]] w fun e w' => ∃ k, Spot l c k ∧ e = .returned (.tuple #[.int .i64 k, .bool (hitB l c k)]) ∧ Below w.heap.size w w' := by
  obtain ⟨n, hn⟩ : ∃ n, n = l.length := ⟨_, rfl⟩
  have HC := Lib.hid hC
  have HS := Lib.hid hs
  have HN := Lib.hid hn
  rw [← hn] at hcap hlen ⊢
  clear hC hs hn
  go_enter Tryz.func281, Tryz.ntmps281
  go_wp2
  go_loopg [9, 10] n (fun g u v W => ∃ i j : Nat, u = .int .i64 i ∧ v = .int .i64 j ∧ i ≤ j ∧ j ≤ n ∧ g = j - i ∧ Hid (∀ x (h : x < l.length), x < i → l[x].1 < c) ∧ Hid (∀ x (h : x < l.length), j ≤ x → c ≤ l[x].1) ∧ Below w.heap.size w W)
  case atStart => exact ⟨0, n, rfl, rfl, by omega, by omega, by omega, Lib.hid (fun _ _ h => absurd h (by omega)), Lib.hid (fun x h h' => absurd h (by have := HN.out; omega)), (by repeat (first | with_reducible (exact Below.refl _ _) | with_reducible (apply below_alloc) | with_reducible (apply below_drew1) | with_reducible (apply pw_below_drewN) | (with_reducible (refine q2z ?_ ?_ _ _); rotate_left; omega)))⟩
  case round =>
    obtain ⟨i, j, rfl, rfl, hij, hj, rfl, HL, HH, hB⟩ := hrel
    by_cases hlt : i < j
    · have hmi : i ≤ (i + j) / 2 := by omega
      have hmj : (i + j) / 2 < j := by omega
      have hml : (i + j) / 2 < l.length := by have := HN.out; omega
      obtain ⟨ad, rfl, a0, a1⟩ := lab_at HC.out ((i + j) / 2) hml
      have b0 := pw_cell_below hB a0
      have b1 := pw_cell_below hB a1
      have d1 : decide ((i : Int) < j) = true := decide_eq_true (by omega)
      obtain ⟨p, hp⟩ : ∃ p, p = l[(i + j) / 2] := ⟨_, rfl⟩
      rw [← hp] at b0 b1
      have HP := Lib.hid hp
      clear hp a0 a1
      by_cases hlt2 : p.1 < c
      · have e1 : Hid (cmpI p.1 c = -1) := Lib.hid (if_pos hlt2)
        go_wp2_with (go_at_call 282; refine (x1d _ _ _ _).mono ?_; rw [e1.out]; rintro e w1 ⟨rfl, hb⟩)
        go_roundg (j - ((i + j) / 2 + 1))
        case rel =>
          refine ⟨(i + j) / 2 + 1, j, ?_, rfl, by omega, hj, rfl, Lib.hid ?_, HH, hB.trans (hb.mono hB.size)⟩
          · simp; done
          · intro x hx hxi
            by_cases hxe : x = (i + j) / 2
            · subst hxe; rw [← HP.out]; exact hlt2
            · exact Int.lt_of_lt_of_le (HS.out x ((i + j) / 2) hx hml (by omega)) (by rw [← HP.out]; omega)
        case measure => omega
      · have e1 : Hid (cmpI p.1 c = 0 ∨ cmpI p.1 c = 1) := Lib.hid (by unfold cmpI; rw [if_neg hlt2]; split <;> simp)
        have hge : Hid (∀ (x : Nat) (h : x < l.length), (i + j) / 2 ≤ x → c ≤ l[x].1) := Lib.hid (by
          intro x hx hxi
          by_cases hxe : x = (i + j) / 2
          · subst hxe; rw [← HP.out]; omega
          · have := HS.out ((i + j) / 2) x hml hx (by omega)
            rw [← HP.out] at this; omega)
        rcases e1.out with e2 | e2
        all_goals
          have e3 := Lib.hid e2
          clear e2
          go_wp2_with (go_at_call 282; refine (x1d _ _ _ _).mono ?_; rw [e3.out]; rintro e w1 ⟨rfl, hb⟩)
          go_roundg ((i + j) / 2 - i)
          case rel => exact ⟨i, (i + j) / 2, rfl, by simp, by omega, by omega, rfl, HL, hge, hB.trans (hb.mono hB.size)⟩
          case measure => omega
    · obtain rfl : i = j := by omega
      have d1 : decide ((i : Int) < i) = false := decide_eq_false (by omega)
      have hsp : Spot l c i := ⟨by have := HN.out; omega, HL.out, HH.out⟩
      by_cases hin : i < n
      · have d2 : decide ((i : Int) < n) = true := decide_eq_true (by omega)
        have hil : i < l.length := by have := HN.out; omega
        obtain ⟨ad, rfl, a0, a1⟩ := lab_at HC.out i hil
        have b0 := pw_cell_below hB a0
        have b1 := pw_cell_below hB a1
        obtain ⟨p, hp⟩ : ∃ p, p = l[i] := ⟨_, rfl⟩
        rw [← hp] at b0 b1
        have HP := Lib.hid hp
        clear hp a0 a1
        by_cases he : p.1 = c
        · have e1 : Hid (cmpI p.1 c = 0) := Lib.hid (by unfold cmpI; rw [if_neg (by omega), if_neg (by omega)])
          have hh : Hid (hitB l c i = true) := Lib.hid (decide_eq_true ⟨hil, by rw [← HP.out]; exact he⟩)
          clear he
          go_wp2_with (go_at_call 282; refine (x1d _ _ _ _).mono ?_; rw [e1.out]; rintro e w1 ⟨rfl, hb⟩)
          refine bodyPost_ret (results_tmp2 rfl _ _ _) rfl ?_
          exact ⟨i, hsp, by rw [hh.out]; rfl, hB.trans (hb.mono hB.size)⟩
        · have e1 : Hid (cmpI p.1 c = 1) := Lib.hid (by
            have := hsp.hi i hil (Nat.le_refl _)
            rw [← HP.out] at this
            unfold cmpI; rw [if_neg (by omega), if_pos (by omega)])
          have hh : Hid (hitB l c i = false) := Lib.hid (decide_eq_false (by rintro ⟨_, h⟩; rw [← HP.out] at h; exact he h))
          clear he
          go_wp2_with (go_at_call 282; refine (x1d _ _ _ _).mono ?_; rw [e1.out]; rintro e w1 ⟨rfl, hb⟩)
          refine bodyPost_ret (results_tmp2 rfl _ _ _) rfl ?_
          exact ⟨i, hsp, by rw [hh.out]; rfl, hB.trans (hb.mono hB.size)⟩
      · have d2 : decide ((i : Int) < n) = false := decide_eq_false (by omega)
        have hh : Hid (hitB l c i = false) := Lib.hid (decide_eq_false (by rintro ⟨h, _⟩; have := HN.out; omega))
        go_wp2
        refine bodyPost_ret (results_tmp2 rfl _ _ _) rfl ?_
        exact ⟨i, hsp, by rw [hh.out]; rfl, (by repeat (first | with_reducible (exact hB) | with_reducible (apply below_alloc) | with_reducible (apply below_drew1) | with_reducible (apply pw_below_drewN) | (with_reducible (refine q2z ?_ ?_ _ _); rotate_left; omega)))⟩
theorem label_at_calls (l : Lab) (A : Option Addr) (cap : Nat) (c : Int) (w : World) (hC : kPr.C w A l.length l) (hcap : l.length ≤ cap) (hs : Sorted l) (hlen : l.length ≤ 1000000) :
    Calls Tryz.prog 243 #[.slice A l.length cap, .int .u64 c] w fun e w' => ∃ k, Spot l c k ∧ e = .returned (.tuple #[.int .i64 k, .bool (hitB l c k)]) ∧ Below w.heap.size w w' := by
  go_enter Tryz.func243, Tryz.ntmps243
  go_wp2_with (go_at_call 281; refine (search_calls l A cap c _ hC hcap hs hlen).mono ?_; rintro e w1 ⟨k, hsp, rfl, hb⟩)
  refine bodyPost_ret (results_tmp2 rfl _ _ _) rfl ?_
  exact ⟨k, hsp, rfl, hb⟩
/-- A category's level. -/
def getL (l : Lab) (c : Int) : Int := match l.find? (fun p => p.1 == c) with
  | some p => p.2
  | none => 2
theorem Sorted.uniq {l : Lab} (h : Sorted l) {i j : Nat} (hi : i < l.length) (hj : j < l.length) (he : l[i].1 = l[j].1) : i = j := by
  rcases Nat.lt_trichotomy i j with hlt | rfl | hlt
  · have := h i j hi hj hlt; omega
  · rfl
  · have := h j i hj hi hlt; omega
theorem getL_at {l : Lab} (h : Sorted l) {i : Nat} (hi : i < l.length) : getL l l[i].1 = l[i].2 := by
  unfold getL
  cases hf : l.find? (fun p => p.1 == l[i].1) with
  | none => rw [List.find?_eq_none] at hf; exact absurd (by simp) (hf l[i] (List.getElem_mem _))
  | some p =>
    have h1 := List.find?_some hf
    obtain ⟨j, hj, rfl⟩ := List.getElem_of_mem (List.mem_of_find?_eq_some hf)
    have : j = i := h.uniq hj hi (by simpa using h1)
    subst this; rfl
theorem getL_none {l : Lab} {c : Int} (h : ∀ i (hi : i < l.length), l[i].1 ≠ c) : getL l c = 2 := by
  unfold getL
  have : l.find? (fun p => p.1 == c) = none := by
    rw [List.find?_eq_none]
    intro p hp
    obtain ⟨j, hj, rfl⟩ := List.getElem_of_mem hp
    simpa using h j hj
  rw [this]
theorem get_hit {l : Lab} {c : Int} {k : Nat} (hs : Sorted l) (hh : hitB l c k = true) : ∃ h : k < l.length, l[k].1 = c ∧ getL l c = l[k].2 := by
  obtain ⟨h, he⟩ := of_decide_eq_true hh
  exact ⟨h, he, by rw [← he]; exact getL_at hs h⟩
theorem get_miss {l : Lab} {c : Int} {k : Nat} (hs : Sorted l) (hp : Spot l c k) (hh : hitB l c k = false) : getL l c = 2 := by
  refine getL_none fun i hi he => ?_
  have hn := of_decide_eq_false hh
  by_cases h1 : i < k
  · have := hp.lo i hi h1; omega
  · by_cases h2 : i = k
    · subst h2; exact hn ⟨hi, he⟩
    · have h3 := hp.hi k (by omega) (Nat.le_refl _)
      have h4 := hs k i (by omega) hi (by omega)
      omega
theorem label_at2 (l : Lab) (A : Option Addr) (cap : Nat) (c : Int) (w : World) (hC : kPr.C w A l.length l) (hcap : l.length ≤ cap) (hs : Sorted l) (hlen : l.length ≤ 1000000) :
    Calls Tryz.prog 243 #[.slice A l.length cap, .int .u64 c] w fun e w' => (∃ (k : Nat) (ad : Addr), A = some ad ∧ ((k : Int) < (l.length : Int)) ∧ w'.cell? ⟨(ad.add (k * 2)).block, (ad.add (k * 2)).off + 1, none⟩ = some (.int .i64 (getL l c)) ∧ e = .returned (.tuple #[.int .i64 k, .bool true]) ∧ Below w.heap.size w w') ∨
      (∃ k : Nat, Hid (getL l c = 2) ∧ e = .returned (.tuple #[.int .i64 k, .bool false]) ∧ Below w.heap.size w w') := by
  refine (label_at_calls l A cap c w hC hcap hs hlen).mono ?_
  rintro e w1 ⟨k, hsp, rfl, hb⟩
  cases hh : hitB l c k with
  | true =>
    obtain ⟨hk, he, hg⟩ := get_hit hs hh
    obtain ⟨ad, rfl, a0, a1⟩ := lab_at hC k hk
    exact .inl ⟨k, ad, rfl, by omega, by rw [hg]; exact pw_cell_below hb a1, rfl, hb⟩
  | false => exact .inr ⟨k, Lib.hid (get_miss hs hsp hh), rfl, hb⟩
theorem get_calls (l : Lab) (A : Option Addr) (cap : Nat) (c : Int) (w : World) (hC : kPr.C w A l.length l) (hcap : l.length ≤ cap) (hs : Sorted l) (hlen : l.length ≤ 1000000) :
    Calls Tryz.prog 201 #[.slice A l.length cap, .int .u64 c] w fun e w' => e = .returned (.int .i64 (getL l c)) ∧ Below w.heap.size w w' := by
  have HC := Lib.hid hC
  have HS := Lib.hid hs
  have HL := Lib.hid hlen
  have HP := Lib.hid hcap
  obtain ⟨n, hn⟩ : ∃ n, n = l.length := ⟨_, rfl⟩
  have HN := Lib.hid hn
  rw [← hn]
  clear hC hs hlen hcap hn
  go_enter Tryz.func201, Tryz.ntmps201
  go_wp2_with (go_at_call 243; rw [HN.out]; refine (label_at2 l A cap c _ HC.out HP.out HS.out HL.out).mono ?_; rintro e w1 (⟨k, ad, rfl, hk, hc, rfl, hb⟩ | ⟨k, hg, rfl, hb⟩))
  · go_ret
    exact ⟨rfl, hb⟩
  · go_ret
    exact ⟨by rw [hg.out]; rfl, hb⟩
end Go.Proofs.YtoibbedpaaeclaaGreat
end
