import Derived.Test.YtoibbedpaaeclaaGreatRz6
section
namespace Go.Proofs.YtoibbedpaaeclaaGreat
open Go Go.RowKit
set_option linter.unusedVariables false
set_option linter.unusedSimpArgs false
set_option maxHeartbeats 16000000
set_option maxRecDepth 100000
attribute [local irreducible] q0i dr q0d Ex.then Ex.inBlock retQ q1l q2j q2g Pure CSat evOp q1i rdOf upd hset strip sp0 cut envL q1g q3q Keep BdL evBs q2s q3c
def briefAt (l : List Ob) (k : Nat) : Bool := match l[k]? with
  | some x => briefOb x
  | none => true
def eqAt (l k : List Ob) (j : Nat) : Bool := match l[j]? with
  | some x => match k[j]? with
    | some y => q8j x y
    | none => true
  | none => true
def eqObs (l k : List Ob) : Bool := decide (l.length = k.length) && allB l.length (eqAt l k)
def sameWd (a b : Wd) : Bool := a.time == b.time && (a.key == b.key && (a.root == b.root && eqObs a.objects b.objects))
theorem r13_sameW (a b : Wd) (ha : a.L) : Pure Tryz.prog 28 [.agg (Wd.enc a), .agg (Wd.enc b)] (.bool (sameWd a b)) := by
  refine q2d (by kernel_rfl) (by simp only [go_sem, *]) (by simp only [go_sem, *]) Tryz.func28 Tryz.results28 rfl (by simp [Tryz.ntmps28]) (by kernel_rfl) ?_
  obtain ⟨hl, ho⟩ := ha
  by_cases hlen : a.objects.length = b.objects.length
  · have hd : decide (a.objects.length = b.objects.length) = true := decide_eq_true hlen
    have hlen' : ((a.objects.length : Int) == (b.objects.length : Int)) = true := by simp; omega
    repeat' (first | (show q0i ..; first | refine q0c ?_ | refine q0e rfl ?_ | refine q1b rfl rfl ?_) | (show q0k ..; refine q0f rfl rfl ?_) | (show goOn ..; first | refine q0g ?_ | refine q1d ?_) | (show wGo ..; first | refine q4e ?_ | refine q5b ?_ | refine q9i (fun _ => ?_) (fun _ => ?_)) | (show q0d ..; first | refine q0h ?_ | refine q0b ?_ | refine q0r ?_ | refine q0q ?_ | refine q0n ?_ | refine q0j ?_) | (show q0o ..; first | refine cd_t ?_ | refine cd_f ?_) | refine q0a ?_ | refine q1v ?_ | (show retQ ..; refine q0s ?_) | refine q0l ?_)
    all_goals first | (refine q1o ?_; unfold sameWd; simp only [*, Bool.not_true, Bool.not_false, Bool.and_true, Bool.true_and, Bool.and_false, Bool.false_and, Bool.or_true, Bool.true_or, Bool.or_false, Bool.false_or, Bool.and_self, Bool.or_self, decide_true, decide_false, Bool.not_not, if_true, if_false, Bool.false_eq_true, eq_self]; done) | skip
    rename_i t1 t2 t3
    refine q2q (S := Nat) (fun n => a.objects.length - n) (fun n => n ≤ a.objects.length ∧ ∀ j, j < n → eqAt a.objects b.objects j = true) (fun n => [(2, .ptr 0 0), (3, .ptr 1 0), (5, .int .i64 n)]) (fun _ => [(0, .box (Wd.enc a)), (1, .box (Wd.enc b))]) (fun _ => 2) 0 ⟨Nat.zero_le _, fun j hj => absurd hj (Nat.not_lt_zero j)⟩ (by (refine q1n ?_ ?_ <;> repeat' (first | exact q0v | exact q0y | refine q0p (by (try simp only [go_sem, *]); try rfl) (by simp only [go_sem, *]) ?_ | refine q0z (by (try simp only [go_sem, *]); try rfl) (by omega) (by simp only [go_sem, *]) ?_ | refine q0x (by (try simp only [go_sem, *]); try rfl) (by omega) (by simp only [go_sem, *]) ?_))) ?_
    rintro n ⟨hn, hs⟩
    have fin : ∀ c, allB a.objects.length (eqAt a.objects b.objects) = c → c = sameWd a b := fun c hb => by unfold sameWd eqObs; rw [hb, hd, t1, t2, t3]; rfl
    rcases Nat.lt_or_ge n a.objects.length with hlt | hge
    · obtain ⟨x, hx⟩ := q2f hlt
      obtain ⟨y, hy⟩ := q2f (hlen ▸ hlt : n < b.objects.length)
      have h0 := q2k hlt
      have hk0 := q2k (hlen ▸ hlt : n < b.objects.length)
      have h4 := q2e n (by omega)
      have hLx := (ho x (List.mem_of_getElem? hx)).1
      have e : eqAt a.objects b.objects n = q8j x y := by unfold eqAt; rw [hx]; simp only [hy]
      repeat' (first | (show q0i ..; first | refine q0c ?_ | refine q0e rfl ?_) | (show q0k ..; refine q0f rfl rfl ?_) | (show goOn ..; refine q0g ?_) | (show dr ..; first | refine q1y ?_ | refine dr_n rfl ?_) | (show drGo ..; first | refine q3b rfl ?_ | refine q2l rfl ?_) | (show drOn ..; refine q1z ?_) | (show q2h ..; (refine q1f (r := ?_) ?_ ?_; rotate_left 1; (focus exact r13_sameOne _ _ hLx))) | (refine And.intro (by kernel_rfl : q1l _ = true) ?_) | (show q0d ..; first | refine q0h ?_ | refine q0b ?_ | refine q1k (by kernel_rfl) ?_ | refine q0r ?_ | refine q0q ?_ | refine q0n ?_ | refine q0j ?_) | (show q0o ..; first | refine cd_t ?_ | refine cd_n (fun _ => ?_) (fun _ => ?_)) | refine q0a ?_ | refine q1v ?_ | refine q0t ?_ | refine q3m ?_ | (show retQ ..; refine q0s ?_) | refine q0l ?_)
      all_goals first
        | (refine q1o (fin _ (q2o hlt ?_)); simp only [*, Bool.not_true, Bool.not_false, Bool.and_true, Bool.true_and, Bool.and_false, Bool.false_and, Bool.or_true, Bool.true_or, Bool.or_false, Bool.false_or, Bool.and_self, Bool.or_self, decide_true, decide_false, Bool.not_not, if_true, if_false, Bool.false_eq_true, eq_self])
        | (refine again (n + 1) ⟨?_, q5d hs ?_⟩ ?_ (by (refine q1n ?_ ?_ <;> repeat' (first | exact q0v | exact q0y | refine q0p (by (try simp only [go_sem, *]); try rfl) (by simp only [go_sem, *]) ?_ | refine q0z (by (try simp only [go_sem, *]); try rfl) (by omega) (by simp only [go_sem, *]) ?_ | refine q0x (by (try simp only [go_sem, *]); try rfl) (by omega) (by simp only [go_sem, *]) ?_))); (focus omega); (focus simp only [*, Bool.not_true, Bool.not_false, Bool.and_true, Bool.true_and, Bool.and_false, Bool.false_and, Bool.or_true, Bool.true_or, Bool.or_false, Bool.false_or, Bool.and_self, Bool.or_self, decide_true, decide_false, Bool.not_not, if_true, if_false, Bool.false_eq_true, eq_self]); (focus omega))
    · have h0 := q1w hge
      have hk0 := q1w (by omega : b.objects.length ≤ n)
      repeat' (first | (show q0i ..; first | refine q0c ?_ | refine q0e rfl ?_) | (show q0k ..; refine q0f rfl rfl ?_) | (show goOn ..; refine q0g ?_) | (show q0d ..; first | refine q0h ?_ | refine q0b ?_ | refine q0r ?_ | refine q1q ?_ | refine q0j ?_) | (show q0o ..; refine cd_f ?_) | refine q0a ?_ | refine q1p ?_ | refine q1r ?_ | (show retQ ..; refine q0s ?_) | refine q0l ?_)
      exact q1o (fin _ (q2m fun j hj => hs j (by omega)))
  · have hlen' : ((a.objects.length : Int) == (b.objects.length : Int)) = false := by simp; omega
    have hd : decide (a.objects.length = b.objects.length) = false := decide_eq_false hlen
    repeat' (first | (show q0i ..; first | refine q0c ?_ | refine q0e rfl ?_ | refine q1b rfl rfl ?_) | (show q0k ..; refine q0f rfl rfl ?_) | (show goOn ..; first | refine q0g ?_ | refine q1d ?_) | (show wGo ..; first | refine q4e ?_ | refine q5b ?_ | refine q9i (fun _ => ?_) (fun _ => ?_)) | (show q0d ..; first | refine q0h ?_ | refine q0b ?_ | refine q0r ?_ | refine q0j ?_) | (show q0o ..; refine cd_t ?_) | refine q0a ?_ | refine q1v ?_ | (show retQ ..; refine q0s ?_) | refine q0l ?_)
    all_goals (refine q1o ?_; unfold sameWd eqObs; rw [hd]; simp only [*, Bool.not_true, Bool.not_false, Bool.and_true, Bool.true_and, Bool.and_false, Bool.false_and, Bool.or_true, Bool.true_or, Bool.or_false, Bool.false_or, Bool.and_self, Bool.or_self, decide_true, decide_false, Bool.not_not, if_true, if_false, Bool.false_eq_true, eq_self])
def pagesR (o : Ob) : Int := IntKind.i64.wrap (1 + IntKind.i64.wrap ((IntKind.i64.wrap (IntKind.i64.wrap ((o.data.length : Int) + 16) - 1)).tdiv 16))
theorem r13_pages (o : Ob) : Pure Tryz.prog 164 [.agg (Ob.enc o)] (.int .i64 (pagesR o)) := by
  refine q2d (by kernel_rfl) (by simp only [go_sem, *]) (by simp only [go_sem, *]) Tryz.func164 Tryz.results164 rfl (by simp [Tryz.ntmps164]) (by kernel_rfl) ?_
  repeat' (first | (show q0i ..; first | refine q0c ?_ | refine q0e rfl ?_) | (show q0k ..; refine q0f rfl rfl ?_) | (show goOn ..; first | refine q0g ?_ | refine q1d ?_) | (show q0d ..; first | refine q0h ?_ | refine q0b ?_ | refine q0r ?_) | refine q0a ?_ | (show retQ ..; refine q0s ?_) | refine q0l ?_)
  all_goals rfl
def levUp (n : Int) : Int := if (q6t n == 0) = true then 5 else q6t n
theorem r01_raise (n : Int) : Pure Tryz.prog 93 [.int .i64 n] (.int .i64 (levUp n)) := by
  refine q2d (by kernel_rfl) (by simp only [go_sem, *]) (by simp only [go_sem, *]) Tryz.func93 Tryz.results93 rfl (by simp [Tryz.ntmps93]) (by kernel_rfl) ?_
  repeat' (first | (show q0i ..; first | refine q0c ?_ | refine q0e rfl ?_) | (show q0k ..; first | refine q0f rfl rfl ?_ | refine q0m rfl ?_) | (show goOn ..; refine q0g ?_) | (show q1j ..; (refine q0u (r := ?_) ?_ ?_; rotate_left 1; (focus exact r01_of _))) | (show q0d ..; first | refine q0h ?_ | refine q0b ?_ | refine q0r ?_ | refine q0q ?_ | refine q0j ?_) | (show q0o ..; refine cd_b (fun _ => ?_) (fun _ => ?_)) | refine q0a ?_ | refine q1v ?_ | (show retQ ..; refine q0s ?_) | refine q0l ?_)
  all_goals (unfold levUp; simp only [*, if_true, if_false, Bool.false_eq_true]; try rfl)
def upPr (p : Pr) : Pr := ⟨p.cat, levUp p.lev⟩
theorem x0m (l : List Pr) (hl : l.length ≤ 900000) : Pure Tryz.prog 44 [.sl (l.map Pr.enc)] (.sl ((l.map upPr).map Pr.enc)) := by
  refine q2d (by kernel_rfl) (by simp only [go_sem, *]) (by simp only [go_sem, *]) Tryz.func44 Tryz.results44 rfl (by simp [Tryz.ntmps44]) (by kernel_rfl) ?_
  repeat' (first | (show q0i ..; first | refine q0c ?_ | refine q0e rfl ?_) | (show q0k ..; refine q0f rfl rfl ?_) | (show goOn ..; refine q0g ?_) | (show q0d ..; first | refine q0h ?_ | refine q0b ?_ | refine q0n ?_) | refine q0a ?_)
  refine q2q (S := Nat × List Pr × Nat) (fun s => l.length - s.1) (fun s => s.1 ≤ l.length ∧ (l.take s.1).map upPr = s.2.1) (fun s => [(0, .sl (l.map Pr.enc)), (3, accV s.2.2 s.2.1), (4, .int .i64 s.1)]) (fun s => accG s.2.2 76 2 Pr.enc s.2.1) (fun s => accM 0 s.2.2 s.2.1) (0, [], 0) ⟨Nat.zero_le _, rfl⟩ (by simp only [q2a, q2c, q2b]; (refine q1n ?_ ?_ <;> repeat' (first | exact q0v | exact q0y | refine q0p (by (try simp only [go_sem, *]); try rfl) (by simp only [go_sem, *]) ?_ | refine q0z (by (try simp only [go_sem, *]); try rfl) (by omega) (by simp only [go_sem, *]) ?_ | refine q0x (by (try simp only [go_sem, *]); try rfl) (by omega) (by simp only [go_sem, *]) ?_))) ?_
  rintro ⟨n, acc, id⟩ ⟨hn, hs⟩
  simp only at hn hs
  have ha : acc.length < 1000000 := by rw [← hs]; simp only [List.length_map, List.length_take]; omega
  have hb1 := q6p ha
  have hb2 := q8a (b := 16) ha (by decide)
  rcases Nat.lt_or_ge n l.length with hlt | hge
  · obtain ⟨x, hx⟩ := q2f hlt
    have h0 := q2k hlt
    have h4 := q2e n (by omega)
    have hy : (l.take (n + 1)).map upPr = (l.take n).map upPr ++ [upPr x] := by rw [q3u hx, List.map_append]; rfl
    rcases q4a acc with hnil | hne
    · subst hnil
      simp only [q2a, q2c, q2b]
      repeat' (first | (show q0i ..; first | refine q0c ?_ | refine q0e rfl ?_) | (show q0k ..; refine q0f rfl rfl ?_) | (show goOn ..; refine q0g ?_) | (show dr ..; first | refine q1y ?_ | refine dr_n rfl ?_) | (show drGo ..; first | refine q3b rfl ?_ | refine q2l rfl ?_) | (show drOn ..; first | refine q1z ?_ | refine dn_born ?_) | (show q2h ..; (refine q1f (r := ?_) ?_ ?_; rotate_left 1; (focus exact r01_raise _))) | (refine And.intro (by kernel_rfl : q1l _ = true) ?_) | (show q0d ..; first | refine q0h ?_ | refine q0b ?_ | refine q1k (by kernel_rfl) ?_ | refine q0q ?_ | refine q0n ?_ | refine q0j ?_) | (show q0o ..; refine cd_t ?_) | refine q0a ?_ | refine q0t ?_)
      · refine again (n + 1, [] ++ [upPr x], 0) ⟨hlt, by rw [hy, hs]⟩ (by simp only; omega) ?_
        simp only [q2t, q2v, q2u]
        (refine q1n ?_ ?_ <;> repeat' (first | exact q0v | exact q0y | refine q0p (by (try simp only [go_sem, *]); try rfl) (by simp only [go_sem, *]) ?_ | refine q0z (by (try simp only [go_sem, *]); try rfl) (by omega) (by simp only [go_sem, *]) ?_ | refine q0x (by (try simp only [go_sem, *]); try rfl) (by omega) (by simp only [go_sem, *]) ?_))
    · simp only [q2y hne, q3a hne, q2z hne]
      repeat' (first | (show q0i ..; first | refine q0c ?_ | refine q0e rfl ?_) | (show q0k ..; refine q0f rfl rfl ?_) | (show goOn ..; refine q0g ?_) | (show dr ..; first | refine q1y ?_ | refine dr_n rfl ?_) | (show drGo ..; first | refine q3b rfl ?_ | refine q2l rfl ?_) | (show drOn ..; first | refine q1z ?_ | refine dn_grow ?_) | (show q2h ..; (refine q1f (r := ?_) ?_ ?_; rotate_left 1; (focus exact r01_raise _))) | (refine And.intro (by kernel_rfl : q1l _ = true) ?_) | (show q0d ..; first | refine q0h ?_ | refine q0b ?_ | refine q1k (by kernel_rfl) ?_ | refine q0q ?_ | refine q0n ?_ | refine q0j ?_) | (show q0o ..; refine cd_t ?_) | refine q0a ?_ | refine q0t ?_)
      · refine again (n + 1, acc ++ [upPr x], id) ⟨hlt, by rw [hy, hs]⟩ (by simp only; omega) ?_
        simp only [q2t, q2v, q2u]
        (refine q1n ?_ ?_ <;> repeat' (first | exact q0v | exact q0y | refine q0p (by (try simp only [go_sem, *]); try rfl) (by simp only [go_sem, *]) ?_ | refine q0z (by (try simp only [go_sem, *]); try rfl) (by omega) (by simp only [go_sem, *]) ?_ | refine q0x (by (try simp only [go_sem, *]); try rfl) (by omega) (by simp only [go_sem, *]) ?_))
  · have h0 := q1w hge
    have hs' : l.map upPr = acc := by rw [← hs, List.take_of_length_le hge]
    rcases q4a acc with hnil | hne
    · subst hnil
      simp only [q2a, q2c, q2b]
      repeat' (first | (show q0i ..; first | refine q0c ?_ | refine q0e rfl ?_) | (show q0k ..; refine q0f rfl rfl ?_) | (show goOn ..; refine q0g ?_) | (show q0d ..; first | refine q0h ?_ | refine q0b ?_ | refine q0r ?_ | refine q1q ?_ | refine q0j ?_) | (show q0o ..; refine cd_f ?_) | refine q0a ?_ | refine q1p ?_ | refine q1r ?_ | (show retQ ..; refine q0s ?_) | refine q0l ?_)
      rw [hs']; rfl
    · simp only [q2y hne, q3a hne, q2z hne]
      repeat' (first | (show q0i ..; first | refine q0c ?_ | refine q0e rfl ?_) | (show q0k ..; refine q0f rfl rfl ?_) | (show goOn ..; refine q0g ?_) | (show q0d ..; first | refine q0h ?_ | refine q0b ?_ | refine q0r ?_ | refine q1q ?_ | refine q0j ?_) | (show q0o ..; refine cd_f ?_) | refine q0a ?_ | refine q1p ?_ | refine q1r ?_ | (show retQ ..; refine q0s ?_) | refine q0l ?_)
      rw [hs']
def q5u (o : Ob) : List Pr := if (o.kind == 4) = true then o.label.map upPr else o.label
theorem r13_shown (o : Ob) (hl : o.label.length ≤ 900000) : Pure Tryz.prog 180 [.agg (Ob.enc o)] (.sl ((q5u o).map Pr.enc)) := by
  refine q2d (by kernel_rfl) (by simp only [go_sem, *]) (by simp only [go_sem, *]) Tryz.func180 Tryz.results180 rfl (by simp [Tryz.ntmps180]) (by kernel_rfl) ?_
  repeat' (first | (show q0i ..; first | refine q0c ?_ | refine q0e rfl ?_) | (show q0k ..; first | refine q0f rfl rfl ?_ | refine q0m rfl ?_) | (show goOn ..; first | refine q0g ?_ | refine q1d ?_) | (show q1j ..; (refine q0u (r := ?_) ?_ ?_; rotate_left 1; (focus exact x0m _ hl))) | (show q0d ..; first | refine q0h ?_ | refine q0b ?_ | refine q0r ?_ | refine q0q ?_ | refine q0j ?_) | (show q0o ..; refine cd_b (fun _ => ?_) (fun _ => ?_)) | refine q0a ?_ | refine q1v ?_ | (show retQ ..; refine q0s ?_) | refine q0l ?_)
  all_goals (unfold q5u; simp only [*, if_true, if_false, Bool.false_eq_true]; try rfl)
end Go.Proofs.YtoibbedpaaeclaaGreat
end

section
namespace Go.Proofs.YtoibbedpaaeclaaGreat
open Go Go.RowKit
set_option linter.unusedVariables false
set_option linter.unusedSimpArgs false
set_option maxHeartbeats 16000000
set_option maxRecDepth 100000
@[go_sem] theorem spl1_Wd_objects (w : Wd) (o : Ob) : splice (Wd.enc w) 3 [.sl [Ob.enc o]] = Wd.enc { w with objects := [o] } := spl_Wd_objects w [o]
attribute [local irreducible] q0i dr q0d Ex.then Ex.inBlock retQ q1l q2j q2g Pure CSat evOp q1i rdOf upd hset strip sp0 cut envL q1g q3q Keep BdL evBs q2s q3c
def q2p (w : Wd) (id : Int) : Ob × Bool := match w.objects.find? (fun x => x.id == id) with
  | some x => (x, true)
  | none => (Ob.zero, false)
theorem q5y (w : Wd) (id : Int) (hl : w.objects.length ≤ 1000000) : Pure Tryz.prog 29 [.agg (Wd.enc w), .int .u64 id] (.tup [.agg (Ob.enc (q2p w id).1), .bool (q2p w id).2]) := by
  refine q2d (by kernel_rfl) (by simp only [go_sem, *]) (by simp only [go_sem, *]) Tryz.func29 Tryz.results29 rfl (by simp [Tryz.ntmps29]) (by kernel_rfl) ?_
  repeat' (first | (show q0i ..; first | refine q0c ?_ | refine q0e rfl ?_) | (show q0k ..; refine q0f rfl rfl ?_) | (show goOn ..; first | refine q0g ?_ | refine q1d ?_) | (show q0d ..; first | refine q0h ?_ | refine q0b ?_ | refine q0n ?_) | refine q0a ?_)
  refine q2q (S := Nat) (fun n => w.objects.length - n) (fun n => n ≤ w.objects.length ∧ ∀ j, j < n → ∀ y, w.objects[j]? = some y → (y.id == id) = false) (fun n => [(1, .int .u64 id), (2, .ptr 0 0), (4, .ptr 1 0), (6, .int .i64 n)]) (fun _ => [(0, .box (Wd.enc w)), (1, .box (Ob.enc Ob.zero))]) (fun _ => 2) 0 ⟨Nat.zero_le _, fun j hj => absurd hj (Nat.not_lt_zero j)⟩ (by (refine q1n ?_ ?_ <;> repeat' (first | exact q0v | exact q0y | refine q0p (by (try simp only [go_sem, *]); try rfl) (by simp only [go_sem, *]) ?_ | refine q0z (by (try simp only [go_sem, *]); try rfl) (by omega) (by simp only [go_sem, *]) ?_ | refine q0x (by (try simp only [go_sem, *]); try rfl) (by omega) (by simp only [go_sem, *]) ?_))) ?_
  rintro n ⟨hn, hs⟩
  rcases Nat.lt_or_ge n w.objects.length with hlt | hge
  · obtain ⟨x, hx⟩ := q2f hlt
    have h0 := q2k hlt
    have h4 := q2e n (by omega)
    repeat' (first | (show q0i ..; first | refine q0c ?_ | refine q0e rfl ?_) | (show q0k ..; refine q0f rfl rfl ?_) | (show goOn ..; first | refine q0g ?_ | refine q1x ?_) | (show q3f ..; refine q1h ?_) | (show q0d ..; first | refine q0h ?_ | refine q0b ?_ | refine q0r ?_ | refine q0q ?_ | refine q0n ?_ | refine q0j ?_) | (show q0o ..; first | refine cd_t ?_ | refine cd_b (fun _ => ?_) (fun _ => ?_)) | refine q0a ?_ | refine q1v ?_ | refine q0t ?_ | refine q3m ?_ | (show retQ ..; refine q0s ?_) | refine q0l ?_)
    all_goals rename_i hc
    · have := find_at (p := fun p : Ob => p.id == id) hx hc hs
      unfold q2p; rw [this]
    · exact again (n + 1) ⟨by omega, none_to hx hs hc⟩ (by omega) (by (refine q1n ?_ ?_ <;> repeat' (first | exact q0v | exact q0y | refine q0p (by (try simp only [go_sem, *]); try rfl) (by simp only [go_sem, *]) ?_ | refine q0z (by (try simp only [go_sem, *]); try rfl) (by omega) (by simp only [go_sem, *]) ?_ | refine q0x (by (try simp only [go_sem, *]); try rfl) (by omega) (by simp only [go_sem, *]) ?_)))
  · have h0 := q1w hge
    have := find_none (p := fun p : Ob => p.id == id) hge hs
    repeat' (first | (show q0i ..; first | refine q0c ?_ | refine q0e rfl ?_) | (show q0k ..; refine q0f rfl rfl ?_) | (show goOn ..; first | refine q0g ?_ | refine q1x ?_) | (show q3f ..; refine q1h ?_) | (show q0d ..; first | refine q0h ?_ | refine q0b ?_ | refine q0r ?_ | refine q1q ?_ | refine q0j ?_) | (show q0o ..; refine cd_f ?_) | refine q0a ?_ | refine q1p ?_ | refine q1r ?_ | (show retQ ..; refine q0s ?_) | refine q0l ?_)
    unfold q2p; rw [this]
def stpR (o : Ob) (s : List Ob × Bool) (x : Ob) : List Ob × Bool :=
  let s1 := if (!s.2 && decide (x.id ≥ o.id)) = true then (s.1 ++ [o], true) else s
  if (x.id == o.id) = true then s1 else (s1.1 ++ [x], s1.2)
def putL (l : List Ob) (o : Ob) : List Ob := let s := l.foldl (stpR o) ([], false); if s.2 = true then s.1 else s.1 ++ [o]
def putR (w : Wd) (o : Ob) : Wd := if decide (((putL w.objects o).length : Int) > 1024) = true then w else { w with objects := putL w.objects o }
theorem stp_len (o : Ob) : ∀ (l : List Ob) (s : List Ob × Bool), (l.foldl (stpR o) s).1.length ≤ s.1.length + 2 * l.length
  | [], s => Nat.le_refl _
  | x :: l, s => by
    rw [List.foldl_cons]
    have := stp_len o l (stpR o s x)
    have h : (stpR o s x).1.length ≤ s.1.length + 2 := by unfold stpR; simp only; split <;> split <;> (try simp only [List.length_append, List.length_cons, List.length_nil]) <;> omega
    rw [List.length_cons]; omega
theorem stp_snoc {o : Ob} {l : List Ob} {n : Nat} {x : Ob} (hx : l[n]? = some x) (s : List Ob × Bool) : (l.take (n + 1)).foldl (stpR o) s = stpR o ((l.take n).foldl (stpR o) s) x := by rw [q3u hx, List.foldl_append]; rfl
theorem q9l {o : Ob} {s : List Ob × Bool} {x : Ob} {acc : List Ob} {d b c : Bool} (hs : s = (acc, d)) (hb : decide (x.id ≥ o.id) = b) (hc : (x.id == o.id) = c) :
    stpR o s x = (if (!d && b) = true then (if c = true then (acc ++ [o], true) else (acc ++ [o] ++ [x], true)) else (if c = true then (acc, d) else (acc ++ [x], d))) := by
  subst hs; unfold stpR; simp only [hb, hc]; clear hb hc; cases c <;> cases d <;> cases b <;> rfl
theorem r13_put (w : Wd) (o : Ob) (hl : w.objects.length ≤ 100000) : Pure Tryz.prog 66 [.agg (Wd.enc w), .agg (Ob.enc o)] (.agg (Wd.enc (putR w o))) := by
  refine q2d (by kernel_rfl) (by simp only [go_sem, *]) (by simp only [go_sem, *]) Tryz.func66 Tryz.results66 rfl (by simp [Tryz.ntmps66]) (by kernel_rfl) ?_
  repeat' (first | (show q0i ..; first | refine q0c ?_ | refine q0e rfl ?_) | (show q0k ..; refine q0f rfl rfl ?_) | (show goOn ..; first | refine q0g ?_ | refine q1d ?_) | (show q0d ..; first | refine q0h ?_ | refine q0b ?_ | refine q0n ?_) | refine q0a ?_)
  refine q2q (S := Nat × List Ob × Bool × Nat) (fun s => w.objects.length - s.1) (fun s => s.1 ≤ w.objects.length ∧ 3 ≤ s.2.2.2 ∧ (w.objects.take s.1).foldl (stpR o) ([], false) = (s.2.1, s.2.2.1)) (fun s => [(2, .ptr 0 0), (3, .ptr 1 0), (4, .ptr 2 0), (5, accV s.2.2.2 s.2.1), (6, .bool s.2.2.1), (7, .int .i64 s.1)]) (fun s => (0, .box (Wd.enc w)) :: (1, .box (Ob.enc o)) :: (2, .box (Wd.enc Wd.zero)) :: accG s.2.2.2 71 51 Ob.enc s.2.1) (fun s => accM 3 s.2.2.2 s.2.1) (0, [], false, 3) ⟨Nat.zero_le _, Nat.le_refl _, rfl⟩ (by simp only [q2a, q2c, q2b]; (refine q1n ?_ ?_ <;> repeat' (first | exact q0v | exact q0y | refine q0p (by (try simp only [go_sem, *]); try rfl) (by simp only [go_sem, *]) ?_ | refine q0z (by (try simp only [go_sem, *]); try rfl) (by omega) (by simp only [go_sem, *]) ?_ | refine q0x (by (try simp only [go_sem, *]); try rfl) (by omega) (by simp only [go_sem, *]) ?_))) ?_
  rintro ⟨n, acc, done, k⟩ ⟨hn, hk, hs⟩
  simp only at hn hk hs
  have ha : acc.length ≤ 200000 := by
    have := stp_len o (w.objects.take n) ([], false)
    rw [hs] at this
    simp only [List.length_nil, List.length_take] at this
    omega
  have hb1 := q6p (k := acc.length) (by omega)
  have hb2 := q8a (k := acc.length) (b := 632) (by omega) (by decide)
  have hb5 : (2 ≤ maxLen) = True := eq_true (by simp [maxLen])
  have hb3 := q6p (k := acc.length + 1) (by omega)
  have hb4 := q8a (k := acc.length + 1) (b := 632) (by omega) (by decide)
  have hla : (acc ++ [o]).length = acc.length + 1 := by simp
  have hk0 : (k = 0) = False := eq_false (by omega)
  have hk1 : (k = 1) = False := eq_false (by omega)
  have hj0 : (0 = k) = False := eq_false (by omega)
  have hj1 : (1 = k) = False := eq_false (by omega)
  have hk2 : (k = 2) = False := eq_false (by omega)
  have hj2 : (2 = k) = False := eq_false (by omega)
  rcases Nat.lt_or_ge n w.objects.length with hlt | hge
  · obtain ⟨x, hx⟩ := q2f hlt
    have h0 := q2k hlt
    have h4 := q2e n (by omega)
    have e := stp_snoc (o := o) hx ([], false)
    rw [hs] at e
    clear hs
    cases done with
    | true =>
      cases hc : (x.id == o.id) with
      | true =>
        have es := q9l (o := o) (s := (acc, true)) rfl rfl hc
        rcases q4a acc with hnil | hne
        · subst hnil
          simp only [q2a, q2c, q2b]
          repeat' (first | (show q0i ..; first | refine q0c ?_ | refine q0e rfl ?_) | (show q0k ..; refine q0f rfl rfl ?_) | (show goOn ..; refine q0g ?_) | (show wGo ..; refine q3x ?_) | (show dr ..; first | refine q1y ?_ | refine dr_n rfl ?_ | refine q6b rfl rfl ?_) | (show drGo ..; refine q3b rfl ?_) | (show drOn ..; refine q1z ?_) | (refine And.intro (by kernel_rfl : q1l _ = true) ?_) | (show q0d ..; first | refine q0h ?_ | refine q0b ?_ | refine q1k (by kernel_rfl) ?_ | refine q0q ?_ | refine q0n ?_ | refine q0j ?_) | (show q0o ..; first | refine cd_t ?_ | refine cd_f ?_) | refine q0a ?_ | refine q0t ?_)
          refine again (n + 1, [], true, 3) ⟨hlt, by simp only; omega, by rw [e, es]; rfl⟩ (by simp only; omega) ?_
          simp only [q2a, q2c, q2b]
          (refine q1n ?_ ?_ <;> repeat' (first | exact q0v | exact q0y | refine q0p (by (try simp only [go_sem, *]); try rfl) (by simp only [go_sem, *]) ?_ | refine q0z (by (try simp only [go_sem, *]); try rfl) (by omega) (by simp only [go_sem, *]) ?_ | refine q0x (by (try simp only [go_sem, *]); try rfl) (by omega) (by simp only [go_sem, *]) ?_))
        · simp only [q2y hne, q3a hne, q2z hne]
          repeat' (first | (show q0i ..; first | refine q0c ?_ | refine q0e rfl ?_) | (show q0k ..; refine q0f rfl rfl ?_) | (show goOn ..; refine q0g ?_) | (show wGo ..; refine q3x ?_) | (show dr ..; first | refine q1y ?_ | refine dr_n rfl ?_ | refine q6b rfl rfl ?_) | (show drGo ..; refine q3b rfl ?_) | (show drOn ..; refine q1z ?_) | (refine And.intro (by kernel_rfl : q1l _ = true) ?_) | (show q0d ..; first | refine q0h ?_ | refine q0b ?_ | refine q1k (by kernel_rfl) ?_ | refine q0q ?_ | refine q0n ?_ | refine q0j ?_) | (show q0o ..; first | refine cd_t ?_ | refine cd_f ?_) | refine q0a ?_ | refine q0t ?_)
          refine again (n + 1, acc, true, k) ⟨hlt, by simp only; omega, by rw [e, es]; rfl⟩ (by simp only; omega) ?_
          simp only [q2y hne, q3a hne, q2z hne]
          (refine q1n ?_ ?_ <;> repeat' (first | exact q0v | exact q0y | refine q0p (by (try simp only [go_sem, *]); try rfl) (by simp only [go_sem, *]) ?_ | refine q0z (by (try simp only [go_sem, *]); try rfl) (by omega) (by simp only [go_sem, *]) ?_ | refine q0x (by (try simp only [go_sem, *]); try rfl) (by omega) (by simp only [go_sem, *]) ?_))
      | false =>
        have es := q9l (o := o) (s := (acc, true)) rfl rfl hc
        rcases q4a acc with hnil | hne
        · subst hnil
          simp only [q2a, q2c, q2b]
          repeat' (first | (show q0i ..; first | refine q0c ?_ | refine q0e rfl ?_) | (show q0k ..; refine q0f rfl rfl ?_) | (show goOn ..; first | refine q0g ?_ | refine q5g ?_) | (show wGo ..; refine q3x ?_) | (show dr ..; first | refine q1y ?_ | refine dr_n rfl ?_ | refine q6b rfl rfl ?_) | (show drGo ..; refine q3b rfl ?_) | (show drOn ..; refine q1z ?_) | (refine And.intro (by kernel_rfl : q1l _ = true) ?_) | (show q0d ..; first | refine q0h ?_ | refine q0b ?_ | refine q1k (by kernel_rfl) ?_ | refine q0q ?_ | refine q0n ?_ | refine q0j ?_) | (show q0o ..; first | refine cd_t ?_ | refine cd_f ?_) | refine q0a ?_ | refine q0t ?_)
          refine again (n + 1, [] ++ [x], true, 3) ⟨hlt, by simp only; omega, by rw [e, es]; rfl⟩ (by simp only; omega) ?_
          simp only [q2t, q2v, q2u]
          (refine q1n ?_ ?_ <;> repeat' (first | exact q0v | exact q0y | refine q0p (by (try simp only [go_sem, *]); try rfl) (by simp only [go_sem, *]) ?_ | refine q0z (by (try simp only [go_sem, *]); try rfl) (by omega) (by simp only [go_sem, *]) ?_ | refine q0x (by (try simp only [go_sem, *]); try rfl) (by omega) (by simp only [go_sem, *]) ?_))
        · simp only [q2y hne, q3a hne, q2z hne]
          repeat' (first | (show q0i ..; first | refine q0c ?_ | refine q0e rfl ?_) | (show q0k ..; refine q0f rfl rfl ?_) | (show goOn ..; first | refine q0g ?_ | refine q4z ?_) | (show wGo ..; refine q3x ?_) | (show dr ..; first | refine q1y ?_ | refine dr_n rfl ?_ | refine q6b rfl rfl ?_) | (show drGo ..; refine q3b rfl ?_) | (show drOn ..; refine q1z ?_) | (refine And.intro (by kernel_rfl : q1l _ = true) ?_) | (show q0d ..; first | refine q0h ?_ | refine q0b ?_ | refine q1k (by kernel_rfl) ?_ | refine q0q ?_ | refine q0n ?_ | refine q0j ?_) | (show q0o ..; first | refine cd_t ?_ | refine cd_f ?_) | refine q0a ?_ | refine q0t ?_)
          refine again (n + 1, acc ++ [x], true, k) ⟨hlt, by simp only; omega, by rw [e, es]; rfl⟩ (by simp only; omega) ?_
          simp only [q2t, q2v, q2u]
          (refine q1n ?_ ?_ <;> repeat' (first | exact q0v | exact q0y | refine q0p (by (try simp only [go_sem, *]); try rfl) (by simp only [go_sem, *]) ?_ | refine q0z (by (try simp only [go_sem, *]); try rfl) (by omega) (by simp only [go_sem, *]) ?_ | refine q0x (by (try simp only [go_sem, *]); try rfl) (by omega) (by simp only [go_sem, *]) ?_))
    | false =>
      cases hb : decide (x.id ≥ o.id) with
      | true =>
        cases hc : (x.id == o.id) with
        | true =>
          have es := q9l (o := o) (s := (acc, false)) rfl hb hc
          rcases q4a acc with hnil | hne
          · subst hnil
            simp only [q2a, q2c, q2b]
            repeat' (first | (show q0i ..; first | refine q0c ?_ | refine q0e rfl ?_) | (show q0k ..; refine q0f rfl rfl ?_) | (show goOn ..; first | refine q0g ?_ | refine q5g ?_) | (show wGo ..; refine q3n ?_) | (show dr ..; first | refine q1y ?_ | refine dr_n rfl ?_ | refine q6b rfl rfl ?_) | (show drGo ..; refine q3b rfl ?_) | (show drOn ..; refine q1z ?_) | (refine And.intro (by kernel_rfl : q1l _ = true) ?_) | (show q0d ..; first | refine q0h ?_ | refine q0b ?_ | refine q1k (by kernel_rfl) ?_ | refine q0q ?_ | refine q0n ?_ | refine q0j ?_) | (show q0o ..; first | refine cd_t ?_ | refine cd_f ?_) | refine q0a ?_ | refine q0t ?_)
            refine again (n + 1, [] ++ [o], true, 3) ⟨hlt, by simp only; omega, by rw [e, es]; rfl⟩ (by simp only; omega) ?_
            simp only [q2t, q2v, q2u]
            (refine q1n ?_ ?_ <;> repeat' (first | exact q0v | exact q0y | refine q0p (by (try simp only [go_sem, *]); try rfl) (by simp only [go_sem, *]) ?_ | refine q0z (by (try simp only [go_sem, *]); try rfl) (by omega) (by simp only [go_sem, *]) ?_ | refine q0x (by (try simp only [go_sem, *]); try rfl) (by omega) (by simp only [go_sem, *]) ?_))
          · simp only [q2y hne, q3a hne, q2z hne]
            repeat' (first | (show q0i ..; first | refine q0c ?_ | refine q0e rfl ?_) | (show q0k ..; refine q0f rfl rfl ?_) | (show goOn ..; first | refine q0g ?_ | refine q4z ?_) | (show wGo ..; refine q3n ?_) | (show dr ..; first | refine q1y ?_ | refine dr_n rfl ?_ | refine q6b rfl rfl ?_) | (show drGo ..; refine q3b rfl ?_) | (show drOn ..; refine q1z ?_) | (refine And.intro (by kernel_rfl : q1l _ = true) ?_) | (show q0d ..; first | refine q0h ?_ | refine q0b ?_ | refine q1k (by kernel_rfl) ?_ | refine q0q ?_ | refine q0n ?_ | refine q0j ?_) | (show q0o ..; first | refine cd_t ?_ | refine cd_f ?_) | refine q0a ?_ | refine q0t ?_)
            refine again (n + 1, acc ++ [o], true, k) ⟨hlt, by simp only; omega, by rw [e, es]; rfl⟩ (by simp only; omega) ?_
            simp only [q2t, q2v, q2u]
            (refine q1n ?_ ?_ <;> repeat' (first | exact q0v | exact q0y | refine q0p (by (try simp only [go_sem, *]); try rfl) (by simp only [go_sem, *]) ?_ | refine q0z (by (try simp only [go_sem, *]); try rfl) (by omega) (by simp only [go_sem, *]) ?_ | refine q0x (by (try simp only [go_sem, *]); try rfl) (by omega) (by simp only [go_sem, *]) ?_))
        | false =>
          have es := q9l (o := o) (s := (acc, false)) rfl hb hc
          rcases q4a acc with hnil | hne
          · subst hnil
            simp only [q2a, q2c, q2b]
            repeat' (first | (show q0i ..; first | refine q0c ?_ | refine q0e rfl ?_) | (show q0k ..; refine q0f rfl rfl ?_) | (show goOn ..; first | refine q0g ?_ | refine q5g ?_ | refine q4z ?_) | (show wGo ..; refine q3n ?_) | (show dr ..; first | refine q1y ?_ | refine dr_n rfl ?_ | refine q6b rfl rfl ?_) | (show drGo ..; refine q3b rfl ?_) | (show drOn ..; refine q1z ?_) | (refine And.intro (by kernel_rfl : q1l _ = true) ?_) | (show q0d ..; first | refine q0h ?_ | refine q0b ?_ | refine q1k (by kernel_rfl) ?_ | refine q0q ?_ | refine q0n ?_ | refine q0j ?_) | (show q0o ..; refine cd_t ?_) | refine q0a ?_ | refine q0t ?_)
            refine again (n + 1, [] ++ [o] ++ [x], true, 3) ⟨hlt, by simp only; omega, by rw [e, es]; rfl⟩ (by simp only; omega) ?_
            simp only [q2t, q2v, q2u]
            (refine q1n ?_ ?_ <;> repeat' (first | exact q0v | exact q0y | refine q0p (by (try simp only [go_sem, *]); try rfl) (by simp only [go_sem, *]) ?_ | refine q0z (by (try simp only [go_sem, *]); try rfl) (by omega) (by simp only [go_sem, *]) ?_ | refine q0x (by (try simp only [go_sem, *]); try rfl) (by omega) (by simp only [go_sem, *]) ?_))
          · simp only [q2y hne, q3a hne, q2z hne]
            repeat' (first | (show q0i ..; first | refine q0c ?_ | refine q0e rfl ?_) | (show q0k ..; refine q0f rfl rfl ?_) | (show goOn ..; first | refine q0g ?_ | refine q4z ?_) | (show wGo ..; refine q3n ?_) | (show dr ..; first | refine q1y ?_ | refine dr_n rfl ?_ | refine q6b rfl rfl ?_) | (show drGo ..; refine q3b rfl ?_) | (show drOn ..; refine q1z ?_) | (refine And.intro (by kernel_rfl : q1l _ = true) ?_) | (show q0d ..; first | refine q0h ?_ | refine q0b ?_ | refine q1k (by kernel_rfl) ?_ | refine q0q ?_ | refine q0n ?_ | refine q0j ?_) | (show q0o ..; refine cd_t ?_) | refine q0a ?_ | refine q0t ?_)
            refine again (n + 1, acc ++ [o] ++ [x], true, k) ⟨hlt, by simp only; omega, by rw [e, es]; rfl⟩ (by simp only; omega) ?_
            simp only [q2t, q2v, q2u]
            (refine q1n ?_ ?_ <;> repeat' (first | exact q0v | exact q0y | refine q0p (by (try simp only [go_sem, *]); try rfl) (by simp only [go_sem, *]) ?_ | refine q0z (by (try simp only [go_sem, *]); try rfl) (by omega) (by simp only [go_sem, *]) ?_ | refine q0x (by (try simp only [go_sem, *]); try rfl) (by omega) (by simp only [go_sem, *]) ?_))
      | false =>
        cases hc : (x.id == o.id) with
        | true =>
          have es := q9l (o := o) (s := (acc, false)) rfl hb hc
          rcases q4a acc with hnil | hne
          · subst hnil
            simp only [q2a, q2c, q2b]
            repeat' (first | (show q0i ..; first | refine q0c ?_ | refine q0e rfl ?_) | (show q0k ..; refine q0f rfl rfl ?_) | (show goOn ..; refine q0g ?_) | (show wGo ..; refine q3n ?_) | (show dr ..; first | refine q1y ?_ | refine dr_n rfl ?_ | refine q6b rfl rfl ?_) | (show drGo ..; refine q3b rfl ?_) | (show drOn ..; refine q1z ?_) | (refine And.intro (by kernel_rfl : q1l _ = true) ?_) | (show q0d ..; first | refine q0h ?_ | refine q0b ?_ | refine q1k (by kernel_rfl) ?_ | refine q0q ?_ | refine q0n ?_ | refine q0j ?_) | (show q0o ..; first | refine cd_t ?_ | refine cd_f ?_) | refine q0a ?_ | refine q0t ?_)
            refine again (n + 1, [], false, 3) ⟨hlt, by simp only; omega, by rw [e, es]; rfl⟩ (by simp only; omega) ?_
            simp only [q2a, q2c, q2b]
            (refine q1n ?_ ?_ <;> repeat' (first | exact q0v | exact q0y | refine q0p (by (try simp only [go_sem, *]); try rfl) (by simp only [go_sem, *]) ?_ | refine q0z (by (try simp only [go_sem, *]); try rfl) (by omega) (by simp only [go_sem, *]) ?_ | refine q0x (by (try simp only [go_sem, *]); try rfl) (by omega) (by simp only [go_sem, *]) ?_))
          · simp only [q2y hne, q3a hne, q2z hne]
            repeat' (first | (show q0i ..; first | refine q0c ?_ | refine q0e rfl ?_) | (show q0k ..; refine q0f rfl rfl ?_) | (show goOn ..; refine q0g ?_) | (show wGo ..; refine q3n ?_) | (show dr ..; first | refine q1y ?_ | refine dr_n rfl ?_ | refine q6b rfl rfl ?_) | (show drGo ..; refine q3b rfl ?_) | (show drOn ..; refine q1z ?_) | (refine And.intro (by kernel_rfl : q1l _ = true) ?_) | (show q0d ..; first | refine q0h ?_ | refine q0b ?_ | refine q1k (by kernel_rfl) ?_ | refine q0q ?_ | refine q0n ?_ | refine q0j ?_) | (show q0o ..; first | refine cd_t ?_ | refine cd_f ?_) | refine q0a ?_ | refine q0t ?_)
            refine again (n + 1, acc, false, k) ⟨hlt, by simp only; omega, by rw [e, es]; rfl⟩ (by simp only; omega) ?_
            simp only [q2y hne, q3a hne, q2z hne]
            (refine q1n ?_ ?_ <;> repeat' (first | exact q0v | exact q0y | refine q0p (by (try simp only [go_sem, *]); try rfl) (by simp only [go_sem, *]) ?_ | refine q0z (by (try simp only [go_sem, *]); try rfl) (by omega) (by simp only [go_sem, *]) ?_ | refine q0x (by (try simp only [go_sem, *]); try rfl) (by omega) (by simp only [go_sem, *]) ?_))
        | false =>
          have es := q9l (o := o) (s := (acc, false)) rfl hb hc
          rcases q4a acc with hnil | hne
          · subst hnil
            simp only [q2a, q2c, q2b]
            repeat' (first | (show q0i ..; first | refine q0c ?_ | refine q0e rfl ?_) | (show q0k ..; refine q0f rfl rfl ?_) | (show goOn ..; first | refine q0g ?_ | refine q5g ?_) | (show wGo ..; refine q3n ?_) | (show dr ..; first | refine q1y ?_ | refine dr_n rfl ?_ | refine q6b rfl rfl ?_) | (show drGo ..; refine q3b rfl ?_) | (show drOn ..; refine q1z ?_) | (refine And.intro (by kernel_rfl : q1l _ = true) ?_) | (show q0d ..; first | refine q0h ?_ | refine q0b ?_ | refine q1k (by kernel_rfl) ?_ | refine q0q ?_ | refine q0n ?_ | refine q0j ?_) | (show q0o ..; first | refine cd_t ?_ | refine cd_f ?_) | refine q0a ?_ | refine q0t ?_)
            refine again (n + 1, [] ++ [x], false, 3) ⟨hlt, by simp only; omega, by rw [e, es]; rfl⟩ (by simp only; omega) ?_
            simp only [q2t, q2v, q2u]
            (refine q1n ?_ ?_ <;> repeat' (first | exact q0v | exact q0y | refine q0p (by (try simp only [go_sem, *]); try rfl) (by simp only [go_sem, *]) ?_ | refine q0z (by (try simp only [go_sem, *]); try rfl) (by omega) (by simp only [go_sem, *]) ?_ | refine q0x (by (try simp only [go_sem, *]); try rfl) (by omega) (by simp only [go_sem, *]) ?_))
          · simp only [q2y hne, q3a hne, q2z hne]
            repeat' (first | (show q0i ..; first | refine q0c ?_ | refine q0e rfl ?_) | (show q0k ..; refine q0f rfl rfl ?_) | (show goOn ..; first | refine q0g ?_ | refine q4z ?_) | (show wGo ..; refine q3n ?_) | (show dr ..; first | refine q1y ?_ | refine dr_n rfl ?_ | refine q6b rfl rfl ?_) | (show drGo ..; refine q3b rfl ?_) | (show drOn ..; refine q1z ?_) | (refine And.intro (by kernel_rfl : q1l _ = true) ?_) | (show q0d ..; first | refine q0h ?_ | refine q0b ?_ | refine q1k (by kernel_rfl) ?_ | refine q0q ?_ | refine q0n ?_ | refine q0j ?_) | (show q0o ..; first | refine cd_t ?_ | refine cd_f ?_) | refine q0a ?_ | refine q0t ?_)
            refine again (n + 1, acc ++ [x], false, k) ⟨hlt, by simp only; omega, by rw [e, es]; rfl⟩ (by simp only; omega) ?_
            simp only [q2t, q2v, q2u]
            (refine q1n ?_ ?_ <;> repeat' (first | exact q0v | exact q0y | refine q0p (by (try simp only [go_sem, *]); try rfl) (by simp only [go_sem, *]) ?_ | refine q0z (by (try simp only [go_sem, *]); try rfl) (by omega) (by simp only [go_sem, *]) ?_ | refine q0x (by (try simp only [go_sem, *]); try rfl) (by omega) (by simp only [go_sem, *]) ?_))
  · have h0 := q1w hge
    have hs' : w.objects.foldl (stpR o) ([], false) = (acc, done) := by rw [← hs, List.take_of_length_le hge]
    have hp : putL w.objects o = if done = true then acc else acc ++ [o] := by unfold putL; rw [hs']
    clear hs hs'
    cases done with
    | true =>
      rw [if_pos rfl] at hp
      unfold putR
      rw [hp]
      clear hp
      rcases q4a acc with hnil | hne
      · subst hnil
        simp only [q2a, q2c, q2b]
        repeat' (first | (show q0i ..; first | refine q0c ?_ | refine q0e rfl ?_) | (show q0k ..; refine q0f rfl rfl ?_) | (show goOn ..; first | refine q0g ?_ | refine q1x ?_) | (show q3f ..; refine q1h ?_) | (show q0d ..; first | refine q0h ?_ | refine q0b ?_ | refine q0r ?_ | refine q0q ?_ | refine q1q ?_ | refine q0j ?_) | (show q0o ..; refine cd_f ?_) | refine q0a ?_ | refine q1p ?_ | refine q1r ?_ | (show retQ ..; refine q0s ?_) | refine q0l ?_)
        all_goals first | rfl | (rename_i hc; first | rfl | (rw [hc]; rfl) | (rw [hla, hc]; rfl))
      · simp only [q2y hne, q3a hne, q2z hne]
        repeat' (first | (show q0i ..; first | refine q0c ?_ | refine q0e rfl ?_) | (show q0k ..; refine q0f rfl rfl ?_) | (show goOn ..; first | refine q0g ?_ | refine q1x ?_) | (show q3f ..; refine q1h ?_) | (show q0d ..; first | refine q0h ?_ | refine q0b ?_ | refine q0r ?_ | refine q0q ?_ | refine q1q ?_ | refine q0j ?_) | (show q0o ..; first | refine cd_f ?_ | refine cd_b (fun _ => ?_) (fun _ => ?_)) | refine q0a ?_ | refine q1v ?_ | refine q1p ?_ | refine q1r ?_ | (show retQ ..; refine q0s ?_) | refine q0l ?_)
        all_goals first | rfl | (rename_i hc; first | rfl | (rw [hc]; rfl) | (rw [hla, hc]; rfl))
    | false =>
      rw [if_neg (by simp)] at hp
      unfold putR
      rw [hp]
      clear hp
      rcases q4a acc with hnil | hne
      · subst hnil
        simp only [q2a, q2c, q2b]
        repeat' (first | (show q0i ..; first | refine q0c ?_ | refine q0e rfl ?_) | (show q0k ..; refine q0f rfl rfl ?_) | (show goOn ..; first | refine q0g ?_ | refine q1x ?_ | refine q5g ?_) | (show q3f ..; refine q1h ?_) | (show q0d ..; first | refine q0h ?_ | refine q0b ?_ | refine q0r ?_ | refine q0q ?_ | refine q1q ?_ | refine q0j ?_) | (show q0o ..; first | refine cd_t ?_ | refine cd_f ?_) | refine q0a ?_ | refine q1p ?_ | refine q1r ?_ | (show retQ ..; refine q0s ?_) | refine q0l ?_)
        all_goals first | rfl | (rename_i hc; first | rfl | (rw [hc]; rfl) | (rw [hla, hc]; rfl))
      · simp only [q2y hne, q3a hne, q2z hne]
        repeat' (first | (show q0i ..; first | refine q0c ?_ | refine q0e rfl ?_) | (show q0k ..; refine q0f rfl rfl ?_) | (show goOn ..; first | refine q0g ?_ | refine q1x ?_ | refine q4z ?_) | (show q3f ..; refine q1h ?_) | (show q0d ..; first | refine q0h ?_ | refine q0b ?_ | refine q0r ?_ | refine q0q ?_ | refine q1q ?_ | refine q0j ?_) | (show q0o ..; first | refine cd_t ?_ | refine cd_f ?_ | refine cd_b (fun _ => ?_) (fun _ => ?_)) | refine q0a ?_ | refine q1v ?_ | refine q1p ?_ | refine q1r ?_ | (show retQ ..; refine q0s ?_) | refine q0l ?_)
        all_goals first | rfl | (rename_i hc; first | rfl | (rw [hc]; rfl) | (rw [hla, hc]; rfl))
end Go.Proofs.YtoibbedpaaeclaaGreat
end

section
namespace Go.Proofs.YtoibbedpaaeclaaGreat
open Go Go.RowKit
set_option linter.unusedVariables false
set_option linter.unusedSimpArgs false
set_option maxHeartbeats 16000000
set_option maxRecDepth 100000
structure FewW (w : Wd) : Prop where
  n : w.objects.length ≤ 24
  ob : ∀ x ∈ w.objects, x.label.length ≤ 20 ∧ x.links.length ≤ 70 ∧ x.data.length ≤ 300 ∧ x.maps.length ≤ 20
theorem sidx {α : Type} {l : List α} {n : Nat} {x : α} (h : l[n]? = some x) : x ∈ l := List.mem_of_getElem? h
def q2w (w : Wd) (id : Int) : List Int := (w.objects.filter fun o => o.links.any (· == id)).map Ob.id
def q7b (l : List Ob) (id : Int) (n : Nat) : List Int := ((l.take n).filter fun o => o.links.any (· == id)).map Ob.id
theorem hold_yes {l : List Ob} {id : Int} {n : Nat} {x : Ob} (hx : l[n]? = some x) (h : x.links.any (· == id) = true) : q7b l id (n + 1) = q7b l id n ++ [x.id] := by
  unfold q7b; rw [q3u hx, List.filter_append, List.filter_cons, if_pos h, List.filter_nil, List.map_append]; rfl
theorem hold_no {l : List Ob} {id : Int} {n : Nat} {x : Ob} (hx : l[n]? = some x) (h : x.links.any (· == id) = false) : q7b l id (n + 1) = q7b l id n := by
  unfold q7b; rw [q3u hx, List.filter_append, List.filter_cons, if_neg (by rw [h]; simp), List.filter_nil, List.append_nil]
theorem hold_len (l : List Ob) (id : Int) (n : Nat) : (q7b l id n).length ≤ l.length := by
  unfold q7b
  rw [List.length_map]
  refine Nat.le_trans (List.length_filter_le _ _) ?_
  rw [List.length_take]; omega
theorem hold_all (w : Wd) (id : Int) {n : Nat} (h : w.objects.length ≤ n) : q7b w.objects id n = q2w w id := by unfold q7b q2w; rw [List.take_of_length_le h]
theorem q7t (w : Wd) (id : Int) : (q2w w id).length ≤ w.objects.length := by rw [← hold_all w id (Nat.le_refl _)]; exact hold_len _ _ _
def usesR (w : Wd) (o : Ob) : Int := o.links.foldl (fun s id => IntKind.i64.wrap (s + (q2p w id).1.quota)) (pagesR o)
def usesN (w : Wd) (o : Ob) (n : Nat) : Int := (o.links.take n).foldl (fun s id => IntKind.i64.wrap (s + (q2p w id).1.quota)) (pagesR o)
theorem uses_succ {w : Wd} {o : Ob} {n : Nat} {x : Int} (hx : o.links[n]? = some x) : usesN w o (n + 1) = IntKind.i64.wrap (usesN w o n + (q2p w x).1.quota) := by
  unfold usesN; rw [q3u hx, List.foldl_append]; rfl
def q8u (w : Wd) : Nat → Int → List Int → List Int
  | 0, _, _ => []
  | f + 1, id, out => match q2w w id with
    | [] => out
    | h :: _ => q8u w f h (out ++ [h])
def above (w : Wd) (id : Int) : List Int := q8u w (w.objects.length + 1) id []
theorem aboveG_len (w : Wd) : ∀ (f : Nat) (id : Int) (out : List Int), (q8u w f id out).length ≤ out.length + f
  | 0, _, _ => Nat.zero_le _
  | f + 1, id, out => by
    unfold q8u
    split
    · omega
    · rename_i h t _
      have := aboveG_len w f h (out ++ [h])
      simp only [List.length_append, List.length_cons, List.length_nil] at this
      omega
theorem above_len (w : Wd) (id : Int) : (above w id).length ≤ w.objects.length + 1 := by have := aboveG_len w (w.objects.length + 1) id []; unfold above; simpa using this
def upR (w : Wd) (id : Int) : Bool := ((id == w.root) && ((above w id).length == 0)) || (match (above w id)[(above w id).length - 1]? with
  | some z => z == w.root
  | none => false)
def q8l (w : Wd) (o : Ob) : Bool :=
  if (o.id == w.root) = true then ((((q2w w o.id).length : Int) == 0) && ((o.kind == 2) && decide (o.quota ≤ 1024)))
  else if (decide (((q2w w o.id).length : Int) < 1) || (decide (((q2w w o.id).length : Int) > 1) && (!o.fixed || (o.kind == 2) || (o.kind == 4)))) = true then false
  else (o.kind != 2) || upR w o.id
attribute [local irreducible] q0i dr q0d Ex.then Ex.inBlock retQ q1l q2j q2g Pure CSat evOp q1i rdOf upd hset strip sp0 cut envL q1g q3q Keep BdL evBs q2s q3c
theorem r14_has (l : List Int) (n : Int) (hl : l.length ≤ 9223372036854775807) : Pure Tryz.prog 161 [.sl (l.map u64), .int .u64 n] (.bool (l.any (· == n))) := by
  refine q2d (by kernel_rfl) (by simp only [go_sem, *]) (by simp only [go_sem, *]) Tryz.func161 Tryz.results161 rfl (by simp [Tryz.ntmps161]) (by kernel_rfl) ?_
  repeat' (first | (show q0i ..; first | refine q0c ?_ | refine q0e rfl ?_) | (show q0k ..; refine q0f rfl rfl ?_) | (show goOn ..; refine q0g ?_) | (show q0d ..; first | refine q0h ?_ | refine q0b ?_ | refine q0n ?_) | refine q0a ?_)
  refine q2q (S := Nat) (fun k => l.length - k) (fun k => k ≤ l.length ∧ ∀ j, j < k → ∀ y, l[j]? = some y → (y == n) = false) (fun k => [(0, .sl (l.map u64)), (1, .int .u64 n), (5, .int .i64 k)]) (fun _ => []) (fun _ => 0) 0 ⟨Nat.zero_le _, fun j hj => absurd hj (Nat.not_lt_zero j)⟩ (by (refine q1n ?_ ?_ <;> repeat' (first | exact q0v | exact q0y | refine q0p (by (try simp only [go_sem, *]); try rfl) (by simp only [go_sem, *]) ?_ | refine q0z (by (try simp only [go_sem, *]); try rfl) (by omega) (by simp only [go_sem, *]) ?_ | refine q0x (by (try simp only [go_sem, *]); try rfl) (by omega) (by simp only [go_sem, *]) ?_))) ?_
  rintro k ⟨hk, hs⟩
  rcases Nat.lt_or_ge k l.length with hlt | hge
  · obtain ⟨x, hx⟩ := q2f hlt
    have h0 := q2k hlt
    have h4 := q2e k (by omega)
    repeat' (first | (show q0i ..; first | refine q0c ?_ | refine q0e rfl ?_) | (show q0k ..; refine q0f rfl rfl ?_) | (show goOn ..; refine q0g ?_) | (show q0d ..; first | refine q0h ?_ | refine q0b ?_ | refine q0r ?_ | refine q0q ?_ | refine q0n ?_ | refine q0j ?_) | (show q0o ..; first | refine cd_t ?_ | refine cd_b (fun _ => ?_) (fun _ => ?_)) | refine q0a ?_ | refine q1v ?_ | refine q0t ?_ | refine q3m ?_ | (show retQ ..; refine q0s ?_) | refine q0l ?_)
    all_goals rename_i hc
    · refine q1o ?_
      symm
      exact List.any_eq_true.2 ⟨x, sidx hx, hc⟩
    · exact again (k + 1) ⟨by omega, none_to hx hs hc⟩ (by omega) (by (refine q1n ?_ ?_ <;> repeat' (first | exact q0v | exact q0y | refine q0p (by (try simp only [go_sem, *]); try rfl) (by simp only [go_sem, *]) ?_ | refine q0z (by (try simp only [go_sem, *]); try rfl) (by omega) (by simp only [go_sem, *]) ?_ | refine q0x (by (try simp only [go_sem, *]); try rfl) (by omega) (by simp only [go_sem, *]) ?_)))
  · have h0 := q1w hge
    repeat' (first | (show q0i ..; first | refine q0c ?_ | refine q0e rfl ?_) | (show q0k ..; refine q0f rfl rfl ?_) | (show goOn ..; refine q0g ?_) | (show q0d ..; first | refine q0h ?_ | refine q0b ?_ | refine q0r ?_ | refine q1q ?_ | refine q0j ?_) | (show q0o ..; refine cd_f ?_) | refine q0a ?_ | refine q1p ?_ | refine q1r ?_ | (show retQ ..; refine q0s ?_) | refine q0l ?_)
    refine q1o ?_
    symm
    rw [List.any_eq_false]
    intro x hx
    obtain ⟨j, hj⟩ := List.getElem?_of_mem hx
    rw [hs j (by have := q3y hj; omega) x hj]; simp
theorem q9w (w : Wd) (id : Int) (hw : w.L) (hf : FewW w) : Pure Tryz.prog 113 [.agg (Wd.enc w), .int .u64 id] (.sl ((q2w w id).map u64)) := by
  have hn20 := hf.n
  refine q2d (by kernel_rfl) (by simp only [go_sem, *]) (by simp only [go_sem, *]) Tryz.func113 Tryz.results113 rfl (by simp [Tryz.ntmps113]) (by kernel_rfl) ?_
  repeat' (first | (show q0i ..; first | refine q0c ?_ | refine q0e rfl ?_) | (show q0k ..; refine q0f rfl rfl ?_) | (show goOn ..; first | refine q0g ?_ | refine q1d ?_) | (show q0d ..; first | refine q0h ?_ | refine q0b ?_ | refine q0n ?_) | refine q0a ?_)
  refine q2q (S := Nat × List Int × Nat) (fun s => w.objects.length - s.1) (fun s => s.1 ≤ w.objects.length ∧ 1 ≤ s.2.2 ∧ q7b w.objects id s.1 = s.2.1) (fun s => [(1, .int .u64 id), (2, .ptr 0 0), (5, accV s.2.2 s.2.1), (6, .int .i64 s.1)]) (fun s => (0, .box (Wd.enc w)) :: accG s.2.2 22 1 u64 s.2.1) (fun s => accM 1 s.2.2 s.2.1) (0, [], 1) ⟨Nat.zero_le _, Nat.le_refl _, rfl⟩ (by simp only [q2a, q2c, q2b]; (refine q1n ?_ ?_ <;> repeat' (first | exact q0v | exact q0y | refine q0p (by (try simp only [go_sem, *]); try rfl) (by simp only [go_sem, *]) ?_ | refine q0z (by (try simp only [go_sem, *]); try rfl) (by omega) (by simp only [go_sem, *]) ?_ | refine q0x (by (try simp only [go_sem, *]); try rfl) (by omega) (by simp only [go_sem, *]) ?_))) ?_
  rintro ⟨n, acc, rid⟩ ⟨hn, hr, hs⟩
  simp only at hn hr hs
  have ha : acc.length < 1000000 := by rw [← hs]; have := hold_len w.objects id n; omega
  have hb1 := q6p ha
  have hb2 := q8a (b := 8) ha (by decide)
  have i0 : (rid = 0) = False := eq_false (by omega)
  have i1 : (0 = rid) = False := eq_false (by omega)
  rcases Nat.lt_or_ge n w.objects.length with hlt | hge
  · obtain ⟨x, hx⟩ := q2f hlt
    have h0 := q2k hlt
    have h4 := q2e n (by omega)
    have hh := r14_has x.links id (hw.2 x (sidx hx)).1.2.1
    cases hc : x.links.any (· == id) with
    | true =>
      rw [hc] at hh
      have hs' := hold_yes hx hc
      rw [hs] at hs'
      rcases q4a acc with hnil | hne
      · subst hnil
        simp only [q2a, q2c, q2b]
        repeat' (first | (show q0i ..; first | refine q0c ?_ | refine q0e rfl ?_) | (show q0k ..; first | refine q0f rfl rfl ?_ | refine q0m rfl ?_) | (show goOn ..; first | refine q0g ?_ | refine q5g ?_) | (show q1j ..; (refine q0u (r := ?_) ?_ ?_; rotate_left 1; (focus exact hh))) | (show q0d ..; first | refine q0h ?_ | refine q0b ?_ | refine q0q ?_ | refine q0n ?_ | refine q0j ?_) | (show q0o ..; refine cd_t ?_) | refine q0a ?_ | refine q0t ?_)
        refine again (n + 1, [] ++ [x.id], 1) ⟨hlt, Nat.le_refl _, hs'⟩ (by simp only; omega) ?_
        simp only [q2t, q2v, q2u]
        (refine q1n ?_ ?_ <;> repeat' (first | exact q0v | exact q0y | refine q0p (by (try simp only [go_sem, *]); try rfl) (by simp only [go_sem, *]) ?_ | refine q0z (by (try simp only [go_sem, *]); try rfl) (by omega) (by simp only [go_sem, *]) ?_ | refine q0x (by (try simp only [go_sem, *]); try rfl) (by omega) (by simp only [go_sem, *]) ?_))
      · simp only [q2y hne, q3a hne, q2z hne]
        repeat' (first | (show q0i ..; first | refine q0c ?_ | refine q0e rfl ?_) | (show q0k ..; first | refine q0f rfl rfl ?_ | refine q0m rfl ?_) | (show goOn ..; first | refine q0g ?_ | refine q4z ?_) | (show q1j ..; (refine q0u (r := ?_) ?_ ?_; rotate_left 1; (focus exact hh))) | (show q0d ..; first | refine q0h ?_ | refine q0b ?_ | refine q0q ?_ | refine q0n ?_ | refine q0j ?_) | (show q0o ..; refine cd_t ?_) | refine q0a ?_ | refine q0t ?_)
        refine again (n + 1, acc ++ [x.id], rid) ⟨hlt, hr, hs'⟩ (by simp only; omega) ?_
        simp only [q2t, q2v, q2u]
        (refine q1n ?_ ?_ <;> repeat' (first | exact q0v | exact q0y | refine q0p (by (try simp only [go_sem, *]); try rfl) (by simp only [go_sem, *]) ?_ | refine q0z (by (try simp only [go_sem, *]); try rfl) (by omega) (by simp only [go_sem, *]) ?_ | refine q0x (by (try simp only [go_sem, *]); try rfl) (by omega) (by simp only [go_sem, *]) ?_))
    | false =>
      rw [hc] at hh
      have hs' := hold_no hx hc
      rw [hs] at hs'
      rcases q4a acc with hnil | hne
      · subst hnil
        simp only [q2a, q2c, q2b]
        repeat' (first | (show q0i ..; first | refine q0c ?_ | refine q0e rfl ?_) | (show q0k ..; first | refine q0f rfl rfl ?_ | refine q0m rfl ?_) | (show goOn ..; refine q0g ?_) | (show q1j ..; (refine q0u (r := ?_) ?_ ?_; rotate_left 1; (focus exact hh))) | (show q0d ..; first | refine q0h ?_ | refine q0b ?_ | refine q0q ?_ | refine q0n ?_ | refine q0j ?_) | (show q0o ..; first | refine cd_t ?_ | refine cd_f ?_) | refine q0a ?_ | refine q0t ?_)
        refine again (n + 1, [], 1) ⟨hlt, Nat.le_refl _, hs'⟩ (by simp only; omega) ?_
        simp only [q2a, q2c, q2b]
        (refine q1n ?_ ?_ <;> repeat' (first | exact q0v | exact q0y | refine q0p (by (try simp only [go_sem, *]); try rfl) (by simp only [go_sem, *]) ?_ | refine q0z (by (try simp only [go_sem, *]); try rfl) (by omega) (by simp only [go_sem, *]) ?_ | refine q0x (by (try simp only [go_sem, *]); try rfl) (by omega) (by simp only [go_sem, *]) ?_))
      · simp only [q2y hne, q3a hne, q2z hne]
        repeat' (first | (show q0i ..; first | refine q0c ?_ | refine q0e rfl ?_) | (show q0k ..; first | refine q0f rfl rfl ?_ | refine q0m rfl ?_) | (show goOn ..; refine q0g ?_) | (show q1j ..; (refine q0u (r := ?_) ?_ ?_; rotate_left 1; (focus exact hh))) | (show q0d ..; first | refine q0h ?_ | refine q0b ?_ | refine q0q ?_ | refine q0n ?_ | refine q0j ?_) | (show q0o ..; first | refine cd_t ?_ | refine cd_f ?_) | refine q0a ?_ | refine q0t ?_)
        refine again (n + 1, acc, rid) ⟨hlt, hr, hs'⟩ (by simp only; omega) ?_
        simp only [q2y hne, q3a hne, q2z hne]
        (refine q1n ?_ ?_ <;> repeat' (first | exact q0v | exact q0y | refine q0p (by (try simp only [go_sem, *]); try rfl) (by simp only [go_sem, *]) ?_ | refine q0z (by (try simp only [go_sem, *]); try rfl) (by omega) (by simp only [go_sem, *]) ?_ | refine q0x (by (try simp only [go_sem, *]); try rfl) (by omega) (by simp only [go_sem, *]) ?_))
  · have h0 := q1w hge
    rw [hold_all w id hge] at hs
    rw [hs]
    rcases q4a acc with hnil | hne
    · subst hnil
      simp only [q2a, q2c, q2b]
      repeat' (first | (show q0i ..; first | refine q0c ?_ | refine q0e rfl ?_) | (show q0k ..; refine q0f rfl rfl ?_) | (show goOn ..; refine q0g ?_) | (show q0d ..; first | refine q0h ?_ | refine q0b ?_ | refine q0r ?_ | refine q1q ?_ | refine q0j ?_) | (show q0o ..; refine cd_f ?_) | refine q0a ?_ | refine q1p ?_ | refine q1r ?_ | (show retQ ..; refine q0s ?_) | refine q0l ?_)
      rfl
    · simp only [q2y hne, q3a hne, q2z hne]
      repeat' (first | (show q0i ..; first | refine q0c ?_ | refine q0e rfl ?_) | (show q0k ..; refine q0f rfl rfl ?_) | (show goOn ..; refine q0g ?_) | (show q0d ..; first | refine q0h ?_ | refine q0b ?_ | refine q0r ?_ | refine q1q ?_ | refine q0j ?_) | (show q0o ..; refine cd_f ?_) | refine q0a ?_ | refine q1p ?_ | refine q1r ?_ | (show retQ ..; refine q0s ?_) | refine q0l ?_)
      rfl
theorem r14_uses (w : Wd) (o : Ob) (hf : FewW w) (hl : o.links.length ≤ 100000) : Pure Tryz.prog 112 [.agg (Wd.enc w), .agg (Ob.enc o)] (.int .i64 (usesR w o)) := by
  have hn20 := hf.n
  have hp := r13_pages o
  refine q2d (by kernel_rfl) (by simp only [go_sem, *]) (by simp only [go_sem, *]) Tryz.func112 Tryz.results112 rfl (by simp [Tryz.ntmps112]) (by kernel_rfl) ?_
  repeat' (first | (show q0i ..; first | refine q0c ?_ | refine q0e rfl ?_) | (show q0k ..; first | refine q0f rfl rfl ?_ | refine q0m rfl ?_) | (show goOn ..; first | refine q0g ?_ | refine q1d ?_) | (show q1j ..; (refine q0u (r := ?_) ?_ ?_; rotate_left 1; (focus exact hp))) | (show q0d ..; first | refine q0h ?_ | refine q0b ?_ | refine q0n ?_) | refine q0a ?_)
  refine q2q (S := Nat) (fun n => o.links.length - n) (fun n => n ≤ o.links.length) (fun n => [(2, .ptr 0 0), (3, .ptr 1 0), (5, .int .i64 (usesN w o n)), (6, .int .i64 n)]) (fun _ => [(0, .box (Wd.enc w)), (1, .box (Ob.enc o))]) (fun _ => 2) 0 (Nat.zero_le _) (by (refine q1n ?_ ?_ <;> repeat' (first | exact q0v | exact q0y | refine q0p (by (try simp only [go_sem, *]); try rfl) (by simp only [go_sem, *]) ?_ | refine q0z (by (try simp only [go_sem, *]); try rfl) (by omega) (by simp only [go_sem, *]) ?_ | refine q0x (by (try simp only [go_sem, *]); try rfl) (by omega) (by simp only [go_sem, *]) ?_))) ?_
  intro n hn
  rcases Nat.lt_or_ge n o.links.length with hlt | hge
  · obtain ⟨x, hx⟩ := q2f hlt
    have h0 := q2k hlt
    have h4 := q2e n (by omega)
    have h5 := uses_succ (w := w) hx
    have hfd := q5y w x (by omega)
    repeat' (first | (show q0i ..; first | refine q0c ?_ | refine q0e rfl ?_) | (show q0k ..; refine q0f rfl rfl ?_) | (show goOn ..; refine q0g ?_) | (show dr ..; first | refine q1y ?_ | refine dr_n rfl ?_) | (show drGo ..; first | refine q3b rfl ?_ | refine q2l rfl ?_) | (show drOn ..; first | refine q1z ?_ | refine dn_new ?_ | refine q7m ?_) | (show q5w ..; refine q4t ?_) | (show q2h ..; (refine q1f (r := ?_) ?_ ?_; rotate_left 1; (focus exact hfd))) | (refine And.intro (by kernel_rfl : q1l _ = true) ?_) | (show q0d ..; first | refine q0h ?_ | refine q0b ?_ | refine q1k (by kernel_rfl) ?_ | refine q0q ?_ | refine q0n ?_ | refine q0j ?_) | (show q0o ..; refine cd_t ?_) | refine q0a ?_ | refine q0t ?_)
    exact again (n + 1) (show n + 1 ≤ o.links.length from hlt) (show o.links.length - (n + 1) < o.links.length - n by omega) (by (refine q1n ?_ ?_ <;> repeat' (first | exact q0v | exact q0y | refine q0p (by (try simp only [go_sem, *]); try rfl) (by simp only [go_sem, *]) ?_ | refine q0z (by (try simp only [go_sem, *]); try rfl) (by omega) (by simp only [go_sem, *]) ?_ | refine q0x (by (try simp only [go_sem, *]); try rfl) (by omega) (by simp only [go_sem, *]) ?_)))
  · have h0 := q1w hge
    have e : usesN w o n = usesR w o := by unfold usesN usesR; rw [List.take_of_length_le hge]
    repeat' (first | (show q0i ..; first | refine q0c ?_ | refine q0e rfl ?_) | (show q0k ..; refine q0f rfl rfl ?_) | (show goOn ..; refine q0g ?_) | (show q0d ..; first | refine q0h ?_ | refine q0b ?_ | refine q0r ?_ | refine q1q ?_ | refine q0j ?_) | (show q0o ..; refine cd_f ?_) | refine q0a ?_ | refine q1p ?_ | refine q1r ?_ | (show retQ ..; refine q0s ?_) | refine q0l ?_)
    rfl
theorem r14_above (w : Wd) (id : Int) (hw : w.L) (hf : FewW w) : Pure Tryz.prog 165 [.agg (Wd.enc w), .int .u64 id] (.sl ((above w id).map u64)) := by
  have hn20 := hf.n
  obtain ⟨R, hR⟩ : ∃ R, R = above w id := ⟨_, rfl⟩
  have hR0 : q8u w (w.objects.length + 1) id [] = R := hR.symm
  rw [← hR]
  clear hR
  refine q2d (by kernel_rfl) (by simp only [go_sem, *]) (by simp only [go_sem, *]) Tryz.func165 Tryz.results165 rfl (by simp [Tryz.ntmps165]) (by kernel_rfl) ?_
  repeat' (first | (show q0i ..; first | refine q0c ?_ | refine q0e rfl ?_) | (show q0k ..; refine q0f rfl rfl ?_) | (show goOn ..; first | refine q0g ?_ | refine q1d ?_) | (show q0d ..; first | refine q0h ?_ | refine q0b ?_ | refine q0n ?_) | refine q0a ?_)
  refine q2q (S := Int × List Int × Nat) (fun s => w.objects.length + 1 - s.2.1.length) (fun s => s.2.1.length ≤ w.objects.length + 1 ∧ 1 ≤ s.2.2 ∧ q8u w (w.objects.length + 1 - s.2.1.length) s.1 s.2.1 = R) (fun s => [(1, .int .u64 s.1), (2, .ptr 0 0), (5, accV s.2.2 s.2.1)]) (fun s => (0, .box (Wd.enc w)) :: accG s.2.2 22 1 u64 s.2.1) (fun s => accM 1 s.2.2 s.2.1) (id, [], 1) ⟨Nat.zero_le _, Nat.le_refl _, hR0⟩ (by simp only [q2a, q2c, q2b]; (refine q1n ?_ ?_ <;> repeat' (first | exact q0v | exact q0y | refine q0p (by (try simp only [go_sem, *]); try rfl) (by simp only [go_sem, *]) ?_ | refine q0z (by (try simp only [go_sem, *]); try rfl) (by omega) (by simp only [go_sem, *]) ?_ | refine q0x (by (try simp only [go_sem, *]); try rfl) (by omega) (by simp only [go_sem, *]) ?_))) ?_
  rintro ⟨i, acc, rid⟩ ⟨hn, hr, hs⟩
  simp only at hn hr hs
  have ha : acc.length < 1000000 := by omega
  have hb1 := q6p ha
  have hb2 := q8a (b := 8) ha (by decide)
  have i0 : (rid = 0) = False := eq_false (by omega)
  have i1 : (0 = rid) = False := eq_false (by omega)
  have hho := q9w w i hw hf
  have hhl := q7t w i
  rcases Nat.lt_or_ge w.objects.length acc.length with hbig | hle
  · have hc : decide ((acc.length : Int) ≤ (w.objects.length : Int)) = false := decide_eq_false (by omega)
    have hRn : R = [] := by rw [← hs, show w.objects.length + 1 - acc.length = 0 by omega]; rfl
    subst hRn
    rcases q4a acc with hnil | hne
    · subst hnil; simp at hbig
    · clear hs hR0
      simp only [q2y hne, q3a hne, q2z hne]
      repeat' (first | (show q0i ..; first | refine q0c ?_ | refine q0e rfl ?_) | (show q0k ..; refine q0f rfl rfl ?_) | (show goOn ..; refine q0g ?_) | (show q0d ..; first | refine q0h ?_ | refine q0b ?_ | refine q0r ?_ | refine q1q ?_ | refine q0j ?_) | (show q0o ..; refine cd_f ?_) | refine q0a ?_ | refine q1p ?_ | refine q1r ?_ | (show retQ ..; refine q0s ?_) | refine q0l ?_)
      rfl
  · have hc : decide ((acc.length : Int) ≤ (w.objects.length : Int)) = true := decide_eq_true (by omega)
    have hc0 : decide (((0 : Nat) : Int) ≤ (w.objects.length : Int)) = true := decide_eq_true (by omega)
    obtain ⟨f, hfu⟩ : ∃ f, w.objects.length + 1 - acc.length = f + 1 := ⟨w.objects.length - acc.length, by omega⟩
    rw [hfu] at hs
    unfold q8u at hs
    cases hh : q2w w i with
    | nil =>
      rw [hh] at hho hs
      simp only at hs
      subst hs
      clear hh hR0 hfu
      rcases q4a acc with hnil | hne
      · subst hnil
        simp only [q2a, q2c, q2b]
        repeat' (first | (show q0i ..; first | refine q0c ?_ | refine q0e rfl ?_) | (show q0k ..; first | refine q0f rfl rfl ?_ | refine q0m rfl ?_) | (show goOn ..; refine q0g ?_) | (show q1j ..; (refine q0u (r := ?_) ?_ ?_; rotate_left 1; (focus exact hho))) | (show q0d ..; first | refine q0h ?_ | refine q0b ?_ | refine q0r ?_ | refine q0q ?_ | refine q0n ?_ | refine q0j ?_) | (show q0o ..; refine cd_t ?_) | refine q0a ?_ | refine q1v ?_ | refine q3m ?_ | (show retQ ..; refine q0s ?_) | refine q0l ?_)
        all_goals rfl
      · simp only [q2y hne, q3a hne, q2z hne]
        repeat' (first | (show q0i ..; first | refine q0c ?_ | refine q0e rfl ?_) | (show q0k ..; first | refine q0f rfl rfl ?_ | refine q0m rfl ?_) | (show goOn ..; refine q0g ?_) | (show q1j ..; (refine q0u (r := ?_) ?_ ?_; rotate_left 1; (focus exact hho))) | (show q0d ..; first | refine q0h ?_ | refine q0b ?_ | refine q0r ?_ | refine q0q ?_ | refine q0n ?_ | refine q0j ?_) | (show q0o ..; refine cd_t ?_) | refine q0a ?_ | refine q1v ?_ | refine q3m ?_ | (show retQ ..; refine q0s ?_) | refine q0l ?_)
        all_goals rfl
    | cons h t =>
      rw [hh] at hho hs
      simp only at hs
      have hz : (((h :: t).length : Int) == 0) = false := by simp; omega
      have hx0 : (h :: t)[0]? = some h := rfl
      clear hh hR0
      generalize h :: t = L at hho hz hx0
      rcases q4a acc with hnil | hne
      · subst hnil
        simp only [q2a, q2c, q2b]
        repeat' (first | (show q0i ..; first | refine q0c ?_ | refine q0e rfl ?_) | (show q0k ..; first | refine q0f rfl rfl ?_ | refine q0m rfl ?_) | (show goOn ..; first | refine q0g ?_ | refine q5g ?_) | (show q1j ..; (refine q0u (r := ?_) ?_ ?_; rotate_left 1; (focus exact hho))) | (show q0d ..; first | refine q0h ?_ | refine q0b ?_ | refine q0q ?_ | refine q0n ?_ | refine q0j ?_) | (show q0o ..; first | refine cd_t ?_ | refine cd_f ?_) | refine q0a ?_ | refine q0t ?_)
        refine again (h, [] ++ [h], 1) ⟨(by simp), Nat.le_refl _, by rw [← hs]; congr 1; simp only [List.length_nil, List.nil_append, List.length_cons] at hfu ⊢; omega⟩ (by simp) ?_
        simp only [q2t, q2v, q2u]
        (refine q1n ?_ ?_ <;> repeat' (first | exact q0v | exact q0y | refine q0p (by (try simp only [go_sem, *]); try rfl) (by simp only [go_sem, *]) ?_ | refine q0z (by (try simp only [go_sem, *]); try rfl) (by omega) (by simp only [go_sem, *]) ?_ | refine q0x (by (try simp only [go_sem, *]); try rfl) (by omega) (by simp only [go_sem, *]) ?_))
      · simp only [q2y hne, q3a hne, q2z hne]
        repeat' (first | (show q0i ..; first | refine q0c ?_ | refine q0e rfl ?_) | (show q0k ..; first | refine q0f rfl rfl ?_ | refine q0m rfl ?_) | (show goOn ..; first | refine q0g ?_ | refine q4z ?_) | (show q1j ..; (refine q0u (r := ?_) ?_ ?_; rotate_left 1; (focus exact hho))) | (show q0d ..; first | refine q0h ?_ | refine q0b ?_ | refine q0q ?_ | refine q0n ?_ | refine q0j ?_) | (show q0o ..; first | refine cd_t ?_ | refine cd_f ?_) | refine q0a ?_ | refine q0t ?_)
        refine again (h, acc ++ [h], rid) ⟨(by simp only [List.length_append, List.length_cons, List.length_nil]; omega), hr, by rw [← hs]; congr 1; simp only [List.length_append, List.length_cons, List.length_nil]; omega⟩ (by simp only [List.length_append, List.length_cons, List.length_nil]; omega) ?_
        simp only [q2t, q2v, q2u]
        (refine q1n ?_ ?_ <;> repeat' (first | exact q0v | exact q0y | refine q0p (by (try simp only [go_sem, *]); try rfl) (by simp only [go_sem, *]) ?_ | refine q0z (by (try simp only [go_sem, *]); try rfl) (by omega) (by simp only [go_sem, *]) ?_ | refine q0x (by (try simp only [go_sem, *]); try rfl) (by omega) (by simp only [go_sem, *]) ?_))
theorem r14_up (w : Wd) (id : Int) (hw : w.L) (hf : FewW w) : Pure Tryz.prog 114 [.agg (Wd.enc w), .int .u64 id] (.bool (upR w id)) := by
  have hab := r14_above w id hw hf
  have hlen := above_len w id
  have hn20 := hf.n
  unfold upR
  generalize above w id = l at hab hlen
  rcases q4a l with hnil | hne
  · subst hnil
    have e1 : (((0 : Nat) : Int) == 0) = true := rfl
    have e2 : decide (((0 : Nat) : Int) > 0) = false := rfl
    refine q2d (by kernel_rfl) (by simp only [go_sem, *]) (by simp only [go_sem, *]) Tryz.func114 Tryz.results114 rfl (by simp [Tryz.ntmps114]) (by kernel_rfl) ?_
    repeat' (first | (show q0i ..; first | refine q0c ?_ | refine q0e rfl ?_) | (show q0k ..; first | refine q0f rfl rfl ?_ | refine q0m rfl ?_) | (show goOn ..; first | refine q0g ?_ | refine q1d ?_) | (show q1j ..; (refine q0u (r := ?_) ?_ ?_; rotate_left 1; (focus exact hab))) | (show wGo ..; first | refine q3n ?_ | refine q4e ?_ | refine q3x ?_ | refine q5b ?_ | refine gw_u ?_ | refine q8d (fun _ => ?_) (fun _ => ?_)) | (show dr ..; first | refine q1y ?_ | refine dr_n rfl ?_ | refine q6b rfl rfl ?_) | (show drGo ..; refine q3b rfl ?_) | (show drOn ..; refine q1z ?_) | (refine And.intro (by kernel_rfl : q1l _ = true) ?_) | (show q0d ..; first | refine q0h ?_ | refine q0b ?_ | refine q1k (by kernel_rfl) ?_ | refine q0r ?_) | refine q0a ?_ | (show retQ ..; refine q0s ?_) | refine q0l ?_)
    all_goals (refine q1o ?_; simp [*])
  · have hpos : 0 < l.length := List.length_pos_iff.2 hne
    obtain ⟨z, hz⟩ := q2f (by omega : l.length - 1 < l.length)
    have e1 : ((l.length : Int) == 0) = false := by simp; omega
    have e2 : decide ((l.length : Int) > 0) = true := decide_eq_true (by omega)
    have e3 : IntKind.i64.wrap ((l.length : Int) - 1) = ((l.length - 1 : Nat) : Int) := by rw [IntKind.wrap_i64]; omega
    have e4 : (l.length == 0) = false := by simp; omega
    rw [hz, e4]
    refine q2d (by kernel_rfl) (by simp only [go_sem, *]) (by simp only [go_sem, *]) Tryz.func114 Tryz.results114 rfl (by simp [Tryz.ntmps114]) (by kernel_rfl) ?_
    repeat' (first | (show q0i ..; first | refine q0c ?_ | refine q0e rfl ?_) | (show q0k ..; first | refine q0f rfl rfl ?_ | refine q0m rfl ?_) | (show goOn ..; first | refine q0g ?_ | refine q1d ?_) | (show q1j ..; (refine q0u (r := ?_) ?_ ?_; rotate_left 1; (focus exact hab))) | (show wGo ..; first | refine q3n ?_ | refine q4e ?_ | refine q3x ?_ | refine q8d (fun _ => ?_) (fun _ => ?_)) | (show dr ..; first | refine q1y ?_ | refine dr_n rfl ?_ | refine q6b rfl rfl ?_) | (show drGo ..; refine q3b rfl ?_) | (show drOn ..; refine q1z ?_) | (refine And.intro (by kernel_rfl : q1l _ = true) ?_) | (show q0d ..; first | refine q0h ?_ | refine q0b ?_ | refine q1k (by kernel_rfl) ?_ | refine q0r ?_) | refine q0a ?_ | (show retQ ..; refine q0s ?_) | refine q0l ?_)
    all_goals (refine q1o ?_; simp [*])
theorem r14_placed (w : Wd) (o : Ob) (hw : w.L) (hf : FewW w) : Pure Tryz.prog 55 [.agg (Wd.enc w), .agg (Ob.enc o)] (.bool (q8l w o)) := by
  have hho := q9w w o.id hw hf
  have hup := r14_up w o.id hw hf
  unfold q8l
  generalize q2w w o.id = l at hho
  generalize upR w o.id = u at hup
  refine q2d (by kernel_rfl) (by simp only [go_sem, *]) (by simp only [go_sem, *]) Tryz.func55 Tryz.results55 rfl (by simp [Tryz.ntmps55]) (by kernel_rfl) ?_
  repeat' (first | (show q0i ..; first | refine q0c ?_ | refine q0e rfl ?_ | refine q1b rfl rfl ?_) | (show q0k ..; first | refine q0f rfl rfl ?_ | refine q0m rfl ?_) | (show goOn ..; first | refine q0g ?_ | refine q1d ?_) | (show q1j ..; (refine q0u (r := ?_) ?_ ?_; rotate_left 1; (focus first | exact hho | exact hup))) | (show wGo ..; first | refine q3n ?_ | refine q4e ?_ | refine q3x ?_ | refine q5b ?_ | refine gw_u ?_ | refine q9i (fun _ => ?_) (fun _ => ?_) | refine q8d (fun _ => ?_) (fun _ => ?_) | refine gw_fb (fun _ => ?_) (fun _ => ?_)) | (show q0d ..; first | refine q0h ?_ | refine q0b ?_ | refine q0r ?_ | refine q0q ?_ | refine q0j ?_) | (show q0o ..; first | refine cd_t ?_ | refine cd_f ?_ | refine cd_b (fun _ => ?_) (fun _ => ?_)) | refine q0a ?_ | refine q1v ?_ | (show retQ ..; refine q0s ?_) | refine q0l ?_)
  all_goals (refine q1o ?_; first | (simp only [*, Bool.not_true, Bool.not_false, Bool.and_true, Bool.true_and, Bool.and_false, Bool.false_and, Bool.or_true, Bool.true_or, Bool.or_false, Bool.false_or, Bool.and_self, Bool.or_self, decide_true, decide_false, Bool.not_not, if_true, if_false, Bool.false_eq_true, eq_self]; done) | (simp [*]; done) | (simp_all; done))
end Go.Proofs.YtoibbedpaaeclaaGreat
end

section
namespace Go.Proofs.YtoibbedpaaeclaaGreat
open Go Go.RowKit
set_option linter.unusedVariables false
set_option linter.unusedSimpArgs false
set_option maxHeartbeats 16000000
set_option maxRecDepth 100000
attribute [local go_sem] List.length_append
def wst (c lev : Int) (s : List Pr × Bool) (x : Pr) : List Pr × Bool :=
  if (x.cat != c) = true then ((if (!s.2 && decide (x.cat > c)) = true then (s.1 ++ [⟨c, lev⟩], true) else s).1 ++ [x], (if (!s.2 && decide (x.cat > c)) = true then (s.1 ++ [⟨c, lev⟩], true) else s).2)
  else if (!s.2 && decide (x.cat > c)) = true then (s.1 ++ [⟨c, lev⟩], true) else s
def q8e (l : List Pr) (c lev : Int) (n : Nat) : List Pr × Bool := (l.take n).foldl (wst c lev) ([], lev == 2)
def q6r (l : List Pr) (c lev : Int) : List Pr := if (q8e l c lev l.length).2 = true then (q8e l c lev l.length).1 else (q8e l c lev l.length).1 ++ [⟨c, lev⟩]
theorem withN_succ {l : List Pr} {c lev : Int} {n : Nat} {x : Pr} (hx : l[n]? = some x) : q8e l c lev (n + 1) = wst c lev (q8e l c lev n) x := by
  unfold q8e; rw [q3u hx, List.foldl_append]; rfl
theorem wst_mu (c lev : Int) : ∀ (l : List Pr) (s : List Pr × Bool), (l.foldl (wst c lev) s).1.length + (if (l.foldl (wst c lev) s).2 = true then 0 else 1) ≤ s.1.length + (if s.2 = true then 0 else 1) + l.length
  | [], s => by simp only [List.foldl_nil, List.length_nil, Nat.add_zero]; exact Nat.le_refl _
  | x :: l, s => by
    rw [List.foldl_cons]
    have h1 := wst_mu c lev l (wst c lev s x)
    have h2 : (wst c lev s x).1.length + (if (wst c lev s x).2 = true then 0 else 1) ≤ s.1.length + (if s.2 = true then 0 else 1) + 1 := by
      obtain ⟨a, b⟩ := s
      unfold wst
      cases b <;> by_cases h1 : (x.cat != c) = true <;> by_cases h2 : decide (x.cat > c) = true <;> simp [h1, h2]
    simp only [List.length_cons]
    omega
theorem withN_len (l : List Pr) (c lev : Int) (n : Nat) : (q8e l c lev n).1.length ≤ l.length + 1 := by
  have := wst_mu c lev (l.take n) ([], lev == 2)
  have h2 : (l.take n).length ≤ l.length := by rw [List.length_take]; omega
  unfold q8e
  simp only [List.length_nil] at this
  split at this <;> split at this <;> omega
theorem withR_len (l : List Pr) (c lev : Int) : (q6r l c lev).length ≤ l.length + 1 := by
  have := wst_mu c lev (l.take l.length) ([], lev == 2)
  rw [List.take_length] at this
  unfold q6r q8e
  rw [List.take_length]
  simp only [List.length_nil] at this
  split
  · rename_i h; rw [if_pos h] at this; split at this <;> omega
  · rename_i h; rw [if_neg h] at this; simp only [List.length_append, List.length_cons, List.length_nil]; split at this <;> omega
def q3t (a b : Int) : Int := if decide (q6t a > q6t b) = true then q6t a else q6t b
def joinN (a : List Pr) (n : Nat) : List Pr := (a.take n).foldl (fun out p => q6r out p.cat (q3t p.lev 2)) a
def q5t (a : List Pr) : List Pr := a.foldl (fun out p => q6r out p.cat (q3t p.lev 2)) a
theorem joinN_succ {a : List Pr} {n : Nat} {x : Pr} (hx : a[n]? = some x) : joinN a (n + 1) = q6r (joinN a n) x.cat (q3t x.lev 2) := by
  unfold joinN; rw [q3u hx, List.foldl_append]; rfl
theorem join_fold : ∀ (l a : List Pr), (l.foldl (fun out p => q6r out p.cat (q3t p.lev 2)) a).length ≤ a.length + l.length
  | [], a => by simp
  | x :: l, a => by
    rw [List.foldl_cons]
    have h1 := join_fold l (q6r a x.cat (q3t x.lev 2))
    have h2 := withR_len a x.cat (q3t x.lev 2)
    simp only [List.length_cons]
    omega
theorem joinN_len (a : List Pr) (n : Nat) : (joinN a n).length ≤ 2 * a.length := by
  have := join_fold (a.take n) a
  have h2 : (a.take n).length ≤ a.length := by rw [List.length_take]; omega
  unfold joinN; omega
theorem joinNil_len (a : List Pr) : (q5t a).length ≤ 2 * a.length := by have := join_fold a a; unfold q5t; omega
def q6w (d o : List Pr) : Bool := leqR d (q5t (o.map upPr))
def q7q (w : Wd) (d : Ob) (k : Nat) : Bool := match d.links[k]? with
  | some id => (q2p w id).2 && q6w d.label (q2p w id).1.label
  | none => true
def q9p (w : Wd) (d : Ob) : Bool := allB d.links.length (q7q w d) && ((d.kind != 2) || decide (usesR w d ≤ d.quota))
attribute [local irreducible] q0i dr q0d Ex.then Ex.inBlock retQ q1l q2j q2g Pure CSat evOp q1i rdOf upd hset strip sp0 cut envL q1g q3q Keep BdL evBs q2s q3c
theorem r2_with (l : List Pr) (c lev : Int) (hl : l.length ≤ 100000) : Pure Tryz.prog 92 [.sl (l.map Pr.enc), .int .u64 c, .int .i64 lev] (.sl ((q6r l c lev).map Pr.enc)) := by
  obtain ⟨R, hR⟩ : ∃ R, R = q6r l c lev := ⟨_, rfl⟩
  rw [← hR]
  unfold q6r at hR
  refine q2d (by kernel_rfl) (by simp only [go_sem, *]) (by simp only [go_sem, *]) Tryz.func92 Tryz.results92 rfl (by simp [Tryz.ntmps92]) (by kernel_rfl) ?_
  repeat' (first | (show q0i ..; first | refine q0c ?_ | refine q0e rfl ?_) | (show q0k ..; refine q0f rfl rfl ?_) | (show goOn ..; refine q0g ?_) | (show q0d ..; first | refine q0h ?_ | refine q0b ?_ | refine q0n ?_) | refine q0a ?_)
  refine q2q (S := Nat × List Pr × Bool × Nat) (fun s => l.length - s.1) (fun s => s.1 ≤ l.length ∧ q8e l c lev s.1 = (s.2.1, s.2.2.1)) (fun s => [(0, .sl (l.map Pr.enc)), (1, .int .u64 c), (2, .int .i64 lev), (7, accV s.2.2.2 s.2.1), (8, .bool s.2.2.1), (9, .int .i64 s.1)]) (fun s => accG s.2.2.2 76 2 Pr.enc s.2.1) (fun s => accM 0 s.2.2.2 s.2.1) (0, [], lev == 2, 0) ⟨Nat.zero_le _, rfl⟩ (by simp only [q2a, q2c, q2b]; (refine q1n ?_ ?_ <;> repeat' (first | exact q0v | exact q0y | refine q0p (by (try simp only [go_sem, *]); try rfl) (by simp only [go_sem, *]) ?_ | refine q0z (by (try simp only [go_sem, *]); try rfl) (by omega) (by simp only [go_sem, *]) ?_ | refine q0x (by (try simp only [go_sem, *]); try rfl) (by omega) (by simp only [go_sem, *]) ?_))) ?_
  rintro ⟨n, acc, done, id⟩ ⟨hn, hs⟩
  simp only at hn hs
  have ha : acc.length < 900000 := by
    have := withN_len l c lev n
    rw [hs] at this
    simp only at this
    omega
  have hb1 := q6p (k := acc.length) (by omega)
  have hb2 := q8a (b := 16) (k := acc.length) (by omega) (by decide)
  have hb3 := q6p (k := acc.length + 1) (by omega)
  have hb4 := q8a (b := 16) (k := acc.length + 1) (by omega) (by decide)
  have hb5 := q8a (b := 16) (k := 0) (by omega) (by decide)
  have hb6 := q8a (b := 16) (k := 1) (by omega) (by decide)
  have hb7 := q6p (k := 1) (by omega)
  rcases Nat.lt_or_ge n l.length with hlt | hge
  · obtain ⟨x, hx⟩ := q2f hlt
    have h0 := q2k hlt
    have h4 := q2e n (by omega)
    have hst := withN_succ (c := c) (lev := lev) hx
    rw [hs] at hst
    clear hR
    cases c2 : (x.cat != c) with
    | true =>
      cases done with
      | true =>
        have hst : q8e l c lev (n + 1) = (acc ++ [x], true) := by rw [hst]; unfold wst; simp [c2]
        rcases q4a acc with hnil | hne
        · subst hnil
          simp only [q2a, q2c, q2b]
          repeat' (first | (show q0i ..; first | refine q0c ?_ | refine q0e rfl ?_ | refine q1b rfl rfl ?_) | (show q0k ..; refine q0f rfl rfl ?_) | (show goOn ..; first | refine q0g ?_ | refine q5g ?_) | (show wGo ..; refine q3x ?_) | (show q0d ..; first | refine q0h ?_ | refine q0b ?_ | refine q0q ?_ | refine q0n ?_ | refine q0j ?_) | (show q0o ..; first | refine cd_t ?_ | refine cd_f ?_) | refine q0a ?_ | refine q0t ?_)
          refine again (n + 1, [] ++ [x], true, 0) ⟨hlt, hst⟩ (by simp only; omega) ?_
          simp only [q2t, q2v, q2u]
          (refine q1n ?_ ?_ <;> repeat' (first | exact q0v | exact q0y | refine q0p (by (try simp only [go_sem, *]); try rfl) (by simp only [go_sem, *]) ?_ | refine q0z (by (try simp only [go_sem, *]); try rfl) (by omega) (by simp only [go_sem, *]) ?_ | refine q0x (by (try simp only [go_sem, *]); try rfl) (by omega) (by simp only [go_sem, *]) ?_))
        · simp only [q2y hne, q3a hne, q2z hne]
          repeat' (first | (show q0i ..; first | refine q0c ?_ | refine q0e rfl ?_ | refine q1b rfl rfl ?_) | (show q0k ..; refine q0f rfl rfl ?_) | (show goOn ..; first | refine q0g ?_ | refine q4z ?_) | (show wGo ..; refine q3x ?_) | (show q0d ..; first | refine q0h ?_ | refine q0b ?_ | refine q0q ?_ | refine q0n ?_ | refine q0j ?_) | (show q0o ..; first | refine cd_t ?_ | refine cd_f ?_) | refine q0a ?_ | refine q0t ?_)
          refine again (n + 1, acc ++ [x], true, id) ⟨hlt, hst⟩ (by simp only; omega) ?_
          simp only [q2t, q2v, q2u]
          (refine q1n ?_ ?_ <;> repeat' (first | exact q0v | exact q0y | refine q0p (by (try simp only [go_sem, *]); try rfl) (by simp only [go_sem, *]) ?_ | refine q0z (by (try simp only [go_sem, *]); try rfl) (by omega) (by simp only [go_sem, *]) ?_ | refine q0x (by (try simp only [go_sem, *]); try rfl) (by omega) (by simp only [go_sem, *]) ?_))
      | false =>
        cases c1 : decide (x.cat > c) with
        | true =>
          have hst : q8e l c lev (n + 1) = (acc ++ [⟨c, lev⟩] ++ [x], true) := by rw [hst]; unfold wst; simp [c1, c2]
          rcases q4a acc with hnil | hne
          · subst hnil
            simp only [q2a, q2c, q2b]
            repeat' (first | (show q0i ..; first | refine q0c ?_ | refine q0e rfl ?_ | refine q1b rfl rfl ?_) | (show q0k ..; refine q0f rfl rfl ?_) | (show goOn ..; first | refine q0g ?_ | refine q5g ?_ | refine q4z ?_) | (show wGo ..; refine q3n ?_) | (show q0d ..; first | refine q0h ?_ | refine q0b ?_ | refine q0q ?_ | refine q0n ?_ | refine q0j ?_) | (show q0o ..; refine cd_t ?_) | refine q0a ?_ | refine q0t ?_)
            refine again (n + 1, [] ++ [⟨c, lev⟩] ++ [x], true, 0) ⟨hlt, hst⟩ (by simp only; omega) ?_
            simp only [q2t, q2v, q2u]
            (refine q1n ?_ ?_ <;> repeat' (first | exact q0v | exact q0y | refine q0p (by (try simp only [go_sem, *]); try rfl) (by simp only [go_sem, *]) ?_ | refine q0z (by (try simp only [go_sem, *]); try rfl) (by omega) (by simp only [go_sem, *]) ?_ | refine q0x (by (try simp only [go_sem, *]); try rfl) (by omega) (by simp only [go_sem, *]) ?_))
          · simp only [q2y hne, q3a hne, q2z hne]
            repeat' (first | (show q0i ..; first | refine q0c ?_ | refine q0e rfl ?_ | refine q1b rfl rfl ?_) | (show q0k ..; refine q0f rfl rfl ?_) | (show goOn ..; first | refine q0g ?_ | refine q4z ?_) | (show wGo ..; refine q3n ?_) | (show q0d ..; first | refine q0h ?_ | refine q0b ?_ | refine q0q ?_ | refine q0n ?_ | refine q0j ?_) | (show q0o ..; refine cd_t ?_) | refine q0a ?_ | refine q0t ?_)
            refine again (n + 1, acc ++ [⟨c, lev⟩] ++ [x], true, id) ⟨hlt, hst⟩ (by simp only; omega) ?_
            simp only [q2t, q2v, q2u]
            (refine q1n ?_ ?_ <;> repeat' (first | exact q0v | exact q0y | refine q0p (by (try simp only [go_sem, *]); try rfl) (by simp only [go_sem, *]) ?_ | refine q0z (by (try simp only [go_sem, *]); try rfl) (by omega) (by simp only [go_sem, *]) ?_ | refine q0x (by (try simp only [go_sem, *]); try rfl) (by omega) (by simp only [go_sem, *]) ?_))
        | false =>
          have hst : q8e l c lev (n + 1) = (acc ++ [x], false) := by rw [hst]; unfold wst; simp [c1, c2]
          rcases q4a acc with hnil | hne
          · subst hnil
            simp only [q2a, q2c, q2b]
            repeat' (first | (show q0i ..; first | refine q0c ?_ | refine q0e rfl ?_ | refine q1b rfl rfl ?_) | (show q0k ..; refine q0f rfl rfl ?_) | (show goOn ..; first | refine q0g ?_ | refine q5g ?_) | (show wGo ..; refine q3n ?_) | (show q0d ..; first | refine q0h ?_ | refine q0b ?_ | refine q0q ?_ | refine q0n ?_ | refine q0j ?_) | (show q0o ..; first | refine cd_t ?_ | refine cd_f ?_) | refine q0a ?_ | refine q0t ?_)
            refine again (n + 1, [] ++ [x], false, 0) ⟨hlt, hst⟩ (by simp only; omega) ?_
            simp only [q2t, q2v, q2u]
            (refine q1n ?_ ?_ <;> repeat' (first | exact q0v | exact q0y | refine q0p (by (try simp only [go_sem, *]); try rfl) (by simp only [go_sem, *]) ?_ | refine q0z (by (try simp only [go_sem, *]); try rfl) (by omega) (by simp only [go_sem, *]) ?_ | refine q0x (by (try simp only [go_sem, *]); try rfl) (by omega) (by simp only [go_sem, *]) ?_))
          · simp only [q2y hne, q3a hne, q2z hne]
            repeat' (first | (show q0i ..; first | refine q0c ?_ | refine q0e rfl ?_ | refine q1b rfl rfl ?_) | (show q0k ..; refine q0f rfl rfl ?_) | (show goOn ..; first | refine q0g ?_ | refine q4z ?_) | (show wGo ..; refine q3n ?_) | (show q0d ..; first | refine q0h ?_ | refine q0b ?_ | refine q0q ?_ | refine q0n ?_ | refine q0j ?_) | (show q0o ..; first | refine cd_t ?_ | refine cd_f ?_) | refine q0a ?_ | refine q0t ?_)
            refine again (n + 1, acc ++ [x], false, id) ⟨hlt, hst⟩ (by simp only; omega) ?_
            simp only [q2t, q2v, q2u]
            (refine q1n ?_ ?_ <;> repeat' (first | exact q0v | exact q0y | refine q0p (by (try simp only [go_sem, *]); try rfl) (by simp only [go_sem, *]) ?_ | refine q0z (by (try simp only [go_sem, *]); try rfl) (by omega) (by simp only [go_sem, *]) ?_ | refine q0x (by (try simp only [go_sem, *]); try rfl) (by omega) (by simp only [go_sem, *]) ?_))
    | false =>
      cases done with
      | true =>
        have hst : q8e l c lev (n + 1) = (acc, true) := by rw [hst]; unfold wst; simp [c2]
        rcases q4a acc with hnil | hne
        · subst hnil
          simp only [q2a, q2c, q2b]
          repeat' (first | (show q0i ..; first | refine q0c ?_ | refine q0e rfl ?_ | refine q1b rfl rfl ?_) | (show q0k ..; refine q0f rfl rfl ?_) | (show goOn ..; refine q0g ?_) | (show wGo ..; refine q3x ?_) | (show q0d ..; first | refine q0h ?_ | refine q0b ?_ | refine q0q ?_ | refine q0n ?_ | refine q0j ?_) | (show q0o ..; first | refine cd_t ?_ | refine cd_f ?_) | refine q0a ?_ | refine q0t ?_)
          refine again (n + 1, [], true, 0) ⟨hlt, hst⟩ (by simp only; omega) ?_
          simp only [q2a, q2c, q2b]
          (refine q1n ?_ ?_ <;> repeat' (first | exact q0v | exact q0y | refine q0p (by (try simp only [go_sem, *]); try rfl) (by simp only [go_sem, *]) ?_ | refine q0z (by (try simp only [go_sem, *]); try rfl) (by omega) (by simp only [go_sem, *]) ?_ | refine q0x (by (try simp only [go_sem, *]); try rfl) (by omega) (by simp only [go_sem, *]) ?_))
        · simp only [q2y hne, q3a hne, q2z hne]
          repeat' (first | (show q0i ..; first | refine q0c ?_ | refine q0e rfl ?_ | refine q1b rfl rfl ?_) | (show q0k ..; refine q0f rfl rfl ?_) | (show goOn ..; refine q0g ?_) | (show wGo ..; refine q3x ?_) | (show q0d ..; first | refine q0h ?_ | refine q0b ?_ | refine q0q ?_ | refine q0n ?_ | refine q0j ?_) | (show q0o ..; first | refine cd_t ?_ | refine cd_f ?_) | refine q0a ?_ | refine q0t ?_)
          refine again (n + 1, acc, true, id) ⟨hlt, hst⟩ (by simp only; omega) ?_
          simp only [q2y hne, q3a hne, q2z hne]
          (refine q1n ?_ ?_ <;> repeat' (first | exact q0v | exact q0y | refine q0p (by (try simp only [go_sem, *]); try rfl) (by simp only [go_sem, *]) ?_ | refine q0z (by (try simp only [go_sem, *]); try rfl) (by omega) (by simp only [go_sem, *]) ?_ | refine q0x (by (try simp only [go_sem, *]); try rfl) (by omega) (by simp only [go_sem, *]) ?_))
      | false =>
        cases c1 : decide (x.cat > c) with
        | true =>
          have hst : q8e l c lev (n + 1) = (acc ++ [⟨c, lev⟩], true) := by rw [hst]; unfold wst; simp [c1, c2]
          rcases q4a acc with hnil | hne
          · subst hnil
            simp only [q2a, q2c, q2b]
            repeat' (first | (show q0i ..; first | refine q0c ?_ | refine q0e rfl ?_ | refine q1b rfl rfl ?_) | (show q0k ..; refine q0f rfl rfl ?_) | (show goOn ..; first | refine q0g ?_ | refine q5g ?_) | (show wGo ..; refine q3n ?_) | (show q0d ..; first | refine q0h ?_ | refine q0b ?_ | refine q0q ?_ | refine q0n ?_ | refine q0j ?_) | (show q0o ..; first | refine cd_t ?_ | refine cd_f ?_) | refine q0a ?_ | refine q0t ?_)
            refine again (n + 1, [] ++ [⟨c, lev⟩], true, 0) ⟨hlt, hst⟩ (by simp only; omega) ?_
            simp only [q2t, q2v, q2u]
            (refine q1n ?_ ?_ <;> repeat' (first | exact q0v | exact q0y | refine q0p (by (try simp only [go_sem, *]); try rfl) (by simp only [go_sem, *]) ?_ | refine q0z (by (try simp only [go_sem, *]); try rfl) (by omega) (by simp only [go_sem, *]) ?_ | refine q0x (by (try simp only [go_sem, *]); try rfl) (by omega) (by simp only [go_sem, *]) ?_))
          · simp only [q2y hne, q3a hne, q2z hne]
            repeat' (first | (show q0i ..; first | refine q0c ?_ | refine q0e rfl ?_ | refine q1b rfl rfl ?_) | (show q0k ..; refine q0f rfl rfl ?_) | (show goOn ..; first | refine q0g ?_ | refine q4z ?_) | (show wGo ..; refine q3n ?_) | (show q0d ..; first | refine q0h ?_ | refine q0b ?_ | refine q0q ?_ | refine q0n ?_ | refine q0j ?_) | (show q0o ..; first | refine cd_t ?_ | refine cd_f ?_) | refine q0a ?_ | refine q0t ?_)
            refine again (n + 1, acc ++ [⟨c, lev⟩], true, id) ⟨hlt, hst⟩ (by simp only; omega) ?_
            simp only [q2t, q2v, q2u]
            (refine q1n ?_ ?_ <;> repeat' (first | exact q0v | exact q0y | refine q0p (by (try simp only [go_sem, *]); try rfl) (by simp only [go_sem, *]) ?_ | refine q0z (by (try simp only [go_sem, *]); try rfl) (by omega) (by simp only [go_sem, *]) ?_ | refine q0x (by (try simp only [go_sem, *]); try rfl) (by omega) (by simp only [go_sem, *]) ?_))
        | false =>
          have hst : q8e l c lev (n + 1) = (acc, false) := by rw [hst]; unfold wst; simp [c1, c2]
          rcases q4a acc with hnil | hne
          · subst hnil
            simp only [q2a, q2c, q2b]
            repeat' (first | (show q0i ..; first | refine q0c ?_ | refine q0e rfl ?_ | refine q1b rfl rfl ?_) | (show q0k ..; refine q0f rfl rfl ?_) | (show goOn ..; refine q0g ?_) | (show wGo ..; refine q3n ?_) | (show q0d ..; first | refine q0h ?_ | refine q0b ?_ | refine q0q ?_ | refine q0n ?_ | refine q0j ?_) | (show q0o ..; first | refine cd_t ?_ | refine cd_f ?_) | refine q0a ?_ | refine q0t ?_)
            refine again (n + 1, [], false, 0) ⟨hlt, hst⟩ (by simp only; omega) ?_
            simp only [q2a, q2c, q2b]
            (refine q1n ?_ ?_ <;> repeat' (first | exact q0v | exact q0y | refine q0p (by (try simp only [go_sem, *]); try rfl) (by simp only [go_sem, *]) ?_ | refine q0z (by (try simp only [go_sem, *]); try rfl) (by omega) (by simp only [go_sem, *]) ?_ | refine q0x (by (try simp only [go_sem, *]); try rfl) (by omega) (by simp only [go_sem, *]) ?_))
          · simp only [q2y hne, q3a hne, q2z hne]
            repeat' (first | (show q0i ..; first | refine q0c ?_ | refine q0e rfl ?_ | refine q1b rfl rfl ?_) | (show q0k ..; refine q0f rfl rfl ?_) | (show goOn ..; refine q0g ?_) | (show wGo ..; refine q3n ?_) | (show q0d ..; first | refine q0h ?_ | refine q0b ?_ | refine q0q ?_ | refine q0n ?_ | refine q0j ?_) | (show q0o ..; first | refine cd_t ?_ | refine cd_f ?_) | refine q0a ?_ | refine q0t ?_)
            refine again (n + 1, acc, false, id) ⟨hlt, hst⟩ (by simp only; omega) ?_
            simp only [q2y hne, q3a hne, q2z hne]
            (refine q1n ?_ ?_ <;> repeat' (first | exact q0v | exact q0y | refine q0p (by (try simp only [go_sem, *]); try rfl) (by simp only [go_sem, *]) ?_ | refine q0z (by (try simp only [go_sem, *]); try rfl) (by omega) (by simp only [go_sem, *]) ?_ | refine q0x (by (try simp only [go_sem, *]); try rfl) (by omega) (by simp only [go_sem, *]) ?_))
  · have h0 := q1w hge
    have hn' : n = l.length := by omega
    rw [← hn', hs] at hR
    clear hn' hs
    cases done with
    | true =>
      simp only [if_true] at hR
      subst hR
      rcases q4a R with hnil | hne
      · subst hnil
        simp only [q2a, q2c, q2b]
        repeat' (first | (show q0i ..; first | refine q0c ?_ | refine q0e rfl ?_) | (show q0k ..; refine q0f rfl rfl ?_) | (show goOn ..; refine q0g ?_) | (show q0d ..; first | refine q0h ?_ | refine q0b ?_ | refine q0r ?_ | refine q0q ?_ | refine q1q ?_ | refine q0j ?_) | (show q0o ..; refine cd_f ?_) | refine q0a ?_ | refine q1p ?_ | refine q1r ?_ | (show retQ ..; refine q0s ?_) | refine q0l ?_)
        rfl
      · simp only [q2y hne, q3a hne, q2z hne]
        repeat' (first | (show q0i ..; first | refine q0c ?_ | refine q0e rfl ?_) | (show q0k ..; refine q0f rfl rfl ?_) | (show goOn ..; refine q0g ?_) | (show q0d ..; first | refine q0h ?_ | refine q0b ?_ | refine q0r ?_ | refine q0q ?_ | refine q1q ?_ | refine q0j ?_) | (show q0o ..; refine cd_f ?_) | refine q0a ?_ | refine q1p ?_ | refine q1r ?_ | (show retQ ..; refine q0s ?_) | refine q0l ?_)
        rfl
    | false =>
      simp only [Bool.false_eq_true, if_false] at hR
      subst hR
      rcases q4a acc with hnil | hne
      · subst hnil
        simp only [q2a, q2c, q2b]
        repeat' (first | (show q0i ..; first | refine q0c ?_ | refine q0e rfl ?_) | (show q0k ..; refine q0f rfl rfl ?_) | (show goOn ..; first | refine q0g ?_ | refine q5g ?_) | (show q0d ..; first | refine q0h ?_ | refine q0b ?_ | refine q0r ?_ | refine q1q ?_ | refine q0j ?_) | (show q0o ..; first | refine cd_t ?_ | refine cd_f ?_) | refine q0a ?_ | refine q1p ?_ | refine q1r ?_ | (show retQ ..; refine q0s ?_) | refine q0l ?_)
        rfl
      · have hlA : (acc ++ [(⟨c, lev⟩ : Pr)]).length = acc.length + 1 := by simp
        simp only [q2y hne, q3a hne, q2z hne]
        repeat' (first | (show q0i ..; first | refine q0c ?_ | refine q0e rfl ?_) | (show q0k ..; refine q0f rfl rfl ?_) | (show goOn ..; first | refine q0g ?_ | refine q4z ?_) | (show q0d ..; first | refine q0h ?_ | refine q0b ?_ | refine q0r ?_ | refine q1q ?_ | refine q0j ?_) | (show q0o ..; first | refine cd_t ?_ | refine cd_f ?_) | refine q0a ?_ | refine q1p ?_ | refine q1r ?_ | (show retQ ..; refine q0s ?_) | refine q0l ?_)
        (try simp only [List.map_append, List.map_cons, List.map_nil]); try rfl
theorem r01_join (a b : Int) : Pure Tryz.prog 182 [.int .i64 a, .int .i64 b] (.int .i64 (q3t a b)) := by
  refine q2d (by kernel_rfl) (by simp only [go_sem, *]) (by simp only [go_sem, *]) Tryz.func182 Tryz.results182 rfl (by simp [Tryz.ntmps182]) (by kernel_rfl) ?_
  repeat' (first | (show q0i ..; first | refine q0c ?_ | refine q0e rfl ?_) | (show q0k ..; first | refine q0f rfl rfl ?_ | refine q0m rfl ?_) | (show goOn ..; refine q0g ?_) | (show q1j ..; (refine q0u (r := ?_) ?_ ?_; rotate_left 1; (focus exact r01_of _))) | (show q0d ..; first | refine q0h ?_ | refine q0b ?_ | refine q0r ?_ | refine q0q ?_ | refine q0j ?_) | (show q0o ..; refine cd_b (fun _ => ?_) (fun _ => ?_)) | refine q0a ?_ | refine q1v ?_ | (show retQ ..; refine q0s ?_) | refine q0l ?_)
  all_goals (rename_i hc; unfold q3t; rw [hc]; rfl)
theorem r2_join_nil (a : List Pr) (ha : a.length ≤ 1000) : Pure Tryz.prog 126 [.sl (a.map Pr.enc), .sl []] (.sl ((q5t a).map Pr.enc)) := by
  refine q2d (by kernel_rfl) (by simp only [go_sem, *]) (by simp only [go_sem, *]) Tryz.func126 Tryz.results126 rfl (by simp [Tryz.ntmps126]) (by kernel_rfl) ?_
  repeat' (first | (show q0i ..; first | refine q0c ?_ | refine q0e rfl ?_) | (show q0k ..; refine q0f rfl rfl ?_) | (show goOn ..; refine q0g ?_) | (show q0d ..; first | refine q0h ?_ | refine q0b ?_ | refine q0n ?_) | refine q0a ?_)
  refine q2q (S := Nat) (fun n => a.length - n) (fun n => n ≤ a.length) (fun n => [(0, .sl (a.map Pr.enc)), (1, .sl []), (5, .sl ((joinN a n).map Pr.enc)), (6, .int .i64 n)]) (fun _ => []) (fun _ => 0) 0 (Nat.zero_le _) (by (refine q1n ?_ ?_ <;> repeat' (first | exact q0v | exact q0y | refine q0p (by (try simp only [go_sem, *]); try rfl) (by simp only [go_sem, *]) ?_ | refine q0z (by (try simp only [go_sem, *]); try rfl) (by omega) (by simp only [go_sem, *]) ?_ | refine q0x (by (try simp only [go_sem, *]); try rfl) (by omega) (by simp only [go_sem, *]) ?_))) ?_
  intro n hn
  rcases Nat.lt_or_ge n a.length with hlt | hge
  · obtain ⟨x, hx⟩ := q2f hlt
    have h0 := q2k hlt
    have h4 := q2e n (by omega)
    have hg := r2_get [] x.cat (by simp)
    have hg2 : q2r [] x.cat = 2 := rfl
    rw [hg2, List.map_nil] at hg
    have hj := r01_join x.lev 2
    have hw := r2_with (joinN a n) x.cat (q3t x.lev 2) (by have := joinN_len a n; omega)
    have hs := joinN_succ hx
    repeat' (first | (show q0i ..; first | refine q0c ?_ | refine q0e rfl ?_) | (show q0k ..; refine q0f rfl rfl ?_) | (show goOn ..; refine q0g ?_) | (show dr ..; first | refine q1y ?_ | refine dr_n rfl ?_) | (show drGo ..; first | refine q3b rfl ?_ | refine q2l rfl ?_) | (show drOn ..; refine q1z ?_) | (show q2h ..; (refine q1f (r := ?_) ?_ ?_; rotate_left 1; (focus first | exact hg | exact hj | exact hw))) | (refine And.intro (by kernel_rfl : q1l _ = true) ?_) | (show q0d ..; first | refine q0h ?_ | refine q0b ?_ | refine q1k (by kernel_rfl) ?_ | refine q0q ?_ | refine q0n ?_ | refine q0j ?_) | (show q0o ..; refine cd_t ?_) | refine q0a ?_ | refine q0t ?_)
    exact again (n + 1) (show n + 1 ≤ a.length from hlt) (show a.length - (n + 1) < a.length - n by omega) (by (refine q1n ?_ ?_ <;> repeat' (first | exact q0v | exact q0y | refine q0p (by (try simp only [go_sem, *]); try rfl) (by simp only [go_sem, *]) ?_ | refine q0z (by (try simp only [go_sem, *]); try rfl) (by omega) (by simp only [go_sem, *]) ?_ | refine q0x (by (try simp only [go_sem, *]); try rfl) (by omega) (by simp only [go_sem, *]) ?_)))
  · have h0 := q1w hge
    have e : joinN a n = q5t a := by unfold joinN q5t; rw [List.take_of_length_le hge]
    rw [e]
    repeat' (first | (show q0i ..; first | refine q0c ?_ | refine q0e rfl ?_) | (show q0k ..; refine q0f rfl rfl ?_) | (show goOn ..; refine q0g ?_) | (show q0d ..; first | refine q0h ?_ | refine q0b ?_ | refine q0n ?_ | refine q1q ?_ | refine q0j ?_) | (show q0o ..; refine cd_f ?_) | refine q0a ?_ | refine q1p ?_ | refine q1r ?_)
    refine q2q (S := Unit) (fun _ => 0) (fun _ => True) (fun _ => [(1, .sl []), (5, .sl ((q5t a).map Pr.enc)), (7, .int .i64 (0 : Nat))]) (fun _ => []) (fun _ => 0) () trivial (by (refine q1n ?_ ?_ <;> repeat' (first | exact q0v | exact q0y | refine q0p (by (try simp only [go_sem, *]); try rfl) (by simp only [go_sem, *]) ?_ | refine q0z (by (try simp only [go_sem, *]); try rfl) (by omega) (by simp only [go_sem, *]) ?_ | refine q0x (by (try simp only [go_sem, *]); try rfl) (by omega) (by simp only [go_sem, *]) ?_))) ?_
    intro _ _
    have h1 : decide (((0 : Nat) : Int) < ((0 : Nat) : Int)) = false := rfl
    repeat' (first | (show q0i ..; first | refine q0c ?_ | refine q0e rfl ?_) | (show q0k ..; refine q0f rfl rfl ?_) | (show goOn ..; refine q0g ?_) | (show q0d ..; first | refine q0h ?_ | refine q0b ?_ | refine q0r ?_ | refine q1q ?_ | refine q0j ?_) | (show q0o ..; refine cd_f ?_) | refine q0a ?_ | refine q1p ?_ | refine q1r ?_ | (show retQ ..; refine q0s ?_) | refine q0l ?_)
    all_goals rfl
theorem r3_place (d o : List Pr) (hd : d.length ≤ 1000) (ho : o.length ≤ 400) : Pure Tryz.prog 111 [.sl (d.map Pr.enc), .sl (o.map Pr.enc)] (.bool (q6w d o)) := by
  have h1 := x0m o (by omega)
  have h2 := r2_join_nil (o.map upPr) (by simp; omega)
  have h3 := x0n d (q5t (o.map upPr)) (by omega) (by have := joinNil_len (o.map upPr); simp at this; omega)
  refine q2d (by kernel_rfl) (by simp only [go_sem, *]) (by simp only [go_sem, *]) Tryz.func111 Tryz.results111 rfl (by simp [Tryz.ntmps111]) (by kernel_rfl) ?_
  repeat' (first | (show q0i ..; first | refine q0c ?_ | refine q0e rfl ?_) | (show q0k ..; first | refine q0f rfl rfl ?_ | refine q0m rfl ?_) | (show goOn ..; refine q0g ?_) | (show q1j ..; (refine q0u (r := ?_) ?_ ?_; rotate_left 1; (focus first | exact h1 | exact h2 | exact h3))) | (show q0d ..; first | refine q0h ?_ | refine q0b ?_ | refine q0r ?_) | refine q0a ?_ | (show retQ ..; refine q0s ?_) | refine q0l ?_)
  all_goals rfl
theorem q6o {w : Wd} (hf : FewW w) (id : Int) : (q2p w id).1.label.length ≤ 20 := by
  unfold q2p
  split
  · rename_i x hx; exact (hf.ob x (List.mem_of_find?_eq_some hx)).1
  · exact Nat.zero_le _
theorem r14_links (w : Wd) (d : Ob) (hf : FewW w) (hd : d.label.length ≤ 20) (hl : d.links.length ≤ 100000) : Pure Tryz.prog 54 [.agg (Wd.enc w), .agg (Ob.enc d)] (.bool (q9p w d)) := by
  have hn20 := hf.n
  refine q2d (by kernel_rfl) (by simp only [go_sem, *]) (by simp only [go_sem, *]) Tryz.func54 Tryz.results54 rfl (by simp [Tryz.ntmps54]) (by kernel_rfl) ?_
  repeat' (first | (show q0i ..; first | refine q0c ?_ | refine q0e rfl ?_) | (show q0k ..; refine q0f rfl rfl ?_) | (show goOn ..; first | refine q0g ?_ | refine q1d ?_) | (show q0d ..; first | refine q0h ?_ | refine q0b ?_ | refine q0n ?_) | refine q0a ?_)
  refine q2q (S := Nat) (fun n => d.links.length - n) (fun n => n ≤ d.links.length ∧ ∀ j, j < n → q7q w d j = true) (fun n => [(2, .ptr 0 0), (3, .ptr 1 0), (5, .int .i64 n)]) (fun _ => [(0, .box (Wd.enc w)), (1, .box (Ob.enc d))]) (fun _ => 2) 0 ⟨Nat.zero_le _, fun j hj => absurd hj (Nat.not_lt_zero j)⟩ (by (refine q1n ?_ ?_ <;> repeat' (first | exact q0v | exact q0y | refine q0p (by (try simp only [go_sem, *]); try rfl) (by simp only [go_sem, *]) ?_ | refine q0z (by (try simp only [go_sem, *]); try rfl) (by omega) (by simp only [go_sem, *]) ?_ | refine q0x (by (try simp only [go_sem, *]); try rfl) (by omega) (by simp only [go_sem, *]) ?_))) ?_
  rintro n ⟨hn, hs⟩
  rcases Nat.lt_or_ge n d.links.length with hlt | hge
  · obtain ⟨x, hx⟩ := q2f hlt
    have h0 := q2k hlt
    have h4 := q2e n (by omega)
    have hfd := q5y w x (by omega)
    have hpl := r3_place d.label (q2p w x).1.label (by omega) (by have := q6o hf x; omega)
    have e : q7q w d n = ((q2p w x).2 && q6w d.label (q2p w x).1.label) := by unfold q7q; rw [hx]
    have fin : allB d.links.length (q7q w d) = false → false = q9p w d := fun hb => by unfold q9p; rw [hb]; rfl
    repeat' (first | (show q0i ..; first | refine q0c ?_ | refine q0e rfl ?_ | refine q1b rfl rfl ?_) | (show q0k ..; first | refine q0f rfl rfl ?_ | refine q0m rfl ?_) | (show goOn ..; refine q0g ?_) | (show q1j ..; (refine q0u (r := ?_) ?_ ?_; rotate_left 1; (focus first | exact hfd | exact hpl))) | (show wGo ..; first | refine q4e ?_ | refine q5b ?_ | refine q9i (fun _ => ?_) (fun _ => ?_)) | (show dr ..; first | refine q1y ?_ | refine dr_n rfl ?_) | (show drGo ..; first | refine q3b rfl ?_ | refine q2l rfl ?_) | (show drOn ..; first | refine q1z ?_ | refine dn_new ?_ | refine q7m ?_) | (show q5w ..; refine q4t ?_) | (show q2h ..; (refine q1f (r := ?_) ?_ ?_; rotate_left 1; (focus first | exact hfd | exact hpl))) | (refine And.intro (by kernel_rfl : q1l _ = true) ?_) | (show q0d ..; first | refine q0h ?_ | refine q0b ?_ | refine q1k (by kernel_rfl) ?_ | refine q0r ?_ | refine q0q ?_ | refine q0n ?_ | refine q0j ?_) | (show q0o ..; first | refine cd_t ?_ | refine cd_n (fun _ => ?_) (fun _ => ?_)) | refine q0a ?_ | refine q1v ?_ | refine q0t ?_ | refine q3m ?_ | (show retQ ..; refine q0s ?_) | refine q0l ?_)
    all_goals first
      | (refine q1o (fin (q2o hlt ?_)); simp only [*, Bool.not_true, Bool.not_false, Bool.and_true, Bool.true_and, Bool.and_false, Bool.false_and, Bool.or_true, Bool.true_or, Bool.or_false, Bool.false_or, Bool.and_self, Bool.or_self, decide_true, decide_false, Bool.not_not, if_true, if_false, Bool.false_eq_true, eq_self]; done)
      | (refine again (n + 1) ⟨?_, q5d hs ?_⟩ ?_ (by (refine q1n ?_ ?_ <;> repeat' (first | exact q0v | exact q0y | refine q0p (by (try simp only [go_sem, *]); try rfl) (by simp only [go_sem, *]) ?_ | refine q0z (by (try simp only [go_sem, *]); try rfl) (by omega) (by simp only [go_sem, *]) ?_ | refine q0x (by (try simp only [go_sem, *]); try rfl) (by omega) (by simp only [go_sem, *]) ?_))); (focus omega); (focus simp only [*, Bool.not_true, Bool.not_false, Bool.and_true, Bool.true_and, Bool.and_false, Bool.false_and, Bool.or_true, Bool.true_or, Bool.or_false, Bool.false_or, Bool.and_self, Bool.or_self, decide_true, decide_false, Bool.not_not, if_true, if_false, Bool.false_eq_true, eq_self]); (focus omega))
  · have h0 := q1w hge
    have hall : allB d.links.length (q7q w d) = true := q2m fun j hj => hs j (by omega)
    have hu := r14_uses w d hf hl
    repeat' (first | (show q0i ..; first | refine q0c ?_ | refine q0e rfl ?_) | (show q0k ..; refine q0f rfl rfl ?_) | (show goOn ..; refine q0g ?_) | (show wGo ..; first | refine q4e ?_ | refine q5b ?_ | refine q9i (fun _ => ?_) (fun _ => ?_)) | (show dr ..; first | refine q1y ?_ | refine dr_n rfl ?_ | refine q6b rfl rfl ?_) | (show drGo ..; first | refine q3b rfl ?_ | refine q2l rfl ?_) | (show drOn ..; refine q1z ?_) | (show q2h ..; (refine q1f (r := ?_) ?_ ?_; rotate_left 1; (focus exact hu))) | (refine And.intro (by kernel_rfl : q1l _ = true) ?_) | (show q0d ..; first | refine q0h ?_ | refine q0b ?_ | refine q1k (by kernel_rfl) ?_ | refine q0r ?_ | refine q1q ?_ | refine q0j ?_) | (show q0o ..; refine cd_f ?_) | refine q0a ?_ | refine q1p ?_ | refine q1r ?_ | (show retQ ..; refine q0s ?_) | refine q0l ?_)
    all_goals (refine q1o ?_; unfold q9p; simp [bne, *])
end Go.Proofs.YtoibbedpaaeclaaGreat
end
