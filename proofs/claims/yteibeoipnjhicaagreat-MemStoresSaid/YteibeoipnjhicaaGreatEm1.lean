import Derived.Test.YteibeoipnjhicaaGreatEr4
import Derived.Test.YteibeoipnjhicaaGreatRz2
import Derived.Test.YteibeoipnjhicaaGreatRz3
import Derived.Test.YteibeoipnjhicaaGreatEc4
namespace Go.Proofs.YteibeoipnjhicaaGreat
open Go Go.RowKit
set_option linter.unusedVariables false
set_option linter.unusedSimpArgs false
set_option maxHeartbeats 16000000
set_option maxRecDepth 100000
def plEnc (o : Ob) (at_ : Int) (b : Bool) : List PV := Ob.enc o ++ [.int .u64 at_, .bool b]
theorem pl_bdl (S : Nat → Prop) (o : Ob) (a : Int) (b : Bool) : BdL S (plEnc o a b) := fun p hp => by
  have h1 : BdL S (Ob.enc o) := by simp only [go_sem]
  unfold plEnc at hp
  rcases List.mem_append.1 hp with h | h
  · exact h1 p h
  · simp only [List.mem_cons, List.not_mem_nil, or_false] at h
    rcases h with rfl | rfl
    · exact .int _ _
    · exact .bool _
@[go_sem] theorem pl_bd (S : Nat → Prop) (o : Ob) (a : Int) (b : Bool) : BdL S (plEnc o a b) = True := eq_true (pl_bdl S o a b)
@[go_sem] theorem pl_cells (o : Ob) (a : Int) (b : Bool) : PV.cells? (.agg (plEnc o a b)) = some (plEnc o a b) := rfl
@[go_sem] theorem pl_zeros : zeros Tryz.prog 112 = some (plEnc Ob.zero 0 false) := by kernel_rfl
@[go_sem] theorem pl_build0 : q5d Tryz.prog 112 [] = some (.agg (plEnc Ob.zero 0 false)) := by kernel_rfl
@[go_sem] theorem pl_build (o : Ob) (a : Int) (b : Bool) : q5d Tryz.prog 112 [(0, .agg (Ob.enc o)), (1, .int .u64 a), (2, .bool b)] = some (.agg (plEnc o a b)) := by kernel_rfl
@[go_sem] theorem pl_f0 : q2n Tryz.prog 112 0 = some (58, 0) := by kernel_rfl
@[go_sem] theorem pl_f1 : q2n Tryz.prog 112 1 = some (22, 51) := by kernel_rfl
@[go_sem] theorem pl_f2 : q2n Tryz.prog 112 2 = some (4, 52) := by kernel_rfl
@[go_sem] theorem pl_cut (o : Ob) (a : Int) (b : Bool) : cut Tryz.prog 112 (plEnc o a b) 0 = some (.agg (plEnc o a b)) := by kernel_rfl
@[go_sem] theorem pl_o (o : Ob) (a : Int) (b : Bool) : cut Tryz.prog 58 (plEnc o a b) 0 = some (.agg (Ob.enc o)) := by kernel_rfl
@[go_sem] theorem pl_a (o : Ob) (a : Int) (b : Bool) : cut Tryz.prog 22 (plEnc o a b) 51 = some (.int .u64 a) := by kernel_rfl
@[go_sem] theorem pl_b (o : Ob) (a : Int) (b : Bool) : cut Tryz.prog 4 (plEnc o a b) 52 = some (.bool b) := by kernel_rfl
@[go_sem] theorem pl_data (o : Ob) (a : Int) (b : Bool) : cut Tryz.prog 41 (plEnc o a b) 6 = some (.sl (o.data.map u64)) := by kernel_rfl
@[go_sem] theorem pl_label (o : Ob) (a : Int) (b : Bool) : cut Tryz.prog 43 (plEnc o a b) 2 = some (.sl (o.label.map Pr.enc)) := by kernel_rfl
@[go_sem] theorem pl_len (o : Ob) (a : Int) (b : Bool) : (plEnc o a b).length = 53 := by kernel_rfl
@[go_sem] theorem pl_size : Tryz.prog.cellsOf 112 = 53 := by kernel_rfl
@[go_sem] theorem pl_info : (Tryz.prog.info? 112).isSome = true := by kernel_rfl
@[go_sem] theorem pl_spl (o p : Ob) (a c : Int) (b d : Bool) : splice (plEnc o a b) 0 (plEnc p c d) = plEnc p c d := by kernel_rfl
@[go_sem] theorem rf_build2 (a b : Int) : q5d Tryz.prog 47 [(0, .int .u64 a), (1, .int .u64 b)] = some (.agg (Rf.enc ⟨a, b⟩)) := by kernel_rfl
def mapR (l : List Mp) (k : Nat) : Mp × Int × Bool := if (splitN k).2.2 = true then ((findM l (splitN k).1).1, (findM l (splitN k).1).2.1 * 16 + (splitN k).2.1, (findM l (splitN k).1).2.2) else (Mp.zero, 0, false)
def placeOf (w : Wd) (t : Ob) (l : List Mp) (k : Nat) : (Ob × Int × Bool) × Int :=
  if (mapR l k).2.2 = true then
    if ((seeR w t ⟨(mapR l k).1.cont, (mapR l k).1.seg⟩ 1).2 == 0) = true then
      if decide ((mapR l k).2.1 ≥ ((seeR w t ⟨(mapR l k).1.cont, (mapR l k).1.seg⟩ 1).1.data.length : Int)) = true then ((Ob.zero, 0, false), 13)
      else (((seeR w t ⟨(mapR l k).1.cont, (mapR l k).1.seg⟩ 1).1, (mapR l k).2.1, (mapR l k).1.write), 0)
    else ((Ob.zero, 0, false), (seeR w t ⟨(mapR l k).1.cont, (mapR l k).1.seg⟩ 1).2)
  else ((Ob.zero, 0, false), 13)
def q2v (w : Wd) (t : Ob) (k : Nat) : (Ob × Int × Bool) × Int :=
  if ((seeR w t t.thread.space 3).2 == 0) = true then placeOf w t (seeR w t t.thread.space 3).1.maps k else ((Ob.zero, 0, false), (seeR w t t.thread.space 3).2)
theorem split_bd (k : Nat) : 0 ≤ (splitN k).1 ∧ (splitN k).1 < 1048576 ∧ 0 ≤ (splitN k).2.1 ∧ (splitN k).2.1 < 16 := by
  unfold splitN
  split
  · simp
  · simp only; omega
theorem I_page {p : Int} (h : 0 ≤ p) (h' : p < 1048576) : I p := by
  have h1 : IntKind.i64.min = -9223372036854775808 := by decide
  have h2 : IntKind.i64.max = 9223372036854775807 := by decide
  unfold I
  omega
theorem found_bd {l : List Mp} (h : FitM l) (p : Int) : 0 ≤ (findM l p).2.1 ∧ (findM l p).2.1 < 1048576 := by
  unfold findM FM
  split
  · rename_i x hx
    have h1 := h.one x (List.mem_of_find?_eq_some hx)
    have h2 := List.find?_some hx
    unfold OneM at h1
    unfold inM at h2
    simp only [Bool.and_eq_true, decide_eq_true_eq] at h2
    simp only
    omega
  · simp
theorem okay_maps {o : Ob} (h : Okay o) (hk : (o.kind == 3) = true) : FitM o.maps := by
  rcases h.2 with h | rfl
  · unfold sound at h
    simp only [Bool.and_eq_true] at h
    have hi := h.2.2
    have hk' : o.kind = 3 := by simpa using hk
    unfold inner at hi
    rw [if_neg (by rw [hk']; decide), if_neg (by rw [hk']; decide), if_pos hk] at hi
    exact (mapFit_iff _).1 hi
  · cases hk
theorem see_kind {w : Wd} {t : Ob} {r : Rf} {k : Int} (hk : (k == 0) = false) (h : ((seeR w t r k).2 == 0) = true) : ((seeR w t r k).1.kind == k) = true := by
  unfold seeR at h ⊢
  split at h
  · rename_i h1
    rw [if_pos h1]
    split at h
    · rename_i h2
      rw [if_pos h2]
      split at h
      · rename_i h3; rw [if_pos h3]; rw [hk, Bool.false_or] at h2; exact h2
      · cases h
    · cases h
  · rename_i h1; exact absurd h h1
theorem see_maps {w : Wd} {t : Ob} {r : Rf} (hf : FewW w) (hw : q5c w = true) (h : ((seeR w t r 3).2 == 0) = true) : FitM (seeR w t r 3).1.maps := okay_maps (see_okay hf hw) (see_kind rfl h)
theorem seeR_data {w : Wd} (hf : FewW w) (t : Ob) (r : Rf) (k : Int) : (seeR w t r k).1.data.length ≤ 300 := by
  have hfi : ∀ id, (q4b w id).1.data.length ≤ 300 := fun id => by
    unfold q4b
    split
    · rename_i x hx; exact (hf.ob x (List.mem_of_find?_eq_some hx)).2.2.1
    · exact Nat.zero_le _
  have hl : (q5v w t r).1.data.length ≤ 300 := by
    unfold q5v
    split
    · split
      · exact hfi _
      · exact Nat.zero_le _
    · exact Nat.zero_le _
  unfold seeR
  split
  · split
    · split
      · exact hl
      · exact Nat.zero_le _
    · exact Nat.zero_le _
  · exact Nat.zero_le _
attribute [local irreducible] q0x dr q0g Ex.then Ex.inBlock retQ q1x q3g q3e Pure CSat evOp q2o rdOf upd hset strip sp0 cut envL q2u q4j Keep BdL evBs q3m q4g
theorem law18_few (w : Wd) (hl : w.objects.length ≤ 9223372036854775807) (ho : ∀ x ∈ w.objects, x.L) : Pure Tryz.prog 34 [.agg (Wd.enc w)] (.bool (fewR w)) := by
  cases h1 : decide ((w.objects.length : Int) > 20) with
  | true =>
    refine q2i (by kernel_rfl) (by simp only [go_sem, *]) (by simp only [go_sem, *]) Tryz.func34 Tryz.results34 rfl (by simp [Tryz.ntmps34]) (by kernel_rfl) ?_
    repeat' (first | (show q0x ..; first | refine q0d ?_ | refine q0p rfl ?_ | refine q0z rfl rfl ?_) | (show q1d ..; first | refine q0n rfl rfl ?_ | refine q0h rfl ?_) | (show goOn ..; first | refine q0s ?_ | refine q0v ?_ | refine q0w ?_) | (show q1g ..; refine q0i ?_) | (show wGo ..; first | refine q1o ?_ | refine q1u ?_ | refine q1q ?_ | refine q1s ?_ | refine gw_u ?_ | refine q1p (fun _ => ?_) (fun _ => ?_) | refine q1t (fun _ => ?_) (fun _ => ?_) | refine q1r (fun _ => ?_) (fun _ => ?_) | refine q1v (fun _ => ?_) (fun _ => ?_)) | (show q0g ..; first | refine q0q ?_ | refine q0c ?_ | refine q0r ?_ | refine q0f ?_ | refine q0t ?_ | refine q1b ?_ | refine q0k ?_) | (show q0y ..; first | refine cd_t ?_ | refine cd_f ?_ | refine cd_n (fun _ => ?_) (fun _ => ?_) | refine cd_b (fun _ => ?_) (fun _ => ?_)) | refine q0a ?_ | refine q0m ?_ | refine q0l ?_ | refine q1a ?_ | refine q0j ?_ | refine q1c ?_ | refine bl_pass rfl ?_ | refine q1f ?_ | refine bl_pan ?_ | (show retQ ..; first | refine q0o ?_ | refine q0b ?_) | refine q0e ?_)
    all_goals (refine q2s ?_; unfold fewR; rw [h1]; rfl)
  | false =>
  have h1' := of_decide_eq_false h1
  have fin : ∀ b, (allB w.objects.length (fewAt w.objects) && fitW w) = b → b = fewR w := fun b hb => by unfold fewR; rw [h1, hb]; rfl
  refine q2i (by kernel_rfl) (by simp only [go_sem, *]) (by simp only [go_sem, *]) Tryz.func34 Tryz.results34 rfl (by simp [Tryz.ntmps34]) (by kernel_rfl) ?_
  repeat' (first | (show q0x ..; first | refine q0d ?_ | refine q0p rfl ?_ | refine q0z rfl rfl ?_) | (show q1d ..; first | refine q0n rfl rfl ?_ | refine q0h rfl ?_) | (show goOn ..; first | refine q0s ?_ | refine q0v ?_ | refine q0w ?_) | (show q1g ..; refine q0i ?_) | (show wGo ..; first | refine q1o ?_ | refine q1u ?_ | refine q1q ?_ | refine q1s ?_ | refine gw_u ?_ | refine q1p (fun _ => ?_) (fun _ => ?_) | refine q1t (fun _ => ?_) (fun _ => ?_) | refine q1r (fun _ => ?_) (fun _ => ?_) | refine q1v (fun _ => ?_) (fun _ => ?_)) | (show q0g ..; first | refine q0q ?_ | refine q0c ?_ | refine q0r ?_ | refine q0f ?_ | refine q0t ?_ | refine q1b ?_ | refine q0k ?_) | (show q0y ..; first | refine cd_t ?_ | refine cd_f ?_ | refine cd_n (fun _ => ?_) (fun _ => ?_) | refine cd_b (fun _ => ?_) (fun _ => ?_)) | refine q0a ?_ | refine q0m ?_ | refine q0l ?_ | refine q1a ?_ | refine q0j ?_ | refine q1c ?_ | refine bl_pass rfl ?_ | refine q1f ?_ | refine bl_pan ?_ | (show retQ ..; first | refine q0o ?_ | refine q0b ?_) | refine q0e ?_)
  refine q3l (S := Nat) (fun n => w.objects.length - n) (fun n => n ≤ w.objects.length ∧ ∀ j, j < n → fewAt w.objects j = true) (fun n => [(1, .ptr 0 0), (10, .sl (w.objects.map Ob.enc)), (11, .int .i64 w.objects.length), (12, .int .i64 n)]) (fun _ => [(0, .box (Wd.enc w))]) (fun _ => 1) 0 ⟨Nat.zero_le _, fun j hj => absurd hj (Nat.not_lt_zero j)⟩ (by (refine q2q ?_ ?_ <;> repeat' (first | exact q2a | exact q2c | refine q1i (by (try simp only [go_sem, *]); try rfl) (by simp only [go_sem, *]) ?_ | refine q2d (by (try simp only [go_sem, *]); try rfl) (by omega) (by simp only [go_sem, *]) ?_ | refine q2b (by (try simp only [go_sem, *]); try rfl) (by omega) (by simp only [go_sem, *]) ?_))) ?_
  rintro n ⟨hn, hs⟩
  rcases Nat.lt_or_ge n w.objects.length with hlt | hge
  · obtain ⟨x, hx⟩ := q3d hlt
    have h0 := q3k hlt
    have h4 := q3f n (by omega)
    have e : fewAt w.objects n = !(decide ((x.label.length : Int) > 20) || (decide ((x.links.length : Int) > 70) || (decide ((x.data.length : Int) > 300) || decide ((x.maps.length : Int) > 20)))) := by unfold fewAt; rw [hx]
    repeat' (first | (show q0x ..; first | refine q0d ?_ | refine q0p rfl ?_ | refine q0z rfl rfl ?_) | (show q1d ..; first | refine q0n rfl rfl ?_ | refine q0h rfl ?_) | (show goOn ..; first | refine q0s ?_ | refine q0v ?_ | refine q0w ?_) | (show q1g ..; refine q0i ?_) | (show wGo ..; first | refine q1o ?_ | refine q1u ?_ | refine q1q ?_ | refine q1s ?_ | refine gw_u ?_ | refine q1p (fun _ => ?_) (fun _ => ?_) | refine q1t (fun _ => ?_) (fun _ => ?_) | refine q1r (fun _ => ?_) (fun _ => ?_) | refine q1v (fun _ => ?_) (fun _ => ?_)) | (show q0g ..; first | refine q0q ?_ | refine q0c ?_ | refine q0r ?_ | refine q0f ?_ | refine q0t ?_ | refine q1b ?_ | refine q0k ?_) | (show q0y ..; first | refine cd_t ?_ | refine cd_f ?_ | refine cd_n (fun _ => ?_) (fun _ => ?_) | refine cd_b (fun _ => ?_) (fun _ => ?_)) | refine q0a ?_ | refine q0m ?_ | refine q0l ?_ | refine q1a ?_ | refine q0j ?_ | refine q1c ?_ | refine bl_pass rfl ?_ | refine q1f ?_ | refine bl_pan ?_ | (show retQ ..; first | refine q0o ?_ | refine q0b ?_) | refine q0e ?_)
    all_goals first
      | (refine q2s (fin _ ?_); rw [q3o hlt (by rw [e]; simp only [*, Bool.not_true, Bool.not_false, Bool.and_true, Bool.true_and, Bool.and_false, Bool.false_and, Bool.or_true, Bool.true_or, Bool.or_false, Bool.false_or, Bool.and_self, Bool.or_self, decide_true, decide_false, Bool.not_not, if_true, if_false, Bool.false_eq_true, eq_self])]; rfl)
      | (refine again (n + 1) ⟨hlt, q5u hs ?_⟩ (show w.objects.length - (n + 1) < w.objects.length - n by omega) (by (refine q2q ?_ ?_ <;> repeat' (first | exact q2a | exact q2c | refine q1i (by (try simp only [go_sem, *]); try rfl) (by simp only [go_sem, *]) ?_ | refine q2d (by (try simp only [go_sem, *]); try rfl) (by omega) (by simp only [go_sem, *]) ?_ | refine q2b (by (try simp only [go_sem, *]); try rfl) (by omega) (by simp only [go_sem, *]) ?_))); rw [e]; simp only [*, Bool.not_true, Bool.not_false, Bool.and_true, Bool.true_and, Bool.and_false, Bool.false_and, Bool.or_true, Bool.true_or, Bool.or_false, Bool.false_or, Bool.and_self, Bool.or_self, decide_true, decide_false, Bool.not_not, if_true, if_false, Bool.false_eq_true, eq_self]; done)
  · have h0 := q3a hge
    have hall : allB w.objects.length (fewAt w.objects) = true := q3u fun j hj => hs j (by omega)
    have hfew := few_of h1 hall
    have hft := r14_fit w ⟨hl, fun x hx => ⟨ho x hx, by have := (hfew.ob x hx).1; omega⟩⟩ hfew
    clear ho
    have hfin := fin (fitW w) (by rw [hall]; rfl)
    clear fin
    repeat' (first | (show q0x ..; first | refine q0d ?_ | refine q0p rfl ?_ | refine q0z rfl rfl ?_) | (show q1d ..; first | refine q0n rfl rfl ?_ | refine q0h rfl ?_) | (show goOn ..; first | refine q0s ?_ | refine q0v ?_ | refine q0w ?_) | (show q1g ..; refine q0i ?_) | (show q1j ..; (refine q0u (r := ?_) ?_ ?_; rotate_left 1; (focus exact hft))) | (show wGo ..; first | refine q1o ?_ | refine q1u ?_ | refine q1q ?_ | refine q1s ?_ | refine gw_u ?_ | refine q1p (fun _ => ?_) (fun _ => ?_) | refine q1t (fun _ => ?_) (fun _ => ?_) | refine q1r (fun _ => ?_) (fun _ => ?_) | refine q1v (fun _ => ?_) (fun _ => ?_)) | (show q0g ..; first | refine q0q ?_ | refine q0c ?_ | refine q0r ?_ | refine q0f ?_ | refine q0t ?_ | refine q1b ?_ | refine q0k ?_) | (show q0y ..; first | refine cd_t ?_ | refine cd_f ?_ | refine cd_n (fun _ => ?_) (fun _ => ?_) | refine cd_b (fun _ => ?_) (fun _ => ?_)) | refine q0a ?_ | refine q0m ?_ | refine q0l ?_ | refine q1a ?_ | refine q0j ?_ | refine q1c ?_ | refine bl_pass rfl ?_ | refine q1f ?_ | refine bl_pan ?_ | (show retQ ..; first | refine q0o ?_ | refine q0b ?_) | refine q0e ?_)
    all_goals first | rfl | (refine q2s ?_; first | exact hfin | exact hfin.symm) | (rw [hfin]) | (rw [← hfin])
theorem q5w (t : Ob) (ha : t.L) : Pure Tryz.prog 35 [.agg (Ob.enc t)] (.bool (thrR t)) := by
  unfold thrR
  cases h2 : decide ((t.label.length : Int) ≤ 20) with
  | false =>
    refine q2i (by kernel_rfl) (by simp only [go_sem, *]) (by simp only [go_sem, *]) Tryz.func35 Tryz.results35 rfl (by simp [Tryz.ntmps35]) (by kernel_rfl) ?_
    repeat' (first | (show q0x ..; first | refine q0d ?_ | refine q0p rfl ?_ | refine q0z rfl rfl ?_) | (show q1d ..; first | refine q0n rfl rfl ?_ | refine q0h rfl ?_) | (show goOn ..; first | refine q0s ?_ | refine q0v ?_ | refine q0w ?_) | (show q1g ..; refine q0i ?_) | (show wGo ..; first | refine q1o ?_ | refine q1u ?_ | refine q1q ?_ | refine q1s ?_ | refine gw_u ?_ | refine q1p (fun _ => ?_) (fun _ => ?_) | refine q1t (fun _ => ?_) (fun _ => ?_) | refine q1r (fun _ => ?_) (fun _ => ?_) | refine q1v (fun _ => ?_) (fun _ => ?_)) | (show q0g ..; first | refine q0q ?_ | refine q0c ?_ | refine q0r ?_ | refine q0f ?_) | refine q0a ?_ | refine q0m ?_ | refine q0l ?_ | (show retQ ..; first | refine q0o ?_ | refine q0b ?_) | refine q0e ?_)
    all_goals (refine q2s ?_; simp [*])
  | true =>
    have hs := r13_sound t ha (by have := of_decide_eq_true h2; omega)
    refine q2i (by kernel_rfl) (by simp only [go_sem, *]) (by simp only [go_sem, *]) Tryz.func35 Tryz.results35 rfl (by simp [Tryz.ntmps35]) (by kernel_rfl) ?_
    repeat' (first | (show q0x ..; first | refine q0d ?_ | refine q0p rfl ?_ | refine q0z rfl rfl ?_) | (show q1d ..; first | refine q0n rfl rfl ?_ | refine q0h rfl ?_) | (show goOn ..; first | refine q0s ?_ | refine q0v ?_ | refine q0w ?_) | (show q1g ..; refine q0i ?_) | (show q1j ..; (refine q0u (r := ?_) ?_ ?_; rotate_left 1; (focus exact hs))) | (show wGo ..; first | refine q1o ?_ | refine q1u ?_ | refine q1q ?_ | refine q1s ?_ | refine gw_u ?_ | refine q1p (fun _ => ?_) (fun _ => ?_) | refine q1t (fun _ => ?_) (fun _ => ?_) | refine q1r (fun _ => ?_) (fun _ => ?_) | refine q1v (fun _ => ?_) (fun _ => ?_)) | (show q0g ..; first | refine q0q ?_ | refine q0c ?_ | refine q0r ?_ | refine q0f ?_) | refine q0a ?_ | refine q0m ?_ | refine q0l ?_ | (show retQ ..; first | refine q0o ?_ | refine q0b ?_) | refine q0e ?_)
    all_goals (refine q2s ?_; simp [*])
theorem mem_mapped (s : Ob) (k : Nat) (hk : k ≤ 18446744073709551615) (hm : FitM s.maps) : Pure Tryz.prog 133 [.agg (Ob.enc s), .int .u64 (k : Int)] (.tup [.agg (Mp.enc (mapR s.maps k).1), .int .u64 (mapR s.maps k).2.1, .bool (mapR s.maps k).2.2]) := by
  have h1 := pages_split k hk
  have hb := split_bd k
  have h2 := pages_find s.maps (splitN k).1 hm (I_page hb.1 hb.2.1)
  have hn := found_bd hm (splitN k).1
  unfold mapR
  generalize splitN k = S at h1 hb h2 hn ⊢
  obtain ⟨p, wd, ok⟩ := S
  simp only at h1 hb h2 hn ⊢
  generalize findM s.maps p = R at h2 hn ⊢
  obtain ⟨m, n, is⟩ := R
  simp only at h2 hn ⊢
  have e1 : IntKind.i64.wrap (n * 16) = n * 16 := by rw [IntKind.wrap_i64]; omega
  have e2 : IntKind.i64.wrap (n * 16 + wd) = n * 16 + wd := by rw [IntKind.wrap_i64]; omega
  have e3 : IntKind.u64.wrap (n * 16 + wd) = n * 16 + wd := by rw [IntKind.wrap_u64]; omega
  cases ok with
  | false =>
    refine q2i (by kernel_rfl) (by simp only [go_sem, *]) (by simp only [go_sem, *]) Tryz.func133 Tryz.results133 rfl (by simp [Tryz.ntmps133]) (by kernel_rfl) ?_
    repeat' (first | (show q0x ..; first | refine q0d ?_ | refine q0p rfl ?_) | (show q1d ..; first | refine q0n rfl rfl ?_ | refine q0h rfl ?_) | (show goOn ..; first | refine q0s ?_ | refine q0v ?_ | refine q0w ?_) | (show q1g ..; refine q0i ?_) | (show q1j ..; (refine q0u (r := ?_) ?_ ?_; rotate_left 1; (focus first | exact h1 | exact h2))) | (show q0g ..; first | refine q0q ?_ | refine q0c ?_ | refine q0r ?_ | refine q0f ?_ | refine q0k ?_) | (show q0y ..; first | refine cd_t ?_ | refine cd_f ?_ | refine cd_n (fun _ => ?_) (fun _ => ?_) | refine cd_b (fun _ => ?_) (fun _ => ?_)) | refine q0a ?_ | refine q0m ?_ | refine q0l ?_ | (show retQ ..; first | refine q0o ?_ | refine q0b ?_) | refine q0e ?_)
    all_goals (show (_ : Out) = _; rfl)
  | true =>
    refine q2i (by kernel_rfl) (by simp only [go_sem, *]) (by simp only [go_sem, *]) Tryz.func133 Tryz.results133 rfl (by simp [Tryz.ntmps133]) (by kernel_rfl) ?_
    repeat' (first | (show q0x ..; first | refine q0d ?_ | refine q0p rfl ?_) | (show q1d ..; first | refine q0n rfl rfl ?_ | refine q0h rfl ?_) | (show goOn ..; first | refine q0s ?_ | refine q0v ?_ | refine q0w ?_) | (show q1g ..; refine q0i ?_) | (show q1j ..; (refine q0u (r := ?_) ?_ ?_; rotate_left 1; (focus first | exact h1 | exact h2))) | (show q0g ..; first | refine q0q ?_ | refine q0c ?_ | refine q0r ?_ | refine q0f ?_ | refine q0k ?_) | (show q0y ..; first | refine cd_t ?_ | refine cd_f ?_ | refine cd_n (fun _ => ?_) (fun _ => ?_) | refine cd_b (fun _ => ?_) (fun _ => ?_)) | refine q0a ?_ | refine q0m ?_ | refine q0l ?_ | (show retQ ..; first | refine q0o ?_ | refine q0b ?_) | refine q0e ?_)
    all_goals (show (_ : Out) = _; rfl)
end Go.Proofs.YteibeoipnjhicaaGreat
