import Derived.Test.YtoibbedpaaeclaaGreatRz7
import Derived.Test.YtoibbedpaaeclaaGreatRz8
import Derived.Test.YtoibbedpaaeclaaGreatRz5
import Derived.Test.YtoibbedpaaeclaaGreatProg
import Derived.Lib.Hide
import Derived.Test.YtoibbedpaaeclaaGreatRz3
import Derived.Below
import Derived.Deep.Draws
import Derived.Deep.AppendLies
import Derived.Maps.AppendAt
import Derived.OwnWalk
import Derived.Laws.BytesArg
import Derived.Laws.MakeOwn
import Derived.Laws.OwnMore
import Derived.Deep.OwnRows
import Derived.Tactics
import Derived.Lib.ConvBytes
import Derived.Laws.Slices
import Derived.WalkKit
import Derived.KernelRfl
import Derived.RowKit3
import Derived.Deep.LoopGhost
import Derived.Deep.QuietTactic
import Derived.BigQuiet
import Derived.WideLaws
import Derived.Deep.DeepCutAuto
import Derived.Deep.CutBlock
import Derived.Deep.RegionHeld3
import Derived.Laws.Rows
import Derived.Lib.AppendStr
import Derived.ArgAppend
import Derived.Laws.IdiomCopy
import Derived.OrdersHeld
import Derived.Laws.BitsLemmas
import Derived.RowKit
import Derived.Test.YtoibbedpaaeclaaGreatRz4
import Derived.Test.YtoibbedpaaeclaaGreatRz6
section
namespace Go.Proofs.YtoibbedpaaeclaaGreat
open Go Go.RowKit
set_option linter.unusedVariables false
set_option linter.unusedSimpArgs false
set_option maxHeartbeats 16000000
set_option maxRecDepth 100000
attribute [go_sem] q1m
attribute [local irreducible] q0i dr q0d Ex.then Ex.inBlock retQ q1l q2j q2g Pure CSat evOp q1i rdOf upd hset strip sp0 cut envL q1g q3q Keep BdL evBs q2s q3c
theorem q7o (l : List Ob) : ∀ e ∈ l.map Ob.enc, e.length = szOb := fun e he => by obtain ⟨y, _, rfl⟩ := List.mem_map.1 he; exact Ob.len y
theorem flat_mlen (l : List Ob) : (l.map Ob.enc).flatten.length = l.length * 51 := by rw [q1u (q7o l), List.length_map]; rfl
theorem flat_mset (l : List Ob) (k : Nat) (x : Ob) (hk : k < l.length) : ((l.set k x).map Ob.enc).flatten = splice (l.map Ob.enc).flatten (k * 51) (Ob.enc x) := by
  induction l generalizing k with
  | nil => simp at hk
  | cons a l ih =>
    cases k with
    | zero =>
      simp only [List.set_cons_zero, List.map_cons, List.flatten_cons, Nat.zero_mul, splice, List.take_zero, List.nil_append, Nat.zero_add]
      rw [List.drop_left' (by rw [Ob.len, Ob.len])]
    | succ k =>
      have := ih k (by simpa using hk)
      simp only [List.set_cons_succ, List.map_cons, List.flatten_cons, this]
      have e : (Ob.enc a).length = 51 := Ob.len a
      have h1 : ∀ (R : List PV), (Ob.enc a ++ R).take ((k + 1) * 51) = Ob.enc a ++ R.take (k * 51) := fun R => by
        rw [List.take_append, List.take_of_length_le (by rw [e]; omega), e, show (k + 1) * 51 - 51 = k * 51 by omega]
      have h2 : ∀ (R : List PV), (Ob.enc a ++ R).drop ((k + 1) * 51 + (Ob.enc x).length) = R.drop (k * 51 + (Ob.enc x).length) := fun R => by
        rw [List.drop_append, List.drop_eq_nil_of_le (by rw [e]; omega), e, show (k + 1) * 51 + (Ob.enc x).length - 51 = k * 51 + (Ob.enc x).length by omega, List.nil_append]
      unfold splice
      rw [h1, h2]
      simp only [List.append_assoc]
theorem ins_ob {fn : FuncId} (hins : InsertC Tryz.prog fn 71 szOb) {l : List Ob} {k : Nat} (hk : k ≤ l.length) (x : Ob) (hl : l.length ≤ 1000000) {H : Heap} {m id ix e1 z1 : Nat} (hid : H id = some (.box (l.map Ob.enc).flatten)) (hix : H ix = some (.box [Ob.enc x].flatten)) (hne : ix ≠ id) :
    CSat Tryz.prog fn [.bs id l.length 71 szOb, .int .i64 k, .bs ix 1 e1 z1] H m (fun out H' m' =>
      (out = .ret (.bs id ((l.take k ++ x :: l.drop k).length) 71 szOb) ∧ H' = hset H id (some (.box ((l.take k ++ x :: l.drop k).map Ob.enc).flatten)) ∧ m' = m) ∨
      (out = .ret (.bs m ((l.take k ++ x :: l.drop k).length) 71 szOb) ∧ H' = hset H m (some (.box ((l.take k ++ x :: l.drop k).map Ob.enc).flatten)) ∧ m' = m + 1)) := by
  have := insert_csat hins (els := l.map Ob.enc) (q7o l) (by simpa using hl) (k := k) (by simpa using hk) (xe := [Ob.enc x].flatten) (by simp only [List.flatten_cons, List.flatten_nil, List.append_nil]; exact Ob.len x) (m := m) (e1 := e1) (z1 := z1) hid hix hne
  have e : (l.map Ob.enc).take k ++ [Ob.enc x].flatten :: (l.map Ob.enc).drop k = (l.take k ++ x :: l.drop k).map Ob.enc := by simp
  rw [e, List.length_map, List.length_map] at this
  exact this
theorem obj_with (l : List Ob) (x : Ob) (hl : l.length ≤ 1000000) (hs : RisO l) : Pure Tryz.prog 131 [.agg (Ls.enc (LsO l)), .agg (Ob.enc x)] (.sl ((withL l x).map Ob.enc)) := by
  have hat := obj_at l x.id hl hs
  have hcl : CloneC Tryz.prog 189 71 szOb := cloneOb_calls
  have hins : InsertC Tryz.prog 190 71 szOb := fun l v k x vb cv base w h1 h2 {cx tx} h3 h4 h5 h6 h7 => insertOb_calls l v k x vb cv base w h1 h2 h3 h4 h5 h6 h7
  have hpl := pos_le l x.id
  cases hh : hitO l x.id with
  | true =>
    rw [hh] at hat
    obtain ⟨y, hy, hyid, hk⟩ := hit_lt hh
    have hw : withL l x = l.set (posO l x.id) x := by unfold withL; rw [if_pos hh]
    rw [hw]
    clear hh hw
    refine pureF (by kernel_rfl) (by simp only [go_sem, *]) Tryz.func131 Tryz.results131 rfl (by simp [Tryz.ntmps131]) (by kernel_rfl) ?_
    repeat' (first | (show q0i ..; first | refine q0c ?_ | refine q0e rfl ?_) | (show q0k ..; first | refine q0f rfl rfl ?_ | refine q0m rfl ?_) | (show goOn ..; first | refine q0g ?_ | refine q1d ?_) | (show dr ..; first | refine q1y ?_ | refine dr_n rfl ?_) | (show drGo ..; first | refine q3b rfl ?_ | refine q2l rfl ?_) | (show drOn ..; refine q1z ?_) | (show q2h ..; (refine q1f (r := ?_) ?_ ?_; rotate_left 1; (focus first | exact obj_idOf _ | exact hat))) | (refine And.intro (by kernel_rfl : q1l _ = true) ?_) | (show q0d ..; first | refine q0h ?_ | refine q0b ?_ | refine q1k (by kernel_rfl) ?_) | refine q0a ?_)
    (refine q0w (by kernel_rfl) (clone_csat hcl (els := l.map Ob.enc) (q7o l) (by simpa using hl) _ _) ?_ ?_)
    case refine_2 => rintro p H' m' (⟨_, h, _⟩ | ⟨h, _⟩) <;> cases h
    rintro r H' m' (⟨hnil, _⟩ | ⟨h, rfl, rfl⟩)
    · have : l = [] := by simpa using hnil
      subst this; simp at hk
    · cases h
      have h1 : ((posO l x.id : Int) < (l.length : Int)) = True := eq_true (by omega)
      have h2 : (posO l x.id * 51 + 51 ≤ ((l.map Ob.enc).flatten).length) = True := eq_true (by rw [flat_mlen]; omega)
      repeat' (first | (show q0i ..; first | refine q0c ?_ | refine q0e rfl ?_) | (show q0k ..; refine q0f rfl rfl ?_) | (show goOn ..; first | refine q0g ?_ | refine q1x ?_) | (show q3f ..; refine q1h ?_) | (show q0d ..; first | refine q0h ?_ | refine q0b ?_ | refine q0r ?_ | refine q0j ?_) | (show q0o ..; refine cd_t ?_) | refine q0a ?_ | refine q1v ?_ | (show retQ ..; refine q0s ?_) | refine q0l ?_)
      refine ⟨_, rfl, fz_bs szOb (by (try simp only [go_sem]); try rfl) (by rw [List.length_map, List.length_set]) (q7o _) (flat_mset _ _ _ hk) (by simp only [go_sem])⟩
  | false =>
    rw [hh] at hat
    have hw : withL l x = l.take (posO l x.id) ++ x :: l.drop (posO l x.id) := by unfold withL; rw [if_neg (by rw [hh]; simp)]
    rw [hw]
    clear hh hw
    refine pureF (by kernel_rfl) (by simp only [go_sem, *]) Tryz.func131 Tryz.results131 rfl (by simp [Tryz.ntmps131]) (by kernel_rfl) ?_
    repeat' (first | (show q0i ..; first | refine q0c ?_ | refine q0e rfl ?_) | (show q0k ..; first | refine q0f rfl rfl ?_ | refine q0m rfl ?_) | (show goOn ..; first | refine q0g ?_ | refine q1d ?_) | (show dr ..; first | refine q1y ?_ | refine dr_n rfl ?_) | (show drGo ..; first | refine q3b rfl ?_ | refine q2l rfl ?_) | (show drOn ..; refine q1z ?_) | (show q2h ..; (refine q1f (r := ?_) ?_ ?_; rotate_left 1; (focus first | exact obj_idOf _ | exact hat))) | (refine And.intro (by kernel_rfl : q1l _ = true) ?_) | (show q0d ..; first | refine q0h ?_ | refine q0b ?_ | refine q1k (by kernel_rfl) ?_) | refine q0a ?_)
    (refine q0w (by kernel_rfl) (clone_csat hcl (els := l.map Ob.enc) (q7o l) (by simpa using hl) _ _) ?_ ?_)
    case refine_2 => rintro p H' m' (⟨_, h, _⟩ | ⟨h, _⟩) <;> cases h
    rintro r H' m' (⟨hnil, h, rfl, rfl⟩ | ⟨h, rfl, rfl⟩)
    · cases h
      have : l = [] := by simpa using hnil
      subst this
      have hp0 : posO ([] : List Ob) x.id = 0 := rfl
      repeat' (first | (show q0i ..; first | refine q0c ?_ | refine q0e rfl ?_) | (show q0k ..; first | (refine run_bs rfl rfl ?_; first | refine q1d ?_ | (refine q1x ?_; refine q1h ?_)) | refine q0f rfl rfl ?_ | refine q0m rfl ?_) | (show goOn ..; refine q0g ?_) | (show q0d ..; first | refine q0h ?_ | refine q0b ?_ | refine q0q ?_ | refine q0j ?_) | (show q0o ..; refine cd_f ?_) | refine q0a ?_)
      (refine q0w (by kernel_rfl) (insert0_csat hins (xe := [Ob.enc x].flatten) (by simp only [List.flatten_cons, List.flatten_nil, List.append_nil]; exact Ob.len x) (by simp only [go_sem])) ?_ ?_)
      case refine_2 => rintro p H' m' ⟨h, _⟩; cases h
      rintro r H' m' ⟨h, rfl, rfl⟩
      cases h
      repeat' (first | (show q0i ..; first | refine q0c ?_ | refine q0e rfl ?_) | (show q0k ..; refine q0f rfl rfl ?_) | (show goOn ..; refine q0g ?_) | (show q0d ..; refine q0r ?_) | refine q0a ?_ | (show retQ ..; refine q0s ?_) | refine q0l ?_)
      refine ⟨_, rfl, fz_bs szOb (by (try simp only [go_sem]); try rfl) (by simp) (q7o _) (by simp) (by simp only [go_sem])⟩
    · cases h
      repeat' (first | (show q0i ..; first | refine q0c ?_ | refine q0e rfl ?_) | (show q0k ..; first | (refine run_bs rfl rfl ?_; first | refine q1d ?_ | (refine q1x ?_; refine q1h ?_)) | refine q0f rfl rfl ?_ | refine q0m rfl ?_) | (show goOn ..; refine q0g ?_) | (show q0d ..; first | refine q0h ?_ | refine q0b ?_ | refine q0q ?_ | refine q0j ?_) | (show q0o ..; refine cd_f ?_) | refine q0a ?_)
      (refine q0w (by kernel_rfl) (ins_ob hins hpl x hl (id := 2) (ix := 3) (by simp only [go_sem]) (by simp only [go_sem]) (by decide)) ?_ ?_)
      case refine_2 => rintro p H' m' (⟨h, _⟩ | ⟨h, _⟩) <;> cases h
      rintro r H' m' (⟨h, rfl, rfl⟩ | ⟨h, rfl, rfl⟩)
      all_goals cases h
      all_goals repeat' (first | (show q0i ..; first | refine q0c ?_ | refine q0e rfl ?_) | (show q0k ..; refine q0f rfl rfl ?_) | (show goOn ..; refine q0g ?_) | (show q0d ..; refine q0r ?_) | refine q0a ?_ | (show retQ ..; refine q0s ?_) | refine q0l ?_)
      all_goals (refine ⟨_, rfl, fz_bs szOb (by (try simp only [go_sem]); try rfl) (by simp) (q7o _) (by simp) (by simp only [go_sem])⟩)
theorem obj_put (w : Wd) (o : Ob) (hl : w.objects.length ≤ 1000000) (hs : RisO w.objects) : Pure Tryz.prog 75 [.agg (Wd.enc w), .agg (Ob.enc o)] (.agg (Wd.enc (putW w o))) := by
  have hw := obj_with w.objects o hl hs
  refine q2d (by kernel_rfl) (by simp only [go_sem, *]) (by simp only [go_sem, *]) Tryz.func75 Tryz.results75 rfl (by simp [Tryz.ntmps75]) (by kernel_rfl) ?_
  repeat' (first | (show q0i ..; first | refine q0c ?_ | refine q0e rfl ?_) | (show q0k ..; refine q0f rfl rfl ?_) | (show goOn ..; first | refine q0g ?_ | refine q1d ?_ | refine q1x ?_) | (show q3f ..; refine q1h ?_) | (show dr ..; first | refine q1y ?_ | refine dr_n rfl ?_) | (show drGo ..; first | refine q3b rfl ?_ | refine q2l rfl ?_) | (show drOn ..; refine q1z ?_) | (show q2h ..; (refine q1f (r := ?_) ?_ ?_; rotate_left 1; (focus first | exact x0c _ | exact hw))) | (refine And.intro (by kernel_rfl : q1l _ = true) ?_) | (show q0d ..; first | refine q0h ?_ | refine q0b ?_ | refine q1k (by kernel_rfl) ?_ | refine q0r ?_ | refine q0q ?_ | refine q0j ?_) | (show q0o ..; refine cd_b (fun _ => ?_) (fun _ => ?_)) | refine q0a ?_ | (show retQ ..; refine q0s ?_) | refine q0l ?_)
  all_goals (rename_i hc; unfold putW; rw [hc]; rfl)
end Go.Proofs.YtoibbedpaaeclaaGreat
end

section
namespace Go.Proofs.YtoibbedpaaeclaaGreat
open Go Go.RowKit
set_option linter.unusedVariables false
set_option linter.unusedSimpArgs false
set_option maxHeartbeats 16000000
set_option maxRecDepth 100000
def ownL : List Pr := [⟨7, 0⟩]
@[go_sem high] theorem bs_own : q3h Tryz.prog 26 1 [(0, .agg (Pr.enc ⟨7, 0⟩))] = some (.sl (List.map Pr.enc ownL)) := by kernel_rfl
attribute [local irreducible] q0i dr q0d Ex.then Ex.inBlock retQ q1l q2j q2g Pure CSat evOp q1i rdOf upd hset strip sp0 cut envL q1g q3q Keep BdL evBs q2s q3c
end Go.Proofs.YtoibbedpaaeclaaGreat
end

section
namespace Go.Proofs.YtoibbedpaaeclaaGreat
open Go Go.RowKit
set_option linter.unusedVariables false
set_option linter.unusedSimpArgs false
set_option maxHeartbeats 16000000
set_option maxRecDepth 100000
attribute [local irreducible] q0i dr q0d Ex.then Ex.inBlock retQ q1l q2j q2g Pure CSat evOp q1i rdOf upd hset strip sp0 cut envL q1g q3q Keep BdL evBs q2s q3c
end Go.Proofs.YtoibbedpaaeclaaGreat
end

section
namespace Go.Proofs.YtoibbedpaaeclaaGreat
open Go Go.RowKit
set_option linter.unusedVariables false
set_option linter.unusedSimpArgs false
set_option maxHeartbeats 16000000
set_option maxRecDepth 100000
def Wd.ins (w : Wd) (o : Ob) : Wd := { w with objects := insR o w.objects }
theorem ins_ris {w : Wd} (h : RisO w.objects) (o : Ob) : RisO (w.ins o).objects := insR_ris h
theorem ins_len (w : Wd) (o : Ob) : (w.ins o).objects.length ≤ w.objects.length + 1 := insR_len o _
theorem ins_L {w : Wd} (h : w.L) {o : Ob} (ho : o.L) (hl : o.label.length ≤ 900000) (hn : w.objects.length ≤ 100000) : (w.ins o).L := by
  refine ⟨by have := ins_len w o; omega, fun x hx => ?_⟩
  rcases insR_mem hx with rfl | hx
  · exact ⟨ho, hl⟩
  · exact h.2 x hx
theorem put_c (w : Wd) (o : Ob) (hr : RisO w.objects) (hl : w.objects.length ≤ 1000) : Pure Tryz.prog 75 [.agg (Wd.enc w), .agg (Ob.enc o)] (.agg (Wd.enc (w.ins o))) := by
  have := obj_put w o (by omega) hr
  rw [(putW_eq hr hl).1] at this; exact this
theorem putR_c (w : Wd) (o : Ob) (hr : RisO w.objects) (hl : w.objects.length ≤ 1000) : Pure Tryz.prog 66 [.agg (Wd.enc w), .agg (Ob.enc o)] (.agg (Wd.enc (w.ins o))) := by
  have := r13_put w o (by omega)
  rw [(putW_eq hr hl).2] at this; exact this
theorem same_c {a b : Wd} (ha : a.L) (h : a = b) : Pure Tryz.prog 28 [.agg (Wd.enc a), .agg (Wd.enc b)] (.bool true) := by
  subst h
  have := r13_sameW a a ha
  rw [sameWd_refl] at this; exact this
attribute [local irreducible] q0i dr q0d Ex.then Ex.inBlock retQ q1l q2j q2g Pure CSat evOp q1i rdOf upd hset strip sp0 cut envL q1g q3q Keep BdL evBs q2s q3c
end Go.Proofs.YtoibbedpaaeclaaGreat
end

section
namespace Go.Proofs.YtoibbedpaaeclaaGreat
open Go Go.RowKit
set_option linter.unusedVariables false
set_option linter.unusedSimpArgs false
def hd (x : Ob) : Ob := { Ob.zero with id := x.id, kind := x.kind, label := x.label, quota := x.quota, fixed := x.fixed, links := x.links, data := List.replicate x.data.length 0, thread := { Th.zero with span := x.thread.span } }
theorem allB_congr {n : Nat} {f g : Nat → Bool} (h : ∀ k, f k = g k) : allB n f = allB n g := by
  have : f = g := funext h
  rw [this]
noncomputable def treeR (w : Wd) : Bool := (q2p w w.root).2 && (allB w.objects.length (q8g w) && q7d w)
theorem fitW_eq (w : Wd) : fitW w = (q6s w && treeR w) := by
  unfold fitW treeR
  rw [Bool.and_assoc]
theorem q6n {w : Wd} (hw : q6s w = true) {o : Ob} (ho : o ∈ w.objects) : sound o = true := (q5n hw).2.1 o ho
theorem fnd_mem : ∀ {l : List Ob} {x : Ob}, RisO l → x ∈ l → fnd l x.id = some x
  | [], _, _, h => by cases h
  | y :: l, x, hr, h => by
    rw [fnd_cons]
    rcases List.mem_cons.1 h with rfl | h
    · rw [if_pos rfl]
    · have := hr.head x h
      rw [if_neg (by omega), fnd_mem hr.tail h]
theorem insR_map {o p : Ob} : ∀ {l : List Ob}, RisO l → o ∈ l → p.id = o.id → insR p l = l.map fun x => if x.id = o.id then p else x
  | [], _, h, _ => by cases h
  | x :: l, hr, ho, hp => by
    have same : ∀ k : List Ob, (∀ y ∈ k, o.id < y.id) → (k.map fun x => if x.id = o.id then p else x) = k := fun k hk => by
      induction k with
      | nil => rfl
      | cons y k ih =>
        have hy := hk y (by simp)
        rw [List.map_cons, ih (fun z hz => hk z (by simp [hz])), if_neg (by omega)]
    rw [List.map_cons]
    unfold insR
    rcases List.mem_cons.1 ho with rfl | ho
    · rw [if_neg (by omega), if_pos hp.symm, if_pos rfl, same l hr.head]
    · have := hr.head o ho
      rw [if_pos (by omega), if_neg (by omega), insR_map hr.tail ho hp]
end Go.Proofs.YtoibbedpaaeclaaGreat
end

section
namespace Go.Proofs.YtoibbedpaaeclaaGreat
open Go Go.RowKit
set_option linter.unusedVariables false
set_option linter.unusedSimpArgs false
section
variable {w x : Wd} {ρ : Ob → Ob}
end
theorem id_eq {w : Wd} (hr : RisO w.objects) {a b : Ob} (ha : a ∈ w.objects) (hb : b ∈ w.objects) (h : a.id = b.id) : a = b := by
  have h1 := fnd_mem hr ha
  have h2 := fnd_mem hr hb
  rw [h, h2] at h1
  cases h1; rfl
theorem sound_pos {o : Ob} (h : sound o = true) : 1 ≤ o.id := by
  unfold sound q6h at h
  simp only [Bool.and_eq_true] at h
  have := h.1.1
  unfold idOk at this
  simp only [Bool.and_eq_true, decide_eq_true_eq] at this
  omega
end Go.Proofs.YtoibbedpaaeclaaGreat
end

section
namespace Go.Proofs.YtoibbedpaaeclaaGreat
open Go Go.RowKit
set_option linter.unusedVariables false
set_option linter.unusedSimpArgs false
def hl (x : Ob) : Ob := { Ob.zero with id := x.id, kind := x.kind, quota := x.quota, fixed := x.fixed, links := x.links, data := List.replicate x.data.length 0, thread := { Th.zero with span := x.thread.span } }
def hlW (w : Wd) : Wd := { w with time := 0, objects := w.objects.map hl }
theorem hl_pages (x : Ob) : pagesR (hl x) = pagesR x := by
  unfold pagesR hl
  simp only [List.length_replicate]
theorem hl_find (w : Wd) (id : Int) : q2p (hlW w) id = (hl (q2p w id).1, (q2p w id).2) := by
  have e : (hlW w).objects.find? (fun x => x.id == id) = (w.objects.find? (fun x => x.id == id)).map hl := by
    show (w.objects.map hl).find? _ = _
    rw [List.find?_map]; rfl
  unfold q2p
  rw [e]
  cases w.objects.find? (fun x => x.id == id) with
  | none => rfl
  | some x => rfl
theorem hl_holders (w : Wd) (id : Int) : q2w (hlW w) id = q2w w id := by
  unfold q2w
  show ((w.objects.map hl).filter _).map Ob.id = _
  rw [List.filter_map, List.map_map]; rfl
theorem hl_aboveG (w : Wd) : ∀ (f : Nat) (id : Int) (out : List Int), q8u (hlW w) f id out = q8u w f id out
  | 0, _, _ => rfl
  | f + 1, id, out => by
    unfold q8u
    rw [hl_holders]
    cases q2w w id with
    | nil => rfl
    | cons h t => exact hl_aboveG w f h (out ++ [h])
theorem hl_above (w : Wd) (id : Int) : above (hlW w) id = above w id := by
  unfold above
  rw [hl_aboveG]
  show q8u w ((w.objects.map hl).length + 1) id [] = _
  rw [List.length_map]
theorem hl_up (w : Wd) (id : Int) : upR (hlW w) id = upR w id := by
  unfold upR
  rw [hl_above]; rfl
theorem hl_placed (w : Wd) (o : Ob) : q8l (hlW w) (hl o) = q8l w o := by
  unfold q8l
  rw [hl_holders, hl_up]; rfl
theorem hl_uses (w : Wd) (o : Ob) : usesR (hlW w) (hl o) = usesR w o := by
  unfold usesR
  rw [hl_pages]
  show List.foldl _ _ o.links = _
  congr 1
  funext s id
  rw [hl_find]; rfl
theorem hl_spanOk (w : Wd) (t : Ob) (i : Int) (k : Nat) : q9m (hlW w) (hl t) i k = q9m w t i k := by
  unfold q9m
  show (match (w.objects.map hl)[k]? with | some o => !(hasZ w.key (hl t).thread.span o.id || ((o.kind == 4) && (((k : Int) != i) && !apartZ (hl t).thread.span o.thread.span))) | none => true) = _
  rw [List.getElem?_map]
  cases w.objects[k]? with
  | none => rfl
  | some x => rfl
theorem hl_spanAt (w : Wd) (i : Nat) : q8i (hlW w) i = q8i w i := by
  unfold q8i
  show (match (w.objects.map hl)[i]? with | some t => if (t.kind == 4) = true then allB (w.objects.map hl).length (q9m (hlW w) t i) else true | none => true) = _
  rw [List.getElem?_map, List.length_map]
  cases w.objects[i]? with
  | none => rfl
  | some x => simp only [Option.map_some]; rw [allB_congr (hl_spanOk w x i)]; rfl
theorem hl_spans (w : Wd) : q7d (hlW w) = q7d w := by
  unfold q7d
  rw [allB_congr (hl_spanAt w)]
  show allB (w.objects.map hl).length _ = _
  rw [List.length_map]
theorem allB_at {n k : Nat} {f : Nat → Bool} (h : allB n f = true) (hk : k < n) : f k = true := allB_iff.1 h k hk
theorem hl_at {w y : Wd} (h : hlW y = hlW w) {k : Nat} {z' : Ob} (hz : y.objects[k]? = some z') : ∃ z, w.objects[k]? = some z ∧ hl z' = hl z := by
  have h1 : (y.objects.map hl)[k]? = (w.objects.map hl)[k]? := by
    have := congrArg Wd.objects h
    exact congrArg (fun l : List Ob => l[k]?) this
  rw [List.getElem?_map, List.getElem?_map, hz] at h1
  cases hw : w.objects[k]? with
  | none => rw [hw] at h1; cases h1
  | some z => rw [hw] at h1; exact ⟨z, rfl, Option.some.inj h1⟩
theorem hl_links {a b : Ob} (h : hl a = hl b) : a.links = b.links := (congrArg Ob.links h : (hl a).links = (hl b).links)
theorem hl_kind {a b : Ob} (h : hl a = hl b) : a.kind = b.kind := (congrArg Ob.kind h : (hl a).kind = (hl b).kind)
theorem hl_quota {a b : Ob} (h : hl a = hl b) : a.quota = b.quota := (congrArg Ob.quota h : (hl a).quota = (hl b).quota)
theorem hl_id {a b : Ob} (h : hl a = hl b) : a.id = b.id := (congrArg Ob.id h : (hl a).id = (hl b).id)
theorem tree_relab {w y : Wd} (h : hlW y = hlW w) (ht : treeR w = true) (hp : ∀ (k : Nat) (z' : Ob), y.objects[k]? = some z' → ∀ (j : Nat) (id : Int), z'.links[j]? = some id → q6w z'.label (q2p y id).1.label = true) : treeR y = true := by
  have hroot : y.root = w.root := (congrArg Wd.root h : (hlW y).root = (hlW w).root)
  have hf2 : ∀ id, (q2p y id).2 = (q2p w id).2 := fun id => by
    have h1 := congrArg Prod.snd (hl_find y id)
    have h2 := congrArg Prod.snd (hl_find w id)
    rw [h] at h1
    rw [h1] at h2
    exact h2
  unfold treeR at ht ⊢
  simp only [Bool.and_eq_true] at ht ⊢
  obtain ⟨h1, h2, h3⟩ := ht
  refine ⟨by rw [hroot, hf2]; exact h1, q2m fun k hk => ?_, by rw [← hl_spans, h, hl_spans]; exact h3⟩
  obtain ⟨z', hz'⟩ := q2f hk
  obtain ⟨z, hz, e⟩ := hl_at h hz'
  have ha := allB_at h2 (q3y hz)
  unfold q8g at ha ⊢
  rw [hz] at ha
  rw [hz']
  simp only [Bool.and_eq_true] at ha ⊢
  obtain ⟨a1, a2⟩ := ha
  refine ⟨?_, by rw [← hl_placed, h, e, hl_placed]; exact a2⟩
  unfold q9p at a1 ⊢
  simp only [Bool.and_eq_true] at a1 ⊢
  refine ⟨q2m fun j hj => ?_, by rw [← hl_uses, h, e, hl_uses, hl_kind e, hl_quota e]; exact a1.2⟩
  rw [hl_links e] at hj
  have b1 := allB_at a1.1 hj
  unfold q7q at b1 ⊢
  obtain ⟨id, hid⟩ := q2f hj
  rw [hid] at b1
  rw [hl_links e, hid]
  simp only [Bool.and_eq_true] at b1 ⊢
  exact ⟨by rw [hf2]; exact b1.1, hp k z' hz' j id (by rw [hl_links e]; exact hid)⟩
/-- One object with another label: it links nothing itself, and may lie where it lies. -/
theorem lab_fit {w : Wd} {o p : Ob} (hw : fitW w = true) (ho : o ∈ w.objects) (e : hl p = hl o) (hn : o.links = []) (hs : sound p = true) (hpl : ∀ d ∈ w.objects, o.id ∈ d.links → q6w d.label p.label = true) : fitW (w.ins p) = true := by
  have hwd := q7z hw
  obtain ⟨h1, h2, h3, h4, h5⟩ := q5n hwd
  have hid : p.id = o.id := hl_id e
  have hobj : (w.ins p).objects = w.objects.map fun x => if x.id = o.id then p else x := insR_map h1 ho hid
  have hone : ∀ x ∈ w.objects, x.id = o.id → x = o := fun x hx h => id_eq h1 hx ho h
  have hhl : hlW (w.ins p) = hlW w := by
    unfold hlW
    rw [hobj, List.map_map]
    show ({ w with time := 0, objects := _ } : Wd) = _
    congr 1
    refine List.map_congr_left fun x hx => ?_
    simp only [Function.comp]
    by_cases h : x.id = o.id
    · rw [if_pos h, e, hone x hx h]
    · rw [if_neg h]
  have hfind : ∀ id, q2p (w.ins p) id = if id = o.id then (p, true) else q2p w id := fun id => by
    unfold q2p
    rw [hobj, List.find?_map]
    by_cases h : id = o.id
    · rw [if_pos h]
      have : w.objects.find? ((fun x : Ob => x.id == id) ∘ fun x => if x.id = o.id then p else x) = some o := by
        rw [List.find?_eq_some_iff_getElem]
        obtain ⟨k, hk⟩ := List.getElem?_of_mem ho
        have hkl := q3y hk
        have hke : w.objects[k] = o := by rw [List.getElem?_eq_getElem hkl] at hk; exact Option.some.inj hk
        refine ⟨by simp [Function.comp, hid, h], k, hkl, hke, fun j hj => ?_⟩
        have hne : (w.objects[j]'(by omega)).id ≠ o.id := fun hc => by
          have := h1 j k _ _ (List.getElem?_eq_getElem (by omega)) hk hj
          omega
        simp [Function.comp, hne, h]
      rw [this]
      simp
    · rw [if_neg h]
      have : w.objects.find? ((fun x : Ob => x.id == id) ∘ fun x => if x.id = o.id then p else x) = w.objects.find? (fun x => x.id == id) := by
        congr 1
        funext x
        simp only [Function.comp]
        by_cases hx : x.id = o.id
        · rw [if_pos hx, hid, hx]
        · rw [if_neg hx]
      rw [this]
      cases hq : w.objects.find? (fun x => x.id == id) with
      | none => rfl
      | some x =>
        have hx : x.id = id := by simpa using List.find?_some hq
        simp only [Option.map_some]
        rw [if_neg (by omega)]
  rw [fitW_eq, Bool.and_eq_true] at hw ⊢
  refine ⟨ris_fit (ins_ris h1 p) (fun y hy => ?_) (by rw [hobj, List.length_map]; exact h3) h4 h5, tree_relab hhl hw.2 fun k z' hz' j id hj => ?_⟩
  · rw [hobj] at hy
    obtain ⟨z, hz, rfl⟩ := List.mem_map.1 hy
    by_cases h : z.id = o.id
    · rw [if_pos h]; exact hs
    · rw [if_neg h]; exact h2 z hz
  · rw [hobj, List.getElem?_map] at hz'
    cases hz : w.objects[k]? with
    | none => rw [hz] at hz'; cases hz'
    | some z =>
      rw [hz] at hz'
      have hzm := List.mem_of_getElem? hz
      simp only [Option.map_some, Option.some.injEq] at hz'
      by_cases h : z.id = o.id
      · rw [if_pos h] at hz'
        subst hz'
        rw [hl_links e, hn] at hj
        simp at hj
      · rw [if_neg h] at hz'
        subst hz'
        rw [hfind]
        by_cases hi : id = o.id
        · rw [if_pos hi]
          subst hi
          exact hpl z hzm (List.mem_of_getElem? hj)
        · rw [if_neg hi]
          have ht := hw.2
          unfold treeR at ht
          simp only [Bool.and_eq_true] at ht
          have ha := allB_at ht.2.1 (q3y hz)
          unfold q8g at ha
          rw [hz] at ha
          simp only [Bool.and_eq_true] at ha
          have hl := ha.1
          unfold q9p at hl
          simp only [Bool.and_eq_true] at hl
          have hb := allB_at hl.1 (q3y hj)
          unfold q7q at hb
          rw [hj] at hb
          simp only [Bool.and_eq_true] at hb
          exact hb.2
end Go.Proofs.YtoibbedpaaeclaaGreat
end

section
namespace Go.Proofs.YtoibbedpaaeclaaGreat
open Go Go.RowKit
set_option linter.unusedVariables false
set_option linter.unusedSimpArgs false
set_option maxHeartbeats 4000000
--BEGIN
section
variable {l A B : List Mp} {m : Mp}
end
--END
end Go.Proofs.YtoibbedpaaeclaaGreat
end

section
namespace Go.Proofs.YtoibbedpaaeclaaGreat
open Go Go.RowKit Go.Shelf
set_option linter.unusedVariables false
set_option linter.unusedSimpArgs false
end Go.Proofs.YtoibbedpaaeclaaGreat
end

section
namespace Go.Proofs.YtoibbedpaaeclaaGreat
open Go Go.RowKit
set_option linter.unusedVariables false
set_option linter.unusedSimpArgs false
set_option maxHeartbeats 16000000
set_option maxRecDepth 100000
section
variable {a b : List PV}
end
attribute [local irreducible] q0i dr q0d Ex.then Ex.inBlock retQ q1l q2j q2g Pure CSat evOp q1i rdOf upd hset strip sp0 cut envL q1g q3q Keep BdL evBs q2s q3c
end Go.Proofs.YtoibbedpaaeclaaGreat
end

section
namespace Go.Proofs.YtoibbedpaaeclaaGreat
open Go Go.RowKit
set_option linter.unusedVariables false
set_option linter.unusedSimpArgs false
set_option maxHeartbeats 16000000
set_option maxRecDepth 100000
attribute [go_sem] q1m
attribute [local irreducible] q0i dr q0d Ex.then Ex.inBlock retQ q1l q2j q2g Pure CSat evOp q1i rdOf upd hset strip sp0 cut envL q1g q3q Keep BdL evBs q2s q3c
end Go.Proofs.YtoibbedpaaeclaaGreat
end

section
namespace Go.Proofs.YtoibbedpaaeclaaGreat
open Go Go.RowKit
set_option linter.unusedVariables false
set_option linter.unusedSimpArgs false
set_option maxHeartbeats 16000000
set_option maxRecDepth 100000
attribute [go_sem] q1m
attribute [local irreducible] q0i dr q0d Ex.then Ex.inBlock retQ q1l q2j q2g Pure CSat evOp q1i rdOf upd hset strip sp0 cut envL q1g q3q Keep BdL evBs q2s q3c
end Go.Proofs.YtoibbedpaaeclaaGreat
end

section
namespace Go.Proofs.YtoibbedpaaeclaaGreat
open Go Go.RowKit
set_option linter.unusedVariables false
set_option linter.unusedSimpArgs false
set_option maxHeartbeats 16000000
set_option maxRecDepth 100000
attribute [go_sem] q1m
attribute [local go_sem] List.length_append
@[go_sem] theorem pne_3 (m : Nat) : (0 = m + 1) = False := eq_false (by omega)
@[go_sem] theorem pne_4 (m : Nat) : (m + 1 = 0) = False := eq_false (by omega)
attribute [local irreducible] q0i dr q0d Ex.then Ex.inBlock retQ q1l q2j q2g Pure CSat evOp q1i rdOf upd hset strip sp0 cut envL q1g q3q Keep BdL evBs q2s q3c
end Go.Proofs.YtoibbedpaaeclaaGreat
end

section
namespace Go.Proofs.YtoibbedpaaeclaaGreat
open Go Go.RowKit
set_option linter.unusedVariables false
set_option linter.unusedSimpArgs false
set_option maxHeartbeats 16000000
set_option maxRecDepth 100000
attribute [go_sem] q1m
attribute [local irreducible] q0i dr q0d Ex.then Ex.inBlock retQ q1l q2j q2g Pure CSat evOp q1i rdOf upd hset strip sp0 cut envL q1g q3q Keep BdL evBs q2s q3c
end Go.Proofs.YtoibbedpaaeclaaGreat
end

section
namespace Go.Proofs.YtoibbedpaaeclaaGreat
open Go Go.RowKit Go.Shelf
set_option linter.unusedVariables false
set_option linter.unusedSimpArgs false
end Go.Proofs.YtoibbedpaaeclaaGreat
end

section
namespace Go.Proofs.YtoibbedpaaeclaaGreat
open Go Go.RowKit
set_option linter.unusedVariables false
set_option linter.unusedSimpArgs false
set_option maxHeartbeats 16000000
set_option maxRecDepth 100000
@[go_sem] theorem spl6_cells (o : Ob) (x : PV) : PV.cells? (.agg (splice (Ob.enc o) 6 [x])) = some (splice (Ob.enc o) 6 [x]) := rfl
attribute [local irreducible] q0i dr q0d Ex.then Ex.inBlock retQ q1l q2j q2g Pure CSat evOp q1i rdOf upd hset strip sp0 cut envL q1g q3q Keep BdL evBs q2s q3c
end Go.Proofs.YtoibbedpaaeclaaGreat
end

section
namespace Go.Proofs.YtoibbedpaaeclaaGreat
open Go Go.RowKit Go.Shelf
set_option linter.unusedVariables false
set_option linter.unusedSimpArgs false
end Go.Proofs.YtoibbedpaaeclaaGreat
end

section
namespace Go.Proofs.YtoibbedpaaeclaaGreat
open Go Go.RowKit
set_option linter.unusedVariables false
set_option linter.unusedSimpArgs false
set_option maxHeartbeats 16000000
set_option maxRecDepth 100000
/-- What has been written so far. -/
def gk (f : Nat → Int) (k : Nat) : Nat → Int := fun i => if i < k then f i else 0
attribute [local irreducible] q0i dr q0d Ex.then Ex.inBlock retQ q1l q2j q2g Pure CSat evOp q1i rdOf upd hset strip sp0 cut envL q1g q3q Keep BdL evBs q2s q3c
end Go.Proofs.YtoibbedpaaeclaaGreat
end

section
namespace Go.Proofs.YtoibbedpaaeclaaGreat
open Go Go.RowKit
set_option linter.unusedVariables false
set_option linter.unusedSimpArgs false
set_option maxHeartbeats 16000000
set_option maxRecDepth 100000
attribute [local irreducible] q0i dr q0d Ex.then Ex.inBlock retQ q1l q2j q2g Pure CSat evOp q1i rdOf upd hset strip sp0 cut envL q1g q3q Keep BdL evBs q2s q3c
end Go.Proofs.YtoibbedpaaeclaaGreat
end

section
namespace Go.Proofs.YtoibbedpaaeclaaGreat
open Go Go.RowKit
set_option linter.unusedVariables false
set_option linter.unusedSimpArgs false
set_option maxHeartbeats 16000000
set_option maxRecDepth 100000
attribute [local irreducible] q0i dr q0d Ex.then Ex.inBlock retQ q1l q2j q2g Pure CSat evOp q1i rdOf upd hset strip sp0 cut envL q1g q3q Keep BdL evBs q2s q3c
end Go.Proofs.YtoibbedpaaeclaaGreat
end

section
namespace Go.Proofs.YtoibbedpaaeclaaGreat
open Go Go.RowKit
set_option linter.unusedVariables false
set_option linter.unusedSimpArgs false
set_option maxHeartbeats 16000000
set_option maxRecDepth 100000
attribute [local irreducible] q0i dr q0d Ex.then Ex.inBlock retQ q1l q2j q2g Pure CSat evOp q1i rdOf upd hset strip sp0 cut envL q1g q3q Keep BdL evBs q2s q3c
theorem look_in {w : Wd} {t : Ob} {r : Rf} (hw : fitW w = true) (h : ((q7g w t r).2 == 0) = true) : (q7g w t r).1 ∈ w.objects := by
  unfold q7g at h ⊢
  split at h
  · rename_i h1
    rw [if_pos h1]
    split at h
    · rename_i h2
      rw [if_pos h2]
      obtain ⟨e1, e2, _⟩ := dir_found h1
      rw [e1] at h2
      obtain ⟨x, hx, hxi⟩ := List.any_eq_true.1 h2
      have : x = r.id := by simpa using hxi
      subst this
      exact (find_id (links_found hw (find_id e2).2 hx)).2
    · simp at h
  · rename_i h1; simp only at h; rw [h] at h1; exact absurd rfl h1
theorem see_in {w : Wd} {t : Ob} {r : Rf} {k : Int} (hw : fitW w = true) (h : ((seeR w t r k).2 == 0) = true) : (seeR w t r k).1 ∈ w.objects ∧ x0j t (seeR w t r k).1 = true ∧ (seeR w t r k).1 = (q7g w t r).1 := by
  unfold seeR at h ⊢
  split at h
  · rename_i h1
    rw [if_pos h1]
    split at h
    · rename_i h2
      rw [if_pos h2]
      split at h
      · rename_i h3; rw [if_pos h3]; exact ⟨look_in hw h1, h3, rfl⟩
      · cases h
    · cases h
  · rename_i h1; exact absurd h h1
end Go.Proofs.YtoibbedpaaeclaaGreat
end

section
namespace Go.Proofs.YtoibbedpaaeclaaGreat
open Go Go.RowKit
set_option linter.unusedVariables false
set_option linter.unusedSimpArgs false
set_option maxHeartbeats 16000000
set_option maxRecDepth 100000
section
variable {w x : Wd} {ρ : Ob → Ob}
end
end Go.Proofs.YtoibbedpaaeclaaGreat
end

section
namespace Go.Proofs.YtoibbedpaaeclaaGreat
open Go Go.RowKit
set_option linter.unusedVariables false
set_option linter.unusedSimpArgs false
set_option maxHeartbeats 16000000
set_option maxRecDepth 100000
theorem U_nat {n : Int} (h : U n) : ∃ k : Nat, k ≤ 18446744073709551615 ∧ n = (k : Int) := by
  have h1 : IntKind.u64.min = 0 := by decide
  have h2 : IntKind.u64.max = 18446744073709551615 := by decide
  unfold U at h
  exact ⟨n.toNat, by omega, by omega⟩
structure Good (x : Wd) : Prop where
  L : x.L
  few : FewW x
  fit : fitW x = true
attribute [local irreducible] q0i dr q0d Ex.then Ex.inBlock retQ q1l q2j q2g Pure CSat evOp q1i rdOf upd hset strip sp0 cut envL q1g q3q Keep BdL evBs q2s q3c
end Go.Proofs.YtoibbedpaaeclaaGreat
end

section
-- PRINTED by print.py (a twelfth state) out of the translation. Not trusted: Lean checks it.
namespace Go.Proofs.YtoibbedpaaeclaaGreat.PChk
open Go.RowKit Go.Proofs.YtoibbedpaaeclaaGreatW.PrintWords Go.Proofs.YtoibbedpaaeclaaGreatW.PrintLast Go.Proofs.YtoibbedpaaeclaaGreatW.PrintMore
attribute [local go_sem] max2_int min2_int max_two min_two max_three min_three max_four min_four -- for this text's walks alone
set_option linter.unusedVariables false
set_option linter.unusedSimpArgs false
def errW : Option Int → Value
  | none => .nilIface
  | some c => .iface 0 (.int .i64 c)
theorem errW_none : errW none = .nilIface := rfl
theorem errW_some (c : Int) : errW (some c) = .iface 0 (.int .i64 c) := rfl
-- the values' own types
structure S76 where
  f0 : Int
  f1 : Int
def z76 : S76 := ⟨(0 : Int), (0 : Int)⟩
def k76 : Kd S76 := Kd.iso (Kd.pair (Kd.int .u64) (Kd.int .i64)) (fun x : S76 => (x.f0, x.f1))
theorem k76_open {w : World} {x : S76} {cs : List Value} (h : k76.K w x cs) : cs = [.int .u64 x.f0, .int .i64 x.f1] := by
  obtain ⟨_, _, rfl, rfl, rfl⟩ := h
  exact rfl
def rd_T76 (xs : List S76) (i : Int) : S76 := xs.getD i.toNat z76
theorem at_T76 {w : World} {A : Option Addr} {n : Nat} {xs : List S76} (h : Kd.C k76 w A n xs) (i : Int) (h0 : 0 ≤ i) (h1 : i < n) : ∃ ad , A = some ad ∧ w.cell? (ad.add (i.toNat * 2)) = some (.int .u64 (rd_T76 xs i).f0) ∧ w.cell? ⟨(ad.add (i.toNat * 2)).block, (ad.add (i.toNat * 2)).off + 1, none⟩ = some (.int .i64 (rd_T76 xs i).f1) := by
  obtain ⟨ad, c, e, _, hK, hc0⟩ := Kd.C_get h z76 i h0 h1
  have hc : ∀ j u, c[j]? = some u → w.cell? (ad.add (i.toNat * 2 + j)) = some u := hc0
  obtain rfl := k76_open hK
  exact ⟨ad, e, hc 0 _ rfl, by rw [← add_field _ _ 1 (by omega)]; exact hc 1 _ rfl⟩
end Go.Proofs.YtoibbedpaaeclaaGreat.PChk
end

section
-- PRINTED by print.py (a twelfth state) out of the translation. Not trusted: Lean checks it.
namespace Go.Proofs.YtoibbedpaaeclaaGreat.PChk
open Go.RowKit Go.Proofs.YtoibbedpaaeclaaGreatW.PrintWords Go.Proofs.YtoibbedpaaeclaaGreatW.PrintLast Go.Proofs.YtoibbedpaaeclaaGreatW.PrintMore
attribute [local go_sem] max2_int min2_int max_two min_two max_three min_three max_four min_four -- for this text's walks alone
set_option linter.unusedVariables false
set_option linter.unusedSimpArgs false
def check_plain.l0 : Nat → List (S76) → Int → Int → Option (Bool)
  | 0, _, _, _ => none
  | k + 1, x5, x6, x7 => if x7 < x6 then (if 0 ≤ x7 then (if x7 < (x5.length : Int) then (if ((rd_T76 x5 x7).f1) = 5 then (some false) else (check_plain.l0 k x5 x6 (wrap64 (x7 + 1)))) else (none)) else (none)) else (some true)
def check_plain.f (k : Nat) (l0 : List (S76)) : Option (Bool) := check_plain.l0 k l0 (l0.length : Int) 0
set_option maxHeartbeats 8000000 in
set_option maxRecDepth 100000 in
theorem check_plain.calls (k : Nat) (A0 : Option Addr) (c0 : Nat) (l0 : List (S76)) (r : Bool) (w : World) (hr0 : Kd.C k76 w A0 l0.length l0) (hc0 : l0.length ≤ c0) (h : check_plain.f k l0 = some r) :
    Calls Tryz.prog 267 #[.slice A0 l0.length c0] w fun e w' => e = .returned (.bool r) ∧ Below w.heap.size w w' := by
  have hu76 := Tryz.underlying76
  have HR0 := Aside0.mk hr0
  have HC0 := Aside0.mk hc0
  clear hr0 hc0
  have HB := Aside0.mk (Below.refl w.heap.size w)
  have H : (check_plain.l0 k l0 (l0.length : Int) 0) = some r := h
  clear h
  have H' := Aside0.mk H
  clear H
  go_enter Tryz.func267, Tryz.ntmps267
  go_wp2
  go_loopg [7] k (fun kq v7 w' => ∃ (x7_1 : Int), v7 = .int .i64 x7_1 ∧ Aside0 (check_plain.l0 kq l0 (l0.length : Int) x7_1 = some r) ∧ Aside0 (kq ≤ k) ∧ Aside0 (Below w.heap.size w w'))
  case atStart => exact ⟨(0), (by first | rfl | (simp; done) | (simp [*]; done)), H', ⟨Nat.le_refl _⟩, ⟨by repeat (first | (with_reducible first | exact HB.out | apply below_alloc | apply pw_below_drewN | apply below_drew1) | exact HB.out)⟩⟩
  case round =>
    clear H'
    obtain ⟨x7_1, rfl, HA, HK1, HB⟩ := hrel
    cases gk with
    | zero => exact absurd HA.out (by simp [check_plain.l0])
    | succ k1 =>
      have H := HA.out
      clear HA
      simp only [check_plain.l0] at H
      by_cases c2 : x7_1 < (l0.length : Int)
      · rw [if_pos c2] at H
        have c2b0 : decide (x7_1 < (l0.length : Int)) = true := decide_eq_true c2
        clear c2
        by_cases c3 : 0 ≤ x7_1
        · rw [if_pos c3] at H
          have c3b0 : decide (0 ≤ x7_1) = true := decide_eq_true c3
          clear c3
          by_cases c4 : x7_1 < (l0.length : Int)
          · rw [if_pos c4] at H
            have c4b0 : decide (x7_1 < (l0.length : Int)) = true := decide_eq_true c4
            clear c4
            by_cases c5 : ((rd_T76 l0 x7_1).f1) = 5
            · rw [if_pos c5] at H
              have c5b0 : (((rd_T76 l0 x7_1).f1) == 5) = true := beq_iff_eq.mpr c5
              have c5b1 : (((rd_T76 l0 x7_1).f1) != 5) = false := bne_eq_false_iff_eq.mpr c5
              clear c5
              obtain rfl := Option.some.inj H
              have p101 : 0 ≤ (x7_1 : Int) := of_decide_eq_true (by first | (with_reducible assumption) | assumption)
              have q101 : x7_1 < (l0.length : Int) := of_decide_eq_true (by first | (with_reducible assumption) | assumption)
              obtain ⟨ad101, e101, hx101_0, hx101_1⟩ := at_T76 HR0.out x7_1 p101 q101
              cases e101
              replace hx101_0 := (HB.out.cell (World.block_lt_of_cell? w _ hx101_0)).trans hx101_0
              replace hx101_1 := (HB.out.cell (World.block_lt_of_cell? w _ hx101_1)).trans hx101_1
              replace p101 := eq_true p101
              replace q101 := eq_true q101
              go_wp2_with (first | ((with_reducible refine gate_dst (N := 4) rfl ?_); refine box_event ?hg (N := 4) ?hd (cs := #[.int .u64 0, .int .i64 0]) (t := 76) ?hr ?_; (case hd => rfl); (case hg => rfl); (case hr => first | (go_simp; done) | (go_simp; rfl)); intro gb102 hg w6 hbox hb; have n0_ := Aside0.mk (below_step (by repeat (first | (with_reducible first | exact HB.out | apply below_alloc | apply pw_below_drewN | apply below_drew1) | exact HB.out)) hb); have n1_ := Aside0.mk (hbox); have n2_ := Aside0.mk ((by rw [hg]; exact (below_size (by repeat (first | (with_reducible first | exact HB.out | apply below_alloc | apply pw_below_drewN | apply below_drew1) | exact HB.out))) : w.heap.size ≤ gb102)); have n3_ := Aside0.mk ((by rw [hg]; exact (below_size (by repeat (first | (with_reducible first | exact HB.out | apply below_alloc | apply pw_below_drewN | apply below_drew1) | exact HB.out))) : w.heap.size ≤ gb102)); clear HB; have HB := n0_; have BK102 := n1_; have GW102 := n2_; have GE102 := n3_; clear n0_ n1_ n2_ n3_; clear hb hbox hg; have hcz7_0 : w6.cell? ⟨gb102, 0, none⟩ = some (.int .u64 0) := (blk_cell BK102.out 0).trans rfl; have hcz7_1 : w6.cell? ⟨gb102, 1, none⟩ = some (.int .i64 0) := (blk_cell BK102.out 1).trans rfl; have hfz7_0 := blk_frozen BK102.out 0; have hfz7_1 := blk_frozen BK102.out 1))
              go_ret
              exact ⟨by first | rfl | (simp [errW_none, errW_some] <;> rfl) | (simp [*, errW_none, errW_some] <;> rfl), by repeat (first | (with_reducible first | exact HB.out | apply below_alloc | apply pw_below_drewN | apply below_drew1 | refine below_set ?_ GE102.out) | exact HB.out)⟩
            · rw [if_neg c5] at H
              have c5b0 : (((rd_T76 l0 x7_1).f1) == 5) = false := beq_eq_false_iff_ne.mpr c5
              have c5b1 : (((rd_T76 l0 x7_1).f1) != 5) = true := bne_iff_ne.mpr c5
              have H' := Aside0.mk H
              clear H
              have p101 : 0 ≤ (x7_1 : Int) := of_decide_eq_true (by first | (with_reducible assumption) | assumption)
              have q101 : x7_1 < (l0.length : Int) := of_decide_eq_true (by first | (with_reducible assumption) | assumption)
              obtain ⟨ad101, e101, hx101_0, hx101_1⟩ := at_T76 HR0.out x7_1 p101 q101
              cases e101
              replace hx101_0 := (HB.out.cell (World.block_lt_of_cell? w _ hx101_0)).trans hx101_0
              replace hx101_1 := (HB.out.cell (World.block_lt_of_cell? w _ hx101_1)).trans hx101_1
              replace p101 := eq_true p101
              replace q101 := eq_true q101
              go_wp2_with (first | ((with_reducible refine gate_dst (N := 4) rfl ?_); refine box_event ?hg (N := 4) ?hd (cs := #[.int .u64 0, .int .i64 0]) (t := 76) ?hr ?_; (case hd => rfl); (case hg => rfl); (case hr => first | (go_simp; done) | (go_simp; rfl)); intro gb102 hg w8 hbox hb; have n0_ := Aside0.mk (below_step (by repeat (first | (with_reducible first | exact HB.out | apply below_alloc | apply pw_below_drewN | apply below_drew1) | exact HB.out)) hb); have n1_ := Aside0.mk (hbox); have n2_ := Aside0.mk ((by rw [hg]; exact (below_size (by repeat (first | (with_reducible first | exact HB.out | apply below_alloc | apply pw_below_drewN | apply below_drew1) | exact HB.out))) : w.heap.size ≤ gb102)); have n3_ := Aside0.mk ((by rw [hg]; exact (below_size (by repeat (first | (with_reducible first | exact HB.out | apply below_alloc | apply pw_below_drewN | apply below_drew1) | exact HB.out))) : w.heap.size ≤ gb102)); clear HB; have HB := n0_; have BK102 := n1_; have GW102 := n2_; have GE102 := n3_; clear n0_ n1_ n2_ n3_; clear hb hbox hg; have hcz9_0 : w8.cell? ⟨gb102, 0, none⟩ = some (.int .u64 0) := (blk_cell BK102.out 0).trans rfl; have hcz9_1 : w8.cell? ⟨gb102, 1, none⟩ = some (.int .i64 0) := (blk_cell BK102.out 1).trans rfl; have hfz9_0 := blk_frozen BK102.out 0; have hfz9_1 := blk_frozen BK102.out 1))
              go_roundg k1
              case measure => have := HK1.out; omega
              case rel => exact ⟨(wrap64 (x7_1 + 1)), (by first | rfl | (simp; done) | (simp [*]; done)), H', ⟨by have := HK1.out; omega⟩, ⟨by repeat (first | (with_reducible first | exact HB.out | apply below_alloc | apply pw_below_drewN | apply below_drew1 | refine below_set ?_ GE102.out) | exact HB.out)⟩⟩
          · rw [if_neg c4] at H
            exact absurd H (by simp)
        · rw [if_neg c3] at H
          exact absurd H (by simp)
      · rw [if_neg c2] at H
        have c2b0 : decide (x7_1 < (l0.length : Int)) = false := decide_eq_false c2
        clear c2
        obtain rfl := Option.some.inj H
        go_wp2
        go_ret
        exact ⟨by first | rfl | (simp [errW_none, errW_some] <;> rfl) | (simp [*, errW_none, errW_some] <;> rfl), by repeat (first | (with_reducible first | exact HB.out | apply below_alloc | apply pw_below_drewN | apply below_drew1) | exact HB.out)⟩
end Go.Proofs.YtoibbedpaaeclaaGreat.PChk
end

section
-- PRINTED by print.py (a twelfth state) out of the translation. Not trusted: Lean checks it.
namespace Go.Proofs.YtoibbedpaaeclaaGreat.PChk
open Go.RowKit Go.Proofs.YtoibbedpaaeclaaGreatW.PrintWords Go.Proofs.YtoibbedpaaeclaaGreatW.PrintLast Go.Proofs.YtoibbedpaaeclaaGreatW.PrintMore
attribute [local go_sem] max2_int min2_int max_two min_two max_three min_three max_four min_four -- for this text's walks alone
set_option linter.unusedVariables false
set_option linter.unusedSimpArgs false
end Go.Proofs.YtoibbedpaaeclaaGreat.PChk
end

section
namespace Go.Proofs.YtoibbedpaaeclaaGreat
open Go Go.RowKit Go.Shelf Go.Proofs.YtoibbedpaaeclaaGreatW.PrintWords Go.Proofs.YtoibbedpaaeclaaGreatW.PrintLast Go.Proofs.YtoibbedpaaeclaaGreatW.PrintMore
set_option linter.unusedVariables false
set_option linter.unusedSimpArgs false
/-- A function value that answers b, in w and whatever has grown out of it. -/
structure Quest (w : World) (v : Value) (b : Bool) : Prop where
  out : ∃ (fn : Nat) (lb : Array Value), v = .func (.func fn) #[] lb ∧ (∀ args W, (callFunc fn args).run Tryz.prog W = .ok (.enter fn args) W) ∧ ∀ W, Below w.heap.size w W → Calls Tryz.prog fn lb W (fun e W' => e = .returned (.bool b) ∧ Below W.heap.size W W')
theorem Quest.below {w w1 : World} {v : Value} {b : Bool} (h : Quest w v b) (hb : Below w.heap.size w w1) : Quest w1 v b := by
  obtain ⟨fn, lb, h1, h2, h3⟩ := h
  exact ⟨fn, lb, h1, h2, fun W hW => h3 W (below_step hb hW)⟩
set_option maxRecDepth 100000 in
set_option maxHeartbeats 1000000 in
theorem all_calls (qs : List (Value × Bool)) (g : Nat) (t : TypeId) (w : World) (hb : w.heap[g]? = some (.cells (qs.map (·.1)).toArray t (0, 0))) (hq : ∀ q ∈ qs, Quest w q.1 q.2) (hn : qs.length ≤ 100) :
    Calls Tryz.prog 227 #[.slice (some ⟨g, 0, none⟩) qs.length qs.length] w fun e w' => e = .returned (.bool (qs.all (·.2))) ∧ Below w.heap.size w w' := by
  obtain ⟨n, hnn⟩ : ∃ n, n = qs.length := ⟨_, rfl⟩
  have HN := Lib.hid hnn
  have HB := Lib.hid hb
  have HQ := Lib.hid hq
  rw [← hnn] at hn ⊢
  clear hnn hb hq
  go_enter Tryz.func227, Tryz.ntmps227
  go_wp2
  go_loopw [7] (fun i W => ∃ k : Nat, k ≤ n ∧ i = .int .i64 k ∧ Hid (qs.all (·.2) = (qs.drop k).all (·.2)) ∧ Below w.heap.size w W) (fun i W => n - (intOf i).toNat)
  case atStart => exact ⟨0, by omega, rfl, Lib.hid (by simp), (by repeat (first | with_reducible (exact Below.refl _ _) | with_reducible (apply below_alloc) | with_reducible (apply below_drew1) | with_reducible (apply pw_below_drewN) | (with_reducible (refine q3g ?_ ?_ _ _); rotate_left; omega)))⟩
  case round =>
    obtain ⟨k, hk, rfl, hall, hB⟩ := hrel
    by_cases hlt : k < n
    · have hkl : k < qs.length := by have := HN.out; omega
      obtain ⟨q, hqe⟩ : ∃ q, q = qs[k] := ⟨_, rfl⟩
      obtain ⟨v, b⟩ := q
      have hquest := HQ.out (v, b) (by rw [hqe]; exact List.getElem_mem hkl)
      obtain ⟨fn, lb, hv, heg, hf⟩ := hquest
      simp only at hv hf
      subst hv
      have HF := Lib.hid hf
      have cel : w.cell? ⟨g, k, none⟩ = some (.func (.func fn) #[] lb) := by
        have := blk_cell HB.out k
        simp [List.getElem?_map, List.getElem?_eq_getElem hkl, ← hqe] at this
        exact this
      have cl1 := pw_cell_below hB cel
      have hdrop : Hid ((qs.drop k).all (·.2) = (b && (qs.drop (k + 1)).all (·.2))) := Lib.hid (by rw [List.drop_eq_getElem_cons hkl, List.all_cons, ← hqe])
      clear cel hf hqe
      cases b with
      | true =>
        go_wp2_with (refine (HF.out _ hB).mono ?_; rintro e w1 ⟨rfl, hb⟩)
        go_roundw
        case rel => exact ⟨k + 1, by omega, by simp, Lib.hid (by rw [hall.out, hdrop.out, Bool.true_and]), hB.trans (hb.mono hB.size)⟩
        case measure => simp [intOf]; omega
      | false =>
        go_wp2_with (refine (HF.out _ hB).mono ?_; rintro e w1 ⟨rfl, hb⟩)
        go_ret
        exact ⟨by rw [hall.out, hdrop.out, Bool.false_and]; rfl, hB.trans (hb.mono hB.size)⟩
    · obtain rfl : k = n := by omega
      go_wp2
      go_ret
      exact ⟨by rw [hall.out, List.drop_of_length_le (by have := HN.out; omega)]; rfl, hB⟩
def toS (l : Lab) : List PChk.S76 := l.map (fun p => ⟨p.1, p.2⟩)
theorem q9s (l : Lab) : (toS l).length = l.length := List.length_map _
theorem C_toS {w : World} {A : Option Addr} {n : Nat} {l : Lab} (h : kPr.C w A n l) : Kd.C PChk.k76 w A n (toS l) := by
  obtain ⟨h1, h2, h3⟩ := h
  refine ⟨by rw [q9s]; exact h1, h2, fun hn => ?_⟩
  obtain ⟨ad, e, hc⟩ := h3 hn
  refine ⟨ad, e, fun j p hp => ?_⟩
  unfold toS at hp
  rw [List.getElem?_map] at hp
  cases hj : l[j]? with
  | none => rw [hj] at hp; simp at hp
  | some q =>
    rw [hj] at hp
    simp at hp
    obtain ⟨c, hc1, hc2, hc3⟩ := hc j q hj
    subst hp
    exact ⟨c, hc1, hc2, hc3⟩
theorem rd_toS (l : Lab) (i : Nat) (h : i < l.length) : PChk.rd_T76 (toS l) (i : Int) = ⟨l[i].1, l[i].2⟩ := by
  unfold PChk.rd_T76 toS
  simp [h]
theorem w64' {x : Int} (h : 0 ≤ x ∧ x < 9223372036854775808) : wrap64 x = x := by unfold wrap64; omega
def q5q (l : Lab) : Bool := l.all (fun p => p.2 != 5)
theorem plainB_cons (p : Int × Int) (t : Lab) : q5q (p :: t) = (p.2 != 5 && q5q t) := rfl
theorem plain_loop (l : Lab) (hlen : l.length ≤ 1000000) : ∀ (d k i : Nat), i + d = l.length → d < k → PChk.check_plain.l0 k (toS l) (l.length : Int) (i : Int) = some (q5q (l.drop i)) := by
  intro d
  induction d with
  | zero =>
    intro k i hi hk
    obtain ⟨k, rfl⟩ : ∃ m, k = m + 1 := ⟨k - 1, by omega⟩
    simp only [PChk.check_plain.l0, q9s]
    rw [if_neg (by omega), List.drop_of_length_le (by omega)]
    rfl
  | succ d ih =>
    intro k i hi hk
    obtain ⟨k, rfl⟩ : ∃ m, k = m + 1 := ⟨k - 1, by omega⟩
    have hil : i < l.length := by omega
    have ih' := ih k (i + 1) (by omega) (by omega)
    have hw : wrap64 ((i : Int) + 1) = ((i + 1 : Nat) : Int) := by rw [w64' (by omega)]; omega
    simp only [PChk.check_plain.l0, q9s]
    rw [if_pos (by omega), if_pos (by omega), if_pos (by omega), rd_toS l i hil, hw, ih', List.drop_eq_getElem_cons hil]
    by_cases h1 : l[i].2 = 5
    · rw [if_pos h1, plainB_cons, h1]; rfl
    · rw [if_neg h1, plainB_cons, bne_iff_ne.2 h1, Bool.true_and]
theorem plain_calls (l : Lab) (A : Option Addr) (c : Nat) (w : World) (hC : kPr.C w A l.length l) (hc : l.length ≤ c) (hlen : l.length ≤ 1000000) :
    Calls Tryz.prog 267 #[.slice A l.length c] w fun e w' => e = .returned (.bool (q5q l)) ∧ Below w.heap.size w w' := by
  have h := PChk.check_plain.calls (l.length + 1) A c (toS l) (q5q l) w (by rw [q9s]; exact C_toS hC) (by rw [q9s]; exact hc) (by
    have := plain_loop l hlen l.length (l.length + 1) 0 (by omega) (by omega)
    rw [List.drop_zero] at this
    unfold PChk.check_plain.f
    rw [q9s]
    exact this)
  rw [q9s] at h
  refine h.mono ?_
  rintro e w' ⟨rfl, hb⟩
  exact ⟨rfl, by first | exact hb | exact hb.below⟩
theorem leq1_calls (la lb : Lab) (Aa Ab : Option Addr) (ca cb : Nat) (g h : Nat) (W : World) (hg : W.heap[g]? = some (.cells #[.slice Aa la.length ca] 26 (0, 0))) (hh : W.heap[h]? = some (.cells #[.slice Ab lb.length cb] 26 (0, 0)))
    (hCa : kPr.C W Aa la.length la) (hCb : kPr.C W Ab lb.length lb) (hca : la.length ≤ ca) (hcb : lb.length ≤ cb) (hlen : la.length + lb.length ≤ 1000000) :
    Calls Tryz.prog 268 #[.pointer (some ⟨g, 0, none⟩), .pointer (some ⟨h, 0, none⟩)] W fun e w' => e = .returned (.bool (leqB la lb)) ∧ Below W.heap.size W w' := by
  have c1 := blk_cell hg 0
  have c2 := blk_cell hh 0
  simp only [List.getElem?_toArray, List.getElem?_cons_zero] at c1 c2
  have HC := Lib.hid hCa
  have HD := Lib.hid hCb
  clear hg hh hCa hCb
  go_enter Tryz.func268, Tryz.ntmps268
  go_wp2_with (refine (leq_calls la lb Aa Ab ca cb _ HC.out HD.out hca hcb hlen).mono ?_; rintro e w1 ⟨rfl, hb⟩)
  go_ret
  exact ⟨rfl, hb⟩
theorem q6e (la lb : Lab) (Aa Ab : Option Addr) (ca cb : Nat) (w : World) (hCa : kPr.C w Aa la.length la) (hCb : kPr.C w Ab lb.length lb) (hca : la.length ≤ ca) (hcb : lb.length ≤ cb) (hlen : la.length + lb.length ≤ 1000000) :
    Calls Tryz.prog 229 #[.slice Aa la.length ca, .slice Ab lb.length cb] w fun e w' => ∃ fn lb_, e = .returned (.func (.func fn) #[] lb_) ∧ Quest w' (.func (.func fn) #[] lb_) (leqB la lb) ∧ Below w.heap.size w w' := by
  have HC := Lib.hid hCa
  have HD := Lib.hid hCb
  clear hCa hCb
  go_enter Tryz.func229, Tryz.ntmps229
  go_wp2
  go_ret
  refine ⟨_, _, rfl, ⟨268, _, rfl, enters_of Tryz.func268 (by kernel_rfl) rfl, fun W hW => ?_⟩, (by repeat (first | with_reducible (exact Below.refl _ _) | with_reducible (apply below_alloc) | with_reducible (apply below_drew1) | with_reducible (apply pw_below_drewN) | (with_reducible (refine q3g ?_ ?_ _ _); rotate_left; omega)))⟩
  exact leq1_calls la lb Aa Ab ca cb _ _ W (blk_below (blk_alloc (blk_new _ _) _) hW) (blk_below (blk_at (by simp)) hW) (Kd.C_below (Kd.C_below HC.out (by repeat (first | with_reducible (exact Below.refl _ _) | with_reducible (apply below_alloc) | with_reducible (apply below_drew1) | with_reducible (apply pw_below_drewN) | (with_reducible (refine q3g ?_ ?_ _ _); rotate_left; omega)))) hW) (Kd.C_below (Kd.C_below HD.out (by repeat (first | with_reducible (exact Below.refl _ _) | with_reducible (apply below_alloc) | with_reducible (apply below_drew1) | with_reducible (apply pw_below_drewN) | (with_reducible (refine q3g ?_ ?_ _ _); rotate_left; omega)))) hW) hca hcb hlen
theorem flat1_calls (la : Lab) (Aa : Option Addr) (ca : Nat) (g : Nat) (W : World) (hg : W.heap[g]? = some (.cells #[.slice Aa la.length ca] 26 (0, 0))) (hCa : kPr.C W Aa la.length la) (hca : la.length ≤ ca) (hlen : la.length ≤ 1000000) :
    Calls Tryz.prog 266 #[.pointer (some ⟨g, 0, none⟩)] W fun e w' => e = .returned (.bool (q5q la)) ∧ Below W.heap.size W w' := by
  have c1 := blk_cell hg 0
  simp only [List.getElem?_toArray, List.getElem?_cons_zero] at c1
  have HC := Lib.hid hCa
  clear hg hCa
  go_enter Tryz.func266, Tryz.ntmps266
  go_wp2_with (refine (plain_calls la Aa ca _ HC.out hca hlen).mono ?_; rintro e w1 ⟨rfl, hb⟩)
  go_ret
  exact ⟨rfl, hb⟩
theorem flat_calls (la : Lab) (Aa : Option Addr) (ca : Nat) (w : World) (hCa : kPr.C w Aa la.length la) (hca : la.length ≤ ca) (hlen : la.length ≤ 1000000) :
    Calls Tryz.prog 228 #[.slice Aa la.length ca] w fun e w' => ∃ fn lb_, e = .returned (.func (.func fn) #[] lb_) ∧ Quest w' (.func (.func fn) #[] lb_) (q5q la) ∧ Below w.heap.size w w' := by
  have HC := Lib.hid hCa
  clear hCa
  go_enter Tryz.func228, Tryz.ntmps228
  go_wp2
  go_ret
  refine ⟨_, _, rfl, ⟨266, _, rfl, enters_of Tryz.func266 (by kernel_rfl) rfl, fun W hW => ?_⟩, (by repeat (first | with_reducible (exact Below.refl _ _) | with_reducible (apply below_alloc) | with_reducible (apply below_drew1) | with_reducible (apply pw_below_drewN) | (with_reducible (refine q3g ?_ ?_ _ _); rotate_left; omega)))⟩
  exact flat1_calls la Aa ca _ W (blk_below (blk_new _ _) hW) (Kd.C_below (Kd.C_below HC.out (by repeat (first | with_reducible (exact Below.refl _ _) | with_reducible (apply below_alloc) | with_reducible (apply below_drew1) | with_reducible (apply pw_below_drewN) | (with_reducible (refine q3g ?_ ?_ _ _); rotate_left; omega)))) hW) hca hlen
end Go.Proofs.YtoibbedpaaeclaaGreat
end

section
namespace Go.Proofs.YtoibbedpaaeclaaGreat
open Go Go.RowKit Go.Shelf Go.Proofs.YtoibbedpaaeclaaGreatW.PrintWords Go.Proofs.YtoibbedpaaeclaaGreatW.PrintLast Go.Proofs.YtoibbedpaaeclaaGreatW.PrintMore
set_option linter.unusedVariables false
set_option linter.unusedSimpArgs false
theorem joinB_len (a b : Lab) : (joinB a b).length ≤ a.length + b.length := foldB_len _ _ _
theorem raiseB_len (a : Lab) : (q9n a).length ≤ a.length := foldB_len _ _ _
theorem lowerB_len (a : Lab) : (lowerB a).length ≤ a.length := foldB_len _ _ _
theorem raiseC (la : Lab) (Aa : Option Addr) (ca : Nat) (w : World) (hCa : kPr.C w Aa la.length la) (hca : la.length ≤ ca) (hlen : la.length ≤ 1000000) :
    Calls Tryz.prog 226 #[.slice Aa la.length ca] w fun e w' => ∃ v, e = .returned v ∧ Kd.R kPr 76 w' w.heap.size (fun _ => True) v (q9n la) ∧ Below w.heap.size w w' := raise_calls la Aa ca w hCa hca hlen
theorem lowerC (la : Lab) (Aa : Option Addr) (ca : Nat) (w : World) (hCa : kPr.C w Aa la.length la) (hca : la.length ≤ ca) (hlen : la.length ≤ 1000000) :
    Calls Tryz.prog 224 #[.slice Aa la.length ca] w fun e w' => ∃ v, e = .returned v ∧ Kd.R kPr 76 w' w.heap.size (fun _ => True) v (lowerB la) ∧ Below w.heap.size w w' := lower_calls la Aa ca w hCa hca hlen
theorem joinC (la lb : Lab) (Aa Ab : Option Addr) (ca cb : Nat) (w : World) (hCa : kPr.C w Aa la.length la) (hCb : kPr.C w Ab lb.length lb) (hca : la.length ≤ ca) (hcb : lb.length ≤ cb) (hlen : la.length + lb.length ≤ 1000000) :
    Calls Tryz.prog 225 #[.slice Aa la.length ca, .slice Ab lb.length cb] w fun e w' => ∃ v, e = .returned v ∧ Kd.R kPr 76 w' w.heap.size (fun _ => True) v (joinB la lb) ∧ Below w.heap.size w w' := join_calls la lb Aa Ab ca cb w hCa hCb hca hcb hlen
set_option maxRecDepth 100000 in
set_option maxHeartbeats 1000000 in
theorem become_calls (lT : Lab) (AT : Option Addr) (cT : Nat) (lC : Lab) (AC : Option Addr) (cC : Nat) (lN : Lab) (AN : Option Addr) (cN : Nat) (w : World) (hT : kPr.C w AT lT.length lT) (hcT : lT.length ≤ cT) (hlT : lT.length ≤ 1000) (hC : kPr.C w AC lC.length lC) (hcC : lC.length ≤ cC) (hlC : lC.length ≤ 1000) (hN : kPr.C w AN lN.length lN) (hcN : lN.length ≤ cN) (hlN : lN.length ≤ 1000) :
    Calls Tryz.prog 246 #[.slice AT lT.length cT, .slice AC lC.length cC, .slice AN lN.length cN] w fun e w' => e = .returned (.bool (q5q lN && (leqB lT lN && leqB lN lC))) ∧ Below w.heap.size w w' := by
  have hT := Lib.hid hT
  have hC := Lib.hid hC
  have hN := Lib.hid hN
  have HB := Lib.hid (Below.refl w.heap.size w)
  go_enter Tryz.func246, Tryz.ntmps246
  go_wp2_with fail
  with_reducible refine Calls.mono (flat_calls lN AN cN _ hN.out hcN (by omega)) ?_
  rintro e w1 ⟨f1, b1, rfl, q1, hb⟩
  have hT := Lib.hid (Kd.C_below hT.out hb)
  have hC := Lib.hid (Kd.C_below hC.out hb)
  have hN := Lib.hid (Kd.C_below hN.out hb)
  have HB := Lib.hid (below_step HB.out hb)
  clear hb
  go_wp2_with fail
  with_reducible refine Calls.mono (q6e lT lN AT AN cT cN _ hT.out hN.out hcT hcN (by omega)) ?_
  rintro e w1 ⟨f2, b2, rfl, q2, hb⟩
  have hT := Lib.hid (Kd.C_below hT.out hb)
  have hC := Lib.hid (Kd.C_below hC.out hb)
  have hN := Lib.hid (Kd.C_below hN.out hb)
  have q1 := q1.below hb
  have HB := Lib.hid (below_step HB.out hb)
  clear hb
  go_wp2_with fail
  with_reducible refine Calls.mono (q6e lN lC AN AC cN cC _ hN.out hC.out hcN hcC (by omega)) ?_
  rintro e w1 ⟨f3, b3, rfl, q3, hb⟩
  have hT := Lib.hid (Kd.C_below hT.out hb)
  have hC := Lib.hid (Kd.C_below hC.out hb)
  have hN := Lib.hid (Kd.C_below hN.out hb)
  have q1 := q1.below hb
  have q2 := q2.below hb
  have HB := Lib.hid (below_step HB.out hb)
  clear hb
  go_wp2_with fail
  with_reducible refine Calls.mono (all_calls [((Value.func (.func f1) #[] b1), q5q lN), ((Value.func (.func f2) #[] b2), leqB lT lN), ((Value.func (.func f3) #[] b3), leqB lN lC)] _ 257 _ ?hb ?hq (by simp)) ?_
  case hb => exact blk_at (by simp)
  case hq =>
    intro q hq
    simp only [List.mem_cons, List.not_mem_nil, or_false] at hq
    rcases hq with rfl | rfl | rfl
    · exact q1.below (by repeat (first | with_reducible (exact Below.refl _ _) | with_reducible (apply below_alloc) | with_reducible (apply below_drew1) | with_reducible (apply pw_below_drewN) | (with_reducible (refine q3g ?_ ?_ _ _); rotate_left; omega)))
    · exact q2.below (by repeat (first | with_reducible (exact Below.refl _ _) | with_reducible (apply below_alloc) | with_reducible (apply below_drew1) | with_reducible (apply pw_below_drewN) | (with_reducible (refine q3g ?_ ?_ _ _); rotate_left; omega)))
    · exact q3.below (by repeat (first | with_reducible (exact Below.refl _ _) | with_reducible (apply below_alloc) | with_reducible (apply below_drew1) | with_reducible (apply pw_below_drewN) | (with_reducible (refine q3g ?_ ?_ _ _); rotate_left; omega)))
  rintro e w1 ⟨rfl, hb⟩
  go_wp2_with fail
  go_ret
  exact ⟨by simp, below_step (show Below w.heap.size w _ from (by repeat (first | with_reducible (exact HB.out) | with_reducible (apply below_alloc) | with_reducible (apply below_drew1) | with_reducible (apply pw_below_drewN) | (with_reducible (refine q3g ?_ ?_ _ _); rotate_left; omega)))) hb⟩
set_option maxRecDepth 100000 in
set_option maxHeartbeats 1000000 in
theorem enter_calls (lT : Lab) (AT : Option Addr) (cT : Nat) (lC : Lab) (AC : Option Addr) (cC : Nat) (lG : Lab) (AG : Option Addr) (cG : Nat) (lK : Lab) (AK : Option Addr) (cK : Nat) (lN : Lab) (AN : Option Addr) (cN : Nat) (lM : Lab) (AM : Option Addr) (cM : Nat) (w : World) (hT : kPr.C w AT lT.length lT) (hcT : lT.length ≤ cT) (hlT : lT.length ≤ 1000) (hC : kPr.C w AC lC.length lC) (hcC : lC.length ≤ cC) (hlC : lC.length ≤ 1000) (hG : kPr.C w AG lG.length lG) (hcG : lG.length ≤ cG) (hlG : lG.length ≤ 1000) (hK : kPr.C w AK lK.length lK) (hcK : lK.length ≤ cK) (hlK : lK.length ≤ 1000) (hN : kPr.C w AN lN.length lN) (hcN : lN.length ≤ cN) (hlN : lN.length ≤ 1000) (hM : kPr.C w AM lM.length lM) (hcM : lM.length ≤ cM) (hlM : lM.length ≤ 1000) :
    Calls Tryz.prog 176 #[.slice AT lT.length cT, .slice AC lC.length cC, .slice AG lG.length cG, .slice AK lK.length cK, .slice AN lN.length cN, .slice AM lM.length cM] w fun e w' => e = .returned (.bool (q5q lN && (q5q lM && (leqB lT lK && (leqB (lowerB (joinB (q9n lT) (q9n lG))) lN && (leqB lN lM && leqB lM (joinB lC lK))))))) ∧ Below w.heap.size w w' := by
  have hT := Lib.hid hT
  have hC := Lib.hid hC
  have hG := Lib.hid hG
  have hK := Lib.hid hK
  have hN := Lib.hid hN
  have hM := Lib.hid hM
  have HB := Lib.hid (Below.refl w.heap.size w)
  go_enter Tryz.func176, Tryz.ntmps176
  go_wp2_with fail
  with_reducible refine Calls.mono (raiseC lT AT cT _ hT.out hcT (by omega)) ?_
  rintro e w1 ⟨v_, rfl, hr, hb⟩
  obtain ⟨AR, cR, rfl, hcR, hmR⟩ := Kd.R_reads hr
  obtain ⟨lR, hlRe⟩ : ∃ l_, l_ = q9n lT := ⟨_, rfl⟩
  have hlR : lR.length ≤ 1000 := by rw [hlRe]; exact Nat.le_trans (raiseB_len _) hlT
  rw [← hlRe] at hcR hmR ⊢
  have hR := Lib.hid hmR
  have eR := Lib.hid hlRe
  clear hmR hlRe hr
  have hT := Lib.hid (Kd.C_below hT.out hb)
  have hC := Lib.hid (Kd.C_below hC.out hb)
  have hG := Lib.hid (Kd.C_below hG.out hb)
  have hK := Lib.hid (Kd.C_below hK.out hb)
  have hN := Lib.hid (Kd.C_below hN.out hb)
  have hM := Lib.hid (Kd.C_below hM.out hb)
  have HB := Lib.hid (below_step HB.out hb)
  clear hb
  go_wp2_with fail
  with_reducible refine Calls.mono (raiseC lG AG cG _ hG.out hcG (by omega)) ?_
  rintro e w1 ⟨v_, rfl, hr, hb⟩
  obtain ⟨AS, cS, rfl, hcS, hmS⟩ := Kd.R_reads hr
  obtain ⟨lS, hlSe⟩ : ∃ l_, l_ = q9n lG := ⟨_, rfl⟩
  have hlS : lS.length ≤ 1000 := by rw [hlSe]; exact Nat.le_trans (raiseB_len _) hlG
  rw [← hlSe] at hcS hmS ⊢
  have hS := Lib.hid hmS
  have eS := Lib.hid hlSe
  clear hmS hlSe hr
  have hT := Lib.hid (Kd.C_below hT.out hb)
  have hC := Lib.hid (Kd.C_below hC.out hb)
  have hG := Lib.hid (Kd.C_below hG.out hb)
  have hK := Lib.hid (Kd.C_below hK.out hb)
  have hN := Lib.hid (Kd.C_below hN.out hb)
  have hM := Lib.hid (Kd.C_below hM.out hb)
  have hR := Lib.hid (Kd.C_below hR.out hb)
  have HB := Lib.hid (below_step HB.out hb)
  clear hb
  go_wp2_with fail
  with_reducible refine Calls.mono (joinC lR lS AR AS cR cS _ hR.out hS.out hcR hcS (by omega)) ?_
  rintro e w1 ⟨v_, rfl, hr, hb⟩
  obtain ⟨AJ, cJ, rfl, hcJ, hmJ⟩ := Kd.R_reads hr
  obtain ⟨lJ, hlJe⟩ : ∃ l_, l_ = joinB lR lS := ⟨_, rfl⟩
  have hlJ : lJ.length ≤ 2000 := by rw [hlJe]; exact Nat.le_trans (joinB_len _ _) (by omega)
  rw [← hlJe] at hcJ hmJ ⊢
  have hJ := Lib.hid hmJ
  have eJ := Lib.hid hlJe
  clear hmJ hlJe hr
  have hT := Lib.hid (Kd.C_below hT.out hb)
  have hC := Lib.hid (Kd.C_below hC.out hb)
  have hG := Lib.hid (Kd.C_below hG.out hb)
  have hK := Lib.hid (Kd.C_below hK.out hb)
  have hN := Lib.hid (Kd.C_below hN.out hb)
  have hM := Lib.hid (Kd.C_below hM.out hb)
  have hR := Lib.hid (Kd.C_below hR.out hb)
  have hS := Lib.hid (Kd.C_below hS.out hb)
  have HB := Lib.hid (below_step HB.out hb)
  clear hb
  go_wp2_with fail
  with_reducible refine Calls.mono (lowerC lJ AJ cJ _ hJ.out hcJ (by omega)) ?_
  rintro e w1 ⟨v_, rfl, hr, hb⟩
  obtain ⟨AL, cL, rfl, hcL, hmL⟩ := Kd.R_reads hr
  obtain ⟨lL, hlLe⟩ : ∃ l_, l_ = lowerB lJ := ⟨_, rfl⟩
  have hlL : lL.length ≤ 2000 := by rw [hlLe]; exact Nat.le_trans (lowerB_len _) hlJ
  rw [← hlLe] at hcL hmL ⊢
  have hL := Lib.hid hmL
  have eL := Lib.hid hlLe
  clear hmL hlLe hr
  have hT := Lib.hid (Kd.C_below hT.out hb)
  have hC := Lib.hid (Kd.C_below hC.out hb)
  have hG := Lib.hid (Kd.C_below hG.out hb)
  have hK := Lib.hid (Kd.C_below hK.out hb)
  have hN := Lib.hid (Kd.C_below hN.out hb)
  have hM := Lib.hid (Kd.C_below hM.out hb)
  have hR := Lib.hid (Kd.C_below hR.out hb)
  have hS := Lib.hid (Kd.C_below hS.out hb)
  have hJ := Lib.hid (Kd.C_below hJ.out hb)
  have HB := Lib.hid (below_step HB.out hb)
  clear hb
  go_wp2_with fail
  with_reducible refine Calls.mono (flat_calls lN AN cN _ hN.out hcN (by omega)) ?_
  rintro e w1 ⟨f1, b1, rfl, q1, hb⟩
  have hT := Lib.hid (Kd.C_below hT.out hb)
  have hC := Lib.hid (Kd.C_below hC.out hb)
  have hG := Lib.hid (Kd.C_below hG.out hb)
  have hK := Lib.hid (Kd.C_below hK.out hb)
  have hN := Lib.hid (Kd.C_below hN.out hb)
  have hM := Lib.hid (Kd.C_below hM.out hb)
  have hR := Lib.hid (Kd.C_below hR.out hb)
  have hS := Lib.hid (Kd.C_below hS.out hb)
  have hJ := Lib.hid (Kd.C_below hJ.out hb)
  have hL := Lib.hid (Kd.C_below hL.out hb)
  have HB := Lib.hid (below_step HB.out hb)
  clear hb
  go_wp2_with fail
  with_reducible refine Calls.mono (flat_calls lM AM cM _ hM.out hcM (by omega)) ?_
  rintro e w1 ⟨f2, b2, rfl, q2, hb⟩
  have hT := Lib.hid (Kd.C_below hT.out hb)
  have hC := Lib.hid (Kd.C_below hC.out hb)
  have hG := Lib.hid (Kd.C_below hG.out hb)
  have hK := Lib.hid (Kd.C_below hK.out hb)
  have hN := Lib.hid (Kd.C_below hN.out hb)
  have hM := Lib.hid (Kd.C_below hM.out hb)
  have hR := Lib.hid (Kd.C_below hR.out hb)
  have hS := Lib.hid (Kd.C_below hS.out hb)
  have hJ := Lib.hid (Kd.C_below hJ.out hb)
  have hL := Lib.hid (Kd.C_below hL.out hb)
  have q1 := q1.below hb
  have HB := Lib.hid (below_step HB.out hb)
  clear hb
  go_wp2_with fail
  with_reducible refine Calls.mono (q6e lT lK AT AK cT cK _ hT.out hK.out hcT hcK (by omega)) ?_
  rintro e w1 ⟨f3, b3, rfl, q3, hb⟩
  have hT := Lib.hid (Kd.C_below hT.out hb)
  have hC := Lib.hid (Kd.C_below hC.out hb)
  have hG := Lib.hid (Kd.C_below hG.out hb)
  have hK := Lib.hid (Kd.C_below hK.out hb)
  have hN := Lib.hid (Kd.C_below hN.out hb)
  have hM := Lib.hid (Kd.C_below hM.out hb)
  have hR := Lib.hid (Kd.C_below hR.out hb)
  have hS := Lib.hid (Kd.C_below hS.out hb)
  have hJ := Lib.hid (Kd.C_below hJ.out hb)
  have hL := Lib.hid (Kd.C_below hL.out hb)
  have q1 := q1.below hb
  have q2 := q2.below hb
  have HB := Lib.hid (below_step HB.out hb)
  clear hb
  go_wp2_with fail
  with_reducible refine Calls.mono (q6e lL lN AL AN cL cN _ hL.out hN.out hcL hcN (by omega)) ?_
  rintro e w1 ⟨f4, b4, rfl, q4, hb⟩
  have hT := Lib.hid (Kd.C_below hT.out hb)
  have hC := Lib.hid (Kd.C_below hC.out hb)
  have hG := Lib.hid (Kd.C_below hG.out hb)
  have hK := Lib.hid (Kd.C_below hK.out hb)
  have hN := Lib.hid (Kd.C_below hN.out hb)
  have hM := Lib.hid (Kd.C_below hM.out hb)
  have hR := Lib.hid (Kd.C_below hR.out hb)
  have hS := Lib.hid (Kd.C_below hS.out hb)
  have hJ := Lib.hid (Kd.C_below hJ.out hb)
  have hL := Lib.hid (Kd.C_below hL.out hb)
  have q1 := q1.below hb
  have q2 := q2.below hb
  have q3 := q3.below hb
  have HB := Lib.hid (below_step HB.out hb)
  clear hb
  go_wp2_with fail
  with_reducible refine Calls.mono (q6e lN lM AN AM cN cM _ hN.out hM.out hcN hcM (by omega)) ?_
  rintro e w1 ⟨f5, b5, rfl, q5, hb⟩
  have hT := Lib.hid (Kd.C_below hT.out hb)
  have hC := Lib.hid (Kd.C_below hC.out hb)
  have hG := Lib.hid (Kd.C_below hG.out hb)
  have hK := Lib.hid (Kd.C_below hK.out hb)
  have hN := Lib.hid (Kd.C_below hN.out hb)
  have hM := Lib.hid (Kd.C_below hM.out hb)
  have hR := Lib.hid (Kd.C_below hR.out hb)
  have hS := Lib.hid (Kd.C_below hS.out hb)
  have hJ := Lib.hid (Kd.C_below hJ.out hb)
  have hL := Lib.hid (Kd.C_below hL.out hb)
  have q1 := q1.below hb
  have q2 := q2.below hb
  have q3 := q3.below hb
  have q4 := q4.below hb
  have HB := Lib.hid (below_step HB.out hb)
  clear hb
  go_wp2_with fail
  with_reducible refine Calls.mono (joinC lC lK AC AK cC cK _ hC.out hK.out hcC hcK (by omega)) ?_
  rintro e w1 ⟨v_, rfl, hr, hb⟩
  obtain ⟨AI, cI, rfl, hcI, hmI⟩ := Kd.R_reads hr
  obtain ⟨lI, hlIe⟩ : ∃ l_, l_ = joinB lC lK := ⟨_, rfl⟩
  have hlI : lI.length ≤ 2000 := by rw [hlIe]; exact Nat.le_trans (joinB_len _ _) (by omega)
  rw [← hlIe] at hcI hmI ⊢
  have hI := Lib.hid hmI
  have eI := Lib.hid hlIe
  clear hmI hlIe hr
  have hT := Lib.hid (Kd.C_below hT.out hb)
  have hC := Lib.hid (Kd.C_below hC.out hb)
  have hG := Lib.hid (Kd.C_below hG.out hb)
  have hK := Lib.hid (Kd.C_below hK.out hb)
  have hN := Lib.hid (Kd.C_below hN.out hb)
  have hM := Lib.hid (Kd.C_below hM.out hb)
  have hR := Lib.hid (Kd.C_below hR.out hb)
  have hS := Lib.hid (Kd.C_below hS.out hb)
  have hJ := Lib.hid (Kd.C_below hJ.out hb)
  have hL := Lib.hid (Kd.C_below hL.out hb)
  have q1 := q1.below hb
  have q2 := q2.below hb
  have q3 := q3.below hb
  have q4 := q4.below hb
  have q5 := q5.below hb
  have HB := Lib.hid (below_step HB.out hb)
  clear hb
  go_wp2_with fail
  with_reducible refine Calls.mono (q6e lM lI AM AI cM cI _ hM.out hI.out hcM hcI (by omega)) ?_
  rintro e w1 ⟨f6, b6, rfl, q6, hb⟩
  have hT := Lib.hid (Kd.C_below hT.out hb)
  have hC := Lib.hid (Kd.C_below hC.out hb)
  have hG := Lib.hid (Kd.C_below hG.out hb)
  have hK := Lib.hid (Kd.C_below hK.out hb)
  have hN := Lib.hid (Kd.C_below hN.out hb)
  have hM := Lib.hid (Kd.C_below hM.out hb)
  have hR := Lib.hid (Kd.C_below hR.out hb)
  have hS := Lib.hid (Kd.C_below hS.out hb)
  have hJ := Lib.hid (Kd.C_below hJ.out hb)
  have hL := Lib.hid (Kd.C_below hL.out hb)
  have hI := Lib.hid (Kd.C_below hI.out hb)
  have q1 := q1.below hb
  have q2 := q2.below hb
  have q3 := q3.below hb
  have q4 := q4.below hb
  have q5 := q5.below hb
  have HB := Lib.hid (below_step HB.out hb)
  clear hb
  go_wp2_with fail
  with_reducible refine Calls.mono (all_calls [((Value.func (.func f1) #[] b1), q5q lN), ((Value.func (.func f2) #[] b2), q5q lM), ((Value.func (.func f3) #[] b3), leqB lT lK), ((Value.func (.func f4) #[] b4), leqB lL lN), ((Value.func (.func f5) #[] b5), leqB lN lM), ((Value.func (.func f6) #[] b6), leqB lM lI)] _ 257 _ ?hb ?hq (by simp)) ?_
  case hb => exact blk_at (by simp)
  case hq =>
    intro q hq
    simp only [List.mem_cons, List.not_mem_nil, or_false] at hq
    rcases hq with rfl | rfl | rfl | rfl | rfl | rfl
    · exact q1.below (by repeat (first | with_reducible (exact Below.refl _ _) | with_reducible (apply below_alloc) | with_reducible (apply below_drew1) | with_reducible (apply pw_below_drewN) | (with_reducible (refine q3g ?_ ?_ _ _); rotate_left; omega)))
    · exact q2.below (by repeat (first | with_reducible (exact Below.refl _ _) | with_reducible (apply below_alloc) | with_reducible (apply below_drew1) | with_reducible (apply pw_below_drewN) | (with_reducible (refine q3g ?_ ?_ _ _); rotate_left; omega)))
    · exact q3.below (by repeat (first | with_reducible (exact Below.refl _ _) | with_reducible (apply below_alloc) | with_reducible (apply below_drew1) | with_reducible (apply pw_below_drewN) | (with_reducible (refine q3g ?_ ?_ _ _); rotate_left; omega)))
    · exact q4.below (by repeat (first | with_reducible (exact Below.refl _ _) | with_reducible (apply below_alloc) | with_reducible (apply below_drew1) | with_reducible (apply pw_below_drewN) | (with_reducible (refine q3g ?_ ?_ _ _); rotate_left; omega)))
    · exact q5.below (by repeat (first | with_reducible (exact Below.refl _ _) | with_reducible (apply below_alloc) | with_reducible (apply below_drew1) | with_reducible (apply pw_below_drewN) | (with_reducible (refine q3g ?_ ?_ _ _); rotate_left; omega)))
    · exact q6.below (by repeat (first | with_reducible (exact Below.refl _ _) | with_reducible (apply below_alloc) | with_reducible (apply below_drew1) | with_reducible (apply pw_below_drewN) | (with_reducible (refine q3g ?_ ?_ _ _); rotate_left; omega)))
  rintro e w1 ⟨rfl, hb⟩
  go_wp2_with fail
  go_ret
  exact ⟨by rw [← eR.out]; rw [← eS.out]; rw [← eJ.out]; rw [← eL.out]; rw [← eI.out]; simp, below_step (show Below w.heap.size w _ from (by repeat (first | with_reducible (exact HB.out) | with_reducible (apply below_alloc) | with_reducible (apply below_drew1) | with_reducible (apply pw_below_drewN) | (with_reducible (refine q3g ?_ ?_ _ _); rotate_left; omega)))) hb⟩
end Go.Proofs.YtoibbedpaaeclaaGreat
end

section
namespace Go.Proofs.YtoibbedpaaeclaaGreat
open Go Go.RowKit Go.Proofs.YtoibbedpaaeclaaGreatW.PrintWords Go.Proofs.YtoibbedpaaeclaaGreatW.PrintLast Go.Proofs.YtoibbedpaaeclaaGreatW.PrintMore
set_option linter.unusedVariables false
set_option linter.unusedSimpArgs false
theorem q8v {w : World} {M σ L} {vs : List Value} {p : PV} {ps : List PV} (h : VL w M σ L vs (p :: ps)) : ∃ v us, vs = v :: us ∧ VR w M σ L v p ∧ VL w M σ L us ps := by
  obtain ⟨h1, h2⟩ := h
  match vs, h1 with
  | v :: us, h1 => exact ⟨v, us, rfl, h2 0 v p rfl rfl, by simpa using h1, fun i v p hv hp => h2 (i + 1) v p (by simpa using hv) (by simpa using hp)⟩
theorem vl_nil' {w : World} {M σ L} {vs : List Value} (h : VL w M σ L vs []) : vs = [] := List.eq_nil_of_length_eq_zero h.1
theorem of_of (l : Lab) : q2n (l.map ofPair) = l := by simp [q2n, ofPair, List.map_map, Function.comp_def]
theorem label_get (l : List Pr) (c : Int) (hs : Sorted (q2n l)) (hl : l.length ≤ 1000000) : Pure Tryz.prog 201 [.sl (l.map Pr.enc), .int .u64 c] (.int .i64 (getL (q2n l) c)) := by
  intro w M σ L vs hM hvl
  obtain ⟨v, u, rfl, h1, h2⟩ := vl2 hvl
  obtain ⟨A, cap, rfl, hC, hc⟩ := q7c h1 (by omega)
  cases h2
  refine (get_calls (q2n l) A cap c w hC hc hs (by rw [q4g]; exact hl)).mono ?_
  rintro e w' ⟨rfl, hb⟩
  exact ⟨_, rfl, .int _ _, hb⟩
def enterB (t c g k n m : List Pr) : Bool := q5q (q2n n) && (q5q (q2n m) && (leqB (q2n t) (q2n k) && (leqB (lowerB (joinB (q9n (q2n t)) (q9n (q2n g)))) (q2n n) && (leqB (q2n n) (q2n m) && leqB (q2n m) (joinB (q2n c) (q2n k))))))
theorem chk_enter (t c g k n m : List Pr) (ht : t.length ≤ 1000) (hc : c.length ≤ 1000) (hg : g.length ≤ 1000) (hk : k.length ≤ 1000) (hn : n.length ≤ 1000) (hm : m.length ≤ 1000) : Pure Tryz.prog 176 [.sl (t.map Pr.enc), .sl (c.map Pr.enc), .sl (g.map Pr.enc), .sl (k.map Pr.enc), .sl (n.map Pr.enc), .sl (m.map Pr.enc)] (.bool (enterB t c g k n m)) := by
  intro w M σ L vs hM hvl
  obtain ⟨vt, vs, rfl, rt, hvl⟩ := q8v hvl
  obtain ⟨vc, vs, rfl, rc, hvl⟩ := q8v hvl
  obtain ⟨vg, vs, rfl, rg, hvl⟩ := q8v hvl
  obtain ⟨vk, vs, rfl, rk, hvl⟩ := q8v hvl
  obtain ⟨vn, vs, rfl, rn, hvl⟩ := q8v hvl
  obtain ⟨vm, vs, rfl, rm, hvl⟩ := q8v hvl
  cases vl_nil' hvl
  obtain ⟨At, ct, rfl, Ct, dt⟩ := q7c rt (by omega)
  obtain ⟨Ac, cc, rfl, Cc, dc⟩ := q7c rc (by omega)
  obtain ⟨Ag, cg, rfl, Cg, dg⟩ := q7c rg (by omega)
  obtain ⟨Ak, ck, rfl, Ck, dk⟩ := q7c rk (by omega)
  obtain ⟨An, cn, rfl, Cn, dn⟩ := q7c rn (by omega)
  obtain ⟨Am, cm, rfl, Cm, dm⟩ := q7c rm (by omega)
  refine (enter_calls (q2n t) At ct (q2n c) Ac cc (q2n g) Ag cg (q2n k) Ak ck (q2n n) An cn (q2n m) Am cm w Ct dt (by rw [q4g]; exact ht) Cc dc (by rw [q4g]; exact hc) Cg dg (by rw [q4g]; exact hg) Ck dk (by rw [q4g]; exact hk) Cn dn (by rw [q4g]; exact hn) Cm dm (by rw [q4g]; exact hm)).mono ?_
  rintro e w' ⟨rfl, hb⟩
  exact ⟨_, rfl, .bool _, hb⟩
end Go.Proofs.YtoibbedpaaeclaaGreat
end

section
namespace Go.Proofs.YtoibbedpaaeclaaGreat
open Go Go.RowKit
set_option linter.unusedVariables false
set_option linter.unusedSimpArgs false
set_option maxHeartbeats 16000000
set_option maxRecDepth 100000
def q7y (a b : List Pr) (n : Nat) : List Pr := (a.take n).foldl (fun out p => q6r out p.cat (q3t p.lev (q2r b p.cat))) a
def q8p (a b : List Pr) (n : Nat) : List Pr := (b.take n).foldl (fun out p => q6r out p.cat (q3t (q2r a p.cat) p.lev)) (q7y a b a.length)
def joinR (a b : List Pr) : List Pr := q8p a b b.length
theorem joinAN_succ {a b : List Pr} {n : Nat} {x : Pr} (hx : a[n]? = some x) : q7y a b (n + 1) = q6r (q7y a b n) x.cat (q3t x.lev (q2r b x.cat)) := by
  unfold q7y; rw [q3u hx, List.foldl_append]; rfl
theorem joinBN_succ {a b : List Pr} {n : Nat} {x : Pr} (hx : b[n]? = some x) : q8p a b (n + 1) = q6r (q8p a b n) x.cat (q3t (q2r a x.cat) x.lev) := by
  unfold q8p; rw [q3u hx, List.foldl_append]; rfl
theorem with_fold (F : Pr → Int) : ∀ (l a : List Pr), (l.foldl (fun out p => q6r out p.cat (F p)) a).length ≤ a.length + l.length
  | [], a => by simp
  | x :: l, a => by
    rw [List.foldl_cons]
    have h1 := with_fold F l (q6r a x.cat (F x))
    have h2 := withR_len a x.cat (F x)
    simp only [List.length_cons]
    omega
theorem joinAN_len (a b : List Pr) (n : Nat) : (q7y a b n).length ≤ 2 * a.length := by
  have := with_fold (fun p => q3t p.lev (q2r b p.cat)) (a.take n) a
  have h2 : (a.take n).length ≤ a.length := by rw [List.length_take]; omega
  unfold q7y; omega
theorem joinBN_len (a b : List Pr) (n : Nat) : (q8p a b n).length ≤ 2 * a.length + b.length := by
  have := with_fold (fun p => q3t (q2r a p.cat) p.lev) (b.take n) (q7y a b a.length)
  have h2 : (b.take n).length ≤ b.length := by rw [List.length_take]; omega
  have := joinAN_len a b a.length
  unfold q8p; omega
theorem joinR_len (a b : List Pr) : (joinR a b).length ≤ 2 * a.length + b.length := joinBN_len a b _
def q7a (n : Int) : Int := if (q6t n == 5) = true then 0 else q6t n
def lowPr (p : Pr) : Pr := ⟨p.cat, q7a p.lev⟩
def plainR (l : List Pr) : Bool := allB l.length (q5k l)
def enterR (t c g k n m : List Pr) : Bool := plainR n && (plainR m && (leqR t k && (leqR ((joinR (t.map upPr) (g.map upPr)).map lowPr) n && (leqR n m && leqR m (joinR c k)))))
def plAt (d o : List Pr) (k : Nat) : Bool := match d[k]? with
  | some p => !decide (p.lev > if 2 > q2r (q4l o) p.cat then 2 else q2r (q4l o) p.cat)
  | none => true
def placeB (d o : List Pr) : Bool := allB d.length (plAt d o)
attribute [local irreducible] q0i dr q0d Ex.then Ex.inBlock retQ q1l q2j q2g Pure CSat evOp q1i rdOf upd hset strip sp0 cut envL q1g q3q Keep BdL evBs q2s q3c
theorem r2_join (a b : List Pr) (ha : a.length ≤ 1000) (hb : b.length ≤ 1000) : Pure Tryz.prog 126 [.sl (a.map Pr.enc), .sl (b.map Pr.enc)] (.sl ((joinR a b).map Pr.enc)) := by
  refine q2d (by kernel_rfl) (by simp only [go_sem, *]) (by simp only [go_sem, *]) Tryz.func126 Tryz.results126 rfl (by simp [Tryz.ntmps126]) (by kernel_rfl) ?_
  repeat' (first | (show q0i ..; first | refine q0c ?_ | refine q0e rfl ?_) | (show q0k ..; refine q0f rfl rfl ?_) | (show goOn ..; refine q0g ?_) | (show q0d ..; first | refine q0h ?_ | refine q0b ?_ | refine q0n ?_) | refine q0a ?_)
  refine q2q (S := Nat) (fun n => a.length - n) (fun n => n ≤ a.length) (fun n => [(0, .sl (a.map Pr.enc)), (1, .sl (b.map Pr.enc)), (5, .sl ((q7y a b n).map Pr.enc)), (6, .int .i64 n)]) (fun _ => []) (fun _ => 0) 0 (Nat.zero_le _) (by (refine q1n ?_ ?_ <;> repeat' (first | exact q0v | exact q0y | refine q0p (by (try simp only [go_sem, *]); try rfl) (by simp only [go_sem, *]) ?_ | refine q0z (by (try simp only [go_sem, *]); try rfl) (by omega) (by simp only [go_sem, *]) ?_ | refine q0x (by (try simp only [go_sem, *]); try rfl) (by omega) (by simp only [go_sem, *]) ?_))) ?_
  intro n hn
  rcases Nat.lt_or_ge n a.length with hlt | hge
  · obtain ⟨x, hx⟩ := q2f hlt
    have h0 := q2k hlt
    have h4 := q2e n (by omega)
    have hg := r2_get b x.cat (by omega)
    have hj := r01_join x.lev (q2r b x.cat)
    have hw := r2_with (q7y a b n) x.cat (q3t x.lev (q2r b x.cat)) (by have := joinAN_len a b n; omega)
    have hs := joinAN_succ (b := b) hx
    repeat' (first | (show q0i ..; first | refine q0c ?_ | refine q0e rfl ?_) | (show q0k ..; refine q0f rfl rfl ?_) | (show goOn ..; refine q0g ?_) | (show dr ..; first | refine q1y ?_ | refine dr_n rfl ?_) | (show drGo ..; first | refine q3b rfl ?_ | refine q2l rfl ?_) | (show drOn ..; refine q1z ?_) | (show q2h ..; (refine q1f (r := ?_) ?_ ?_; rotate_left 1; (focus first | exact hg | exact hj | exact hw))) | (refine And.intro (by kernel_rfl : q1l _ = true) ?_) | (show q0d ..; first | refine q0h ?_ | refine q0b ?_ | refine q1k (by kernel_rfl) ?_ | refine q0q ?_ | refine q0n ?_ | refine q0j ?_) | (show q0o ..; refine cd_t ?_) | refine q0a ?_ | refine q0t ?_)
    exact again (n + 1) (show n + 1 ≤ a.length from hlt) (show a.length - (n + 1) < a.length - n by omega) (by (refine q1n ?_ ?_ <;> repeat' (first | exact q0v | exact q0y | refine q0p (by (try simp only [go_sem, *]); try rfl) (by simp only [go_sem, *]) ?_ | refine q0z (by (try simp only [go_sem, *]); try rfl) (by omega) (by simp only [go_sem, *]) ?_ | refine q0x (by (try simp only [go_sem, *]); try rfl) (by omega) (by simp only [go_sem, *]) ?_)))
  · have h0 := q1w hge
    obtain rfl : n = a.length := by omega
    have e : q7y a b a.length = q8p a b 0 := rfl
    rw [e]
    repeat' (first | (show q0i ..; first | refine q0c ?_ | refine q0e rfl ?_) | (show q0k ..; refine q0f rfl rfl ?_) | (show goOn ..; refine q0g ?_) | (show q0d ..; first | refine q0h ?_ | refine q0b ?_ | refine q0n ?_ | refine q1q ?_ | refine q0j ?_) | (show q0o ..; refine cd_f ?_) | refine q0a ?_ | refine q1p ?_ | refine q1r ?_)
    refine q2q (S := Nat) (fun n => b.length - n) (fun n => n ≤ b.length) (fun n => [(0, .sl (a.map Pr.enc)), (1, .sl (b.map Pr.enc)), (5, .sl ((q8p a b n).map Pr.enc)), (7, .int .i64 n)]) (fun _ => []) (fun _ => 0) 0 (Nat.zero_le _) (by (refine q1n ?_ ?_ <;> repeat' (first | exact q0v | exact q0y | refine q0p (by (try simp only [go_sem, *]); try rfl) (by simp only [go_sem, *]) ?_ | refine q0z (by (try simp only [go_sem, *]); try rfl) (by omega) (by simp only [go_sem, *]) ?_ | refine q0x (by (try simp only [go_sem, *]); try rfl) (by omega) (by simp only [go_sem, *]) ?_))) ?_
    intro n hn
    rcases Nat.lt_or_ge n b.length with hlt | hge
    · obtain ⟨x, hx⟩ := q2f hlt
      have h0 := q2k hlt
      have h4 := q2e n (by omega)
      have hg := r2_get a x.cat (by omega)
      have hj := r01_join (q2r a x.cat) x.lev
      have hw := r2_with (q8p a b n) x.cat (q3t (q2r a x.cat) x.lev) (by have := joinBN_len a b n; omega)
      have hs := joinBN_succ (a := a) hx
      repeat' (first | (show q0i ..; first | refine q0c ?_ | refine q0e rfl ?_) | (show q0k ..; refine q0f rfl rfl ?_) | (show goOn ..; refine q0g ?_) | (show dr ..; first | refine q1y ?_ | refine dr_n rfl ?_) | (show drGo ..; first | refine q3b rfl ?_ | refine q2l rfl ?_) | (show drOn ..; refine q1z ?_) | (show q2h ..; (refine q1f (r := ?_) ?_ ?_; rotate_left 1; (focus first | exact hg | exact hj | exact hw))) | (refine And.intro (by kernel_rfl : q1l _ = true) ?_) | (show q0d ..; first | refine q0h ?_ | refine q0b ?_ | refine q1k (by kernel_rfl) ?_ | refine q0q ?_ | refine q0n ?_ | refine q0j ?_) | (show q0o ..; refine cd_t ?_) | refine q0a ?_ | refine q0t ?_)
      exact again (n + 1) (show n + 1 ≤ b.length from hlt) (show b.length - (n + 1) < b.length - n by omega) (by (refine q1n ?_ ?_ <;> repeat' (first | exact q0v | exact q0y | refine q0p (by (try simp only [go_sem, *]); try rfl) (by simp only [go_sem, *]) ?_ | refine q0z (by (try simp only [go_sem, *]); try rfl) (by omega) (by simp only [go_sem, *]) ?_ | refine q0x (by (try simp only [go_sem, *]); try rfl) (by omega) (by simp only [go_sem, *]) ?_)))
    · have h0 := q1w hge
      obtain rfl : n = b.length := by omega
      repeat' (first | (show q0i ..; first | refine q0c ?_ | refine q0e rfl ?_) | (show q0k ..; refine q0f rfl rfl ?_) | (show goOn ..; refine q0g ?_) | (show q0d ..; first | refine q0h ?_ | refine q0b ?_ | refine q0r ?_ | refine q1q ?_ | refine q0j ?_) | (show q0o ..; refine cd_f ?_) | refine q0a ?_ | refine q1p ?_ | refine q1r ?_ | (show retQ ..; refine q0s ?_) | refine q0l ?_)
      all_goals rfl
theorem r01_lower (n : Int) : Pure Tryz.prog 181 [.int .i64 n] (.int .i64 (q7a n)) := by
  refine q2d (by kernel_rfl) (by simp only [go_sem, *]) (by simp only [go_sem, *]) Tryz.func181 Tryz.results181 rfl (by simp [Tryz.ntmps181]) (by kernel_rfl) ?_
  repeat' (first | (show q0i ..; first | refine q0c ?_ | refine q0e rfl ?_) | (show q0k ..; first | refine q0f rfl rfl ?_ | refine q0m rfl ?_) | (show goOn ..; refine q0g ?_) | (show q1j ..; (refine q0u (r := ?_) ?_ ?_; rotate_left 1; (focus exact r01_of _))) | (show q0d ..; first | refine q0h ?_ | refine q0b ?_ | refine q0r ?_ | refine q0q ?_ | refine q0j ?_) | (show q0o ..; refine cd_b (fun _ => ?_) (fun _ => ?_)) | refine q0a ?_ | refine q1v ?_ | (show retQ ..; refine q0s ?_) | refine q0l ?_)
  all_goals (unfold q7a; simp only [*, if_true, if_false, Bool.false_eq_true]; try rfl)
theorem r2_lower (l : List Pr) (hl : l.length ≤ 900000) : Pure Tryz.prog 125 [.sl (l.map Pr.enc)] (.sl ((l.map lowPr).map Pr.enc)) := by
  refine q2d (by kernel_rfl) (by simp only [go_sem, *]) (by simp only [go_sem, *]) Tryz.func125 Tryz.results125 rfl (by simp [Tryz.ntmps125]) (by kernel_rfl) ?_
  repeat' (first | (show q0i ..; first | refine q0c ?_ | refine q0e rfl ?_) | (show q0k ..; refine q0f rfl rfl ?_) | (show goOn ..; refine q0g ?_) | (show q0d ..; first | refine q0h ?_ | refine q0b ?_ | refine q0n ?_) | refine q0a ?_)
  refine q2q (S := Nat × List Pr × Nat) (fun s => l.length - s.1) (fun s => s.1 ≤ l.length ∧ (l.take s.1).map lowPr = s.2.1) (fun s => [(0, .sl (l.map Pr.enc)), (3, accV s.2.2 s.2.1), (4, .int .i64 s.1)]) (fun s => accG s.2.2 76 2 Pr.enc s.2.1) (fun s => accM 0 s.2.2 s.2.1) (0, [], 0) ⟨Nat.zero_le _, rfl⟩ (by simp only [q2a, q2c, q2b]; (refine q1n ?_ ?_ <;> repeat' (first | exact q0v | exact q0y | refine q0p (by (try simp only [go_sem, *]); try rfl) (by simp only [go_sem, *]) ?_ | refine q0z (by (try simp only [go_sem, *]); try rfl) (by omega) (by simp only [go_sem, *]) ?_ | refine q0x (by (try simp only [go_sem, *]); try rfl) (by omega) (by simp only [go_sem, *]) ?_))) ?_
  rintro ⟨n, acc, id⟩ ⟨hn, hs⟩
  simp only at hn hs
  have ha : acc.length < 1000000 := by rw [← hs]; simp only [List.length_map, List.length_take]; omega
  have hb1 := q6p ha
  have hb2 := q8a (b := 16) ha (by decide)
  rcases Nat.lt_or_ge n l.length with hlt | hge
  · obtain ⟨x, hx⟩ := q2f hlt
    have h0 := q2k hlt
    have h4 := q2e n (by omega)
    have hy : (l.take (n + 1)).map lowPr = (l.take n).map lowPr ++ [lowPr x] := by rw [q3u hx, List.map_append]; rfl
    rcases q4a acc with hnil | hne
    · subst hnil
      simp only [q2a, q2c, q2b]
      repeat' (first | (show q0i ..; first | refine q0c ?_ | refine q0e rfl ?_) | (show q0k ..; refine q0f rfl rfl ?_) | (show goOn ..; refine q0g ?_) | (show dr ..; first | refine q1y ?_ | refine dr_n rfl ?_) | (show drGo ..; first | refine q3b rfl ?_ | refine q2l rfl ?_) | (show drOn ..; first | refine q1z ?_ | refine dn_born ?_) | (show q2h ..; (refine q1f (r := ?_) ?_ ?_; rotate_left 1; (focus exact r01_lower _))) | (refine And.intro (by kernel_rfl : q1l _ = true) ?_) | (show q0d ..; first | refine q0h ?_ | refine q0b ?_ | refine q1k (by kernel_rfl) ?_ | refine q0q ?_ | refine q0n ?_ | refine q0j ?_) | (show q0o ..; refine cd_t ?_) | refine q0a ?_ | refine q0t ?_)
      · refine again (n + 1, [] ++ [lowPr x], 0) ⟨hlt, by rw [hy, hs]⟩ (by simp only; omega) ?_
        simp only [q2t, q2v, q2u]
        (refine q1n ?_ ?_ <;> repeat' (first | exact q0v | exact q0y | refine q0p (by (try simp only [go_sem, *]); try rfl) (by simp only [go_sem, *]) ?_ | refine q0z (by (try simp only [go_sem, *]); try rfl) (by omega) (by simp only [go_sem, *]) ?_ | refine q0x (by (try simp only [go_sem, *]); try rfl) (by omega) (by simp only [go_sem, *]) ?_))
    · simp only [q2y hne, q3a hne, q2z hne]
      repeat' (first | (show q0i ..; first | refine q0c ?_ | refine q0e rfl ?_) | (show q0k ..; refine q0f rfl rfl ?_) | (show goOn ..; refine q0g ?_) | (show dr ..; first | refine q1y ?_ | refine dr_n rfl ?_) | (show drGo ..; first | refine q3b rfl ?_ | refine q2l rfl ?_) | (show drOn ..; first | refine q1z ?_ | refine dn_grow ?_) | (show q2h ..; (refine q1f (r := ?_) ?_ ?_; rotate_left 1; (focus exact r01_lower _))) | (refine And.intro (by kernel_rfl : q1l _ = true) ?_) | (show q0d ..; first | refine q0h ?_ | refine q0b ?_ | refine q1k (by kernel_rfl) ?_ | refine q0q ?_ | refine q0n ?_ | refine q0j ?_) | (show q0o ..; refine cd_t ?_) | refine q0a ?_ | refine q0t ?_)
      · refine again (n + 1, acc ++ [lowPr x], id) ⟨hlt, by rw [hy, hs]⟩ (by simp only; omega) ?_
        simp only [q2t, q2v, q2u]
        (refine q1n ?_ ?_ <;> repeat' (first | exact q0v | exact q0y | refine q0p (by (try simp only [go_sem, *]); try rfl) (by simp only [go_sem, *]) ?_ | refine q0z (by (try simp only [go_sem, *]); try rfl) (by omega) (by simp only [go_sem, *]) ?_ | refine q0x (by (try simp only [go_sem, *]); try rfl) (by omega) (by simp only [go_sem, *]) ?_))
  · have h0 := q1w hge
    have hs' : l.map lowPr = acc := by rw [← hs, List.take_of_length_le hge]
    rcases q4a acc with hnil | hne
    · subst hnil
      simp only [q2a, q2c, q2b]
      repeat' (first | (show q0i ..; first | refine q0c ?_ | refine q0e rfl ?_) | (show q0k ..; refine q0f rfl rfl ?_) | (show goOn ..; refine q0g ?_) | (show q0d ..; first | refine q0h ?_ | refine q0b ?_ | refine q0r ?_ | refine q1q ?_ | refine q0j ?_) | (show q0o ..; refine cd_f ?_) | refine q0a ?_ | refine q1p ?_ | refine q1r ?_ | (show retQ ..; refine q0s ?_) | refine q0l ?_)
      rw [hs']; rfl
    · simp only [q2y hne, q3a hne, q2z hne]
      repeat' (first | (show q0i ..; first | refine q0c ?_ | refine q0e rfl ?_) | (show q0k ..; refine q0f rfl rfl ?_) | (show goOn ..; refine q0g ?_) | (show q0d ..; first | refine q0h ?_ | refine q0b ?_ | refine q0r ?_ | refine q1q ?_ | refine q0j ?_) | (show q0o ..; refine cd_f ?_) | refine q0a ?_ | refine q1p ?_ | refine q1r ?_ | (show retQ ..; refine q0s ?_) | refine q0l ?_)
      rw [hs']
theorem r3_plain (l : List Pr) (hl : l.length ≤ 9223372036854775807) : Pure Tryz.prog 127 [.sl (l.map Pr.enc)] (.bool (plainR l)) := by
  refine q2d (by kernel_rfl) (by simp only [go_sem, *]) (by simp only [go_sem, *]) Tryz.func127 Tryz.results127 rfl (by simp [Tryz.ntmps127]) (by kernel_rfl) ?_
  repeat' (first | (show q0i ..; first | refine q0c ?_ | refine q0e rfl ?_) | (show q0k ..; refine q0f rfl rfl ?_) | (show goOn ..; refine q0g ?_) | (show q0d ..; first | refine q0h ?_ | refine q0b ?_ | refine q0n ?_) | refine q0a ?_)
  refine q2q (S := Nat) (fun n => l.length - n) (fun n => n ≤ l.length ∧ ∀ j, j < n → q5k l j = true) (fun n => [(0, .sl (l.map Pr.enc)), (3, .int .i64 n)]) (fun _ => []) (fun _ => 0) 0 ⟨Nat.zero_le _, fun j hj => absurd hj (Nat.not_lt_zero j)⟩ (by (refine q1n ?_ ?_ <;> repeat' (first | exact q0v | exact q0y | refine q0p (by (try simp only [go_sem, *]); try rfl) (by simp only [go_sem, *]) ?_ | refine q0z (by (try simp only [go_sem, *]); try rfl) (by omega) (by simp only [go_sem, *]) ?_ | refine q0x (by (try simp only [go_sem, *]); try rfl) (by omega) (by simp only [go_sem, *]) ?_))) ?_
  rintro n ⟨hn, hs⟩
  rcases Nat.lt_or_ge n l.length with hlt | hge
  · obtain ⟨x, hx⟩ := q2f hlt
    have h0 := q2k hlt
    have h4 := q2e n (by omega)
    have e : q5k l n = !(x.lev == 5) := by unfold q5k; rw [hx]
    repeat' (first | (show q0i ..; first | refine q0c ?_ | refine q0e rfl ?_) | (show q0k ..; refine q0f rfl rfl ?_) | (show goOn ..; refine q0g ?_) | (show q0d ..; first | refine q0h ?_ | refine q0b ?_ | refine q0r ?_ | refine q0q ?_ | refine q0n ?_ | refine q0j ?_) | (show q0o ..; first | refine cd_t ?_ | refine cd_b (fun _ => ?_) (fun _ => ?_)) | refine q0a ?_ | refine q1v ?_ | refine q0t ?_ | refine q3m ?_ | (show retQ ..; refine q0s ?_) | refine q0l ?_)
    all_goals rename_i hc
    · exact q1o (q2o hlt (f := q5k l) (by rw [e, hc]; rfl)).symm
    · exact again (n + 1) ⟨by omega, q5d hs (by rw [e, hc]; rfl)⟩ (by omega) (by (refine q1n ?_ ?_ <;> repeat' (first | exact q0v | exact q0y | refine q0p (by (try simp only [go_sem, *]); try rfl) (by simp only [go_sem, *]) ?_ | refine q0z (by (try simp only [go_sem, *]); try rfl) (by omega) (by simp only [go_sem, *]) ?_ | refine q0x (by (try simp only [go_sem, *]); try rfl) (by omega) (by simp only [go_sem, *]) ?_)))
  · have h0 := q1w hge
    repeat' (first | (show q0i ..; first | refine q0c ?_ | refine q0e rfl ?_) | (show q0k ..; refine q0f rfl rfl ?_) | (show goOn ..; refine q0g ?_) | (show q0d ..; first | refine q0h ?_ | refine q0b ?_ | refine q0r ?_ | refine q1q ?_ | refine q0j ?_) | (show q0o ..; refine cd_f ?_) | refine q0a ?_ | refine q1p ?_ | refine q1r ?_ | (show retQ ..; refine q0s ?_) | refine q0l ?_)
    exact q1o (q2m fun j hj => hs j (by omega)).symm
theorem r3_enter (t c g k n m : List Pr) (ht : t.length ≤ 300) (hc : c.length ≤ 300) (hg : g.length ≤ 300) (hk : k.length ≤ 300) (hn : n.length ≤ 300) (hm : m.length ≤ 300) : Pure Tryz.prog 64 [.sl (t.map Pr.enc), .sl (c.map Pr.enc), .sl (g.map Pr.enc), .sl (k.map Pr.enc), .sl (n.map Pr.enc), .sl (m.map Pr.enc)] (.bool (enterR t c g k n m)) := by
  have h1 := r3_plain n (by omega)
  have h2 := r3_plain m (by omega)
  have h3 := x0n t k (by omega) (by omega)
  have h4 := x0m t (by omega)
  have h5 := x0m g (by omega)
  have h6 := r2_join (t.map upPr) (g.map upPr) (by simp; omega) (by simp; omega)
  have l6 := joinR_len (t.map upPr) (g.map upPr)
  simp only [List.length_map] at l6
  have h7 := r2_lower (joinR (t.map upPr) (g.map upPr)) (by omega)
  have h8 := x0n ((joinR (t.map upPr) (g.map upPr)).map lowPr) n (by rw [List.length_map]; omega) (by omega)
  have h9 := x0n n m (by omega) (by omega)
  have ha := r2_join c k (by omega) (by omega)
  have la := joinR_len c k
  have hb := x0n m (joinR c k) (by omega) (by omega)
  refine q2d (by kernel_rfl) (by simp only [go_sem, *]) (by simp only [go_sem, *]) Tryz.func64 Tryz.results64 rfl (by simp [Tryz.ntmps64]) (by kernel_rfl) ?_
  repeat' (first | (show q0i ..; first | refine q0c ?_ | refine q0e rfl ?_ | refine q1b rfl rfl ?_) | (show q0k ..; first | refine q0f rfl rfl ?_ | refine q0m rfl ?_) | (show goOn ..; refine q0g ?_) | (show q1j ..; (refine q0u (r := ?_) ?_ ?_; rotate_left 1; (focus first | exact h1 | exact h2 | exact h3 | exact h4 | exact h5 | exact h6 | exact h7 | exact h8 | exact h9 | exact ha | exact hb))) | (show wGo ..; first | refine q3n ?_ | refine q3x ?_ | refine q8d (fun _ => ?_) (fun _ => ?_)) | (show q0d ..; first | refine q0h ?_ | refine q0b ?_ | refine q0r ?_) | refine q0a ?_ | (show retQ ..; refine q0s ?_) | refine q0l ?_)
  all_goals (refine q1o ?_; unfold enterR; simp only [*, Bool.not_true, Bool.not_false, Bool.and_true, Bool.true_and, Bool.and_false, Bool.false_and, Bool.or_true, Bool.true_or, Bool.or_false, Bool.false_or, Bool.and_self, Bool.or_self, decide_true, decide_false, Bool.not_not, if_true, if_false, Bool.false_eq_true, eq_self])
end Go.Proofs.YtoibbedpaaeclaaGreat
end

section
namespace Go.Proofs.YtoibbedpaaeclaaGreat
open Go Go.RowKit
set_option linter.unusedVariables false
set_option linter.unusedSimpArgs false
def insP (c lev : Int) : List Pr → List Pr
  | [] => [⟨c, lev⟩]
  | x :: l => if decide (x.cat > c) = true then ⟨c, lev⟩ :: x :: l.filter (fun y => y.cat != c) else if (x.cat == c) = true then insP c lev l else x :: insP c lev l
theorem wst_done (c lev : Int) : ∀ (l acc : List Pr), l.foldl (wst c lev) (acc, true) = (acc ++ l.filter (fun y => y.cat != c), true)
  | [], acc => by simp
  | x :: l, acc => by
    rw [List.foldl_cons]
    have h : wst c lev (acc, true) x = (if (x.cat != c) = true then acc ++ [x] else acc, true) := by unfold wst; split <;> simp
    rw [h, wst_done c lev l, List.filter_cons]
    split <;> simp
theorem ins_gt {c lev : Int} {x : Pr} {l : List Pr} (h : x.cat > c) : insP c lev (x :: l) = ⟨c, lev⟩ :: x :: l.filter (fun y => y.cat != c) := by
  unfold insP; rw [if_pos (by simpa using h)]
theorem ins_is {c lev : Int} {x : Pr} {l : List Pr} (h : x.cat = c) : insP c lev (x :: l) = insP c lev l := by
  rw [insP, if_neg (by simp; omega), if_pos (by simpa using h)]
theorem ins_lt {c lev : Int} {x : Pr} {l : List Pr} (h1 : ¬ x.cat > c) (h2 : x.cat ≠ c) : insP c lev (x :: l) = x :: insP c lev l := by
  rw [insP, if_neg (by simpa using h1), if_neg (by simpa using h2)]
theorem wst_open (c lev : Int) : ∀ (l acc : List Pr), (if (l.foldl (wst c lev) (acc, false)).2 = true then (l.foldl (wst c lev) (acc, false)).1 else (l.foldl (wst c lev) (acc, false)).1 ++ [⟨c, lev⟩]) = acc ++ insP c lev l
  | [], acc => by simp [insP]
  | x :: l, acc => by
    rw [List.foldl_cons]
    by_cases h1 : x.cat > c
    · have hn : (x.cat != c) = true := by simp; omega
      have e : wst c lev (acc, false) x = (acc ++ [⟨c, lev⟩] ++ [x], true) := by unfold wst; rw [if_pos hn]; simp [h1]
      rw [e, wst_done, ins_gt h1, if_pos rfl]
      simp
    · by_cases h2 : x.cat = c
      · have e : wst c lev (acc, false) x = (acc, false) := by unfold wst; rw [if_neg (by simp [h2])]; simp [h1]
        rw [e, wst_open c lev l, ins_is h2]
      · have e : wst c lev (acc, false) x = (acc ++ [x], false) := by unfold wst; rw [if_pos (by simpa using h2)]; simp [h1]
        rw [e, wst_open c lev l, ins_lt h1 h2]
        simp
theorem withR_eq (l : List Pr) (c lev : Int) : q6r l c lev = if (lev == 2) = true then l.filter (fun y => y.cat != c) else insP c lev l := by
  unfold q6r q8e
  rw [List.take_length]
  cases h : (lev == 2) with
  | true => rw [wst_done]; simp
  | false => rw [wst_open]; simp
theorem q5c (x : Pr) (l : List Pr) (c : Int) : q2r (x :: l) c = if x.cat = c then x.lev else q2r l c := by
  unfold q2r
  rw [List.find?_cons]
  by_cases h : x.cat = c
  · have : (x.cat == c) = true := by simpa using h
    rw [this, if_pos h]
  · have : (x.cat == c) = false := by simpa using h
    rw [this, if_neg h]
theorem get_filt (c : Int) : ∀ (l : List Pr) (d : Int), q2r (l.filter (fun y => y.cat != c)) d = if d = c then 2 else q2r l d
  | [], d => by simp [q2r]
  | x :: l, d => by
    rw [List.filter_cons]
    by_cases h : x.cat = c
    · rw [if_neg (by simp [h]), get_filt c l d, q5c]
      by_cases hd : d = c
      · simp [hd]
      · rw [if_neg hd, if_neg hd, if_neg (by omega)]
    · rw [if_pos (by simpa using h), q5c, get_filt c l d, q5c]
      by_cases hd : d = c
      · rw [if_pos hd, if_pos hd, if_neg (by omega)]
      · rw [if_neg hd, if_neg hd]
theorem get_ins (c lev : Int) : ∀ (l : List Pr) (d : Int), q2r (insP c lev l) d = if d = c then lev else q2r l d
  | [], d => by
    unfold insP; rw [q5c]
    by_cases hd : d = c
    · rw [if_pos hd, if_pos hd.symm]
    · rw [if_neg hd, if_neg (fun h => hd h.symm)]
  | x :: l, d => by
    by_cases h1 : x.cat > c
    · rw [ins_gt h1, q5c, q5c, q5c, get_filt]
      simp only
      by_cases hd : d = c
      · rw [if_pos hd.symm, if_pos hd]
      · rw [if_neg (fun h => hd h.symm), if_neg hd, if_neg hd]
    · by_cases h2 : x.cat = c
      · rw [ins_is h2, get_ins c lev l d, q5c]
        by_cases hd : d = c
        · rw [if_pos hd, if_pos hd]
        · rw [if_neg hd, if_neg hd, if_neg (by omega)]
      · rw [ins_lt h1 h2, q5c, get_ins c lev l d, q5c]
        by_cases hd : d = c
        · rw [if_pos hd, if_pos hd, if_neg (by omega)]
        · rw [if_neg hd, if_neg hd]
theorem get_with (l : List Pr) (c lev d : Int) : q2r (q6r l c lev) d = if d = c then lev else q2r l d := by
  rw [withR_eq]
  by_cases h : lev = 2
  · rw [if_pos (by simpa using h), get_filt, h]
  · rw [if_neg (by simpa using h), get_ins]
def Ris (l : List Pr) : Prop := l.Pairwise (fun p q => p.cat < q.cat)
theorem ris_lab {l : List Pr} : SortedP (q2n l) ↔ Ris l := by unfold SortedP q2n Ris; rw [List.pairwise_map]
theorem ins_mem {c lev : Int} : ∀ {l : List Pr} {y : Pr}, y ∈ insP c lev l → y = ⟨c, lev⟩ ∨ y ∈ l
  | [], y, h => by unfold insP at h; simp at h; exact .inl h
  | x :: l, y, h => by
    unfold insP at h
    split at h
    · simp only [List.mem_cons, List.mem_filter] at h ⊢
      rcases h with h | h | h
      · exact .inl h
      · exact .inr (.inl h)
      · exact .inr (.inr h.1)
    · split at h
      · rcases ins_mem h with h | h
        · exact .inl h
        · exact .inr (List.mem_cons_of_mem _ h)
      · rcases List.mem_cons.1 h with h | h
        · exact .inr (by rw [h]; exact List.mem_cons_self)
        · rcases ins_mem h with h | h
          · exact .inl h
          · exact .inr (List.mem_cons_of_mem _ h)
theorem insP_ris {c lev : Int} : ∀ {l : List Pr}, Ris l → Ris (insP c lev l)
  | [], _ => by unfold insP Ris; exact List.pairwise_singleton _ _
  | x :: l, h => by
    have h' := List.pairwise_cons.1 h
    unfold insP
    split
    · rename_i h1
      have h1 : x.cat > c := by simpa using h1
      refine List.pairwise_cons.2 ⟨fun y hy => ?_, List.pairwise_cons.2 ⟨fun y hy => h'.1 y (List.mem_filter.1 hy).1, h'.2.filter _⟩⟩
      rcases List.mem_cons.1 hy with rfl | hy
      · exact h1
      · have := h'.1 y (List.mem_filter.1 hy).1
        show c < y.cat
        omega
    · rename_i h1
      have h1 : ¬ x.cat > c := by simpa using h1
      split
      · exact insP_ris h'.2
      · rename_i h2
        have h2 : x.cat ≠ c := by simpa using h2
        refine List.pairwise_cons.2 ⟨fun y hy => ?_, insP_ris h'.2⟩
        rcases ins_mem hy with rfl | hy
        · show x.cat < c; omega
        · exact h'.1 y hy
theorem q7w {l : List Pr} (h : FitL (q2n l)) : Ris l := ris_lab.1 h.sorted
theorem fit_lev {l : List Pr} (h : FitL (q2n l)) {x : Pr} (hx : x ∈ l) : 0 ≤ x.lev ∧ x.lev ≤ 5 ∧ x.lev ≠ 2 := h.lev (x.cat, x.lev) (List.mem_map.2 ⟨x, hx, rfl⟩)
theorem fit_mk {l : List Pr} (h : Ris l) (hl : ∀ x ∈ l, 0 ≤ x.lev ∧ x.lev ≤ 5 ∧ x.lev ≠ 2) : FitL (q2n l) := ⟨ris_lab.2 h, fun p hp => by obtain ⟨x, hx, rfl⟩ := List.mem_map.1 hp; exact hl x hx⟩
theorem fit_with {l : List Pr} {c lev : Int} (h : FitL (q2n l)) (h1 : 0 ≤ lev) (h2 : lev ≤ 5) : FitL (q2n (q6r l c lev)) := by
  rw [withR_eq]
  split
  · exact fit_mk ((q7w h).filter _) (fun x hx => fit_lev h (List.mem_filter.1 hx).1)
  · rename_i h3
    have h3 : lev ≠ 2 := by simpa using h3
    refine fit_mk (insP_ris (q7w h)) (fun x hx => ?_)
    rcases ins_mem hx with rfl | hx
    · exact ⟨h1, h2, h3⟩
    · exact fit_lev h hx
theorem fit_to {l : List Pr} (h : FitL (q2n l)) : q3k l = true := by
  have hr := q7w h
  refine q2m fun k hk => ?_
  obtain ⟨x, hx⟩ := q2f hk
  unfold q5z
  rw [hx]
  obtain ⟨h1, h2, h3⟩ := fit_lev h (List.mem_of_getElem? hx)
  have a1 : q5v x.lev = true := by unfold q5v; simp only [Bool.and_eq_true, decide_eq_true_eq]; omega
  have a2 : (x.lev == 2) = false := by simpa using h3
  simp only [a1, a2, Bool.not_false, Bool.true_and]
  cases k with
  | zero => rfl
  | succ j =>
    obtain ⟨y, hy⟩ := q2f (by omega : j < l.length)
    simp only [hy]
    have hj := List.getElem?_eq_some_iff.1 hy
    have hkk := List.getElem?_eq_some_iff.1 hx
    have := List.pairwise_iff_getElem.1 hr j (j + 1) hj.1 hkk.1 (by omega)
    rw [hj.2, hkk.2] at this
    simp only [Bool.not_eq_true', decide_eq_false_iff_not]
    omega
theorem x0x (F : Pr → Int) : ∀ (l out : List Pr) (c : Int), Ris l → q2r (l.foldl (fun out p => q6r out p.cat (F p)) out) c = match l.find? (fun p => p.cat == c) with | some p => F p | none => q2r out c
  | [], out, c, _ => rfl
  | x :: l, out, c, h => by
    have h' := List.pairwise_cons.1 h
    rw [List.foldl_cons, x0x F l _ c h'.2, List.find?_cons]
    by_cases hc : x.cat = c
    · have e1 : (x.cat == c) = true := by simpa using hc
      have e2 : l.find? (fun p => p.cat == c) = none := by
        rw [List.find?_eq_none]
        intro y hy
        have := h'.1 y hy
        simp; omega
      rw [e1, e2]
      simp only
      rw [get_with, if_pos hc.symm]
    · have e1 : (x.cat == c) = false := by simpa using hc
      rw [e1]
      simp only
      split
      · rfl
      · rw [get_with, if_neg (fun h => hc h.symm)]
theorem fold_fit (F : Pr → Int) : ∀ (l out : List Pr), FitL (q2n out) → (∀ p ∈ l, 0 ≤ F p ∧ F p ≤ 5) → FitL (q2n (l.foldl (fun out p => q6r out p.cat (F p)) out))
  | [], out, h, _ => h
  | x :: l, out, h, hF => by
    rw [List.foldl_cons]
    have := hF x List.mem_cons_self
    exact fold_fit F l _ (fit_with h this.1 this.2) (fun p hp => hF p (List.mem_cons_of_mem _ hp))
theorem get_find {l : List Pr} {c : Int} {p : Pr} (h : l.find? (fun p => p.cat == c) = some p) : p.cat = c ∧ q2r l c = p.lev := ⟨by simpa using List.find?_some h, by unfold q2r; rw [h]⟩
theorem q7j {l : List Pr} {c : Int} (h : l.find? (fun p => p.cat == c) = none) : q2r l c = 2 := by unfold q2r; rw [h]
theorem levOf_range (n : Int) : 0 ≤ q6t n ∧ q6t n ≤ 5 := by
  unfold q6t q5v; split
  · rename_i h; simp only [Bool.and_eq_true, decide_eq_true_eq] at h; omega
  · omega
theorem q7s (x y : Int) : 0 ≤ q3t x y ∧ q3t x y ≤ 5 := by
  have := levOf_range x; have := levOf_range y
  unfold q3t; split <;> omega
theorem x0v {l : List Pr} (h : FitL (q2n l)) (c : Int) : 0 ≤ q2r l c ∧ q2r l c ≤ 5 := by rw [← q6l]; exact q9d h c
theorem x0e {x y : Int} (hx : 0 ≤ x ∧ x ≤ 5) (hy : 0 ≤ y ∧ y ≤ 5) : q3t x y = max x y := by
  unfold q3t; rw [q7i hx, q7i hy]
  split
  · rename_i h; have := of_decide_eq_true h; omega
  · rename_i h; simp at h; omega
theorem x0s {a b : List Pr} (ha : FitL (q2n a)) : FitL (q2n (joinR a b)) := by
  unfold joinR q8p q7y
  exact fold_fit _ _ _ (fold_fit _ _ _ ha (fun p _ => q7s _ _)) (fun p _ => q7s _ _)
theorem joinR_get {a b : List Pr} (ha : FitL (q2n a)) (hb : FitL (q2n b)) (c : Int) : q2r (joinR a b) c = max (q2r a c) (q2r b c) := by
  unfold joinR q8p q7y
  rw [List.take_length, List.take_length, x0x (fun p => q3t (q2r a p.cat) p.lev) _ _ c (q7w hb)]
  have ra := x0v ha c
  have rb := x0v hb c
  cases hbf : b.find? (fun p => p.cat == c) with
  | some p =>
    obtain ⟨h1, h2⟩ := get_find hbf
    simp only
    rw [h1, ← h2, x0e ra rb]
  | none =>
    have h2 := q7j hbf
    simp only
    rw [x0x (fun p => q3t p.lev (q2r b p.cat)) _ _ c (q7w ha)]
    cases haf : a.find? (fun p => p.cat == c) with
    | some p =>
      obtain ⟨h3, h4⟩ := get_find haf
      simp only
      rw [h3, ← h4, x0e ra rb]
    | none =>
      have h4 := q7j haf
      simp only
      rw [h4, h2]; rfl
theorem joinNil_get {a : List Pr} (ha : FitL (q2n a)) (c : Int) : q2r (q5t a) c = max (q2r a c) 2 := by
  unfold q5t
  rw [x0x (fun p => q3t p.lev 2) _ _ c (q7w ha)]
  have ra := x0v ha c
  cases haf : a.find? (fun p => p.cat == c) with
  | some p =>
    obtain ⟨h3, h4⟩ := get_find haf
    simp only
    rw [← h4, x0e ra (by omega)]
  | none =>
    have h4 := q7j haf
    simp only
    rw [h4]; rfl
theorem joinNil_fit {a : List Pr} (ha : FitL (q2n a)) : FitL (q2n (q5t a)) := fold_fit _ _ _ ha (fun p _ => q7s _ _)
theorem join_labOf {a b : List Pr} (ha : FitL (q2n a)) (hb : FitL (q2n b)) : joinB (q2n a) (q2n b) = q2n (joinR a b) := by
  refine lab_ext (join_fit ha hb) (x0s ha) (fun c => ?_)
  rw [join_get ha hb, q6l, q6l, q6l, joinR_get ha hb]
theorem q9v {a : List Pr} (ha : q3k a = true) : q9n (q2n a) = q2n (a.map upPr) := by
  rw [← x0l ha]; exact (of_of _).symm
theorem q9r {a : List Pr} (ha : q3k a = true) : FitL (q2n (a.map upPr)) := by rw [← q9v ha]; exact raise_fit (fit_of ha)
theorem down_fit {a : List Pr} (ha : FitL (q2n a)) : FitL (q2n (a.map lowPr)) := by
  refine fit_mk ?_ (fun x hx => ?_)
  · unfold Ris; rw [List.pairwise_map]; exact q7w ha
  · obtain ⟨y, hy, rfl⟩ := List.mem_map.1 hx
    obtain ⟨h1, h2, h3⟩ := fit_lev ha hy
    show 0 ≤ q7a y.lev ∧ q7a y.lev ≤ 5 ∧ q7a y.lev ≠ 2
    unfold q7a; rw [q7i ⟨h1, h2⟩]; split <;> omega
theorem down_get (a : List Pr) (c : Int) : q2r (a.map lowPr) c = if a.any (fun p => p.cat == c) = true then q7a (q2r a c) else 2 := by
  induction a with
  | nil => rfl
  | cons x l ih =>
    rw [List.map_cons, q5c, q5c, List.any_cons, ih]
    show (if x.cat = c then q7a x.lev else _) = _
    by_cases h : x.cat = c
    · simp [h]
    · have : (x.cat == c) = false := by simpa using h
      rw [if_neg h, if_neg h, this, Bool.false_or]
theorem lower_labOf {a : List Pr} (ha : FitL (q2n a)) : lowerB (q2n a) = q2n (a.map lowPr) := by
  refine lab_ext (lower_fit ha) (down_fit ha) (fun c => ?_)
  rw [lower_get ha, q6l, q6l, down_get]
  have ra := x0v ha c
  cases h : a.any (fun p => p.cat == c) with
  | true =>
    rw [if_pos rfl]
    unfold q7a; rw [q7i ra]
    by_cases h5 : q2r a c = 5
    · rw [if_pos h5, if_pos (by rw [h5]; rfl)]
    · rw [if_neg h5, if_neg (by simpa using h5)]
  | false =>
    have e : a.find? (fun p => p.cat == c) = none := by
      rw [List.find?_eq_none]
      intro y hy hc
      rw [List.any_eq_false] at h
      exact h y hy hc
    rw [q7j e]; rfl
theorem leqB_eq {a b : List Pr} (ha : q3k a = true) (hb : q3k b = true) : leqB (q2n a) (q2n b) = leqR a b := leq_eq ha hb
theorem plain_eq (l : List Pr) : q5q (q2n l) = plainR l := by
  rw [Bool.eq_iff_iff]
  unfold q5q plainR q2n
  rw [List.all_map, List.all_eq_true, allB_iff]
  constructor
  · intro h k hk
    obtain ⟨x, hx⟩ := q2f hk
    have := h x (List.mem_of_getElem? hx)
    unfold q5k; rw [hx]; simpa using this
  · intro h x hx
    obtain ⟨k, hk⟩ := List.getElem?_of_mem hx
    have := h k (q3y hk)
    unfold q5k at this; rw [hk] at this; simpa using this
theorem enter_eq {t c g k n m : List Pr} (ht : q3k t = true) (hc : q3k c = true) (hg : q3k g = true) (hk : q3k k = true) (hn : q3k n = true) (hm : q3k m = true) : enterB t c g k n m = enterR t c g k n m := by
  unfold enterB enterR
  rw [plain_eq, plain_eq, leqB_eq ht hk, q9v ht, q9v hg, join_labOf (q9r ht) (q9r hg), lower_labOf (x0s (q9r ht)), leqB_eq (fit_to (down_fit (x0s (q9r ht)))) hn, leqB_eq hn hm, join_labOf (fit_of hc) (fit_of hk), leqB_eq hm (fit_to (x0s (fit_of hc)))]
theorem place_eq {d o : List Pr} (hd : q3k d = true) (ho : q3k o = true) : placeB d o = q6w d o := by
  have fx := joinNil_fit (q9r ho)
  have fd := fit_of hd
  unfold q6w
  rw [← leq_eq hd (fit_to fx), Bool.eq_iff_iff]
  unfold labLeq placeB
  rw [leqB_iff fd fx, allB_iff]
  have key : ∀ c, getL (q2n (q5t (o.map upPr))) c = max (q2r (q4l o) c) 2 := fun c => by rw [q6l, joinNil_get (q9r ho), x0l ho]
  constructor
  · intro h c
    rw [key, q6l]
    cases hf : d.find? (fun p => p.cat == c) with
    | none => rw [q7j hf]; omega
    | some p =>
      obtain ⟨h1, h2⟩ := get_find hf
      obtain ⟨k, hk⟩ := List.getElem?_of_mem (List.mem_of_find?_eq_some hf)
      have := h k (q3y hk)
      unfold plAt at this
      rw [hk] at this
      simp only [Bool.not_eq_true', decide_eq_false_iff_not] at this
      rw [h2]
      rw [h1] at this
      split at this <;> omega
  · intro h k hk
    obtain ⟨x, hx⟩ := q2f hk
    have := h x.cat
    rw [key, q6l] at this
    have hx2 : q2r d x.cat = x.lev := by rw [← q6l]; exact x0w fd.sorted (p := (_, _)) (List.mem_map.2 ⟨_, List.mem_of_getElem? hx, rfl⟩)
    unfold plAt
    rw [hx]
    simp only [Bool.not_eq_true', decide_eq_false_iff_not]
    rw [hx2] at this
    split <;> omega
end Go.Proofs.YtoibbedpaaeclaaGreat
end

section
namespace Go.Proofs.YtoibbedpaaeclaaGreat
open Go Go.RowKit
set_option linter.unusedVariables false
set_option linter.unusedSimpArgs false
set_option maxHeartbeats 16000000
set_option maxRecDepth 100000
attribute [local irreducible] q0i dr q0d Ex.then Ex.inBlock retQ q1l q2j q2g Pure CSat evOp q1i rdOf upd hset strip sp0 cut envL q1g q3q Keep BdL evBs q2s q3c
theorem chk_place (d o : List Pr) (hd : d.length ≤ 1000) (ho : o.length ≤ 1000) (hs : Sorted (q2n (q4l o))) (hl : (q4l o).length ≤ 1000) : Pure Tryz.prog 231 [.sl (d.map Pr.enc), .sl (o.map Pr.enc)] (.bool (placeB d o)) := by
  have hr := x0d o (by omega)
  have hgt := fun c => label_get (q4l o) c hs (by omega)
  simp only [q6l] at hgt
  refine q2d (by kernel_rfl) (by simp only [go_sem, *]) (by simp only [go_sem, *]) Tryz.func231 Tryz.results231 rfl (by simp [Tryz.ntmps231]) (by kernel_rfl) ?_
  repeat' (first | (show q0i ..; first | refine q0c ?_ | refine q0e rfl ?_) | (show q0k ..; refine q0f rfl rfl ?_) | (show goOn ..; refine q0g ?_) | (show q0d ..; first | refine q0h ?_ | refine q0b ?_ | refine q0n ?_) | refine q0a ?_)
  refine q2q (S := Nat) (fun n => d.length - n) (fun n => n ≤ d.length ∧ ∀ j, j < n → plAt d o j = true) (fun n => [(1, .sl (o.map Pr.enc)), (8, .sl (d.map Pr.enc)), (9, .int .i64 d.length), (10, .int .i64 n)]) (fun _ => []) (fun _ => 0) 0 ⟨Nat.zero_le _, fun j hj => absurd hj (Nat.not_lt_zero j)⟩ (by (refine q1n ?_ ?_ <;> repeat' (first | exact q0v | exact q0y | refine q0p (by (try simp only [go_sem, *]); try rfl) (by simp only [go_sem, *]) ?_ | refine q0z (by (try simp only [go_sem, *]); try rfl) (by omega) (by simp only [go_sem, *]) ?_ | refine q0x (by (try simp only [go_sem, *]); try rfl) (by omega) (by simp only [go_sem, *]) ?_))) ?_
  rintro n ⟨hn, hs⟩
  rcases Nat.lt_or_ge n d.length with hlt | hge
  · obtain ⟨x, hx⟩ := q2f hlt
    have h0 := q2k hlt
    have h4 := q2e n (by omega)
    have e : plAt d o n = !decide (x.lev > if 2 > q2r (q4l o) x.cat then 2 else q2r (q4l o) x.cat) := by unfold plAt; rw [hx]
    repeat' (first | (show q0i ..; first | refine q0c ?_ | refine q0e rfl ?_) | (show q0k ..; refine q0f rfl rfl ?_) | (show goOn ..; first | refine q0g ?_ | refine q1d ?_ | refine q1x ?_) | (show q3f ..; refine q1h ?_) | (show dr ..; first | refine q1y ?_ | refine dr_n rfl ?_) | (show drGo ..; first | refine q3b rfl ?_ | refine q2l rfl ?_) | (show drOn ..; refine q1z ?_) | (show q2h ..; (refine q1f (r := ?_) ?_ ?_; rotate_left 1; (focus first | exact hr | exact hgt _))) | (refine And.intro (by kernel_rfl : q1l _ = true) ?_) | (show q0d ..; first | refine q0h ?_ | refine q0b ?_ | refine q1k (by kernel_rfl) ?_ | refine q0r ?_ | refine q0q ?_ | refine q0n ?_ | refine q0j ?_) | (show q0o ..; first | refine cd_t ?_ | refine cd_b (fun _ => ?_) (fun _ => ?_)) | refine q0a ?_ | refine q1v ?_ | refine q0t ?_ | refine q3m ?_ | (show retQ ..; refine q0s ?_) | refine q0l ?_)
    all_goals rename_i hc
    · exact q1o (q2o hlt (f := plAt d o) (by rw [e, hc]; rfl)).symm
    · exact again (n + 1) ⟨by omega, q5d hs (by rw [e, hc]; rfl)⟩ (by omega) (by (refine q1n ?_ ?_ <;> repeat' (first | exact q0v | exact q0y | refine q0p (by (try simp only [go_sem, *]); try rfl) (by simp only [go_sem, *]) ?_ | refine q0z (by (try simp only [go_sem, *]); try rfl) (by omega) (by simp only [go_sem, *]) ?_ | refine q0x (by (try simp only [go_sem, *]); try rfl) (by omega) (by simp only [go_sem, *]) ?_)))
  · have h0 := q1w hge
    repeat' (first | (show q0i ..; first | refine q0c ?_ | refine q0e rfl ?_) | (show q0k ..; refine q0f rfl rfl ?_) | (show goOn ..; refine q0g ?_) | (show q0d ..; first | refine q0h ?_ | refine q0b ?_ | refine q0r ?_ | refine q1q ?_ | refine q0j ?_) | (show q0o ..; refine cd_f ?_) | refine q0a ?_ | refine q1p ?_ | refine q1r ?_ | (show retQ ..; refine q0s ?_) | refine q0l ?_)
    exact q1o (q2m fun j hj => hs j (by omega)).symm
end Go.Proofs.YtoibbedpaaeclaaGreat
end

section
namespace Go.Proofs.YtoibbedpaaeclaaGreat
open Go Go.RowKit
set_option linter.unusedVariables false
set_option linter.unusedSimpArgs false
set_option maxHeartbeats 16000000
set_option maxRecDepth 100000
noncomputable def fewS (w : Wd) : Bool := !decide ((w.objects.length : Int) > 24) && (allB w.objects.length (fewAt w.objects) && fitW w)
theorem fewS_f {w : Wd} (h1 : decide ((w.objects.length : Int) > 24) = false) (h2 : allB w.objects.length (fewAt w.objects) = true) : FewW w := by
  have h1 := of_decide_eq_false h1
  refine ⟨by omega, fun x hx => ?_⟩
  obtain ⟨k, hk⟩ := List.getElem?_of_mem hx
  have := allB_iff.1 h2 k (q3y hk)
  unfold fewAt at this
  rw [hk] at this
  simp only [Bool.not_eq_true', Bool.or_eq_false_iff, decide_eq_false_iff_not] at this
  omega
theorem fewS_of {w : Wd} (h : fewS w = true) : FewW w ∧ fitW w = true := by
  unfold fewS at h
  simp only [Bool.and_eq_true, Bool.not_eq_true'] at h
  exact ⟨fewS_f h.1 h.2.1, h.2.2⟩
def isThr (w : Wd) (id : Int) : Bool := (q2p w id).2 && ((q2p w id).1.kind == 4)
attribute [local irreducible] q0i dr q0d Ex.then Ex.inBlock retQ q1l q2j q2g Pure CSat evOp q1i rdOf upd hset strip sp0 cut envL q1g q3q Keep BdL evBs q2s q3c
theorem law19_few (w : Wd) (hl : w.objects.length ≤ 9223372036854775807) (ho : ∀ x ∈ w.objects, x.L) : Pure Tryz.prog 32 [.agg (Wd.enc w)] (.bool (fewS w)) := by
  cases h1 : decide ((w.objects.length : Int) > 24) with
  | true =>
    refine q2d (by kernel_rfl) (by simp only [go_sem, *]) (by simp only [go_sem, *]) Tryz.func32 Tryz.results32 rfl (by simp [Tryz.ntmps32]) (by kernel_rfl) ?_
    repeat' (first | (show q0i ..; first | refine q0c ?_ | refine q0e rfl ?_) | (show q0k ..; refine q0f rfl rfl ?_) | (show goOn ..; first | refine q0g ?_ | refine q1d ?_) | (show q0d ..; first | refine q0h ?_ | refine q0b ?_ | refine q0r ?_ | refine q0j ?_) | (show q0o ..; refine cd_t ?_) | refine q0a ?_ | refine q1v ?_ | (show retQ ..; refine q0s ?_) | refine q0l ?_)
    all_goals (refine q1o ?_; unfold fewS; rw [h1]; rfl)
  | false =>
  have h1' := of_decide_eq_false h1
  have fin : ∀ b, (allB w.objects.length (fewAt w.objects) && fitW w) = b → b = fewS w := fun b hb => by unfold fewS; rw [h1, hb]; rfl
  refine q2d (by kernel_rfl) (by simp only [go_sem, *]) (by simp only [go_sem, *]) Tryz.func32 Tryz.results32 rfl (by simp [Tryz.ntmps32]) (by kernel_rfl) ?_
  repeat' (first | (show q0i ..; first | refine q0c ?_ | refine q0e rfl ?_) | (show q0k ..; refine q0f rfl rfl ?_) | (show goOn ..; first | refine q0g ?_ | refine q1d ?_) | (show q0d ..; first | refine q0h ?_ | refine q0b ?_ | refine q0q ?_ | refine q0n ?_ | refine q0j ?_) | (show q0o ..; refine cd_f ?_) | refine q0a ?_)
  refine q2q (S := Nat) (fun n => w.objects.length - n) (fun n => n ≤ w.objects.length ∧ ∀ j, j < n → fewAt w.objects j = true) (fun n => [(1, .ptr 0 0), (10, .sl (w.objects.map Ob.enc)), (11, .int .i64 w.objects.length), (12, .int .i64 n)]) (fun _ => [(0, .box (Wd.enc w))]) (fun _ => 1) 0 ⟨Nat.zero_le _, fun j hj => absurd hj (Nat.not_lt_zero j)⟩ (by (refine q1n ?_ ?_ <;> repeat' (first | exact q0v | exact q0y | refine q0p (by (try simp only [go_sem, *]); try rfl) (by simp only [go_sem, *]) ?_ | refine q0z (by (try simp only [go_sem, *]); try rfl) (by omega) (by simp only [go_sem, *]) ?_ | refine q0x (by (try simp only [go_sem, *]); try rfl) (by omega) (by simp only [go_sem, *]) ?_))) ?_
  rintro n ⟨hn, hs⟩
  rcases Nat.lt_or_ge n w.objects.length with hlt | hge
  · obtain ⟨x, hx⟩ := q2f hlt
    have h0 := q2k hlt
    have h4 := q2e n (by omega)
    have e : fewAt w.objects n = !(decide ((x.label.length : Int) > 20) || (decide ((x.links.length : Int) > 70) || (decide ((x.data.length : Int) > 300) || decide ((x.maps.length : Int) > 20)))) := by unfold fewAt; rw [hx]
    repeat' (first | (show q0i ..; first | refine q0c ?_ | refine q0e rfl ?_ | refine q1b rfl rfl ?_) | (show q0k ..; refine q0f rfl rfl ?_) | (show goOn ..; first | refine q0g ?_ | refine q1d ?_ | refine q1x ?_) | (show q3f ..; refine q1h ?_) | (show wGo ..; first | refine q4e ?_ | refine q5b ?_ | refine gw_fb (fun _ => ?_) (fun _ => ?_)) | (show q0d ..; first | refine q0h ?_ | refine q0b ?_ | refine q0r ?_ | refine q0q ?_ | refine q0n ?_ | refine q0j ?_) | (show q0o ..; first | refine cd_t ?_ | refine cd_b (fun _ => ?_) (fun _ => ?_)) | refine q0a ?_ | refine q1v ?_ | refine q0t ?_ | refine q3m ?_ | (show retQ ..; refine q0s ?_) | refine q0l ?_)
    all_goals first
      | (refine q1o (fin _ ?_); rw [q2o hlt (by rw [e]; simp only [*, Bool.not_true, Bool.not_false, Bool.and_true, Bool.true_and, Bool.and_false, Bool.false_and, Bool.or_true, Bool.true_or, Bool.or_false, Bool.false_or, Bool.and_self, Bool.or_self, decide_true, decide_false, Bool.not_not, if_true, if_false, Bool.false_eq_true, eq_self])]; rfl)
      | (refine again (n + 1) ⟨hlt, q5d hs ?_⟩ (show w.objects.length - (n + 1) < w.objects.length - n by omega) (by (refine q1n ?_ ?_ <;> repeat' (first | exact q0v | exact q0y | refine q0p (by (try simp only [go_sem, *]); try rfl) (by simp only [go_sem, *]) ?_ | refine q0z (by (try simp only [go_sem, *]); try rfl) (by omega) (by simp only [go_sem, *]) ?_ | refine q0x (by (try simp only [go_sem, *]); try rfl) (by omega) (by simp only [go_sem, *]) ?_))); rw [e]; simp only [*, Bool.not_true, Bool.not_false, Bool.and_true, Bool.true_and, Bool.and_false, Bool.false_and, Bool.or_true, Bool.true_or, Bool.or_false, Bool.false_or, Bool.and_self, Bool.or_self, decide_true, decide_false, Bool.not_not, if_true, if_false, Bool.false_eq_true, eq_self]; done)
  · have h0 := q1w hge
    have hall : allB w.objects.length (fewAt w.objects) = true := q2m fun j hj => hs j (by omega)
    have hfew := fewS_f h1 hall
    have hft := r14_fit w ⟨hl, fun x hx => ⟨ho x hx, by have := (hfew.ob x hx).1; omega⟩⟩ hfew
    clear ho
    have hfin := fin (fitW w) (by rw [hall]; rfl)
    clear fin
    repeat' (first | (show q0i ..; first | refine q0c ?_ | refine q0e rfl ?_) | (show q0k ..; first | refine q0f rfl rfl ?_ | refine q0m rfl ?_) | (show goOn ..; refine q0g ?_) | (show q1j ..; (refine q0u (r := ?_) ?_ ?_; rotate_left 1; (focus exact hft))) | (show q0d ..; first | refine q0h ?_ | refine q0b ?_ | refine q0r ?_ | refine q1q ?_ | refine q0j ?_) | (show q0o ..; refine cd_f ?_) | refine q0a ?_ | refine q1p ?_ | refine q1r ?_ | (show retQ ..; refine q0s ?_) | refine q0l ?_)
    all_goals first | rfl | (refine q1o ?_; first | exact hfin | exact hfin.symm) | (rw [hfin]) | (rw [← hfin])
theorem law23_few (w : Wd) (hl : w.objects.length ≤ 9223372036854775807) (ho : ∀ x ∈ w.objects, x.L) : Pure Tryz.prog 23 [.agg (Wd.enc w)] (.bool (fewS w)) := by
  cases h1 : decide ((w.objects.length : Int) > 24) with
  | true =>
    refine q2d (by kernel_rfl) (by simp only [go_sem, *]) (by simp only [go_sem, *]) Tryz.func23 Tryz.results23 rfl (by simp [Tryz.ntmps23]) (by kernel_rfl) ?_
    repeat' (first | (show q0i ..; first | refine q0c ?_ | refine q0e rfl ?_) | (show q0k ..; refine q0f rfl rfl ?_) | (show goOn ..; first | refine q0g ?_ | refine q1d ?_) | (show q0d ..; first | refine q0h ?_ | refine q0b ?_ | refine q0r ?_ | refine q0j ?_) | (show q0o ..; refine cd_t ?_) | refine q0a ?_ | refine q1v ?_ | (show retQ ..; refine q0s ?_) | refine q0l ?_)
    all_goals (refine q1o ?_; unfold fewS; rw [h1]; rfl)
  | false =>
  have h1' := of_decide_eq_false h1
  have fin : ∀ b, (allB w.objects.length (fewAt w.objects) && fitW w) = b → b = fewS w := fun b hb => by unfold fewS; rw [h1, hb]; rfl
  refine q2d (by kernel_rfl) (by simp only [go_sem, *]) (by simp only [go_sem, *]) Tryz.func23 Tryz.results23 rfl (by simp [Tryz.ntmps23]) (by kernel_rfl) ?_
  repeat' (first | (show q0i ..; first | refine q0c ?_ | refine q0e rfl ?_) | (show q0k ..; refine q0f rfl rfl ?_) | (show goOn ..; first | refine q0g ?_ | refine q1d ?_) | (show q0d ..; first | refine q0h ?_ | refine q0b ?_ | refine q0q ?_ | refine q0n ?_ | refine q0j ?_) | (show q0o ..; refine cd_f ?_) | refine q0a ?_)
  refine q2q (S := Nat) (fun n => w.objects.length - n) (fun n => n ≤ w.objects.length ∧ ∀ j, j < n → fewAt w.objects j = true) (fun n => [(1, .ptr 0 0), (10, .sl (w.objects.map Ob.enc)), (11, .int .i64 w.objects.length), (12, .int .i64 n)]) (fun _ => [(0, .box (Wd.enc w))]) (fun _ => 1) 0 ⟨Nat.zero_le _, fun j hj => absurd hj (Nat.not_lt_zero j)⟩ (by (refine q1n ?_ ?_ <;> repeat' (first | exact q0v | exact q0y | refine q0p (by (try simp only [go_sem, *]); try rfl) (by simp only [go_sem, *]) ?_ | refine q0z (by (try simp only [go_sem, *]); try rfl) (by omega) (by simp only [go_sem, *]) ?_ | refine q0x (by (try simp only [go_sem, *]); try rfl) (by omega) (by simp only [go_sem, *]) ?_))) ?_
  rintro n ⟨hn, hs⟩
  rcases Nat.lt_or_ge n w.objects.length with hlt | hge
  · obtain ⟨x, hx⟩ := q2f hlt
    have h0 := q2k hlt
    have h4 := q2e n (by omega)
    have e : fewAt w.objects n = !(decide ((x.label.length : Int) > 20) || (decide ((x.links.length : Int) > 70) || (decide ((x.data.length : Int) > 300) || decide ((x.maps.length : Int) > 20)))) := by unfold fewAt; rw [hx]
    repeat' (first | (show q0i ..; first | refine q0c ?_ | refine q0e rfl ?_ | refine q1b rfl rfl ?_) | (show q0k ..; refine q0f rfl rfl ?_) | (show goOn ..; first | refine q0g ?_ | refine q1d ?_ | refine q1x ?_) | (show q3f ..; refine q1h ?_) | (show wGo ..; first | refine q4e ?_ | refine q5b ?_ | refine gw_fb (fun _ => ?_) (fun _ => ?_)) | (show q0d ..; first | refine q0h ?_ | refine q0b ?_ | refine q0r ?_ | refine q0q ?_ | refine q0n ?_ | refine q0j ?_) | (show q0o ..; first | refine cd_t ?_ | refine cd_b (fun _ => ?_) (fun _ => ?_)) | refine q0a ?_ | refine q1v ?_ | refine q0t ?_ | refine q3m ?_ | (show retQ ..; refine q0s ?_) | refine q0l ?_)
    all_goals first
      | (refine q1o (fin _ ?_); rw [q2o hlt (by rw [e]; simp only [*, Bool.not_true, Bool.not_false, Bool.and_true, Bool.true_and, Bool.and_false, Bool.false_and, Bool.or_true, Bool.true_or, Bool.or_false, Bool.false_or, Bool.and_self, Bool.or_self, decide_true, decide_false, Bool.not_not, if_true, if_false, Bool.false_eq_true, eq_self])]; rfl)
      | (refine again (n + 1) ⟨hlt, q5d hs ?_⟩ (show w.objects.length - (n + 1) < w.objects.length - n by omega) (by (refine q1n ?_ ?_ <;> repeat' (first | exact q0v | exact q0y | refine q0p (by (try simp only [go_sem, *]); try rfl) (by simp only [go_sem, *]) ?_ | refine q0z (by (try simp only [go_sem, *]); try rfl) (by omega) (by simp only [go_sem, *]) ?_ | refine q0x (by (try simp only [go_sem, *]); try rfl) (by omega) (by simp only [go_sem, *]) ?_))); rw [e]; simp only [*, Bool.not_true, Bool.not_false, Bool.and_true, Bool.true_and, Bool.and_false, Bool.false_and, Bool.or_true, Bool.true_or, Bool.or_false, Bool.false_or, Bool.and_self, Bool.or_self, decide_true, decide_false, Bool.not_not, if_true, if_false, Bool.false_eq_true, eq_self]; done)
  · have h0 := q1w hge
    have hall : allB w.objects.length (fewAt w.objects) = true := q2m fun j hj => hs j (by omega)
    have hfew := fewS_f h1 hall
    have hft := r14_fit w ⟨hl, fun x hx => ⟨ho x hx, by have := (hfew.ob x hx).1; omega⟩⟩ hfew
    clear ho
    have hfin := fin (fitW w) (by rw [hall]; rfl)
    clear fin
    repeat' (first | (show q0i ..; first | refine q0c ?_ | refine q0e rfl ?_) | (show q0k ..; first | refine q0f rfl rfl ?_ | refine q0m rfl ?_) | (show goOn ..; refine q0g ?_) | (show q1j ..; (refine q0u (r := ?_) ?_ ?_; rotate_left 1; (focus exact hft))) | (show q0d ..; first | refine q0h ?_ | refine q0b ?_ | refine q0r ?_ | refine q1q ?_ | refine q0j ?_) | (show q0o ..; refine cd_f ?_) | refine q0a ?_ | refine q1p ?_ | refine q1r ?_ | (show retQ ..; refine q0s ?_) | refine q0l ?_)
    all_goals first | rfl | (refine q1o ?_; first | exact hfin | exact hfin.symm) | (rw [hfin]) | (rw [← hfin])
theorem law23_thread (w : Wd) (id : Int) (hl : w.objects.length ≤ 1000000) : Pure Tryz.prog 24 [.agg (Wd.enc w), .int .u64 id] (.bool (isThr w id)) := by
  have h1 := q5y w id hl
  unfold isThr
  generalize q2p w id = F at h1 ⊢
  obtain ⟨o, b⟩ := F
  simp only at h1 ⊢
  cases b with
  | false =>
    refine q2d (by kernel_rfl) (by simp only [go_sem, *]) (by simp only [go_sem, *]) Tryz.func24 Tryz.results24 rfl (by simp [Tryz.ntmps24]) (by kernel_rfl) ?_
    repeat' (first | (show q0i ..; first | refine q0c ?_ | refine q0e rfl ?_ | refine q1b rfl rfl ?_) | (show q0k ..; first | refine q0f rfl rfl ?_ | refine q0m rfl ?_) | (show goOn ..; first | refine q0g ?_ | refine q1d ?_ | refine q1x ?_) | (show q3f ..; refine q1h ?_) | (show q1j ..; (refine q0u (r := ?_) ?_ ?_; rotate_left 1; (focus exact h1))) | (show wGo ..; refine q3x ?_) | (show q0d ..; first | refine q0h ?_ | refine q0b ?_ | refine q0r ?_) | refine q0a ?_ | (show retQ ..; refine q0s ?_) | refine q0l ?_)
    all_goals rfl
  | true =>
    refine q2d (by kernel_rfl) (by simp only [go_sem, *]) (by simp only [go_sem, *]) Tryz.func24 Tryz.results24 rfl (by simp [Tryz.ntmps24]) (by kernel_rfl) ?_
    repeat' (first | (show q0i ..; first | refine q0c ?_ | refine q0e rfl ?_ | refine q1b rfl rfl ?_) | (show q0k ..; first | refine q0f rfl rfl ?_ | refine q0m rfl ?_) | (show goOn ..; first | refine q0g ?_ | refine q1d ?_ | refine q1x ?_) | (show q3f ..; refine q1h ?_) | (show q1j ..; (refine q0u (r := ?_) ?_ ?_; rotate_left 1; (focus exact h1))) | (show wGo ..; refine q3n ?_) | (show q0d ..; first | refine q0h ?_ | refine q0b ?_ | refine q0r ?_) | refine q0a ?_ | (show retQ ..; refine q0s ?_) | refine q0l ?_)
    all_goals rfl
end Go.Proofs.YtoibbedpaaeclaaGreat
end
