import Derived.Test.YteibeoipnjhicaaGreatEr4
import Derived.Test.YteibeoipnjhicaaGreatRz2
import Derived.Test.YteibeoipnjhicaaGreatRz3
import Derived.Test.YteibeoipnjhicaaGreatEc4
import Derived.Test.YteibeoipnjhicaaGreatEr5
section
namespace Go.Proofs.YteibeoipnjhicaaGreat
open Go Go.RowKit
set_option linter.unusedVariables false
set_option linter.unusedSimpArgs false
set_option maxHeartbeats 16000000
set_option maxRecDepth 100000
theorem see_kind {w : Wd} {t : Ob} {r : Rf} {k : Int} (hk : (k == 0) = false) (h : ((seeR w t r k).2 == 0) = true) : ((seeR w t r k).1.kind == k) = true := by
  unfold seeR at h ⊢
  split at h
  · rename_i h1
    rw [if_pos h1]
    split at h
    · rename_i h2
      rw [if_pos h2]
      split at h
      · rename_i h3; rw [if_pos h3]; rw [hk, Bool.false_or] at h2; exact h2
      · cases h
    · cases h
  · rename_i h1; exact absurd h h1
attribute [local irreducible] q1a dr q0i Ex.then Ex.inBlock retQ q1r q3f q3e Pure CSat evOp q2r rdOf upd hset strip sp0 cut envL q3h q4c Keep BdL evBs q3n q3z
end Go.Proofs.YteibeoipnjhicaaGreat
end

section
namespace Go.Proofs.YteibeoipnjhicaaGreat
open Go Go.RowKit
set_option linter.unusedVariables false
set_option linter.unusedSimpArgs false
def hd (x : Ob) : Ob := { Ob.zero with id := x.id, kind := x.kind, label := x.label, quota := x.quota, fixed := x.fixed, links := x.links, data := List.replicate x.data.length 0, thread := { Th.zero with span := x.thread.span } }
def hdW (w : Wd) : Wd := { w with time := 0, objects := w.objects.map hd }
theorem hd_pages (x : Ob) : pagesR (hd x) = pagesR x := by
  unfold pagesR hd
  simp only [List.length_replicate]
theorem hd_find (w : Wd) (id : Int) : q2p (hdW w) id = (hd (q2p w id).1, (q2p w id).2) := by
  have e : (hdW w).objects.find? (fun x => x.id == id) = (w.objects.find? (fun x => x.id == id)).map hd := by
    show (w.objects.map hd).find? _ = _
    rw [List.find?_map]; rfl
  unfold q2p
  rw [e]
  cases w.objects.find? (fun x => x.id == id) with
  | none => rfl
  | some x => rfl
theorem hd_holders (w : Wd) (id : Int) : q5o (hdW w) id = q5o w id := by
  unfold q5o
  show ((w.objects.map hd).filter _).map Ob.id = _
  rw [List.filter_map, List.map_map]; rfl
theorem hd_aboveG (w : Wd) : ∀ (f : Nat) (id : Int) (out : List Int), q8i (hdW w) f id out = q8i w f id out
  | 0, _, _ => rfl
  | f + 1, id, out => by
    unfold q8i
    rw [hd_holders]
    cases q5o w id with
    | nil => rfl
    | cons h t => exact hd_aboveG w f h (out ++ [h])
theorem hd_above (w : Wd) (id : Int) : above (hdW w) id = above w id := by
  unfold above
  rw [hd_aboveG]
  show q8i w ((w.objects.map hd).length + 1) id [] = _
  rw [List.length_map]
theorem hd_up (w : Wd) (id : Int) : upR (hdW w) id = upR w id := by
  unfold upR
  rw [hd_above]; rfl
theorem hd_placed (w : Wd) (o : Ob) : q7k (hdW w) (hd o) = q7k w o := by
  unfold q7k
  rw [hd_holders, hd_up]; rfl
theorem hd_uses (w : Wd) (o : Ob) : usesR (hdW w) (hd o) = usesR w o := by
  unfold usesR
  rw [hd_pages]
  show List.foldl _ _ o.links = _
  congr 1
  funext s id
  rw [hd_find]; rfl
theorem hd_linksAt (w : Wd) (d : Ob) (k : Nat) : q6q (hdW w) (hd d) k = q6q w d k := by
  unfold q6q
  show (match d.links[k]? with | some id => (q2p (hdW w) id).2 && placeR d.label (q2p (hdW w) id).1.label | none => true) = _
  cases d.links[k]? with
  | none => rfl
  | some id => simp only [hd_find]; rfl
theorem q8w {n : Nat} {f g : Nat → Bool} (h : ∀ k, f k = g k) : allB n f = allB n g := by
  have : f = g := funext h
  rw [this]
theorem hd_links (w : Wd) (d : Ob) : q7p (hdW w) (hd d) = q7p w d := by
  unfold q7p
  rw [hd_uses, q8w (hd_linksAt w d)]; rfl
theorem hd_treeAt (w : Wd) (k : Nat) : q6v (hdW w) k = q6v w k := by
  unfold q6v
  show (match (w.objects.map hd)[k]? with | some x => q7p (hdW w) x && q7k (hdW w) x | none => true) = _
  rw [List.getElem?_map]
  cases w.objects[k]? with
  | none => rfl
  | some x => simp only [Option.map_some, hd_links, hd_placed]
theorem hd_spanOk (w : Wd) (t : Ob) (i : Int) (k : Nat) : q9b (hdW w) (hd t) i k = q9b w t i k := by
  unfold q9b
  show (match (w.objects.map hd)[k]? with | some o => !(hasZ w.key (hd t).thread.span o.id || ((o.kind == 4) && (((k : Int) != i) && !apartZ (hd t).thread.span o.thread.span))) | none => true) = _
  rw [List.getElem?_map]
  cases w.objects[k]? with
  | none => rfl
  | some x => rfl
theorem hd_spanAt (w : Wd) (i : Nat) : q7t (hdW w) i = q7t w i := by
  unfold q7t
  show (match (w.objects.map hd)[i]? with | some t => if (t.kind == 4) = true then allB (w.objects.map hd).length (q9b (hdW w) t i) else true | none => true) = _
  rw [List.getElem?_map, List.length_map]
  cases w.objects[i]? with
  | none => rfl
  | some x => simp only [Option.map_some]; rw [q8w (hd_spanOk w x i)]; rfl
theorem hd_spans (w : Wd) : q6j (hdW w) = q6j w := by
  unfold q6j
  rw [q8w (hd_spanAt w)]
  show allB (w.objects.map hd).length _ = _
  rw [List.length_map]
noncomputable def treeR (w : Wd) : Bool := (q2p w w.root).2 && (allB w.objects.length (q6v w) && q6j w)
theorem hd_tree (w : Wd) : treeR (hdW w) = treeR w := by
  unfold treeR
  rw [hd_spans, q8w (hd_treeAt w), hd_find]
  show ((q2p w w.root).2 && (allB (w.objects.map hd).length (q6v w) && q6j w)) = _
  rw [List.length_map]
theorem fitW_eq (w : Wd) : fitW w = (q5h w && treeR w) := by
  unfold fitW treeR
  rw [Bool.and_assoc]
/-- Heads that are the same: whole again. -/
theorem fit_heads {w v : Wd} (h : hdW v = hdW w) (hv : q5h v = true) (hw : fitW w = true) : fitW v = true := by
  rw [fitW_eq] at hw ⊢
  rw [Bool.and_eq_true] at hw
  rw [hv, ← hd_tree v, h, hd_tree, hw.2]; rfl
theorem q5g {w : Wd} (hw : q5h w = true) {o : Ob} (ho : o ∈ w.objects) : sound o = true := (q5d hw).2.1 o ho
theorem fnd_mem : ∀ {l : List Ob} {x : Ob}, RisO l → x ∈ l → fnd l x.id = some x
  | [], _, _, h => by cases h
  | y :: l, x, hr, h => by
    rw [q4m]
    rcases List.mem_cons.1 h with rfl | h
    · rw [if_pos rfl]
    · have := hr.head x h
      rw [if_neg (by omega), fnd_mem hr.tail h]
theorem insR_map {o p : Ob} : ∀ {l : List Ob}, RisO l → o ∈ l → p.id = o.id → insR p l = l.map fun x => if x.id = o.id then p else x
  | [], _, h, _ => by cases h
  | x :: l, hr, ho, hp => by
    have same : ∀ k : List Ob, (∀ y ∈ k, o.id < y.id) → (k.map fun x => if x.id = o.id then p else x) = k := fun k hk => by
      induction k with
      | nil => rfl
      | cons y k ih =>
        have hy := hk y (by simp)
        rw [List.map_cons, ih (fun z hz => hk z (by simp [hz])), if_neg (by omega)]
    rw [List.map_cons]
    unfold insR
    rcases List.mem_cons.1 ho with rfl | ho
    · rw [if_neg (by omega), if_pos hp.symm, if_pos rfl, same l hr.head]
    · have := hr.head o ho
      rw [if_pos (by omega), if_neg (by omega), insR_map hr.tail ho hp]
end Go.Proofs.YteibeoipnjhicaaGreat
end

section
namespace Go.Proofs.YteibeoipnjhicaaGreat
open Go Go.RowKit
set_option linter.unusedVariables false
set_option linter.unusedSimpArgs false
set_option maxHeartbeats 16000000
set_option maxRecDepth 100000
attribute [local irreducible] q1a dr q0i Ex.then Ex.inBlock retQ q1r q3f q3e Pure CSat evOp q2r rdOf upd hset strip sp0 cut envL q3h q4c Keep BdL evBs q3n q3z
theorem look_in {w : Wd} {t : Ob} {r : Rf} (hw : fitW w = true) (h : ((q5u w t r).2 == 0) = true) : (q5u w t r).1 ∈ w.objects := by
  unfold q5u at h ⊢
  split at h
  · rename_i h1
    rw [if_pos h1]
    split at h
    · rename_i h2
      rw [if_pos h2]
      obtain ⟨e1, e2, _⟩ := dir_found h1
      rw [e1] at h2
      obtain ⟨x, hx, hxi⟩ := List.any_eq_true.1 h2
      have : x = r.id := by simpa using hxi
      subst this
      exact (find_id (links_found hw (find_id e2).2 hx)).2
    · simp at h
  · rename_i h1; simp only at h; rw [h] at h1; exact absurd rfl h1
theorem see_in {w : Wd} {t : Ob} {r : Rf} {k : Int} (hw : fitW w = true) (h : ((seeR w t r k).2 == 0) = true) : (seeR w t r k).1 ∈ w.objects ∧ q7q t (seeR w t r k).1 = true ∧ (seeR w t r k).1 = (q5u w t r).1 := by
  unfold seeR at h ⊢
  split at h
  · rename_i h1
    rw [if_pos h1]
    split at h
    · rename_i h2
      rw [if_pos h2]
      split at h
      · rename_i h3; rw [if_pos h3]; exact ⟨look_in hw h1, h3, rfl⟩
      · cases h
    · cases h
  · rename_i h1; exact absurd h h1
end Go.Proofs.YteibeoipnjhicaaGreat
end

section
namespace Go.Proofs.YteibeoipnjhicaaGreat
open Go Go.RowKit
set_option linter.unusedVariables false
set_option linter.unusedSimpArgs false
structure Rep (w x : Wd) (ρ : Ob → Ob) : Prop where
  objs : x.objects = w.objects.map ρ
  hd : ∀ y, hd (ρ y) = hd y
  z : ρ Ob.zero = Ob.zero
  root : x.root = w.root
  key : x.key = w.key
section
variable {w x : Wd} {ρ : Ob → Ob}
theorem hd_id {a b : Ob} (h : hd a = hd b) : a.id = b.id := (congrArg Ob.id h : (Go.Proofs.YteibeoipnjhicaaGreat.hd a).id = (Go.Proofs.YteibeoipnjhicaaGreat.hd b).id)
theorem hd_kind {a b : Ob} (h : hd a = hd b) : a.kind = b.kind := (congrArg Ob.kind h : (Go.Proofs.YteibeoipnjhicaaGreat.hd a).kind = (Go.Proofs.YteibeoipnjhicaaGreat.hd b).kind)
theorem hd_label {a b : Ob} (h : hd a = hd b) : a.label = b.label := (congrArg Ob.label h : (Go.Proofs.YteibeoipnjhicaaGreat.hd a).label = (Go.Proofs.YteibeoipnjhicaaGreat.hd b).label)
theorem hd_linksO {a b : Ob} (h : hd a = hd b) : a.links = b.links := (congrArg Ob.links h : (Go.Proofs.YteibeoipnjhicaaGreat.hd a).links = (Go.Proofs.YteibeoipnjhicaaGreat.hd b).links)
theorem hd_len {a b : Ob} (h : hd a = hd b) : a.data.length = b.data.length := by
  have := congrArg (fun o : Ob => o.data.length) h
  simpa [Go.Proofs.YteibeoipnjhicaaGreat.hd] using this
theorem rep_find (h : Rep w x ρ) (id : Int) : q2p x id = (ρ (q2p w id).1, (q2p w id).2) := by
  have e : x.objects.find? (fun y => y.id == id) = (w.objects.find? (fun y => y.id == id)).map ρ := by
    rw [h.objs, List.find?_map]
    congr 1
    congr 1
    funext y
    simp only [Function.comp, hd_id (h.hd y)]
  unfold q2p
  rw [e]
  cases w.objects.find? (fun y => y.id == id) with
  | none => simp only [Option.map_none, h.z]
  | some y => rfl
theorem rep_shown {a b : Ob} (h : hd a = hd b) : q5e a = q5e b := by
  unfold q5e
  rw [hd_kind h, hd_label h]
theorem rep_sees {t a b : Ob} (h : hd a = hd b) : q7q t a = q7q t b := by unfold q7q; rw [rep_shown h]
theorem rep_chg {t a b : Ob} (h : hd a = hd b) : chgR t a = chgR t b := by unfold chgR; rw [rep_sees h, hd_label h]
theorem rep_dir (h : Rep w x ρ) (t : Ob) (id : Int) (b : Bool) : dirR x t id b = (ρ (dirR w t id b).1, (dirR w t id b).2) := by
  unfold dirR
  rw [rep_find h]
  simp only [hd_kind (h.hd _), rep_sees (h.hd _), rep_chg (h.hd _)]
  split
  · split
    · rfl
    · simp only [h.z]
  · simp only [h.z]
theorem rep_look (h : Rep w x ρ) (t : Ob) (r : Rf) : q5u x t r = (ρ (q5u w t r).1, (q5u w t r).2) := by
  unfold q5u
  rw [rep_dir h, rep_find h]
  simp only [hd_linksO (h.hd _)]
  split
  · split
    · rfl
    · simp only [h.z]
  · simp only [h.z]
theorem rep_see (h : Rep w x ρ) (t : Ob) (r : Rf) (k : Int) : seeR x t r k = (ρ (seeR w t r k).1, (seeR w t r k).2) := by
  unfold seeR
  rw [rep_look h]
  simp only [hd_kind (h.hd _), rep_sees (h.hd _)]
  split
  · split
    · split
      · rfl
      · simp only [h.z]
    · simp only [h.z]
  · simp only [h.z]
theorem rep_change (h : Rep w x ρ) (t : Ob) (r : Rf) (k : Int) : q4b x t r k = (ρ (q4b w t r k).1, (q4b w t r k).2) := by
  unfold q4b
  rw [rep_see h]
  simp only [rep_chg (h.hd _)]
  split
  · split
    · rfl
    · simp only [h.z]
  · simp only [h.z]
theorem rep_hdW (h : Rep w x ρ) : hdW x = hdW w := by
  unfold hdW
  rw [h.objs, h.root, h.key, List.map_map]
  congr 1
  exact List.map_congr_left fun y _ => h.hd y
theorem rep_ris (h : Rep w x ρ) (hr : RisO w.objects) : RisO x.objects := fun i j a b ha hb hij => by
  rw [h.objs, List.getElem?_map] at ha hb
  cases ha' : w.objects[i]? with
  | none => rw [ha'] at ha; cases ha
  | some a' =>
    cases hb' : w.objects[j]? with
    | none => rw [hb'] at hb; cases hb
    | some b' =>
      rw [ha'] at ha; rw [hb'] at hb
      cases ha; cases hb
      rw [hd_id (h.hd a'), hd_id (h.hd b')]
      exact hr i j a' b' ha' hb' hij
theorem rep_fit (h : Rep w x ρ) (hs : ∀ y ∈ w.objects, sound y = true → sound (ρ y) = true) (ht : x.time = w.time) (hw : fitW w = true) : fitW x = true := by
  refine fit_heads (rep_hdW h) ?_ hw
  obtain ⟨h1, h2, h3, h4, h5⟩ := q5d (q4p hw)
  refine ris_fit (rep_ris h h1) (fun y hy => ?_) (by rw [h.objs, List.length_map]; exact h3) (by rw [ht]; exact h4) (by rw [ht]; exact h5)
  rw [h.objs] at hy
  obtain ⟨z, hz, rfl⟩ := List.mem_map.1 hy
  exact hs z hz (h2 z hz)
end
open Classical in
noncomputable def one (o p : Ob) (y : Ob) : Ob := if y = o then p else y
theorem q8n (o p : Ob) : one o p o = p := by unfold one; rw [if_pos rfl]
theorem one_ne {o p y : Ob} (h : y ≠ o) : one o p y = y := by unfold one; rw [if_neg h]
theorem id_eq {w : Wd} (hr : RisO w.objects) {a b : Ob} (ha : a ∈ w.objects) (hb : b ∈ w.objects) (h : a.id = b.id) : a = b := by
  have h1 := fnd_mem hr ha
  have h2 := fnd_mem hr hb
  rw [h, h2] at h1
  cases h1; rfl
theorem sound_pos {o : Ob} (h : sound o = true) : 1 ≤ o.id := by
  unfold sound q6w at h
  simp only [Bool.and_eq_true] at h
  have := h.1.1
  unfold idOk at this
  simp only [Bool.and_eq_true, decide_eq_true_eq] at this
  omega
theorem q9j {w : Wd} {o p : Ob} (hw : q5h w = true) (ho : o ∈ w.objects) (h : hd p = hd o) : Rep w (w.ins p) (one o p) := by
  obtain ⟨hr, hs, _⟩ := q5d hw
  refine ⟨?_, fun y => ?_, ?_, rfl, rfl⟩
  · show insR p w.objects = _
    rw [insR_map hr ho (hd_id h)]
    refine List.map_congr_left fun y hy => ?_
    by_cases e : y.id = o.id
    · rw [if_pos e, id_eq hr hy ho e, q8n]
    · rw [if_neg e, one_ne (fun h => e (by rw [h]))]
  · by_cases e : y = o
    · rw [e, q8n, h]
    · rw [one_ne e]
  · refine one_ne fun e => ?_
    have := sound_pos (hs o ho)
    rw [← e] at this
    exact absurd this (by decide)
theorem one_fit {w : Wd} {o p : Ob} (hw : fitW w = true) (ho : o ∈ w.objects) (h : hd p = hd o) (hp : sound p = true) : fitW (w.ins p) = true := by
  refine rep_fit (q9j (q4p hw) ho h) (fun y hy hs => ?_) rfl hw
  by_cases e : y = o
  · rw [e, q8n]; exact hp
  · rw [one_ne e]; exact hs
theorem one_few {w : Wd} {o p : Ob} (hf : FewW w) (hw : q5h w = true) (ho : o ∈ w.objects) (h : hd p = hd o) (hm : p.maps.length ≤ 20) : FewW (w.ins p) := by
  have hr := q9j hw ho h
  refine ⟨by rw [hr.objs, List.length_map]; exact hf.n, fun y hy => ?_⟩
  rcases insR_mem hy with rfl | hy
  · have := hf.ob o ho
    rw [hd_label h, hd_linksO h, hd_len h]
    exact ⟨this.1, this.2.1, this.2.2.1, hm⟩
  · exact hf.ob y hy
end Go.Proofs.YteibeoipnjhicaaGreat
end

section
namespace Go.Proofs.YteibeoipnjhicaaGreat
open Go Go.RowKit
set_option linter.unusedVariables false
set_option linter.unusedSimpArgs false
set_option maxHeartbeats 16000000
set_option maxRecDepth 100000
section
variable {w x : Wd} {ρ : Ob → Ob}
end
end Go.Proofs.YteibeoipnjhicaaGreat
end

section
namespace Go.Proofs.YteibeoipnjhicaaGreat
open Go Go.RowKit
set_option linter.unusedVariables false
set_option linter.unusedSimpArgs false
set_option maxHeartbeats 16000000
set_option maxRecDepth 100000
structure Good (x : Wd) : Prop where
  L : x.L
  few : FewW x
  fit : fitW x = true
attribute [local irreducible] q1a dr q0i Ex.then Ex.inBlock retQ q1r q3f q3e Pure CSat evOp q2r rdOf upd hset strip sp0 cut envL q3h q4c Keep BdL evBs q3n q3z
end Go.Proofs.YteibeoipnjhicaaGreat
end

section
namespace Go.Proofs.YteibeoipnjhicaaGreat
open Go Go.RowKit
set_option linter.unusedVariables false
set_option linter.unusedSimpArgs false
set_option maxHeartbeats 16000000
set_option maxRecDepth 100000
theorem q9f {w : Wd} (hr : RisO w.objects) (p : Ob) (id : Int) : fnd (w.ins p).objects id = if p.id = id then some p else fnd w.objects id := insR_fnd hr id
theorem over_ext {w : Wd} (hr : RisO w.objects) {p q : Ob} (h : p.id = q.id) : (w.ins p).ins q = w.ins q := by
  refine wd_ext rfl rfl rfl (ins_ris (ins_ris hr p) q) (ins_ris hr q) fun id => ?_
  rw [q9f (ins_ris hr p), q9f hr, q9f hr]
  by_cases e1 : q.id = id
  · rw [if_pos e1, if_pos e1]
  · rw [if_neg e1, if_neg e1, if_neg (by omega)]
attribute [local irreducible] q1a dr q0i Ex.then Ex.inBlock retQ q1r q3f q3e Pure CSat evOp q2r rdOf upd hset strip sp0 cut envL q3h q4c Keep BdL evBs q3n q3z
end Go.Proofs.YteibeoipnjhicaaGreat
end
