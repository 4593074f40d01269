import Derived.Test.YteibeoipnjhicaaGreatEr5
import Derived.Test.YteibeoipnjhicaaGreatEc4
namespace Go.Proofs.YteibeoipnjhicaaGreat
open Go Go.RowKit
set_option linter.unusedVariables false
set_option linter.unusedSimpArgs false
def hd (x : Ob) : Ob := { Ob.zero with id := x.id, kind := x.kind, label := x.label, quota := x.quota, fixed := x.fixed, links := x.links, data := List.replicate x.data.length 0, thread := { Th.zero with span := x.thread.span } }
def hdW (w : Wd) : Wd := { w with time := 0, objects := w.objects.map hd }
theorem hd_pages (x : Ob) : pagesR (hd x) = pagesR x := by
  unfold pagesR hd
  simp only [List.length_replicate]
theorem hd_find (w : Wd) (id : Int) : q4b (hdW w) id = (hd (q4b w id).1, (q4b w id).2) := by
  have e : (hdW w).objects.find? (fun x => x.id == id) = (w.objects.find? (fun x => x.id == id)).map hd := by
    show (w.objects.map hd).find? _ = _
    rw [List.find?_map]; rfl
  unfold q4b
  rw [e]
  cases w.objects.find? (fun x => x.id == id) with
  | none => rfl
  | some x => rfl
theorem hd_holders (w : Wd) (id : Int) : q5l (hdW w) id = q5l w id := by
  unfold q5l
  show ((w.objects.map hd).filter _).map Ob.id = _
  rw [List.filter_map, List.map_map]; rfl
theorem hd_aboveG (w : Wd) : ∀ (f : Nat) (id : Int) (out : List Int), aboveG (hdW w) f id out = aboveG w f id out
  | 0, _, _ => rfl
  | f + 1, id, out => by
    unfold aboveG
    rw [hd_holders]
    cases q5l w id with
    | nil => rfl
    | cons h t => exact hd_aboveG w f h (out ++ [h])
theorem hd_above (w : Wd) (id : Int) : above (hdW w) id = above w id := by
  unfold above
  rw [hd_aboveG]
  show aboveG w ((w.objects.map hd).length + 1) id [] = _
  rw [List.length_map]
theorem hd_up (w : Wd) (id : Int) : upR (hdW w) id = upR w id := by
  unfold upR
  rw [hd_above]; rfl
theorem hd_placed (w : Wd) (o : Ob) : placedR (hdW w) (hd o) = placedR w o := by
  unfold placedR
  rw [hd_holders, hd_up]; rfl
theorem hd_uses (w : Wd) (o : Ob) : usesR (hdW w) (hd o) = usesR w o := by
  unfold usesR
  rw [hd_pages]
  show List.foldl _ _ o.links = _
  congr 1
  funext s id
  rw [hd_find]; rfl
theorem hd_linksAt (w : Wd) (d : Ob) (k : Nat) : linksAt (hdW w) (hd d) k = linksAt w d k := by
  unfold linksAt
  show (match d.links[k]? with | some id => (q4b (hdW w) id).2 && placeR d.label (q4b (hdW w) id).1.label | none => true) = _
  cases d.links[k]? with
  | none => rfl
  | some id => simp only [hd_find]; rfl
theorem allB_congr {n : Nat} {f g : Nat → Bool} (h : ∀ k, f k = g k) : allB n f = allB n g := by
  have : f = g := funext h
  rw [this]
theorem hd_links (w : Wd) (d : Ob) : linksR (hdW w) (hd d) = linksR w d := by
  unfold linksR
  rw [hd_uses, allB_congr (hd_linksAt w d)]; rfl
theorem hd_treeAt (w : Wd) (k : Nat) : treeAt (hdW w) k = treeAt w k := by
  unfold treeAt
  show (match (w.objects.map hd)[k]? with | some x => linksR (hdW w) x && placedR (hdW w) x | none => true) = _
  rw [List.getElem?_map]
  cases w.objects[k]? with
  | none => rfl
  | some x => simp only [Option.map_some, hd_links, hd_placed]
theorem hd_spanOk (w : Wd) (t : Ob) (i : Int) (k : Nat) : spanOk (hdW w) (hd t) i k = spanOk w t i k := by
  unfold spanOk
  show (match (w.objects.map hd)[k]? with | some o => !(hasZ w.key (hd t).thread.span o.id || ((o.kind == 4) && (((k : Int) != i) && !apartZ (hd t).thread.span o.thread.span))) | none => true) = _
  rw [List.getElem?_map]
  cases w.objects[k]? with
  | none => rfl
  | some x => rfl
theorem hd_spanAt (w : Wd) (i : Nat) : spanAt (hdW w) i = spanAt w i := by
  unfold spanAt
  show (match (w.objects.map hd)[i]? with | some t => if (t.kind == 4) = true then allB (w.objects.map hd).length (spanOk (hdW w) t i) else true | none => true) = _
  rw [List.getElem?_map, List.length_map]
  cases w.objects[i]? with
  | none => rfl
  | some x => simp only [Option.map_some]; rw [allB_congr (hd_spanOk w x i)]; rfl
theorem hd_spans (w : Wd) : spansR (hdW w) = spansR w := by
  unfold spansR
  rw [allB_congr (hd_spanAt w)]
  show allB (w.objects.map hd).length _ = _
  rw [List.length_map]
noncomputable def treeR (w : Wd) : Bool := (q4b w w.root).2 && (allB w.objects.length (treeAt w) && spansR w)
theorem hd_tree (w : Wd) : treeR (hdW w) = treeR w := by
  unfold treeR
  rw [hd_spans, allB_congr (hd_treeAt w), hd_find]
  show ((q4b w w.root).2 && (allB (w.objects.map hd).length (treeAt w) && spansR w)) = _
  rw [List.length_map]
theorem fitW_eq (w : Wd) : fitW w = (q5c w && treeR w) := by
  unfold fitW treeR
  rw [Bool.and_assoc]
/-- Heads that are the same: whole again. -/
theorem fit_heads {w v : Wd} (h : hdW v = hdW w) (hv : q5c v = true) (hw : fitW w = true) : fitW v = true := by
  rw [fitW_eq] at hw ⊢
  rw [Bool.and_eq_true] at hw
  rw [hv, ← hd_tree v, h, hd_tree, hw.2]; rfl
theorem fit_sound {w : Wd} (hw : q5c w = true) {o : Ob} (ho : o ∈ w.objects) : sound o = true := (q5s hw).2.1 o ho
theorem fnd_mem : ∀ {l : List Ob} {x : Ob}, RisO l → x ∈ l → fnd l x.id = some x
  | [], _, _, h => by cases h
  | y :: l, x, hr, h => by
    rw [q4m]
    rcases List.mem_cons.1 h with rfl | h
    · rw [if_pos rfl]
    · have := hr.head x h
      rw [if_neg (by omega), fnd_mem hr.tail h]
theorem insR_map {o p : Ob} : ∀ {l : List Ob}, RisO l → o ∈ l → p.id = o.id → insR p l = l.map fun x => if x.id = o.id then p else x
  | [], _, h, _ => by cases h
  | x :: l, hr, ho, hp => by
    have same : ∀ k : List Ob, (∀ y ∈ k, o.id < y.id) → (k.map fun x => if x.id = o.id then p else x) = k := fun k hk => by
      induction k with
      | nil => rfl
      | cons y k ih =>
        have hy := hk y (by simp)
        rw [List.map_cons, ih (fun z hz => hk z (by simp [hz])), if_neg (by omega)]
    rw [List.map_cons]
    unfold insR
    rcases List.mem_cons.1 ho with rfl | ho
    · rw [if_neg (by omega), if_pos hp.symm, if_pos rfl, same l hr.head]
    · have := hr.head o ho
      rw [if_pos (by omega), if_neg (by omega), insR_map hr.tail ho hp]
end Go.Proofs.YteibeoipnjhicaaGreat
