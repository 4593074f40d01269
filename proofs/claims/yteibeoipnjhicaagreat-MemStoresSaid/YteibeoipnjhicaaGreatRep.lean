import Derived.Test.YteibeoipnjhicaaGreatTre
namespace Go.Proofs.YteibeoipnjhicaaGreat
open Go Go.RowKit
set_option linter.unusedVariables false
set_option linter.unusedSimpArgs false
structure Rep (w x : Wd) (ρ : Ob → Ob) : Prop where
  objs : x.objects = w.objects.map ρ
  hd : ∀ y, hd (ρ y) = hd y
  z : ρ Ob.zero = Ob.zero
  root : x.root = w.root
  key : x.key = w.key
section
variable {w x : Wd} {ρ : Ob → Ob}
theorem hd_id {a b : Ob} (h : hd a = hd b) : a.id = b.id := (congrArg Ob.id h : (Go.Proofs.YteibeoipnjhicaaGreat.hd a).id = (Go.Proofs.YteibeoipnjhicaaGreat.hd b).id)
theorem hd_kind {a b : Ob} (h : hd a = hd b) : a.kind = b.kind := (congrArg Ob.kind h : (Go.Proofs.YteibeoipnjhicaaGreat.hd a).kind = (Go.Proofs.YteibeoipnjhicaaGreat.hd b).kind)
theorem hd_label {a b : Ob} (h : hd a = hd b) : a.label = b.label := (congrArg Ob.label h : (Go.Proofs.YteibeoipnjhicaaGreat.hd a).label = (Go.Proofs.YteibeoipnjhicaaGreat.hd b).label)
theorem hd_linksO {a b : Ob} (h : hd a = hd b) : a.links = b.links := (congrArg Ob.links h : (Go.Proofs.YteibeoipnjhicaaGreat.hd a).links = (Go.Proofs.YteibeoipnjhicaaGreat.hd b).links)
theorem hd_len {a b : Ob} (h : hd a = hd b) : a.data.length = b.data.length := by
  have := congrArg (fun o : Ob => o.data.length) h
  simpa [Go.Proofs.YteibeoipnjhicaaGreat.hd] using this
theorem rep_find (h : Rep w x ρ) (id : Int) : q4b x id = (ρ (q4b w id).1, (q4b w id).2) := by
  have e : x.objects.find? (fun y => y.id == id) = (w.objects.find? (fun y => y.id == id)).map ρ := by
    rw [h.objs, List.find?_map]
    congr 1
    congr 1
    funext y
    simp only [Function.comp, hd_id (h.hd y)]
  unfold q4b
  rw [e]
  cases w.objects.find? (fun y => y.id == id) with
  | none => simp only [Option.map_none, h.z]
  | some y => rfl
theorem rep_shown {a b : Ob} (h : hd a = hd b) : q5g a = q5g b := by
  unfold q5g
  rw [hd_kind h, hd_label h]
theorem rep_sees {t a b : Ob} (h : hd a = hd b) : seesR t a = seesR t b := by unfold seesR; rw [rep_shown h]
theorem rep_chg {t a b : Ob} (h : hd a = hd b) : chgR t a = chgR t b := by unfold chgR; rw [rep_sees h, hd_label h]
theorem rep_dir (h : Rep w x ρ) (t : Ob) (id : Int) (b : Bool) : dirR x t id b = (ρ (dirR w t id b).1, (dirR w t id b).2) := by
  unfold dirR
  rw [rep_find h]
  simp only [hd_kind (h.hd _), rep_sees (h.hd _), rep_chg (h.hd _)]
  split
  · split
    · rfl
    · simp only [h.z]
  · simp only [h.z]
theorem rep_look (h : Rep w x ρ) (t : Ob) (r : Rf) : q5v x t r = (ρ (q5v w t r).1, (q5v w t r).2) := by
  unfold q5v
  rw [rep_dir h, rep_find h]
  simp only [hd_linksO (h.hd _)]
  split
  · split
    · rfl
    · simp only [h.z]
  · simp only [h.z]
theorem rep_see (h : Rep w x ρ) (t : Ob) (r : Rf) (k : Int) : seeR x t r k = (ρ (seeR w t r k).1, (seeR w t r k).2) := by
  unfold seeR
  rw [rep_look h]
  simp only [hd_kind (h.hd _), rep_sees (h.hd _)]
  split
  · split
    · split
      · rfl
      · simp only [h.z]
    · simp only [h.z]
  · simp only [h.z]
theorem rep_hdW (h : Rep w x ρ) : hdW x = hdW w := by
  unfold hdW
  rw [h.objs, h.root, h.key, List.map_map]
  congr 1
  exact List.map_congr_left fun y _ => h.hd y
theorem rep_ris (h : Rep w x ρ) (hr : RisO w.objects) : RisO x.objects := fun i j a b ha hb hij => by
  rw [h.objs, List.getElem?_map] at ha hb
  cases ha' : w.objects[i]? with
  | none => rw [ha'] at ha; cases ha
  | some a' =>
    cases hb' : w.objects[j]? with
    | none => rw [hb'] at hb; cases hb
    | some b' =>
      rw [ha'] at ha; rw [hb'] at hb
      cases ha; cases hb
      rw [hd_id (h.hd a'), hd_id (h.hd b')]
      exact hr i j a' b' ha' hb' hij
theorem rep_fit (h : Rep w x ρ) (hs : ∀ y ∈ w.objects, sound y = true → sound (ρ y) = true) (ht : x.time = w.time) (hw : fitW w = true) : fitW x = true := by
  refine fit_heads (rep_hdW h) ?_ hw
  obtain ⟨h1, h2, h3, h4, h5⟩ := q5s (q5m hw)
  refine ris_fit (rep_ris h h1) (fun y hy => ?_) (by rw [h.objs, List.length_map]; exact h3) (by rw [ht]; exact h4) (by rw [ht]; exact h5)
  rw [h.objs] at hy
  obtain ⟨z, hz, rfl⟩ := List.mem_map.1 hy
  exact hs z hz (h2 z hz)
end
open Classical in
noncomputable def one (o p : Ob) (y : Ob) : Ob := if y = o then p else y
theorem q5t (o p : Ob) : one o p o = p := by unfold one; rw [if_pos rfl]
theorem one_ne {o p y : Ob} (h : y ≠ o) : one o p y = y := by unfold one; rw [if_neg h]
theorem id_eq {w : Wd} (hr : RisO w.objects) {a b : Ob} (ha : a ∈ w.objects) (hb : b ∈ w.objects) (h : a.id = b.id) : a = b := by
  have h1 := fnd_mem hr ha
  have h2 := fnd_mem hr hb
  rw [h, h2] at h1
  cases h1; rfl
theorem sound_pos {o : Ob} (h : sound o = true) : 1 ≤ o.id := by
  unfold sound soundHead at h
  simp only [Bool.and_eq_true] at h
  have := h.1.1
  unfold idOk at this
  simp only [Bool.and_eq_true, decide_eq_true_eq] at this
  omega
theorem one_rep {w : Wd} {o p : Ob} (hw : q5c w = true) (ho : o ∈ w.objects) (h : hd p = hd o) : Rep w (w.ins p) (one o p) := by
  obtain ⟨hr, hs, _⟩ := q5s hw
  refine ⟨?_, fun y => ?_, ?_, rfl, rfl⟩
  · show insR p w.objects = _
    rw [insR_map hr ho (hd_id h)]
    refine List.map_congr_left fun y hy => ?_
    by_cases e : y.id = o.id
    · rw [if_pos e, id_eq hr hy ho e, q5t]
    · rw [if_neg e, one_ne (fun h => e (by rw [h]))]
  · by_cases e : y = o
    · rw [e, q5t, h]
    · rw [one_ne e]
  · refine one_ne fun e => ?_
    have := sound_pos (hs o ho)
    rw [← e] at this
    exact absurd this (by decide)
theorem one_fit {w : Wd} {o p : Ob} (hw : fitW w = true) (ho : o ∈ w.objects) (h : hd p = hd o) (hp : sound p = true) : fitW (w.ins p) = true := by
  refine rep_fit (one_rep (q5m hw) ho h) (fun y hy hs => ?_) rfl hw
  by_cases e : y = o
  · rw [e, q5t]; exact hp
  · rw [one_ne e]; exact hs
theorem one_few {w : Wd} {o p : Ob} (hf : FewW w) (hw : q5c w = true) (ho : o ∈ w.objects) (h : hd p = hd o) (hm : p.maps.length ≤ 20) : FewW (w.ins p) := by
  have hr := one_rep hw ho h
  refine ⟨by rw [hr.objs, List.length_map]; exact hf.n, fun y hy => ?_⟩
  rcases insR_mem hy with rfl | hy
  · have := hf.ob o ho
    rw [hd_label h, hd_linksO h, hd_len h]
    exact ⟨this.1, this.2.1, this.2.2.1, hm⟩
  · exact hf.ob y hy
end Go.Proofs.YteibeoipnjhicaaGreat
