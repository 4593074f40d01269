import Derived.Test.YtkajfadhlgmcjaaSlPair
import Derived.Test.YtkajfadhlgmcjaaChkAll
namespace Go.Proofs.Ytkajfadhlgmcjaa
open Go Go.RowKit Go.Shelf Go.Proofs.YtkajfadhlgmcjaaW.PrintWords Go.Proofs.YtkajfadhlgmcjaaW.PrintLast Go.Proofs.YtkajfadhlgmcjaaW.PrintMore
set_option linter.unusedVariables false
set_option linter.unusedSimpArgs false
theorem V_of_C {α : Type} {d : Kd α} {enc : α → List Value} (F : Flat d enc) {w : World} {A : Option Addr} {xs : List α} {c e base : Nat} (h : d.C w A xs.length xs) (hc : xs.length ≤ c) : Kd.V d e w base (fun _ => True) (.slice A xs.length c) xs :=
  Kd.V_mk hc (fun W' hW => ⟨h.1, h.2.1, fun hn => by
    obtain ⟨ad, e, hcs⟩ := h.2.2 hn
    refine ⟨ad, e, fun j p hp => ?_⟩
    obtain ⟨cs, h1, h2, h3⟩ := hcs j p hp
    obtain rfl := F.opens h2
    refine ⟨_, h1, d.K_of_M (F.made W' 0 (fun _ => True) p), fun i u hu => ?_⟩
    have := h3 i u hu
    rw [World.cell?_of_block (hW _ trivial (block_lt_of_cell this))]
    exact this⟩)
theorem V_of_R {α : Type} {d : Kd α} {enc : α → List Value} (F : Flat d enc) {w : World} {v : Value} {xs : List α} {e base base' : Nat} {ok : Nat → Prop} (h : d.R e w base ok v xs) : Kd.V d e w base' (fun _ => True) v xs := by
  obtain ⟨A, c, rfl, hc, hC⟩ := Kd.R_reads h
  exact V_of_C F hC hc
theorem add_block (a : Addr) (n : Nat) : (a.add n).block = a.block := by unfold Addr.add; split <;> rfl
theorem V_of_R2 {α : Type} {d : Kd α} {enc : α → List Value} (F : Flat d enc) {w : World} {v : Value} {xs : List α} {e base base' : Nat} {ok ok' : Nat → Prop} (h : d.R e w base ok v xs) (hP : ∀ k, base ≤ k → ok' k) : Kd.V d e w base' ok' v xs := by
  have ho := R_flat F h
  obtain ⟨A, c, rfl, hc, hC⟩ := Kd.R_reads h
  refine Kd.V_mk hc (fun W' hW => ⟨hC.1, hC.2.1, fun hn => ?_⟩)
  obtain ⟨ad, e1, hcs⟩ := hC.2.2 hn
  subst e1
  have hb := ho.lt ad.block rfl
  refine ⟨ad, rfl, fun j p hp => ?_⟩
  obtain ⟨cs, h1, h2, h3⟩ := hcs j p hp
  obtain rfl := F.opens h2
  refine ⟨_, h1, d.K_of_M (F.made W' 0 (fun _ => True) p), fun i u hu => ?_⟩
  rw [World.cell?_of_block (hW _ (hP _ (by rw [add_block]; exact hb.1)) (by rw [add_block]; exact hb.2))]
  exact h3 i u hu
theorem levfit_calls (a : Int) (w : World) : Calls Try.prog 81 #[.int .i64 a] w fun e w' => e = .returned (.bool (levB a)) ∧ w' = w := by
  by_cases h : 0 ≤ a
  · have d1 : decide (0 ≤ a) = true := decide_eq_true h
    have HV : Hid (levB a = decide (a ≤ 5)) := Lib.hid (by unfold levB; rw [d1]; rfl)
    go_enter Try.func81, Try.ntmps81
    go_wp2
    go_ret
    exact ⟨by rw [HV.out]; rfl, rfl⟩
  · have d1 : decide (0 ≤ a) = false := decide_eq_false h
    have HV : Hid (levB a = false) := Lib.hid (by unfold levB; rw [d1]; rfl)
    go_enter Try.func81, Try.ntmps81
    go_wp2
    go_ret
    exact ⟨by rw [HV.out]; rfl, rfl⟩
/-- A category's place, and a label with a category's level. -/
def posB (l : Lab) (c : Int) : Nat := (l.takeWhile (fun p => decide (p.1 < c))).length
theorem posB_le (l : Lab) (c : Int) : posB l c ≤ l.length := by unfold posB; exact (List.takeWhile_prefix _).length_le
theorem spot_pos {l : Lab} {c : Int} {k : Nat} (h : Spot l c k) : k = posB l c := by
  induction l generalizing k with
  | nil => have := h.le; simp at this; subst this; rfl
  | cons p t ih =>
    cases k with
    | zero =>
      have := h.hi 0 (by simp) (by omega)
      simp at this
      unfold posB
      rw [List.takeWhile_cons, if_neg (by simpa using this)]; rfl
    | succ k =>
      have h0 := h.lo 0 (by simp) (by omega)
      simp at h0
      have := ih (k := k) ⟨by have := h.le; simp at this; omega, fun i hi hik => by have := h.lo (i + 1) (by simpa using hi) (by omega); simpa using this, fun i hi hik => by have := h.hi (i + 1) (by simpa using hi) (by omega); simpa using this⟩
      rw [this]
      unfold posB
      rw [List.takeWhile_cons, if_pos (by simpa using h0)]
      rfl
def setB (l : Lab) (c v : Int) : Lab :=
  if v = 2 then (if hitB l c (posB l c) then l.eraseIdx (posB l c) else l)
  else if hitB l c (posB l c) then l.set (posB l c) (c, v) else l.take (posB l c) ++ (c, v) :: l.drop (posB l c)
def setR (l : Lab) (c v : Int) : Lab × Int := if levB v then (if (setB l c v).length > 16 then (l, 6) else (setB l c v, 0)) else (l, 4)
theorem set_cells {α : Type} {d : Kd α} {enc : α → List Value} (F : Flat d enc) {cur : List Value} {l : List α} {x : α} {k : Nat} (ht : cur.take (l.length * d.sz) = flat enc l) (hk : k < l.length) (hc : l.length * d.sz ≤ cur.length) {cur' : List Value} (h1 : cur' = cur.take (k * d.sz) ++ enc x ++ cur.drop (k * d.sz + (enc x).length)) :
    cur'.length = cur.length ∧ cur'.take (l.length * d.sz) = flat enc (l.set k x) := by
  have hx := F.len x
  have e0 : (k + 1) * d.sz = k * d.sz + d.sz := Nat.succ_mul _ _
  have e4 : (k + 1) * d.sz ≤ l.length * d.sz := Nat.mul_le_mul_right _ (by omega)
  have hb : k * d.sz + (enc x).length ≤ cur.length := by rw [hx]; omega
  refine ⟨by rw [h1, seg_len _ _ _ hb], ?_⟩
  rw [h1, seg_take _ _ _ hb _ (by rw [hx]; omega), ht, hx, ← e0, flat_drop F l (k + 1) (by omega)]
  have e6 : cur.take (k * d.sz) = flat enc (l.take k) := by
    rw [← flat_take F l k (by omega), ← ht, List.take_take]; congr 1; omega
  rw [e6, List.set_eq_take_append_cons_drop, if_pos hk, flat_append, flat_cons, List.append_assoc]
theorem Kd.R_lt2 {α : Type} {d : Kd α} {e : Nat} {w : World} {base : Nat} {ok : Nat → Prop} {v : Value} {xs : List α} (h : d.R e w base ok v xs) : ∀ k, v.ownBlock = some k → k < w.heap.size := by
  obtain ⟨_, inner, ho, _⟩ := h
  exact fun k hk => (ho.lt k hk).2
end Go.Proofs.Ytkajfadhlgmcjaa
