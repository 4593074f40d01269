/- Whether a thread may see, change, make, become, clear, and go through a gate, what may lie where, and what hides it, are the document's: for any labels; no condition. -/
import Derived.Test.YtkajfadhlgmcjaaRows
import Derived.Test.YtkajfadhlgmcjaaPCx22
import Derived.Test.YtkajfadhlgmcjaaPCTells
import Derived.Test.YtkajfadhlgmcjaaOpens
import Derived.WalkKit
import Derived.ProofKit
import Derived.OpenShut
import Derived.ShutString
import Derived.ChangeOld
import Derived.Below
import Derived.SizedLaws
import Derived.Lib.SmallJoins
namespace Go.Proofs.Ytkajfadhlgmcjaa.checkTells
open Go Go.ChangeShapes Go.WideShapes Go.ChangeAt Go.RowKit Go.Joins Go.Proofs.Ytkajfadhlgmcjaa Go.Proofs.Ytkajfadhlgmcjaa.PC Go.Proofs.YtkajfadhlgmcjaaW.PrintWords Go.Proofs.YtkajfadhlgmcjaaW.PrintLast Go.Proofs.YtkajfadhlgmcjaaW.PrintMore
open Go.ChangeMaps (open_string shut_string)
set_option linter.unusedVariables false
set_option linter.unusedSimpArgs false
theorem own : ownKnob Try.prog.godebug = none := by kernel_rfl
theorem laidOut : laidOutB Try.prog = true := by kernel_rfl
instance : Inhabited S46 := ⟨z46⟩
set_option maxRecDepth 100000 in
theorem lifted (os : Os) (started : os.Started) (H : Type) (enc : TypeId × Value → H) :
    ReturnsInHanded {} Try.checked os 13 .any (Rows.checkTellsSpec.pre6 enc Try.prog Try.f13 Rows.checkTellsRow.domain false) (Rows.checkTellsSpec.post enc Try.prog Try.f13 false true false false) := by
  refine returnsInHanded_of_change_sized (C := Try.checked) own started (by kernel_rfl) Try.func13
    (ChangeSpec.witness6 (enc := enc) (C := Try.checked) false ⟨#[], #[.slice none 0 0, .slice none 0 0, .slice none 0 0, .slice none 0 0, .slice none 0 0, .slice none 0 0], []⟩ 8 (by kernel_rfl) (by kernel_rfl) (by kernel_rfl) (by kernel_rfl)) ?_
  intro W base args ds gs before hval0 hW hcnd hsz0 _
  have hval : ∀ (j : Nat) t v, Try.f13.params[j]? = some t → args[j]? = some v → Value.okWide Try.prog W .any base t v := hval0
  have hW' := hW
  obtain ⟨p, q, hA0, hV, rfl, hfz, hnd⟩ := hW
  have hA : DataW.TrodAll enc Try.prog W 0 (fun _ => true) true Try.f13.params.toList args.toList ds p := hA0
  rw [Try.params13] at hA hval
  obtain ⟨v0, vs0, d0, ds0, p0, q0, hargs, rfl, rfl, h0, r0⟩ := trodAll_cons hA
  obtain ⟨v1, vs1, d1, ds1, p1, q1, rfl, rfl, rfl, h1, r1⟩ := trodAll_cons r0
  obtain ⟨v2, vs2, d2, ds2, p2, q2, rfl, rfl, rfl, h2, r2⟩ := trodAll_cons r1
  obtain ⟨v3, vs3, d3, ds3, p3, q3, rfl, rfl, rfl, h3, r3⟩ := trodAll_cons r2
  obtain ⟨v4, vs4, d4, ds4, p4, q4, rfl, rfl, rfl, h4, r4⟩ := trodAll_cons r3
  obtain ⟨v5, vs5, d5, ds5, p5, q5, rfl, rfl, rfl, h5, r5⟩ := trodAll_cons r4
  obtain ⟨rfl, rfl, rfl⟩ := trodAll_nil r5
  obtain rfl : args = #[v0, v1, v2, v3, v4, v5] := by cases args; simp_all
  obtain ⟨rfl, rfl⟩ := trodVars_none hV
  have k0 := h0
  have lt0 : ∀ x ∈ p0, x.block < W.heap.size := by obtain ⟨m, hm⟩ := k0; exact DataW.trod_lt m _ _ _ hm
  have opens0 := (opens_slice Try.underlying23 (by kernel_rfl) (opens_iso (d := _) (f := fun x : S46 => (x.f0, x.f1)) (fun x => ⟨x.1, x.2⟩) (fun _ => rfl) (opens_struct Try.underlying46 (by kernel_rfl) (opens_cons rfl (by kernel_rfl) (opens_int (k := .u64) Try.underlying30) (opens_one rfl (by kernel_rfl) (opens_int (k := .i64) Try.underlying3))))))
  obtain ⟨A0, c0, l0, rfl, wf0, hl0, hC0⟩ := opened_slice Try.underlying23 opens0 (hval 0 23 v0 rfl rfl) h0
  have k1 := h1
  have lt1 : ∀ x ∈ p1, x.block < W.heap.size := by obtain ⟨m, hm⟩ := k1; exact DataW.trod_lt m _ _ _ hm
  have opens1 := (opens_slice Try.underlying23 (by kernel_rfl) (opens_iso (d := _) (f := fun x : S46 => (x.f0, x.f1)) (fun x => ⟨x.1, x.2⟩) (fun _ => rfl) (opens_struct Try.underlying46 (by kernel_rfl) (opens_cons rfl (by kernel_rfl) (opens_int (k := .u64) Try.underlying30) (opens_one rfl (by kernel_rfl) (opens_int (k := .i64) Try.underlying3))))))
  obtain ⟨A1, c1, l1, rfl, wf1, hl1, hC1⟩ := opened_slice Try.underlying23 opens1 (hval 1 23 v1 rfl rfl) h1
  have k2 := h2
  have lt2 : ∀ x ∈ p2, x.block < W.heap.size := by obtain ⟨m, hm⟩ := k2; exact DataW.trod_lt m _ _ _ hm
  have opens2 := (opens_slice Try.underlying23 (by kernel_rfl) (opens_iso (d := _) (f := fun x : S46 => (x.f0, x.f1)) (fun x => ⟨x.1, x.2⟩) (fun _ => rfl) (opens_struct Try.underlying46 (by kernel_rfl) (opens_cons rfl (by kernel_rfl) (opens_int (k := .u64) Try.underlying30) (opens_one rfl (by kernel_rfl) (opens_int (k := .i64) Try.underlying3))))))
  obtain ⟨A2, c2, l2, rfl, wf2, hl2, hC2⟩ := opened_slice Try.underlying23 opens2 (hval 2 23 v2 rfl rfl) h2
  have k3 := h3
  have lt3 : ∀ x ∈ p3, x.block < W.heap.size := by obtain ⟨m, hm⟩ := k3; exact DataW.trod_lt m _ _ _ hm
  have opens3 := (opens_slice Try.underlying23 (by kernel_rfl) (opens_iso (d := _) (f := fun x : S46 => (x.f0, x.f1)) (fun x => ⟨x.1, x.2⟩) (fun _ => rfl) (opens_struct Try.underlying46 (by kernel_rfl) (opens_cons rfl (by kernel_rfl) (opens_int (k := .u64) Try.underlying30) (opens_one rfl (by kernel_rfl) (opens_int (k := .i64) Try.underlying3))))))
  obtain ⟨A3, c3, l3, rfl, wf3, hl3, hC3⟩ := opened_slice Try.underlying23 opens3 (hval 3 23 v3 rfl rfl) h3
  have k4 := h4
  have lt4 : ∀ x ∈ p4, x.block < W.heap.size := by obtain ⟨m, hm⟩ := k4; exact DataW.trod_lt m _ _ _ hm
  have opens4 := (opens_slice Try.underlying23 (by kernel_rfl) (opens_iso (d := _) (f := fun x : S46 => (x.f0, x.f1)) (fun x => ⟨x.1, x.2⟩) (fun _ => rfl) (opens_struct Try.underlying46 (by kernel_rfl) (opens_cons rfl (by kernel_rfl) (opens_int (k := .u64) Try.underlying30) (opens_one rfl (by kernel_rfl) (opens_int (k := .i64) Try.underlying3))))))
  obtain ⟨A4, c4, l4, rfl, wf4, hl4, hC4⟩ := opened_slice Try.underlying23 opens4 (hval 4 23 v4 rfl rfl) h4
  have k5 := h5
  have lt5 : ∀ x ∈ p5, x.block < W.heap.size := by obtain ⟨m, hm⟩ := k5; exact DataW.trod_lt m _ _ _ hm
  have opens5 := (opens_slice Try.underlying23 (by kernel_rfl) (opens_iso (d := _) (f := fun x : S46 => (x.f0, x.f1)) (fun x => ⟨x.1, x.2⟩) (fun _ => rfl) (opens_struct Try.underlying46 (by kernel_rfl) (opens_cons rfl (by kernel_rfl) (opens_int (k := .u64) Try.underlying30) (opens_one rfl (by kernel_rfl) (opens_int (k := .i64) Try.underlying3))))))
  obtain ⟨A5, c5, l5, rfl, wf5, hl5, hC5⟩ := opened_slice Try.underlying23 opens5 (hval 5 23 v5 rfl rfl) h5
  obtain ⟨K, hk⟩ := checkTells_pure l0 l1 l2 l3 l4 l5
  refine (curtilagelaw03_CheckTells.calls K (fun _ => True) A0 c0 l0 (fun _ => True) A1 c1 l1 (fun _ => True) A2 c2 l2 (fun _ => True) A3 c3 l3 (fun _ => True) A4 c4 l4 (fun _ => True) A5 c5 l5 true W (opened_V hl0 hC0) (opened_V hl1 hC1) (opened_V hl2 hC2) (opened_V hl3 hC3) (opened_V hl4 hC4) (opened_V hl5 hC5) hk).mono fun e W' ⟨he, bel0⟩ => ?_
  have bel : Below W.heap.size W W' := by first | exact bel0 | exact bel0.below
  subst he
  exact ⟨_, rfl, _, _, _, [], _, [], hW', trodAll_mk1 (shut_bool Try.underlying4 _), (trodAll_cons_mk (Below.trod laidOut (by kernel_rfl) (of_decide_eq_true (by kernel_rfl)) k0 bel lt0) (trodAll_cons_mk (Below.trod laidOut (by kernel_rfl) (of_decide_eq_true (by kernel_rfl)) k1 bel lt1) (trodAll_cons_mk (Below.trod laidOut (by kernel_rfl) (of_decide_eq_true (by kernel_rfl)) k2 bel lt2) (trodAll_cons_mk (Below.trod laidOut (by kernel_rfl) (of_decide_eq_true (by kernel_rfl)) k3 bel lt3) (trodAll_cons_mk (Below.trod laidOut (by kernel_rfl) (of_decide_eq_true (by kernel_rfl)) k4 bel lt4) (trodAll_cons_mk (Below.trod laidOut (by kernel_rfl) (of_decide_eq_true (by kernel_rfl)) k5 bel lt5) trodAll_mk0)))))), rfl, bel.frame _, fun h => by cases h⟩
theorem over : Rows.checkTellsRow.holds Try.pinned (OpenSpec.ofChange Rows.checkTellsSpec) :=
  OpenClaim.holds_of_wide 13 Try.f13 rfl rfl rfl rfl rfl rfl rfl ⟨rfl, rfl, rfl, rfl, rfl⟩ rfl rfl rfl rfl rfl (by kernel_rfl) Try.func13 (by kernel_rfl)
    (of_decide_eq_true (by kernel_rfl)) (by unfold Func.isWrapper; first | (rw [if_pos (by decide +kernel)]; kernel_rfl) | (rw [if_neg (by decide +kernel)]; exact ⟨rfl, rfl⟩))
    (fun os started H enc _ => lifted os started H enc)
theorem proved : Rows.CheckTellsSaid := over
#print axioms proved
end Go.Proofs.Ytkajfadhlgmcjaa.checkTells
namespace Go.Proofs.Ytkajfadhlgmcjaa
/-- The row, under a short name, for the claim. -/
theorem checkTells_holds : Rows.CheckTellsSaid := checkTells.proved
end Go.Proofs.Ytkajfadhlgmcjaa
