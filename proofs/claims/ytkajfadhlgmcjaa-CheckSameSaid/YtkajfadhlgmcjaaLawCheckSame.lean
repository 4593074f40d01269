/- Who owns nothing may change just what has its own label, and sees all that has a label at most its own: for any labels; no condition. -/
import Derived.Test.YtkajfadhlgmcjaaRows
import Derived.Test.YtkajfadhlgmcjaaPCx9
import Derived.Test.YtkajfadhlgmcjaaPCSame
import Derived.Test.YtkajfadhlgmcjaaOpens
import Derived.WalkKit
import Derived.ProofKit
import Derived.OpenShut
import Derived.ShutString
import Derived.ChangeOld
import Derived.Below
import Derived.SizedLaws
import Derived.Lib.SmallJoins
namespace Go.Proofs.Ytkajfadhlgmcjaa.checkSame
open Go Go.ChangeShapes Go.WideShapes Go.ChangeAt Go.RowKit Go.Joins Go.Proofs.Ytkajfadhlgmcjaa Go.Proofs.Ytkajfadhlgmcjaa.PC Go.Proofs.YtkajfadhlgmcjaaW.PrintWords Go.Proofs.YtkajfadhlgmcjaaW.PrintLast Go.Proofs.YtkajfadhlgmcjaaW.PrintMore
open Go.ChangeMaps (open_string shut_string)
set_option linter.unusedVariables false
set_option linter.unusedSimpArgs false
theorem own : ownKnob Try.prog.godebug = none := by kernel_rfl
theorem laidOut : laidOutB Try.prog = true := by kernel_rfl
instance : Inhabited S46 := ⟨z46⟩
set_option maxRecDepth 100000 in
theorem lifted (os : Os) (started : os.Started) (H : Type) (enc : TypeId × Value → H) :
    ReturnsInHanded {} Try.checked os 8 .any (Rows.checkSameSpec.pre6 enc Try.prog Try.f8 Rows.checkSameRow.domain false) (Rows.checkSameSpec.post enc Try.prog Try.f8 false true false false) := by
  refine returnsInHanded_of_change_sized (C := Try.checked) own started (by kernel_rfl) Try.func8
    (ChangeSpec.witness6 (enc := enc) (C := Try.checked) false ⟨#[], #[.slice none 0 0, .slice none 0 0], []⟩ 8 (by kernel_rfl) (by kernel_rfl) (by kernel_rfl) (by kernel_rfl)) ?_
  intro W base args ds gs before hval0 hW hcnd hsz0 _
  have hval : ∀ (j : Nat) t v, Try.f8.params[j]? = some t → args[j]? = some v → Value.okWide Try.prog W .any base t v := hval0
  have hW' := hW
  obtain ⟨p, q, hA0, hV, rfl, hfz, hnd⟩ := hW
  have hA : DataW.TrodAll enc Try.prog W 0 (fun _ => true) true Try.f8.params.toList args.toList ds p := hA0
  rw [Try.params8] at hA hval
  obtain ⟨v0, vs0, d0, ds0, p0, q0, hargs, rfl, rfl, h0, r0⟩ := trodAll_cons hA
  obtain ⟨v1, vs1, d1, ds1, p1, q1, rfl, rfl, rfl, h1, r1⟩ := trodAll_cons r0
  obtain ⟨rfl, rfl, rfl⟩ := trodAll_nil r1
  obtain rfl : args = #[v0, v1] := by cases args; simp_all
  obtain ⟨rfl, rfl⟩ := trodVars_none hV
  have k0 := h0
  have lt0 : ∀ x ∈ p0, x.block < W.heap.size := by obtain ⟨m, hm⟩ := k0; exact DataW.trod_lt m _ _ _ hm
  have opens0 := (opens_slice Try.underlying23 (by kernel_rfl) (opens_iso (d := _) (f := fun x : S46 => (x.f0, x.f1)) (fun x => ⟨x.1, x.2⟩) (fun _ => rfl) (opens_struct Try.underlying46 (by kernel_rfl) (opens_cons rfl (by kernel_rfl) (opens_int (k := .u64) Try.underlying30) (opens_one rfl (by kernel_rfl) (opens_int (k := .i64) Try.underlying3))))))
  obtain ⟨A0, c0, l0, rfl, wf0, hl0, hC0⟩ := opened_slice Try.underlying23 opens0 (hval 0 23 v0 rfl rfl) h0
  have k1 := h1
  have lt1 : ∀ x ∈ p1, x.block < W.heap.size := by obtain ⟨m, hm⟩ := k1; exact DataW.trod_lt m _ _ _ hm
  have opens1 := (opens_slice Try.underlying23 (by kernel_rfl) (opens_iso (d := _) (f := fun x : S46 => (x.f0, x.f1)) (fun x => ⟨x.1, x.2⟩) (fun _ => rfl) (opens_struct Try.underlying46 (by kernel_rfl) (opens_cons rfl (by kernel_rfl) (opens_int (k := .u64) Try.underlying30) (opens_one rfl (by kernel_rfl) (opens_int (k := .i64) Try.underlying3))))))
  obtain ⟨A1, c1, l1, rfl, wf1, hl1, hC1⟩ := opened_slice Try.underlying23 opens1 (hval 1 23 v1 rfl rfl) h1
  obtain ⟨K, hk⟩ := checkSame_pure l0 l1
  refine (curtilagelaw03_CheckSame.calls K (fun _ => True) A0 c0 l0 (fun _ => True) A1 c1 l1 true W (opened_V hl0 hC0) (opened_V hl1 hC1) hk).mono fun e W' ⟨he, bel0⟩ => ?_
  have bel : Below W.heap.size W W' := by first | exact bel0 | exact bel0.below
  subst he
  exact ⟨_, rfl, _, _, _, [], _, [], hW', trodAll_mk1 (shut_bool Try.underlying4 _), (trodAll_cons_mk (Below.trod laidOut (by kernel_rfl) (of_decide_eq_true (by kernel_rfl)) k0 bel lt0) (trodAll_cons_mk (Below.trod laidOut (by kernel_rfl) (of_decide_eq_true (by kernel_rfl)) k1 bel lt1) trodAll_mk0)), rfl, bel.frame _, fun h => by cases h⟩
theorem over : Rows.checkSameRow.holds Try.pinned (OpenSpec.ofChange Rows.checkSameSpec) :=
  OpenClaim.holds_of_wide 8 Try.f8 rfl rfl rfl rfl rfl rfl rfl ⟨rfl, rfl, rfl, rfl, rfl⟩ rfl rfl rfl rfl rfl (by kernel_rfl) Try.func8 (by kernel_rfl)
    (of_decide_eq_true (by kernel_rfl)) (by unfold Func.isWrapper; first | (rw [if_pos (by decide +kernel)]; kernel_rfl) | (rw [if_neg (by decide +kernel)]; exact ⟨rfl, rfl⟩))
    (fun os started H enc _ => lifted os started H enc)
theorem proved : Rows.CheckSameSaid := over
#print axioms proved
end Go.Proofs.Ytkajfadhlgmcjaa.checkSame
namespace Go.Proofs.Ytkajfadhlgmcjaa
/-- The row, under a short name, for the claim. -/
theorem checkSame_holds : Rows.CheckSameSaid := checkSame.proved
end Go.Proofs.Ytkajfadhlgmcjaa
