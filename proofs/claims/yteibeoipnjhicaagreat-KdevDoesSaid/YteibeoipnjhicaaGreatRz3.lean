import Derived.Test.YteibeoipnjhicaaGreatRzA
import Derived.Test.YteibeoipnjhicaaGreatProg
import Derived.Lib.Hide
import Derived.Test.YteibeoipnjhicaaGreatRzB
import Derived.Test.YteibeoipnjhicaaGreatEb8
section
namespace Go.Proofs.YteibeoipnjhicaaGreat
open Go Go.RowKit Go.Shelf
set_option linter.unusedVariables false
set_option linter.unusedSimpArgs false
def szU : Nat := 1
theorem infoSlU : (Tryz.prog.info? 22).map (fun i => (i.zero, i.size, i.bytes)) = some (some (.int .u64 0), 1, 8) := by kernel_rfl
set_option maxRecDepth 100000 in
theorem cloneU_calls (l : List (Cl szU)) (A : Option Addr) (c : Nat) (w : World) (hC : RdC w A l) (hc : l.length ≤ c) (hlen : l.length ≤ 1000000) :
    Calls Tryz.prog 139 #[.slice A l.length c] w fun e w' => ∃ v, e = .returned v ∧ RowC 22 w' w.heap.size v l ∧ Below w.heap.size w w' := by
  have HC := Lib.hid hC
  obtain ⟨n, hn⟩ : ∃ n, n = l.length := ⟨_, rfl⟩
  have HN := Lib.hid hn
  rw [← hn] at hc hlen ⊢
  clear hC hn
  have q22 : ∀ (W : World) (a : Option Addr) (n c : Nat), (binOp .eql 41 (.slice a n c) (.slice none 0 0)).run Tryz.prog W = .ok (.bool a.isNone) W := fun W a n c => Lib.run_eql_slice_nil W _ _ a n c 0 0 Tryz.underlying41
  cases A with
  | none =>
    have h0 : n = 0 := by
      have := HC.out
      by_cases h : 0 < l.length
      · obtain ⟨ad, e, _⟩ := this h
        cases e
      · have := HN.out; omega
    have hl : l = [] := List.eq_nil_of_length_eq_zero (by have := HN.out; omega)
    subst hl
    have H0 := Lib.hid h0
    clear h0
    go_enter Tryz.func139, Tryz.ntmps139
    go_wp2
    go_ret
    exact ⟨_, rfl, ⟨rfl, .inl ⟨rfl, rfl⟩⟩, Below.refl _ _⟩
  | some ad =>
    obtain ⟨w0, hw0⟩ : ∃ w0, w0 = w.alloc (.cells #[] 22) := ⟨_, rfl⟩
    have B0 : Below w.heap.size w w0 := by rw [hw0]; exact q7h w _
    obtain ⟨i, hi, hzz⟩ := Option.map_eq_some_iff.1 infoSlU
    simp only [Prod.mk.injEq] at hzz
    have hC0 := RdC.below HC.out B0
    have hsrc := C_flat hC0 ad rfl
    have hfl := q4q l
    have hone := q9x l
    obtain ⟨v1, w1, hrun, hown, hg, _, _⟩ := Go.run_append_own_at (P := Tryz.prog) w0 w.heap.size 41 41 22 i (.int .u64 0) 1 8 Tryz.underlying41 hi hzz.1 hzz.2.1 hzz.2.2 rfl (by decide)
      (.slice (some ⟨w.heap.size, 0, none⟩) 0 0) 0 [] (by rw [hw0]; exact World.ownsRow_made w #[] 0 (Nat.le_refl _) (Nat.zero_le _) rfl)
      ad n c (flat l) (by rw [hfl, HN.out]; rfl) hsrc hone (by simp only [maxLen]; omega) (by omega) (by rw [hw0]; simp)
    have B1 : Below w.heap.size w w1 := B0.grown hg (by rw [hw0]; simp) (fun k hk => by simp [Value.ownBlock] at hk; omega)
    have HR : Hid (RowC 22 w1 w.heap.size v1 l) := Lib.hid (by have := hown; rw [Nat.zero_add, HN.out, List.nil_append] at this; exact this)
    have HB := Lib.hid B1
    rw [hw0] at hrun
    clear hown hg B1 hsrc hfl hone hC0 B0 hw0 hzz
    go_enter Tryz.func139, Tryz.ntmps139
    go_wp2_with (at_builtin; refine Lib.wpList_append_run _ rfl _ _ _ _ rfl _ _ rfl rfl _ _ hrun ?_)
    go_ret
    exact ⟨_, rfl, HR.out, HB.out⟩
end Go.Proofs.YteibeoipnjhicaaGreat
end

section
namespace Go.Proofs.YteibeoipnjhicaaGreat
open Go Go.RowKit
set_option linter.unusedVariables false
set_option linter.unusedSimpArgs false
set_option maxHeartbeats 16000000
set_option maxRecDepth 100000
@[go_sem] theorem spl6_cells (o : Ob) (x : PV) : PV.cells? (.agg (splice (Ob.enc o) 6 [x])) = some (splice (Ob.enc o) 6 [x]) := rfl
@[go_sem] theorem u_all (l : List Int) : (List.map u64 l).all (fun r => r.length == 1) = true := by simp [u64]
attribute [local irreducible] q1a dr q0i Ex.then Ex.inBlock retQ q1r q3f q3e Pure CSat evOp q2r rdOf upd hset strip sp0 cut envL q3h q4c Keep BdL evBs q3n q3z
end Go.Proofs.YteibeoipnjhicaaGreat
end

section
namespace Go.Proofs.YteibeoipnjhicaaGreat
open Go Go.RowKit Go.Shelf
set_option linter.unusedVariables false
set_option linter.unusedSimpArgs false
end Go.Proofs.YteibeoipnjhicaaGreat
end

section
namespace Go.Proofs.YteibeoipnjhicaaGreat
open Go Go.RowKit
set_option linter.unusedVariables false
set_option linter.unusedSimpArgs false
set_option maxHeartbeats 16000000
set_option maxRecDepth 100000
attribute [local irreducible] q1a dr q0i Ex.then Ex.inBlock retQ q1r q3f q3e Pure CSat evOp q2r rdOf upd hset strip sp0 cut envL q3h q4c Keep BdL evBs q3n q3z
end Go.Proofs.YteibeoipnjhicaaGreat
end

section
namespace Go.Proofs.YteibeoipnjhicaaGreat
open Go Go.RowKit
set_option linter.unusedVariables false
set_option linter.unusedSimpArgs false
set_option maxHeartbeats 16000000
set_option maxRecDepth 100000
@[go_sem] theorem match_ne (l : List (List PV)) (x y : Option (PV × Eff)) : (0 < l.length) = True → evAppend.match_1 (motive := fun _ => Option (PV × Eff)) l (fun _ => x) (fun _ _ => y) = y := by
  cases l with
  | nil => intro h; simp at h
  | cons a k => intro _; rfl
attribute [local irreducible] q1a dr q0i Ex.then Ex.inBlock retQ q1r q3f q3e Pure CSat evOp q2r rdOf upd hset strip sp0 cut envL q3h q4c Keep BdL evBs q3n q3z
end Go.Proofs.YteibeoipnjhicaaGreat
end
