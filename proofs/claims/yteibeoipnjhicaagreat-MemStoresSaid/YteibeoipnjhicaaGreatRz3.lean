import Derived.Test.YteibeoipnjhicaaGreatSrw
import Derived.Test.YteibeoipnjhicaaGreatProg
import Derived.Lib.Hide
import Derived.Test.YteibeoipnjhicaaGreatTp
import Derived.Test.YteibeoipnjhicaaGreatCsl
import Derived.Test.YteibeoipnjhicaaGreatEb8
section
namespace Go.Proofs.YteibeoipnjhicaaGreat
open Go Go.RowKit Go.Shelf
set_option linter.unusedVariables false
set_option linter.unusedSimpArgs false
def szU : Nat := 1
theorem infoSlU : (Tryz.prog.info? 22).map (fun i => (i.zero, i.size, i.bytes)) = some (some (.int .u64 0), 1, 8) := by kernel_rfl
set_option maxRecDepth 100000 in
theorem cloneU_calls (l : List (Cl szU)) (A : Option Addr) (c : Nat) (w : World) (hC : RdC w A l) (hc : l.length ≤ c) (hlen : l.length ≤ 1000000) :
    Calls Tryz.prog 139 #[.slice A l.length c] w fun e w' => ∃ v, e = .returned v ∧ RowC 22 w' w.heap.size v l ∧ Below w.heap.size w w' := by
  have HC := Lib.hid hC
  obtain ⟨n, hn⟩ : ∃ n, n = l.length := ⟨_, rfl⟩
  have HN := Lib.hid hn
  rw [← hn] at hc hlen ⊢
  clear hC hn
  have q22 : ∀ (W : World) (a : Option Addr) (n c : Nat), (binOp .eql 41 (.slice a n c) (.slice none 0 0)).run Tryz.prog W = .ok (.bool a.isNone) W := fun W a n c => Lib.run_eql_slice_nil W _ _ a n c 0 0 Tryz.underlying41
  cases A with
  | none =>
    have h0 : n = 0 := by
      have := HC.out
      by_cases h : 0 < l.length
      · obtain ⟨ad, e, _⟩ := this h
        cases e
      · have := HN.out; omega
    have hl : l = [] := List.eq_nil_of_length_eq_zero (by have := HN.out; omega)
    subst hl
    have H0 := Lib.hid h0
    clear h0
    go_enter Tryz.func139, Tryz.ntmps139
    go_wp2
    go_ret
    exact ⟨_, rfl, ⟨rfl, .inl ⟨rfl, rfl⟩⟩, Below.refl _ _⟩
  | some ad =>
    obtain ⟨w0, hw0⟩ : ∃ w0, w0 = w.alloc (.cells #[] 22) := ⟨_, rfl⟩
    have B0 : Below w.heap.size w w0 := by rw [hw0]; exact below_new w _
    obtain ⟨i, hi, hzz⟩ := Option.map_eq_some_iff.1 infoSlU
    simp only [Prod.mk.injEq] at hzz
    have hC0 := RdC.below HC.out B0
    have hsrc := C_flat hC0 ad rfl
    have hfl := q5e l
    have hone := flat_one l
    obtain ⟨v1, w1, hrun, hown, hg, _, _⟩ := Go.run_append_own_at (P := Tryz.prog) w0 w.heap.size 41 41 22 i (.int .u64 0) 1 8 Tryz.underlying41 hi hzz.1 hzz.2.1 hzz.2.2 rfl (by decide)
      (.slice (some ⟨w.heap.size, 0, none⟩) 0 0) 0 [] (by rw [hw0]; exact World.ownsRow_made w #[] 0 (Nat.le_refl _) (Nat.zero_le _) rfl)
      ad n c (flat l) (by rw [hfl, HN.out]; rfl) hsrc hone (by simp only [maxLen]; omega) (by omega) (by rw [hw0]; simp)
    have B1 : Below w.heap.size w w1 := B0.grown hg (by rw [hw0]; simp) (fun k hk => by simp [Value.ownBlock] at hk; omega)
    have HR : Hid (RowC 22 w1 w.heap.size v1 l) := Lib.hid (by have := hown; rw [Nat.zero_add, HN.out, List.nil_append] at this; exact this)
    have HB := Lib.hid B1
    rw [hw0] at hrun
    clear hown hg B1 hsrc hfl hone hC0 B0 hw0 hzz
    go_enter Tryz.func139, Tryz.ntmps139
    go_wp2_with (at_builtin; refine Lib.wpList_append_run _ rfl _ _ _ _ rfl _ _ rfl rfl _ _ hrun ?_)
    go_ret
    exact ⟨_, rfl, HR.out, HB.out⟩
end Go.Proofs.YteibeoipnjhicaaGreat
end

section
namespace Go.Proofs.YteibeoipnjhicaaGreat
open Go Go.RowKit
set_option linter.unusedVariables false
set_option linter.unusedSimpArgs false
set_option maxHeartbeats 16000000
set_option maxRecDepth 100000
@[go_sem] theorem spl6_cells (o : Ob) (x : PV) : PV.cells? (.agg (splice (Ob.enc o) 6 [x])) = some (splice (Ob.enc o) 6 [x]) := rfl
@[go_sem] theorem spl6_len (o : Ob) (x : PV) : (splice (Ob.enc o) 6 [x]).length = 51 := by kernel_rfl
@[go_sem] theorem cut6_data (o : Ob) (x : PV) : cut Tryz.prog 41 (splice (Ob.enc o) 6 [x]) 6 = some x := by kernel_rfl
@[go_sem] theorem cut6_all (o : Ob) (x : PV) : cut Tryz.prog 58 (splice (Ob.enc o) 6 [x]) 0 = some (.agg (splice (Ob.enc o) 6 [x])) := by kernel_rfl
@[go_sem] theorem spl6_in (a o : Ob) (x : PV) : splice (Ob.enc a) 0 (splice (Ob.enc o) 6 [x]) = splice (Ob.enc o) 6 [x] := by kernel_rfl
theorem u_rows (l : List Int) : ∀ e ∈ l.map u64, e.length = szU := fun e he => by obtain ⟨y, _, rfl⟩ := List.mem_map.1 he; rfl
theorem u_flat (l : List Int) : (l.map u64).flatten = l.map (fun x => .int .u64 x) := by
  induction l with
  | nil => rfl
  | cons a l ih => simp [u64, ih]
theorem u_flen (l : List Int) : (l.map u64).flatten.length = l.length := by rw [u_flat, List.length_map]
theorem u_set (l : List Int) (k : Nat) (x : Int) (hk : k < l.length) : ((l.set k x).map u64).flatten = splice (l.map u64).flatten k [.int .u64 x] := by
  rw [u_flat, u_flat]
  unfold splice
  rw [List.map_set, List.set_eq_take_append_cons_drop, if_pos (by simpa using hk)]
  simp
theorem fz_data {H : Heap} {id n e0 z0 : Nat} {o : Ob} {v : List Int} (h : Fz H (.bs id n e0 z0) (.sl (v.map u64))) : Fz H (.agg (splice (Ob.enc o) 6 [.bs id n e0 z0])) (.agg (Ob.enc { o with data := v })) := by
  have := fz_splice (off := 6) (Ob.bdl _ o) h
  rw [spl_Ob_data] at this
  exact this
@[go_sem] theorem u_all (l : List Int) : (List.map u64 l).all (fun r => r.length == 1) = true := by simp [u64]
attribute [local irreducible] q0x dr q0g Ex.then Ex.inBlock retQ q1x q3g q3e Pure CSat evOp q2o rdOf upd hset strip sp0 cut envL q2u q4j Keep BdL evBs q3m q4g
def hasE (o : Ob) (at_ : Int) : Int := if (o.kind == 1) = true then (if decide (at_ ≥ (o.data.length : Int)) = true then 13 else 0) else 3
theorem seg_has (o : Ob) (at_ : Int) (hl : o.data.length ≤ 1000000) : Pure Tryz.prog 138 [.agg (Ob.enc o), .int .u64 at_] (.int .i64 (hasE o at_)) := by
  refine q2i (by kernel_rfl) (by simp only [go_sem, *]) (by simp only [go_sem, *]) Tryz.func138 Tryz.results138 rfl (by simp [Tryz.ntmps138]) (by kernel_rfl) ?_
  have h1 : IntKind.u64.wrap (o.data.length : Int) = (o.data.length : Int) := by rw [IntKind.wrap_u64]; omega
  repeat' (first | (show q0x ..; first | refine q0d ?_ | refine q0p rfl ?_) | (show q1d ..; refine q0n rfl rfl ?_) | (show goOn ..; first | refine q0s ?_ | refine q0v ?_) | (show q0g ..; first | refine q0q ?_ | refine q0c ?_ | refine q0r ?_ | refine q0f ?_ | refine q0t ?_ | refine q1b ?_ | refine q0k ?_) | (show q0y ..; first | refine cd_t ?_ | refine cd_f ?_ | refine cd_n (fun _ => ?_) (fun _ => ?_) | refine cd_b (fun _ => ?_) (fun _ => ?_)) | refine q0a ?_ | refine q0m ?_ | refine q0l ?_ | refine q1a ?_ | refine q0j ?_ | refine q1c ?_ | refine bl_pass rfl ?_ | refine q1f ?_ | refine bl_pan ?_ | (show retQ ..; first | refine q0o ?_ | refine q0b ?_) | refine q0e ?_)
  all_goals (unfold hasE; simp only [*, if_true, if_false, Bool.false_eq_true]; try rfl)
def getE (o : Ob) (at_ : Int) : Int × Int := if (hasE o at_ == 0) = true then ((o.data[at_.toNat]?).getD 0, 0) else (0, hasE o at_)
theorem has_ok {o : Ob} {at_ : Int} (h : (hasE o at_ == 0) = true) (h0 : 0 ≤ at_) : (o.kind == 1) = true ∧ ∃ k : Nat, at_ = (k : Int) ∧ k < o.data.length := by
  unfold hasE at h
  split at h
  · rename_i hk
    refine ⟨hk, at_.toNat, by omega, ?_⟩
    split at h
    · cases h
    · rename_i hlt; have : ¬ at_ ≥ (o.data.length : Int) := fun q => hlt (decide_eq_true q); omega
  · cases h
def putE (o : Ob) (at_ v : Int) : Ob × Int := if (hasE o at_ == 0) = true then ({ o with data := o.data.set at_.toNat v }, 0) else (o, hasE o at_)
theorem seg_put (o : Ob) (at_ v : Int) (h0 : 0 ≤ at_) (hl : o.data.length ≤ 1000000) : Pure Tryz.prog 85 [.agg (Ob.enc o), .int .u64 at_, .int .u64 v] (.tup [.agg (Ob.enc (putE o at_ v).1), .int .i64 (putE o at_ v).2]) := by
  have hh := seg_has o at_ hl
  have hcl : CloneC Tryz.prog 139 22 szU := cloneU_calls
  cases hc : (hasE o at_ == 0) with
  | true =>
    obtain ⟨_, k, rfl, hk⟩ := has_ok hc h0
    have hg : putE o (k : Int) v = ({ o with data := o.data.set k v }, 0) := by unfold putE; rw [if_pos hc, Int.toNat_natCast]
    rw [hg]
    have hz : hasE o (k : Int) = 0 := by simpa using hc
    rw [hz] at hh
    clear hg hc
    refine pureF (by kernel_rfl) (by simp only [go_sem, *]) Tryz.func85 Tryz.results85 rfl (by simp [Tryz.ntmps85]) (by kernel_rfl) ?_
    repeat' (first | (show q0x ..; first | refine q0d ?_ | refine q0p rfl ?_) | (show q1d ..; first | (refine run_bs rfl rfl ?_; first | refine q0v ?_ | (refine q0w ?_; refine q0i ?_)) | refine q0n rfl rfl ?_ | refine q0h rfl ?_) | (show goOn ..; first | refine q0s ?_ | refine q0v ?_ | refine q0w ?_) | (show q1g ..; refine q0i ?_) | (show q1j ..; (refine q0u (r := ?_) ?_ ?_; rotate_left 1; (focus exact hh))) | (show q0g ..; first | refine q0q ?_ | refine q0c ?_ | refine q0r ?_ | refine q0f ?_ | refine q0k ?_) | (show q0y ..; first | refine cd_t ?_ | refine cd_f ?_ | refine cd_n (fun _ => ?_) (fun _ => ?_) | refine cd_b (fun _ => ?_) (fun _ => ?_)) | refine q0a ?_ | refine q0m ?_ | refine q0l ?_ | (show retQ ..; first | refine q0o ?_ | refine q0b ?_) | refine q0e ?_)
    (refine q2m (by kernel_rfl) (clone_csat hcl (els := o.data.map u64) (u_rows _) (by simpa using hl) _ _) ?_ ?_)
    case refine_2 => rintro p H' m' (⟨_, h, _⟩ | ⟨h, _⟩) <;> cases h
    rintro r H' m' (⟨hnil, _⟩ | ⟨h, rfl, rfl⟩)
    · have : o.data = [] := by simpa using hnil
      rw [this] at hk; simp at hk
    · cases h
      have h1 : ((k : Int) < (o.data.length : Int)) = True := eq_true (by omega)
      have h2 : (k * 1 + 1 ≤ ((o.data.map u64).flatten).length) = True := eq_true (by rw [u_flen]; omega)
      have h3 : (k + 1 ≤ ((o.data.map u64).flatten).length) = True := eq_true (by rw [u_flen]; omega)
      repeat' (first | (show q0x ..; first | refine q0d ?_ | refine q0p rfl ?_) | (show q1d ..; first | (refine run_bs rfl rfl ?_; first | refine q0v ?_ | (refine q0w ?_; refine q0i ?_)) | refine q0n rfl rfl ?_ | refine q0h rfl ?_) | (show goOn ..; first | refine q0s ?_ | refine q0v ?_ | refine q0w ?_) | (show q1g ..; refine q0i ?_) | (show q0g ..; first | refine q0q ?_ | refine q0c ?_ | refine q0r ?_ | refine q0f ?_ | refine q0k ?_) | (show q0y ..; first | refine cd_t ?_ | refine cd_f ?_ | refine cd_n (fun _ => ?_) (fun _ => ?_) | refine cd_b (fun _ => ?_) (fun _ => ?_)) | refine q0a ?_ | refine q0m ?_ | refine q0l ?_ | (show retQ ..; first | refine q0o ?_ | refine q0b ?_) | refine q0e ?_)
      refine ⟨_, rfl, fz_tup2 (fz_data (fz_bs szU (by (try simp only [go_sem]); try rfl) (by rw [List.length_map, List.length_set]) (u_rows _) (by rw [Nat.mul_one]; exact u_set _ _ _ hk) (by simp only [go_sem]))) (.same _ (by simp only [go_sem]))⟩
  | false =>
    have hg : putE o at_ v = (o, hasE o at_) := by unfold putE; rw [if_neg (by rw [hc]; simp)]
    rw [hg]
    clear hg
    refine pureF (by kernel_rfl) (by simp only [go_sem, *]) Tryz.func85 Tryz.results85 rfl (by simp [Tryz.ntmps85]) (by kernel_rfl) ?_
    repeat' (first | (show q0x ..; first | refine q0d ?_ | refine q0p rfl ?_) | (show q1d ..; first | (refine run_bs rfl rfl ?_; first | refine q0v ?_ | (refine q0w ?_; refine q0i ?_)) | refine q0n rfl rfl ?_ | refine q0h rfl ?_) | (show goOn ..; first | refine q0s ?_ | refine q0v ?_ | refine q0w ?_) | (show q1g ..; refine q0i ?_) | (show q1j ..; (refine q0u (r := ?_) ?_ ?_; rotate_left 1; (focus exact hh))) | (show q0g ..; first | refine q0q ?_ | refine q0c ?_ | refine q0r ?_ | refine q0f ?_ | refine q0k ?_) | (show q0y ..; first | refine cd_t ?_ | refine cd_f ?_ | refine cd_n (fun _ => ?_) (fun _ => ?_) | refine cd_b (fun _ => ?_) (fun _ => ?_)) | refine q0a ?_ | refine q0m ?_ | refine q0l ?_ | (show retQ ..; first | refine q0o ?_ | refine q0b ?_) | refine q0e ?_)
    all_goals exact fz_same (by simp only [go_sem])
end Go.Proofs.YteibeoipnjhicaaGreat
end

section
namespace Go.Proofs.YteibeoipnjhicaaGreat
open Go Go.RowKit Go.Shelf
set_option linter.unusedVariables false
set_option linter.unusedSimpArgs false
end Go.Proofs.YteibeoipnjhicaaGreat
end

section
namespace Go.Proofs.YteibeoipnjhicaaGreat
open Go Go.RowKit
set_option linter.unusedVariables false
set_option linter.unusedSimpArgs false
set_option maxHeartbeats 16000000
set_option maxRecDepth 100000
attribute [local irreducible] q0x dr q0g Ex.then Ex.inBlock retQ q1x q3g q3e Pure CSat evOp q2o rdOf upd hset strip sp0 cut envL q2u q4j Keep BdL evBs q3m q4g
end Go.Proofs.YteibeoipnjhicaaGreat
end

section
namespace Go.Proofs.YteibeoipnjhicaaGreat
open Go Go.RowKit
set_option linter.unusedVariables false
set_option linter.unusedSimpArgs false
set_option maxHeartbeats 16000000
set_option maxRecDepth 100000
@[go_sem] theorem match_ne (l : List (List PV)) (x y : Option (PV × Eff)) : (0 < l.length) = True → evAppend.match_1 (motive := fun _ => Option (PV × Eff)) l (fun _ => x) (fun _ _ => y) = y := by
  cases l with
  | nil => intro h; simp at h
  | cons a k => intro _; rfl
attribute [local irreducible] q0x dr q0g Ex.then Ex.inBlock retQ q1x q3g q3e Pure CSat evOp q2o rdOf upd hset strip sp0 cut envL q2u q4j Keep BdL evBs q3m q4g
theorem r16_get (o : Ob) (at_ : Int) (h0 : 0 ≤ at_) (hl : o.data.length ≤ 1000000) : Pure Tryz.prog 140 [.agg (Ob.enc o), .int .u64 at_] (.tup [.int .u64 (getE o at_).1, .int .i64 (getE o at_).2]) := by
  have h1 : IntKind.u64.wrap (o.data.length : Int) = (o.data.length : Int) := by rw [IntKind.wrap_u64]; omega
  cases hc : (hasE o at_ == 0) with
  | true =>
    obtain ⟨hk1, k, rfl, hk⟩ := has_ok hc h0
    obtain ⟨x, hx⟩ := q3d hk
    have hg : getE o (k : Int) = (x, 0) := by unfold getE; rw [if_pos hc, Int.toNat_natCast, hx]; rfl
    rw [hg]
    have e1 : decide ((k : Int) ≥ (o.data.length : Int)) = false := decide_eq_false (by omega)
    clear hg hc
    refine q2i (by kernel_rfl) (by simp only [go_sem, *]) (by simp only [go_sem, *]) Tryz.func140 Tryz.results140 rfl (by simp [Tryz.ntmps140]) (by kernel_rfl) ?_
    repeat' (first | (show q0x ..; first | refine q0d ?_ | refine q0p rfl ?_) | (show q1d ..; refine q0n rfl rfl ?_) | (show goOn ..; first | refine q0s ?_ | refine q0v ?_) | (show q0g ..; first | refine q0q ?_ | refine q0c ?_ | refine q0r ?_ | refine q0f ?_ | refine q0k ?_) | (show q0y ..; first | refine cd_t ?_ | refine cd_f ?_ | refine cd_n (fun _ => ?_) (fun _ => ?_) | refine cd_b (fun _ => ?_) (fun _ => ?_)) | refine q0a ?_ | refine q0m ?_ | refine q0l ?_ | (show retQ ..; first | refine q0o ?_ | refine q0b ?_) | refine q0e ?_)
    all_goals rfl
  | false =>
    have hg : getE o at_ = (0, hasE o at_) := by unfold getE; rw [if_neg (by rw [hc]; simp)]
    rw [hg]
    clear hg
    unfold hasE at hc ⊢
    cases hk : (o.kind == 1) with
    | false =>
      simp only [Bool.false_eq_true, if_false]
      refine q2i (by kernel_rfl) (by simp only [go_sem, *]) (by simp only [go_sem, *]) Tryz.func140 Tryz.results140 rfl (by simp [Tryz.ntmps140]) (by kernel_rfl) ?_
      repeat' (first | (show q0x ..; first | refine q0d ?_ | refine q0p rfl ?_) | (show q1d ..; refine q0n rfl rfl ?_) | (show goOn ..; first | refine q0s ?_ | refine q0v ?_) | (show q0g ..; first | refine q0q ?_ | refine q0c ?_ | refine q0r ?_ | refine q0f ?_ | refine q0k ?_) | (show q0y ..; first | refine cd_t ?_ | refine cd_f ?_ | refine cd_n (fun _ => ?_) (fun _ => ?_) | refine cd_b (fun _ => ?_) (fun _ => ?_)) | refine q0a ?_ | refine q0m ?_ | refine q0l ?_ | (show retQ ..; first | refine q0o ?_ | refine q0b ?_) | refine q0e ?_)
      all_goals rfl
    | true =>
      cases hd : decide (at_ ≥ (o.data.length : Int)) with
      | false => rw [hk, hd] at hc; simp at hc
      | true =>
        simp only [if_true]
        refine q2i (by kernel_rfl) (by simp only [go_sem, *]) (by simp only [go_sem, *]) Tryz.func140 Tryz.results140 rfl (by simp [Tryz.ntmps140]) (by kernel_rfl) ?_
        repeat' (first | (show q0x ..; first | refine q0d ?_ | refine q0p rfl ?_) | (show q1d ..; refine q0n rfl rfl ?_) | (show goOn ..; first | refine q0s ?_ | refine q0v ?_) | (show q0g ..; first | refine q0q ?_ | refine q0c ?_ | refine q0r ?_ | refine q0f ?_ | refine q0k ?_) | (show q0y ..; first | refine cd_t ?_ | refine cd_f ?_ | refine cd_n (fun _ => ?_) (fun _ => ?_) | refine cd_b (fun _ => ?_) (fun _ => ?_)) | refine q0a ?_ | refine q0m ?_ | refine q0l ?_ | (show retQ ..; first | refine q0o ?_ | refine q0b ?_) | refine q0e ?_)
        all_goals rfl
theorem r16_put (o : Ob) (at_ v : Int) (h0 : 0 ≤ at_) (hl : o.data.length ≤ 1000000) : Pure Tryz.prog 86 [.agg (Ob.enc o), .int .u64 at_, .int .u64 v] (.tup [.agg (Ob.enc (putE o at_ v).1), .int .i64 (putE o at_ v).2]) := by
  have hh := r16_get o at_ h0 hl
  cases hc : (hasE o at_ == 0) with
  | true =>
    obtain ⟨_, k, rfl, hk⟩ := has_ok hc h0
    have hg : putE o (k : Int) v = ({ o with data := o.data.set k v }, 0) := by unfold putE; rw [if_pos hc, Int.toNat_natCast]
    rw [hg]
    obtain ⟨x, hx⟩ := q3d hk
    have hz : getE o (k : Int) = (x, 0) := by unfold getE; rw [if_pos hc, Int.toNat_natCast, hx]; rfl
    rw [hz] at hh
    clear hg hc hx
    have h1 : ((k : Int) < (o.data.length : Int)) = True := eq_true (by omega)
    have h2 : (k * 1 + 1 ≤ ((o.data.map u64).flatten).length) = True := eq_true (by rw [u_flen]; omega)
    have h3 : (k + 1 ≤ ((o.data.map u64).flatten).length) = True := eq_true (by rw [u_flen]; omega)
    have h5 : (0 < o.data.length) = True := eq_true (by omega)
    have h6 : (o.data.length * 8 ≤ 140737488355328) = True := eq_true (by omega)
    have h7 : (o.data.length ≤ maxLen) = True := eq_true (by unfold maxLen; omega)
    refine pureF (by kernel_rfl) (by simp only [go_sem, *]) Tryz.func86 Tryz.results86 rfl (by simp [Tryz.ntmps86]) (by kernel_rfl) ?_
    repeat' (first | (show q0x ..; first | refine q0d ?_ | refine q0p rfl ?_) | (show q1d ..; first | (refine run_bs rfl rfl ?_; first | refine q0v ?_ | (refine q0w ?_; refine q0i ?_)) | refine q0n rfl rfl ?_ | refine q0h rfl ?_) | (show goOn ..; first | refine q0s ?_ | refine q0v ?_ | refine q0w ?_ | refine q2k ?_ | refine q2j ?_) | (show q1g ..; refine q0i ?_) | (show q1j ..; (refine q0u (r := ?_) ?_ ?_; rotate_left 1; (focus exact hh))) | (show q0g ..; first | refine q0q ?_ | refine q0c ?_ | refine q0r ?_ | refine q0f ?_ | refine q0k ?_) | (show q0y ..; first | refine cd_t ?_ | refine cd_f ?_ | refine cd_n (fun _ => ?_) (fun _ => ?_) | refine cd_b (fun _ => ?_) (fun _ => ?_)) | refine q0a ?_ | refine q0m ?_ | refine q0l ?_ | (show retQ ..; first | refine q0o ?_ | refine q0b ?_) | refine q0e ?_)
    refine ⟨_, rfl, fz_tup2 (fz_data (fz_bs szU (by (try simp only [go_sem]); try rfl) (by rw [List.length_map, List.length_set]) (u_rows _) (by rw [Nat.mul_one]; exact u_set _ _ _ hk) (by simp only [go_sem]))) (.same _ (by simp only [go_sem]))⟩
  | false =>
    have hg : putE o at_ v = (o, hasE o at_) := by unfold putE; rw [if_neg (by rw [hc]; simp)]
    have hz : getE o at_ = (0, hasE o at_) := by unfold getE; rw [if_neg (by rw [hc]; simp)]
    rw [hg]
    rw [hz] at hh
    clear hg hz
    refine pureF (by kernel_rfl) (by simp only [go_sem, *]) Tryz.func86 Tryz.results86 rfl (by simp [Tryz.ntmps86]) (by kernel_rfl) ?_
    repeat' (first | (show q0x ..; first | refine q0d ?_ | refine q0p rfl ?_) | (show q1d ..; first | (refine run_bs rfl rfl ?_; first | refine q0v ?_ | (refine q0w ?_; refine q0i ?_)) | refine q0n rfl rfl ?_ | refine q0h rfl ?_) | (show goOn ..; first | refine q0s ?_ | refine q0v ?_ | refine q0w ?_ | refine q2k ?_ | refine q2j ?_) | (show q1g ..; refine q0i ?_) | (show q1j ..; (refine q0u (r := ?_) ?_ ?_; rotate_left 1; (focus exact hh))) | (show q0g ..; first | refine q0q ?_ | refine q0c ?_ | refine q0r ?_ | refine q0f ?_ | refine q0k ?_) | (show q0y ..; first | refine cd_t ?_ | refine cd_f ?_ | refine cd_n (fun _ => ?_) (fun _ => ?_) | refine cd_b (fun _ => ?_) (fun _ => ?_)) | refine q0a ?_ | refine q0m ?_ | refine q0l ?_ | (show retQ ..; first | refine q0o ?_ | refine q0b ?_) | refine q0e ?_)
    all_goals exact fz_same (by simp only [go_sem])
end Go.Proofs.YteibeoipnjhicaaGreat
end
