import Derived.Test.YteibeoipnjhicaaGreatEr3
namespace Go.Proofs.YteibeoipnjhicaaGreat
open Go Go.RowKit
set_option linter.unusedVariables false
set_option linter.unusedSimpArgs false
set_option maxHeartbeats 16000000
set_option maxRecDepth 100000
attribute [go_sem] q2s
@[go_sem] theorem ifc_any : ifcT Tryz.prog 20 = some true := by kernel_rfl
@[go_sem] theorem ifc_thr : ifcT Tryz.prog 242 = some false := by kernel_rfl
@[go_sem] theorem thr_zeros : zeros Tryz.prog 242 = some [.int .i64 0] := by kernel_rfl
@[go_sem] theorem err_zeros : zeros Tryz.prog 33 = some [.int .i64 0] := by kernel_rfl
@[go_sem] theorem thr_f0 : q2v Tryz.prog 242 0 = some (33, 0) := by kernel_rfl
@[go_sem] theorem spl_one (a b : PV) : splice [a] 0 [b] = [b] := rfl
@[go_sem] theorem thr_cells (e : Int) : PV.cells? (.agg [.int .i64 e]) = some [.int .i64 e] := rfl
attribute [local irreducible] q1a dr q0i Ex.then Ex.inBlock retQ q1r q3f q3e Pure CSat evOp q2r rdOf upd hset strip sp0 cut envL q3h q4c Keep BdL evBs q3n q3z
theorem rec_nil {a b : Nat} (H : Heap) (m : Nat) : DSat Tryz.prog 222 [.ptr a 0, .ptr b 0] H m none (fun H' m' => H' = H ∧ m' = m) := by
  refine dsat_nil (by kernel_rfl) Tryz.func222 Tryz.results222 rfl ⟨rfl, rfl, rfl⟩ ⟨rfl, rfl, rfl⟩ ⟨rfl, rfl, rfl⟩ ⟨⟨_, rfl⟩, rfl, rfl⟩ ifc_any (by simp [Tryz.ntmps222]) (by simp [Tryz.ntmps222]) (by simp [Tryz.ntmps222]) (by simp [Tryz.ntmps222]) (by simp [Tryz.ntmps222]) (by kernel_rfl) ?_
  intro env
  repeat' (first | (show q1a ..; first | refine q0d ?_ | refine q0p rfl ?_ | refine q1c rfl rfl ?_) | (show q1f ..; first | refine q0n rfl rfl ?_ | refine q0h rfl ?_) | (show goOn ..; first | refine q0s ?_ | refine q0u ?_ | refine q0y ?_ | refine q1t ?_ | refine q1s ?_) | (show q1k ..; refine q0j ?_) | (show wGo ..; first | refine q1v ?_ | refine q2b ?_ | refine q1x ?_ | refine q1z ?_ | refine gw_u ?_ | refine q1w (fun _ => ?_) (fun _ => ?_) | refine q2a (fun _ => ?_) (fun _ => ?_) | refine q1y (fun _ => ?_) (fun _ => ?_) | refine q2c (fun _ => ?_) (fun _ => ?_)) | (show dr ..; first | refine q1l ?_ | refine dr_n rfl ?_ | refine q2t rfl rfl ?_) | (show drGo ..; first | refine q2i rfl ?_ | refine q1j rfl ?_) | (show drOn ..; first | refine q1m ?_ | refine q1q ?_ | refine q1p ?_ | refine q2n ?_ | refine q2m ?_) | (show q1o ..; refine q1b ?_) | (refine And.intro (by kernel_rfl : q1r _ = true) ?_) | (show q0i ..; first | refine q0q ?_ | refine q0c ?_ | refine q1h (by kernel_rfl) ?_ | refine q0r ?_ | refine q0f ?_ | refine q0k ?_ | refine q0w ?_ | refine q0t ?_) | (show q1d ..; first | refine cd_t ?_ | refine cd_f ?_ | refine cd_n (fun _ => ?_) (fun _ => ?_) | refine cd_b (fun _ => ?_) (fun _ => ?_)) | refine q0a ?_ | refine q0m ?_ | refine q0l ?_ | refine q0v ?_ | refine q0g ?_ | refine q0x ?_ | refine bl_pass rfl ?_ | refine q1g ?_ | refine q1e ?_ | (show retQ ..; first | refine q0o ?_ | refine q0b ?_) | refine q0e ?_)
  exact ⟨.inl rfl, rfl, rfl⟩
theorem rec_some {a b : Nat} {H : Heap} {m : Nat} (e : Int) (x : Int) (o : Ob) (ha : H a = some (.box (Ob.enc o))) (hb : H b = some (.box [.int .i64 x])) (hab : a ≠ b) (ham : a < m) (hbm : b < m) : DSat Tryz.prog 222 [.ptr a 0, .ptr b 0] H m (some (thr e)) (fun H' m' => H' a = some (.box (Ob.enc Ob.zero)) ∧ H' b = some (.box [.int .i64 e]) ∧ m ≤ m' ∧ ∀ j, j < m → j ≠ a → j ≠ b → H' j = H j) := by
  have n0 : (a = m) = False := eq_false (by omega)
  have n1 : (b = m) = False := eq_false (by omega)
  have n2 : (a = b) = False := eq_false hab
  have n3 : (b = a) = False := eq_false (fun h => hab h.symm)
  refine dsat_recover (by kernel_rfl) Tryz.func222 Tryz.results222 rfl ⟨rfl, rfl, rfl⟩ ⟨rfl, rfl, rfl⟩ (by simp [Tryz.ntmps222]) (by simp [Tryz.ntmps222]) (by simp [Tryz.ntmps222]) (by kernel_rfl) ?_
  unfold thr
  simp only [Option.getD_some]
  have m0 : (m == a) = false := by simp; omega
  have m1 : (m == b) = false := by simp; omega
  have m2 : (a == m) = false := by simp; omega
  have m3 : (b == m) = false := by simp; omega
  have m4 : (a == b) = false := by simpa using hab
  have m5 : (b == a) = false := by simpa using fun h : b = a => hab h.symm
  repeat' (first | (show q1a ..; first | refine q0d ?_ | refine q0p rfl ?_ | refine q1c rfl rfl ?_) | (show q1f ..; first | refine q0n rfl rfl ?_ | refine q0h rfl ?_) | (show goOn ..; first | refine q0s ?_ | refine q0u ?_ | refine q0y ?_ | refine q1t ?_ | refine q1s ?_) | (show q1k ..; refine q0j ?_) | (show wGo ..; first | refine q1v ?_ | refine q2b ?_ | refine q1x ?_ | refine q1z ?_ | refine gw_u ?_ | refine q1w (fun _ => ?_) (fun _ => ?_) | refine q2a (fun _ => ?_) (fun _ => ?_) | refine q1y (fun _ => ?_) (fun _ => ?_) | refine q2c (fun _ => ?_) (fun _ => ?_)) | (show dr ..; first | refine q1l ?_ | refine dr_n rfl ?_ | refine q2t rfl rfl ?_) | (show drGo ..; first | refine q2i rfl ?_ | refine q1j rfl ?_) | (show drOn ..; first | refine q1m ?_ | refine q1q ?_ | refine q1p ?_ | refine q2n ?_ | refine q2m ?_) | (show q1o ..; refine q1b ?_) | (show q0i ..; first | refine q0q ?_ | refine q0c ?_ | refine q1h (by kernel_rfl) ?_ | refine q0r ?_ | refine q0f ?_ | refine q0k ?_ | refine q0w ?_ | refine q0t ?_) | (show q1d ..; first | refine cd_t ?_ | refine cd_f ?_ | refine cd_n (fun _ => ?_) (fun _ => ?_) | refine cd_b (fun _ => ?_) (fun _ => ?_)) | refine q0a ?_ | refine q0m ?_ | refine q0l ?_ | refine q0v ?_ | refine q0g ?_ | refine q0x ?_ | refine bl_pass rfl ?_ | refine q1g ?_ | refine q1e ?_ | (show retQ ..; first | refine q0o ?_ | refine q0b ?_) | refine q0e ?_)
  refine And.intro (by simp [q1r, okPair, q6n, Eff.wr, Rg.meets, rdOf, go_sem, m0, m1, m2, m3, m4, m5]) ⟨.inl rfl, ?_, ?_, by omega, fun j hj h1 h2 => ?_⟩
  · rw [q2l _ _ hab, q2s]
  · rw [q2s]
  · rw [q2l _ _ h2, q2l _ _ h1, q2l _ _ (by omega), q2l _ _ (by omega)]
theorem DSat.mono {P : Program} {g : FuncId} {args : List PV} {H : Heap} {m : Nat} {p : Option PV} {Q Q' : Heap → Nat → Prop} (h : DSat P g args H m p Q) (hq : ∀ H' m', Q H' m' → Q' H' m') : DSat P g args H m p Q' := fun w M0 σ vs pv hr hf hv hp =>
  (h w M0 σ vs pv hr hf hv hp).mono fun e u' w' ⟨h1, h2, H', m', σ', h3, h4⟩ => ⟨h1, h2, H', m', σ', hq _ _ h3, h4⟩
theorem found_csat {H : Heap} {m : Nat} (t : Ob) (w : Wd) (g : FuncId) (cap : List PV) (R : Ob × Int) (hent : q4g Tryz.prog g = true) (hcl : ClC g cap t w H m R) (hR : (R.2 == 0) = false → R.1 = Ob.zero) :
    CSat Tryz.prog 176 [.agg (Wd.enc w), .agg (Ob.enc t), .fn (.func g) [] cap] H m (fun out H' m' => out = .ret (.tup [.agg (Ob.enc R.1), .int .i64 R.2]) ∧ m ≤ m' ∧ ∀ j, j < m → H' j = H j) := by
  refine csat_deferred (d8 := 8) (g := 222) (by kernel_rfl) Tryz.func176 rfl (by kernel_rfl) (fun z hz => by cases hz; simp [Tryz.ntmps176]) ⟨rfl, rfl, rfl⟩ (by simp [Tryz.ntmps176]) (by kernel_rfl) (by kernel_rfl) ?_
  repeat' (first | (show q1a ..; first | refine q0d ?_ | refine q0p rfl ?_ | refine q1c rfl rfl ?_) | (show q1f ..; first | refine q0n rfl rfl ?_ | refine q0h rfl ?_) | (show goOn ..; first | refine q0s ?_ | refine q0u ?_ | refine q0y ?_ | refine q1t ?_ | refine q1s ?_) | (show q1k ..; refine q0j ?_) | (show wGo ..; first | refine q1v ?_ | refine q2b ?_ | refine q1x ?_ | refine q1z ?_ | refine gw_u ?_ | refine q1w (fun _ => ?_) (fun _ => ?_) | refine q2a (fun _ => ?_) (fun _ => ?_) | refine q1y (fun _ => ?_) (fun _ => ?_) | refine q2c (fun _ => ?_) (fun _ => ?_)) | (show dr ..; first | refine q1l ?_ | refine dr_n rfl ?_ | refine q2t rfl rfl ?_) | (show drGo ..; first | refine q2i rfl ?_ | refine q1j rfl ?_) | (show drOn ..; first | refine q1m ?_ | refine q1q ?_ | refine q1p ?_ | refine q2n ?_ | refine q2m ?_) | (show q1o ..; refine q1b ?_) | (refine And.intro (by kernel_rfl : q1r _ = true) ?_) | (show q0i ..; first | refine q0q ?_ | refine q0c ?_ | refine q1h (by kernel_rfl) ?_ | refine q0r ?_ | refine q0f ?_ | refine q0k ?_ | refine q0w ?_ | refine q0t ?_) | (show q1d ..; first | refine cd_t ?_ | refine cd_f ?_ | refine cd_n (fun _ => ?_) (fun _ => ?_) | refine cd_b (fun _ => ?_) (fun _ => ?_)) | refine q0a ?_ | refine q0m ?_ | refine q0l ?_ | refine q0v ?_ | refine q0g ?_ | refine q0x ?_ | refine bl_pass rfl ?_ | refine q1g ?_ | refine q1e ?_ | (show retQ ..; first | refine q0o ?_ | refine q0b ?_) | refine q0e ?_)
  refine ⟨rfl, ?_⟩
  repeat' (first | (show q1a ..; first | refine q0d ?_ | refine q0p rfl ?_ | refine q1c rfl rfl ?_) | (show q1f ..; first | refine q0n rfl rfl ?_ | refine q0h rfl ?_) | (show goOn ..; first | refine q0s ?_ | refine q0u ?_ | refine q0y ?_ | refine q1t ?_ | refine q1s ?_) | (show q1k ..; refine q0j ?_) | (show wGo ..; first | refine q1v ?_ | refine q2b ?_ | refine q1x ?_ | refine q1z ?_ | refine gw_u ?_ | refine q1w (fun _ => ?_) (fun _ => ?_) | refine q2a (fun _ => ?_) (fun _ => ?_) | refine q1y (fun _ => ?_) (fun _ => ?_) | refine q2c (fun _ => ?_) (fun _ => ?_)) | (show dr ..; first | refine q1l ?_ | refine dr_n rfl ?_ | refine q2t rfl rfl ?_) | (show drGo ..; first | refine q2i rfl ?_ | refine q1j rfl ?_) | (show drOn ..; first | refine q1m ?_ | refine q1q ?_ | refine q1p ?_ | refine q2n ?_ | refine q2m ?_) | (show q1o ..; refine q1b ?_) | (refine And.intro (by kernel_rfl : q1r _ = true) ?_) | (show q0i ..; first | refine q0q ?_ | refine q0c ?_ | refine q1h (by kernel_rfl) ?_ | refine q0r ?_ | refine q0f ?_ | refine q0k ?_ | refine q0w ?_ | refine q0t ?_) | (show q1d ..; first | refine cd_t ?_ | refine cd_f ?_ | refine cd_n (fun _ => ?_) (fun _ => ?_) | refine cd_b (fun _ => ?_) (fun _ => ?_)) | refine q0a ?_ | refine q0m ?_ | refine q0l ?_ | refine q0v ?_ | refine q0g ?_ | refine q0x ?_ | refine bl_pass rfl ?_ | refine q1g ?_ | refine q1e ?_ | (show retQ ..; first | refine q0o ?_ | refine q0b ?_) | refine q0e ?_)
  refine ⟨rfl, [.ptr (m + 1 + 1) 0, .ptr (m + 1 + 1 + 1) 0], (by (try simp only [go_sem]); try rfl), ?_⟩
  repeat' (first | (show q1a ..; first | refine q0d ?_ | refine q0p rfl ?_ | refine q1c rfl rfl ?_) | (show q1f ..; first | refine q0n rfl rfl ?_ | refine q0h rfl ?_) | (show goOn ..; first | refine q0s ?_ | refine q0u ?_ | refine q0y ?_ | refine q1t ?_ | refine q1s ?_) | (show q1k ..; refine q0j ?_) | (show wGo ..; first | refine q1v ?_ | refine q2b ?_ | refine q1x ?_ | refine q1z ?_ | refine gw_u ?_ | refine q1w (fun _ => ?_) (fun _ => ?_) | refine q2a (fun _ => ?_) (fun _ => ?_) | refine q1y (fun _ => ?_) (fun _ => ?_) | refine q2c (fun _ => ?_) (fun _ => ?_)) | (show dr ..; first | refine q1l ?_ | refine dr_n rfl ?_ | refine q2t rfl rfl ?_) | (show drGo ..; first | refine q2i rfl ?_ | refine q1j rfl ?_) | (show drOn ..; first | refine q1m ?_ | refine q1q ?_ | refine q1p ?_ | refine q2n ?_ | refine q2m ?_) | (show q1o ..; refine q1b ?_) | (refine And.intro (by kernel_rfl : q1r _ = true) ?_) | (show q0i ..; first | refine q0q ?_ | refine q0c ?_ | refine q1h (by kernel_rfl) ?_ | refine q0r ?_ | refine q0f ?_ | refine q0k ?_ | refine q0w ?_ | refine q0t ?_) | (show q1d ..; first | refine cd_t ?_ | refine cd_f ?_ | refine cd_n (fun _ => ?_) (fun _ => ?_) | refine cd_b (fun _ => ?_) (fun _ => ?_)) | refine q0a ?_ | refine q0m ?_ | refine q0l ?_ | refine q0v ?_ | refine q0g ?_ | refine q0x ?_ | refine bl_pass rfl ?_ | refine q1g ?_ | refine q1e ?_ | (show retQ ..; first | refine q0o ?_ | refine q0b ?_) | refine q0e ?_)
  have A0 : ∀ j, j < m → hset (hset (hset (hset (hset H m (some (.box (Wd.enc w)))) (m + 1) (some (.box (Ob.enc t)))) (m + 1 + 1) (some (.box (Ob.enc Ob.zero)))) (m + 1 + 1 + 1) (some (.box [.int .i64 0]))) (m + 1 + 1 + 1 + 1) (some (.box (q6a t w))) j = H j := fun j hj => by repeat rw [q2l _ _ (by omega)]
  cases he : (R.2 == 0) with
  | false =>
    have hoe : outE R = .pan (thr R.2) := by unfold outE; rw [if_neg (by rw [he]; simp)]
    unfold ClC at hcl
    rw [hoe] at hcl
    refine q2j hent (hcl _ (m + 1 + 1 + 1 + 1 + 1) (m + 1 + 1 + 1 + 1) (by omega) (by omega) A0 (q2s _ _ _)) ?_ ?_
    · rintro r H' m' ⟨h, _⟩; cases h
    rintro p H1 m1 ⟨h, L1, A1⟩
    cases h
    refine q0l ?_
    have c2 : H1 (m + 1 + 1) = some (.box (Ob.enc Ob.zero)) := by rw [A1 _ (by omega)]; simp only [go_sem]
    have c3 : H1 (m + 1 + 1 + 1) = some (.box [.int .i64 0]) := by rw [A1 _ (by omega)]; simp only [go_sem]
    have low : ∀ j, j < m → H1 j = H j := fun j hj => by rw [A1 j (by omega)]; exact A0 j hj
    unfold KY
    refine (rec_some R.2 0 Ob.zero c2 c3 (by omega) (by omega) (by omega)).mono ?_
    rintro H2 m2 ⟨d2, d3, L2, A2⟩
    have hz := hR he
    obtain ⟨o, e⟩ := R
    simp only at hz d3
    subst hz
    refine ⟨.tup [.agg (Ob.enc Ob.zero), .int .i64 e], ?_, rfl, by omega, fun j hj => by rw [A2 j (by omega) (by omega) (by omega)]; exact low j hj⟩
    simp only [q8y, q7v, Tryz.results176, go_sem, d2, d3]
    try rfl
  | true =>
    have hoe : outE R = .ret (.agg (Ob.enc R.1)) := by unfold outE; rw [if_pos he]
    unfold ClC at hcl
    rw [hoe] at hcl
    refine q2j hent (hcl _ (m + 1 + 1 + 1 + 1 + 1) (m + 1 + 1 + 1 + 1) (by omega) (by omega) A0 (q2s _ _ _)) ?_ ?_
    case refine_2 => rintro r H' m' ⟨h, _⟩; cases h
    rintro r H1 m1 ⟨h, L1, A1⟩
    cases h
    have c2 : H1 (m + 1 + 1) = some (.box (Ob.enc Ob.zero)) := by rw [A1 _ (by omega)]; simp only [go_sem]
    have c3 : H1 (m + 1 + 1 + 1) = some (.box [.int .i64 0]) := by rw [A1 _ (by omega)]; simp only [go_sem]
    have low : ∀ j, j < m → H1 j = H j := fun j hj => by rw [A1 j (by omega)]; exact A0 j hj
    have he' : R.2 = 0 := by simpa using he
    repeat' (first | (show q1a ..; first | refine q0d ?_ | refine q0p rfl ?_ | refine q1c rfl rfl ?_) | (show q1f ..; first | refine q0n rfl rfl ?_ | refine q0h rfl ?_) | (show goOn ..; first | refine q0s ?_ | refine q0u ?_ | refine q0y ?_ | refine q1t ?_ | refine q1s ?_) | (show q1k ..; refine q0j ?_) | (show wGo ..; first | refine q1v ?_ | refine q2b ?_ | refine q1x ?_ | refine q1z ?_ | refine gw_u ?_ | refine q1w (fun _ => ?_) (fun _ => ?_) | refine q2a (fun _ => ?_) (fun _ => ?_) | refine q1y (fun _ => ?_) (fun _ => ?_) | refine q2c (fun _ => ?_) (fun _ => ?_)) | (show dr ..; first | refine q1l ?_ | refine dr_n rfl ?_ | refine q2t rfl rfl ?_) | (show drGo ..; first | refine q2i rfl ?_ | refine q1j rfl ?_) | (show drOn ..; first | refine q1m ?_ | refine q1q ?_ | refine q1p ?_ | refine q2n ?_ | refine q2m ?_) | (show q1o ..; refine q1b ?_) | (refine And.intro (by kernel_rfl : q1r _ = true) ?_) | (show q0i ..; first | refine q0q ?_ | refine q0c ?_ | refine q1h (by kernel_rfl) ?_ | refine q0r ?_ | refine q0f ?_ | refine q0k ?_ | refine q0w ?_ | refine q0t ?_) | (show q1d ..; first | refine cd_t ?_ | refine cd_f ?_ | refine cd_n (fun _ => ?_) (fun _ => ?_) | refine cd_b (fun _ => ?_) (fun _ => ?_)) | refine q0a ?_ | refine q0m ?_ | refine q0l ?_ | refine q0v ?_ | refine q0g ?_ | refine q0x ?_ | refine bl_pass rfl ?_ | refine q1g ?_ | refine q1e ?_ | (show retQ ..; first | refine q0o ?_ | refine q0b ?_) | refine q0e ?_)
    unfold KY
    refine (rec_nil _ _).mono ?_
    rintro H2 m2 ⟨rfl, rfl⟩
    refine ⟨.tup [.agg (Ob.enc R.1), .int .i64 R.2], ?_, rfl, by omega, fun j hj => by (repeat rw [q2l _ _ (by omega)]); exact low j hj⟩
    rw [he']
    simp only [q8y, q7v, Tryz.results176, go_sem]
    try rfl
theorem see_zero {w : Wd} {t : Ob} {r : Rf} {k : Int} : ((seeR w t r k).2 == 0) = false → (seeR w t r k).1 = Ob.zero := by
  unfold seeR
  split
  · split
    · split
      · intro h; simp at h
      · intro _; rfl
    · intro _; rfl
  · intro _; rfl
theorem change_zero {w : Wd} {t : Ob} {r : Rf} {k : Int} : ((q4b w t r k).2 == 0) = false → (q4b w t r k).1 = Ob.zero := by
  unfold q4b
  split
  · split
    · intro h; simp at h
    · intro _; rfl
  · intro _; rfl
theorem reach_see (w : Wd) (t : Ob) (r : Rf) (kind : Int) (hf : FewW w) (hw : q5h w = true) (ht : q4i t.label = true) (htl : t.label.length ≤ 20) : Pure Tryz.prog 132 [.agg (Wd.enc w), .agg (Ob.enc t), .agg (Rf.enc r), .int .i64 kind] (.tup [.agg (Ob.enc (seeR w t r kind).1), .int .i64 (seeR w t r kind).2]) := by
  have hR : ((seeR w t r kind).2 == 0) = false → (seeR w t r kind).1 = Ob.zero := see_zero 
  have hcl : ∀ (H : Heap) (m : Nat), H 2 = some (.box (Rf.enc r)) → 2 < m → H 3 = some (.box [.int .i64 kind]) → 3 < m → ClC 177 [.ptr 2 0, .ptr 3 0] t w H m (seeR w t r kind) := fun H m h1 h2 h3 h4 => see1 t w r kind h1 h2 h3 h4 ht htl hf hw
  generalize seeR w t r kind = D at hR hcl ⊢
  obtain ⟨o, e⟩ := D
  simp only at hR hcl ⊢
  refine q2y (by kernel_rfl) (by simp only [go_sem, *]) (by simp only [go_sem, *]) Tryz.func132 Tryz.results132 rfl (by simp [Tryz.ntmps132]) (by kernel_rfl) ?_
  repeat' (first | (show q1a ..; first | refine q0d ?_ | refine q0p rfl ?_) | (show q1f ..; first | refine q0n rfl rfl ?_ | refine q0h rfl ?_) | (show goOn ..; first | refine q0s ?_ | refine q0u ?_ | refine q0y ?_) | (show q1k ..; refine q0j ?_) | (show q0i ..; first | refine q0q ?_ | refine q0c ?_ | refine q0r ?_ | refine q0f ?_) | refine q0a ?_ | refine q0m ?_ | refine q0l ?_ | (show retQ ..; first | refine q0o ?_ | refine q0b ?_) | refine q0e ?_)
  (refine q2j (by kernel_rfl) (found_csat t w _ _ (o, e) (by kernel_rfl) (hcl _ _ (by simp only [go_sem]) (by omega) (by simp only [go_sem]) (by omega)) hR) ?_ ?_)
  case refine_2 => rintro p H' m' ⟨h, _⟩; cases h
  rintro r H1 m1 ⟨h, L1, A1⟩
  cases h
  have c1 : H1 4 = some (.box (Ob.enc Ob.zero)) := by rw [A1 4 (by omega)]; simp only [go_sem]
  repeat' (first | (show q1a ..; first | refine q0d ?_ | refine q0p rfl ?_) | (show q1f ..; first | refine q0n rfl rfl ?_ | refine q0h rfl ?_) | (show goOn ..; first | refine q0s ?_ | refine q0u ?_ | refine q0y ?_) | (show q1k ..; refine q0j ?_) | (show q0i ..; first | refine q0q ?_ | refine q0c ?_ | refine q0r ?_ | refine q0f ?_) | refine q0a ?_ | refine q0m ?_ | refine q0l ?_ | (show retQ ..; first | refine q0o ?_ | refine q0b ?_) | refine q0e ?_)
  all_goals rfl
theorem reach_change (w : Wd) (t : Ob) (r : Rf) (kind : Int) (hf : FewW w) (hw : q5h w = true) (ht : q4i t.label = true) (htl : t.label.length ≤ 20) : Pure Tryz.prog 201 [.agg (Wd.enc w), .agg (Ob.enc t), .agg (Rf.enc r), .int .i64 kind] (.tup [.agg (Ob.enc (q4b w t r kind).1), .int .i64 (q4b w t r kind).2]) := by
  have hR : ((q4b w t r kind).2 == 0) = false → (q4b w t r kind).1 = Ob.zero := change_zero 
  have hcl : ∀ (H : Heap) (m : Nat), H 2 = some (.box (Rf.enc r)) → 2 < m → H 3 = some (.box [.int .i64 kind]) → 3 < m → ClC 245 [.ptr 2 0, .ptr 3 0] t w H m (q4b w t r kind) := fun H m h1 h2 h3 h4 => change1 t w r kind h1 h2 h3 h4 ht htl hf hw
  generalize q4b w t r kind = D at hR hcl ⊢
  obtain ⟨o, e⟩ := D
  simp only at hR hcl ⊢
  refine q2y (by kernel_rfl) (by simp only [go_sem, *]) (by simp only [go_sem, *]) Tryz.func201 Tryz.results201 rfl (by simp [Tryz.ntmps201]) (by kernel_rfl) ?_
  repeat' (first | (show q1a ..; first | refine q0d ?_ | refine q0p rfl ?_) | (show q1f ..; first | refine q0n rfl rfl ?_ | refine q0h rfl ?_) | (show goOn ..; first | refine q0s ?_ | refine q0u ?_ | refine q0y ?_) | (show q1k ..; refine q0j ?_) | (show q0i ..; first | refine q0q ?_ | refine q0c ?_ | refine q0r ?_ | refine q0f ?_) | refine q0a ?_ | refine q0m ?_ | refine q0l ?_ | (show retQ ..; first | refine q0o ?_ | refine q0b ?_) | refine q0e ?_)
  (refine q2j (by kernel_rfl) (found_csat t w _ _ (o, e) (by kernel_rfl) (hcl _ _ (by simp only [go_sem]) (by omega) (by simp only [go_sem]) (by omega)) hR) ?_ ?_)
  case refine_2 => rintro p H' m' ⟨h, _⟩; cases h
  rintro r H1 m1 ⟨h, L1, A1⟩
  cases h
  have c1 : H1 4 = some (.box (Ob.enc Ob.zero)) := by rw [A1 4 (by omega)]; simp only [go_sem]
  repeat' (first | (show q1a ..; first | refine q0d ?_ | refine q0p rfl ?_) | (show q1f ..; first | refine q0n rfl rfl ?_ | refine q0h rfl ?_) | (show goOn ..; first | refine q0s ?_ | refine q0u ?_ | refine q0y ?_) | (show q1k ..; refine q0j ?_) | (show q0i ..; first | refine q0q ?_ | refine q0c ?_ | refine q0r ?_ | refine q0f ?_) | refine q0a ?_ | refine q0m ?_ | refine q0l ?_ | (show retQ ..; first | refine q0o ?_ | refine q0b ?_) | refine q0e ?_)
  all_goals rfl
end Go.Proofs.YteibeoipnjhicaaGreat
