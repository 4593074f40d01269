import Derived.Test.YteibeoipnjhicaaGreatEa1
namespace Go.Proofs.YteibeoipnjhicaaGreat
open Go Go.RowKit
set_option linter.unusedVariables false
set_option linter.unusedSimpArgs false
set_option maxHeartbeats 4000000
set_option maxRecDepth 100000
attribute [local irreducible] q0x dr q0g Ex.then Ex.inBlock retQ q1x q3g q3e Pure CSat evOp q2o rdOf upd hset strip sp0 cut envL q2u q4j Keep BdL evBs q3m q4g
def own (l : List Pr) : List Int := (l.filter (fun p => p.lev == 0)).map (·.cat)
theorem own_yes {l : List Pr} {n : Nat} {x : Pr} (hx : l[n]? = some x) (h : (x.lev == 0) = true) : own (l.take (n + 1)) = own (l.take n) ++ [x.cat] := by
  rw [q4v hx]; simp [own, List.filter_append, List.filter_cons, h]
theorem own_no {l : List Pr} {n : Nat} {x : Pr} (hx : l[n]? = some x) (h : (x.lev == 0) = false) : own (l.take (n + 1)) = own (l.take n) := by
  rw [q4v hx]; simp [own, List.filter_append, List.filter_cons, h]
theorem own_len (l : List Pr) : (own l).length ≤ l.length := by simp [own]; exact List.length_filter_le _ _
theorem r2_owned (l : List Pr) (hl : l.length ≤ 900000) : Pure Tryz.prog 49 [.sl (l.map Pr.enc)] (.sl ((own l).map u64)) := by
  refine q2i (by kernel_rfl) (by simp only [go_sem, *]) (by simp only [go_sem, *]) Tryz.func49 Tryz.results49 rfl (by simp [Tryz.ntmps49]) (by kernel_rfl) ?_
  repeat' (first | (show q0x ..; first | refine q0d ?_ | refine q0p rfl ?_) | (show q1d ..; refine q0n rfl rfl ?_) | (show goOn ..; first | refine q0s ?_ | refine q2k ?_ | refine q2j ?_) | (show q0g ..; first | refine q0q ?_ | refine q0c ?_ | refine q0r ?_ | refine q0f ?_ | refine q0t ?_ | refine q1b ?_ | refine q0k ?_) | (show q0y ..; first | refine cd_t ?_ | refine cd_f ?_ | refine cd_n (fun _ => ?_) (fun _ => ?_) | refine cd_b (fun _ => ?_) (fun _ => ?_)) | refine q0a ?_ | refine q0m ?_ | refine q0l ?_ | refine q1a ?_ | refine q0j ?_ | refine q1c ?_ | refine bl_pass rfl ?_ | refine q1f ?_ | refine bl_pan ?_ | (show retQ ..; first | refine q0o ?_ | refine q0b ?_) | refine q0e ?_)
  refine q3l (S := Nat × List Int × Nat) (fun s => l.length - s.1) (fun s => s.1 ≤ l.length ∧ own (l.take s.1) = s.2.1) (fun s => [(0, .sl (l.map Pr.enc)), (3, accV s.2.2 s.2.1), (4, .int .i64 s.1)]) (fun s => accG s.2.2 22 1 u64 s.2.1) (fun s => accM 0 s.2.2 s.2.1) (0, [], 0) ⟨Nat.zero_le _, rfl⟩ (by simp only [q2w, q2y, q2x]; (refine q2q ?_ ?_ <;> repeat' (first | exact q2a | exact q2c | refine q1i (by (try simp only [go_sem, *]); try rfl) (by simp only [go_sem, *]) ?_ | refine q2d (by (try simp only [go_sem, *]); try rfl) (by omega) (by simp only [go_sem, *]) ?_ | refine q2b (by (try simp only [go_sem, *]); try rfl) (by omega) (by simp only [go_sem, *]) ?_))) ?_
  rintro ⟨n, acc, id⟩ ⟨hn, hs⟩
  simp only at hn hs
  have ha : acc.length < 1000000 := by rw [← hs]; have := own_len (l.take n); have := List.length_take_le n l; simp only [List.length_take] at *; omega
  have hb1 := app_max ha
  have hb2 := app_by (b := 8) ha (by decide)
  rcases Nat.lt_or_ge n l.length with hlt | hge
  · obtain ⟨x, hx⟩ := q3d hlt
    have h0 := q3k hlt
    have h4 := q3f n (by omega)
    rcases q4o acc with hnil | hne
    · subst hnil
      simp only [q2w, q2y, q2x]
      repeat' (first | (show q0x ..; first | refine q0d ?_ | refine q0p rfl ?_) | (show q1d ..; refine q0n rfl rfl ?_) | (show goOn ..; first | refine q0s ?_ | refine q2k ?_ | refine q2j ?_) | (show q0g ..; first | refine q0q ?_ | refine q0c ?_ | refine q0r ?_ | refine q0f ?_ | refine q0t ?_ | refine q1b ?_ | refine q0k ?_) | (show q0y ..; first | refine cd_t ?_ | refine cd_f ?_ | refine cd_n (fun _ => ?_) (fun _ => ?_) | refine cd_b (fun _ => ?_) (fun _ => ?_)) | refine q0a ?_ | refine q0m ?_ | refine q0l ?_ | refine q1a ?_ | refine q0j ?_ | refine q1c ?_ | refine bl_pass rfl ?_ | refine q1f ?_ | refine bl_pan ?_ | (show retQ ..; first | refine q0o ?_ | refine q0b ?_) | refine q0e ?_)
      all_goals rename_i hc
      · refine again (n + 1, [] ++ [x.cat], 0) ⟨hlt, by rw [own_yes hx hc, hs]⟩ (by simp only; omega) ?_
        simp only [q3h, q3j, q3i]
        (refine q2q ?_ ?_ <;> repeat' (first | exact q2a | exact q2c | refine q1i (by (try simp only [go_sem, *]); try rfl) (by simp only [go_sem, *]) ?_ | refine q2d (by (try simp only [go_sem, *]); try rfl) (by omega) (by simp only [go_sem, *]) ?_ | refine q2b (by (try simp only [go_sem, *]); try rfl) (by omega) (by simp only [go_sem, *]) ?_))
      · refine again (n + 1, [], 0) ⟨hlt, by rw [own_no hx hc, hs]⟩ (by simp only; omega) ?_
        simp only [q2w, q2y, q2x]
        (refine q2q ?_ ?_ <;> repeat' (first | exact q2a | exact q2c | refine q1i (by (try simp only [go_sem, *]); try rfl) (by simp only [go_sem, *]) ?_ | refine q2d (by (try simp only [go_sem, *]); try rfl) (by omega) (by simp only [go_sem, *]) ?_ | refine q2b (by (try simp only [go_sem, *]); try rfl) (by omega) (by simp only [go_sem, *]) ?_))
    · simp only [q3q hne, q3s hne, q3r hne]
      repeat' (first | (show q0x ..; first | refine q0d ?_ | refine q0p rfl ?_) | (show q1d ..; refine q0n rfl rfl ?_) | (show goOn ..; first | refine q0s ?_ | refine q2k ?_ | refine q2j ?_) | (show q0g ..; first | refine q0q ?_ | refine q0c ?_ | refine q0r ?_ | refine q0f ?_ | refine q0t ?_ | refine q1b ?_ | refine q0k ?_) | (show q0y ..; first | refine cd_t ?_ | refine cd_f ?_ | refine cd_n (fun _ => ?_) (fun _ => ?_) | refine cd_b (fun _ => ?_) (fun _ => ?_)) | refine q0a ?_ | refine q0m ?_ | refine q0l ?_ | refine q1a ?_ | refine q0j ?_ | refine q1c ?_ | refine bl_pass rfl ?_ | refine q1f ?_ | refine bl_pan ?_ | (show retQ ..; first | refine q0o ?_ | refine q0b ?_) | refine q0e ?_)
      all_goals rename_i hc
      · refine again (n + 1, acc ++ [x.cat], id) ⟨hlt, by rw [own_yes hx hc, hs]⟩ (by simp only; omega) ?_
        simp only [q3h, q3j, q3i]
        (refine q2q ?_ ?_ <;> repeat' (first | exact q2a | exact q2c | refine q1i (by (try simp only [go_sem, *]); try rfl) (by simp only [go_sem, *]) ?_ | refine q2d (by (try simp only [go_sem, *]); try rfl) (by omega) (by simp only [go_sem, *]) ?_ | refine q2b (by (try simp only [go_sem, *]); try rfl) (by omega) (by simp only [go_sem, *]) ?_))
      · refine again (n + 1, acc, id) ⟨hlt, by rw [own_no hx hc, hs]⟩ (by simp only; omega) ?_
        simp only [q3q hne, q3s hne, q3r hne]
        (refine q2q ?_ ?_ <;> repeat' (first | exact q2a | exact q2c | refine q1i (by (try simp only [go_sem, *]); try rfl) (by simp only [go_sem, *]) ?_ | refine q2d (by (try simp only [go_sem, *]); try rfl) (by omega) (by simp only [go_sem, *]) ?_ | refine q2b (by (try simp only [go_sem, *]); try rfl) (by omega) (by simp only [go_sem, *]) ?_))
  · have h0 := q3a hge
    have hs' : own l = acc := by rw [← hs, List.take_of_length_le hge]
    rcases q4o acc with hnil | hne
    · subst hnil
      simp only [q2w, q2y, q2x]
      repeat' (first | (show q0x ..; first | refine q0d ?_ | refine q0p rfl ?_) | (show q1d ..; refine q0n rfl rfl ?_) | (show goOn ..; first | refine q0s ?_ | refine q2k ?_ | refine q2j ?_) | (show q0g ..; first | refine q0q ?_ | refine q0c ?_ | refine q0r ?_ | refine q0f ?_ | refine q0t ?_ | refine q1b ?_ | refine q0k ?_) | (show q0y ..; first | refine cd_t ?_ | refine cd_f ?_ | refine cd_n (fun _ => ?_) (fun _ => ?_) | refine cd_b (fun _ => ?_) (fun _ => ?_)) | refine q0a ?_ | refine q0m ?_ | refine q0l ?_ | refine q1a ?_ | refine q0j ?_ | refine q1c ?_ | refine bl_pass rfl ?_ | refine q1f ?_ | refine bl_pan ?_ | (show retQ ..; first | refine q0o ?_ | refine q0b ?_) | refine q0e ?_)
      rw [hs']; rfl
    · simp only [q3q hne, q3s hne, q3r hne]
      repeat' (first | (show q0x ..; first | refine q0d ?_ | refine q0p rfl ?_) | (show q1d ..; refine q0n rfl rfl ?_) | (show goOn ..; first | refine q0s ?_ | refine q2k ?_ | refine q2j ?_) | (show q0g ..; first | refine q0q ?_ | refine q0c ?_ | refine q0r ?_ | refine q0f ?_ | refine q0t ?_ | refine q1b ?_ | refine q0k ?_) | (show q0y ..; first | refine cd_t ?_ | refine cd_f ?_ | refine cd_n (fun _ => ?_) (fun _ => ?_) | refine cd_b (fun _ => ?_) (fun _ => ?_)) | refine q0a ?_ | refine q0m ?_ | refine q0l ?_ | refine q1a ?_ | refine q0j ?_ | refine q1c ?_ | refine bl_pass rfl ?_ | refine q1f ?_ | refine bl_pan ?_ | (show retQ ..; first | refine q0o ?_ | refine q0b ?_) | refine q0e ?_)
      rw [hs']
end Go.Proofs.YteibeoipnjhicaaGreat
