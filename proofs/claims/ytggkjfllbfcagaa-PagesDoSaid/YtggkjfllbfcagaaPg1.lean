import Derived.Test.YtggkjfllbfcagaaPgl
import Derived.Test.YtggkjfllbfcagaaCsl
import Derived.Test.YtggkjfllbfcagaaSrMp
namespace Go.Proofs.Ytggkjfllbfcagaa
open Go Go.RowKit
set_option linter.unusedVariables false
set_option linter.unusedSimpArgs false
set_option maxHeartbeats 16000000
set_option maxRecDepth 100000
/-! pages.at: the place of the first map whose number is not below another. -/
def posF (f : Mp → Int) (l : List Mp) (n : Int) : Nat := (l.takeWhile (fun x => decide (f x < n))).length
theorem posF_le (f : Mp → Int) (l : List Mp) (n : Int) : posF f l n ≤ l.length := List.Sublist.length_le (List.takeWhile_sublist _)
theorem posF_spot {f : Mp → Int} {l : List Mp} {n : Int} {k : Nat} (hk : k ≤ l.length) (h1 : ∀ i, i < k → ∀ x, l[i]? = some x → f x < n) (h2 : ∀ x, l[k]? = some x → ¬ f x < n) : posF f l n = k := by
  unfold posF
  have e : l = l.take k ++ l.drop k := (List.take_append_drop k l).symm
  rw [e]
  have := pos_app (p := fun x => decide (f x < n)) (A := l.take k) (B := l.drop k) (fun x hx => by
    obtain ⟨i, hi⟩ := List.getElem?_of_mem hx
    rw [List.getElem?_take] at hi
    split at hi
    · rename_i hik; exact decide_eq_true (h1 i hik x hi)
    · cases hi) (fun x hx => by
    rw [List.getElem?_drop, Nat.add_zero] at hx
    exact decide_eq_false (h2 x hx))
  rw [this, List.length_take, Nat.min_eq_left hk]
def MonF (f : Mp → Int) (l : List Mp) : Prop := ∀ (i j : Nat) (x y : Mp), l[i]? = some x → l[j]? = some y → i < j → f x ≤ f y
def H2 (a b : List PV) : Heap := hset (hset (fun _ => none) 0 (some (.box a))) 1 (some (.box b))
theorem H2_eq (a b : List PV) : H2 a b = heapL [(0, .box a), (1, .box b)] := by
  funext i
  unfold H2 hset
  rw [heapL_cons, heapL_cons]
  by_cases h1 : i = 1
  · subst h1; rfl
  · by_cases h0 : i = 0
    · subst h0; rfl
    · rw [if_neg h1, if_neg h0, if_neg h0, if_neg h1]; rfl
section
variable {a b : List PV}
theorem g2_1 : ∀ i, 2 ≤ i → heapL [(0, HE.box a), (1, HE.box b)] i = none := fun i hi => by rw [heapL_cons, heapL_cons, if_neg (by omega), if_neg (by omega)]; rfl
theorem g2_2 (ha : ∀ S, BdL S a) (hb : ∀ S, BdL S b) : ∀ i k, heapL [(0, HE.box a), (1, HE.box b)] i = some (.box k) → ∀ p ∈ k, Bd (LV (heapL [(0, HE.box a), (1, HE.box b)])) p := fun i k h => by
  rw [heapL_cons] at h
  split at h
  · cases h; exact ha _
  · rw [heapL_cons] at h
    split at h
    · cases h; exact hb _
    · cases h
theorem g2_3 : ∀ i e sz els, heapL [(0, HE.box a), (1, HE.box b)] i ≠ some (.row e sz els) := fun i e sz els h => by
  rw [heapL_cons] at h
  split at h
  · cases h
  · rw [heapL_cons] at h
    split at h <;> cases h
theorem g2_lv1 : LV (heapL [(0, HE.box a), (1, HE.box b)]) 1 := by simp only [go_sem]
theorem g2_lv0 : LV (heapL [(0, HE.box a), (1, HE.box b)]) 0 := by simp only [go_sem]
end
theorem keepK_j {m0 : Nat} {G : List (Nat × HE)} {env : Env} {H : Heap} {E : List (Nat × PV)} (h1 : ∀ i, i < m0 → H i = heapL G i) (h2 : KE (LV (heapL G)) env E) : KeepK m0 G env H E := ⟨h1, h2⟩
theorem half_add {i j n : Nat} (h1 : i ≤ n) (h2 : j ≤ n) (h3 : n ≤ 1000000) : IntKind.i64.wrap ((i : Int) + (j : Int)) = ((i + j : Nat) : Int) ∧ IntKind.i64.wrap (((i + j : Nat) : Int).tdiv 2) = (((i + j) / 2 : Nat) : Int) := by
  refine ⟨by rw [IntKind.wrap_i64]; omega, ?_⟩
  have : ((i + j : Nat) : Int).tdiv 2 = (((i + j) / 2 : Nat) : Int) := (Int.ofNat_tdiv (i + j) 2).symm
  rw [this, IntKind.wrap_i64]; omega
attribute [local irreducible] pwOps dr pwCode Ex.then Ex.inBlock retQ okAll drawOk Pure CSat evOp calleeP rdOf upd hset strip sp0 cut envL heapL Again Keep BdL evBs AgainK KeepK
theorem at_va (l : List Mp) (n : Int) (hl : l.length ≤ 1000000) (hs : MonF Mp.va l) : Pure Try.prog 74 [.sl (l.map Mp.enc), .int .i64 n, .fn (.func 75) [] []] (.int .i64 (posF Mp.va l n)) := by
  refine pureI (by kernel_rfl) (by simp only [go_sem, *]) (by simp only [go_sem, *]) Try.func74 Try.results74 rfl (by simp [Try.ntmps74]) (by kernel_rfl) ?_
  have hg : entersP Try.prog 75 = true := by kernel_rfl
  repeat' (first
    | (show pwOps ..; first | refine pops_nil ?_ | refine pops_n rfl ?_ | refine pops_w' rfl rfl ?_)
    | (show runGo ..; first | refine run_ev rfl rfl ?_ | refine run_call rfl ?_)
    | (show goOn ..; first | refine on_nop ?_ | refine on_new ?_ | refine on_put ?_ | refine on_born ?_ | refine on_grow ?_)
    | (show putGo ..; refine put_box ?_)
    | (show wGo ..; first | refine gw_tt ?_ | refine gw_ff ?_ | refine gw_tf ?_ | refine gw_ft ?_ | refine gw_u ?_ | refine gw_tn (fun _ => ?_) (fun _ => ?_) | refine gw_fn (fun _ => ?_) (fun _ => ?_) | refine gw_tb (fun _ => ?_) (fun _ => ?_) | refine gw_fb (fun _ => ?_) (fun _ => ?_))
    | (show dr ..; first | refine dr_nil ?_ | refine dr_n rfl ?_ | refine dr_w' rfl rfl ?_)
    | (show drGo ..; first | refine dr_ev rfl ?_ | refine dr_call rfl ?_)
    | (show drOn ..; first | refine dn_nop ?_ | refine dn_new ?_ | refine dn_put ?_ | refine dn_born ?_ | refine dn_grow ?_)
    | (show dputGo ..; refine dput_box ?_)
    | (refine And.intro (by kernel_rfl : okAll _ = true) ?_)
    | (show pwCode ..; first | refine pc_seq ?_ | refine pc_region ?_ | refine pc_draw (by kernel_rfl) ?_ | refine pc_ret ?_ | refine pc_skip ?_ | refine pc_block ?_ | refine pc_exit ?_ | refine pc_cond ?_)
    | (show condGo ..; first | refine cd_t ?_ | refine cd_f ?_ | refine cd_n (fun _ => ?_) (fun _ => ?_) | refine cd_b (fun _ => ?_) (fun _ => ?_))
    | refine th_normal ?_
    | refine th_ret ?_
    | refine th_exit ?_
    | refine th_pan ?_
    | refine bl_normal ?_
    | refine bl_exit ?_
    | refine bl_pass rfl ?_
    | refine bl_ret ?_
    | refine bl_pan ?_
    | (show retQ ..; first | refine rt_ret ?_ | refine rt_normal ?_)
    | refine rs_some ?_)
  refine pc_loop (S := Nat × Nat) (fun s => s.2 - s.1) (fun s => s.1 ≤ s.2 ∧ s.2 ≤ l.length ∧ (∀ k, k < s.1 → ∀ x, l[k]? = some x → x.va < n) ∧ (∀ k, s.2 ≤ k → ∀ x, l[k]? = some x → ¬ x.va < n)) (fun s => [(0, .sl (l.map Mp.enc)), (1, .int .i64 n), (2, .fn (.func 75) [] []), (7, .int .i64 s.1), (8, .int .i64 s.2)]) (fun _ => []) (fun _ => 0) (0, l.length) ⟨Nat.zero_le _, Nat.le_refl _, fun k hk => absurd hk (Nat.not_lt_zero k), fun k hk x hx => absurd (len_lt hx) (by simp only at hk; omega)⟩ (by (refine keepI ?_ ?_ <;> repeat' (first | exact ke_nil | exact kg_nil | refine ke_cons (by (try simp only [go_sem, *]); try rfl) (by simp only [go_sem, *]) ?_ | refine kg_box (by (try simp only [go_sem, *]); try rfl) (by omega) (by simp only [go_sem, *]) ?_ | refine kg_row (by (try simp only [go_sem, *]); try rfl) (by omega) (by simp only [go_sem, *]) ?_))) ?_
  rintro ⟨i, j⟩ ⟨hij, hj, h1, h2⟩
  simp only at hij hj h1 h2
  rcases Nat.lt_or_ge i j with hlt | hge
  · obtain ⟨x, hx⟩ := lt_len (by omega : (i + j) / 2 < l.length)
    have h0 := lt_true hlt
    obtain ⟨e1, e2⟩ := half_add (by omega : i ≤ l.length) hj hl
    have e4 := wrap_nat ((i + j) / 2) (by omega)
    repeat' (first
    | (show pwOps ..; first | refine pops_nil ?_ | refine pops_n rfl ?_ | refine pops_w' rfl rfl ?_)
    | (show runGo ..; first | refine run_ev rfl rfl ?_ | refine run_call rfl ?_)
    | (show goOn ..; first | refine on_nop ?_ | refine on_new ?_ | refine on_put ?_ | refine on_born ?_ | refine on_grow ?_)
    | (show putGo ..; refine put_box ?_)
    | (show callGo ..; (refine call_pure (r := ?_) ?_ ?_; rotate_left 1; (focus first | exact pages_va _)))
    | (show wGo ..; first | refine gw_tt ?_ | refine gw_ff ?_ | refine gw_tf ?_ | refine gw_ft ?_ | refine gw_u ?_ | refine gw_tn (fun _ => ?_) (fun _ => ?_) | refine gw_fn (fun _ => ?_) (fun _ => ?_) | refine gw_tb (fun _ => ?_) (fun _ => ?_) | refine gw_fb (fun _ => ?_) (fun _ => ?_))
    | (show dr ..; first | refine dr_nil ?_ | refine dr_n rfl ?_ | refine dr_w' rfl rfl ?_)
    | (show drGo ..; first | refine dr_ev rfl ?_ | refine dr_call rfl ?_)
    | (show drOn ..; first | refine dn_nop ?_ | refine dn_new ?_ | refine dn_put ?_ | refine dn_born ?_ | refine dn_grow ?_)
    | (show dputGo ..; refine dput_box ?_)
    | (show dcallGo ..; (refine dcall_pure (r := ?_) ?_ ?_; rotate_left 1; (focus first | exact pages_va _)))
    | (refine And.intro (by kernel_rfl : okAll _ = true) ?_)
    | (show pwCode ..; first | refine pc_seq ?_ | refine pc_region ?_ | refine pc_draw (by kernel_rfl) ?_ | refine pc_ret ?_ | refine pc_skip ?_ | refine pc_block ?_ | refine pc_exit ?_ | refine pc_cond ?_)
    | (show condGo ..; first | refine cd_t ?_ | refine cd_f ?_ | refine cd_n (fun _ => ?_) (fun _ => ?_) | refine cd_b (fun _ => ?_) (fun _ => ?_))
    | refine th_normal ?_
    | refine th_ret ?_
    | refine th_exit ?_
    | refine th_pan ?_
    | refine bl_normal ?_
    | refine bl_exit ?_
    | refine bl_pass rfl ?_
    | refine bl_ret ?_
    | refine bl_pan ?_
    | (show retQ ..; first | refine rt_ret ?_ | refine rt_normal ?_)
    | refine rs_some ?_)
    all_goals rename_i hc
    · refine again ((i + j) / 2 + 1, j) ⟨by simp only; omega, hj, fun k hk y hy => ?_, h2⟩ (by simp only; omega) (by (refine keepI ?_ ?_ <;> repeat' (first | exact ke_nil | exact kg_nil | refine ke_cons (by (try simp only [go_sem, *]); try rfl) (by simp only [go_sem, *]) ?_ | refine kg_box (by (try simp only [go_sem, *]); try rfl) (by omega) (by simp only [go_sem, *]) ?_ | refine kg_row (by (try simp only [go_sem, *]); try rfl) (by omega) (by simp only [go_sem, *]) ?_)))
      simp only at hk
      rcases Nat.lt_or_ge k ((i + j) / 2) with h | h
      · have := hs k _ y x hy hx h; have := of_decide_eq_true hc; omega
      · obtain rfl : k = (i + j) / 2 := by omega
        rw [hx] at hy; cases hy; exact of_decide_eq_true hc
    · refine again (i, (i + j) / 2) ⟨by simp only; omega, by simp only; omega, h1, fun k hk y hy => ?_⟩ (by simp only; omega) (by (refine keepI ?_ ?_ <;> repeat' (first | exact ke_nil | exact kg_nil | refine ke_cons (by (try simp only [go_sem, *]); try rfl) (by simp only [go_sem, *]) ?_ | refine kg_box (by (try simp only [go_sem, *]); try rfl) (by omega) (by simp only [go_sem, *]) ?_ | refine kg_row (by (try simp only [go_sem, *]); try rfl) (by omega) (by simp only [go_sem, *]) ?_)))
      simp only at hk
      have hc' := of_decide_eq_false hc
      rcases Nat.lt_or_ge ((i + j) / 2) k with h | h
      · have := hs _ k x y hx hy h; omega
      · obtain rfl : k = (i + j) / 2 := by omega
        rw [hx] at hy; cases hy; exact hc'
  · obtain rfl : i = j := by omega
    have h0 := lt_false hge
    have hp := posF_spot (f := Mp.va) hj h1 (h2 i (Nat.le_refl _))
    repeat' (first
    | (show pwOps ..; first | refine pops_nil ?_ | refine pops_n rfl ?_ | refine pops_w' rfl rfl ?_)
    | (show runGo ..; first | refine run_ev rfl rfl ?_ | refine run_call rfl ?_)
    | (show goOn ..; first | refine on_nop ?_ | refine on_new ?_ | refine on_put ?_ | refine on_born ?_ | refine on_grow ?_)
    | (show putGo ..; refine put_box ?_)
    | (show wGo ..; first | refine gw_tt ?_ | refine gw_ff ?_ | refine gw_tf ?_ | refine gw_ft ?_ | refine gw_u ?_ | refine gw_tn (fun _ => ?_) (fun _ => ?_) | refine gw_fn (fun _ => ?_) (fun _ => ?_) | refine gw_tb (fun _ => ?_) (fun _ => ?_) | refine gw_fb (fun _ => ?_) (fun _ => ?_))
    | (show dr ..; first | refine dr_nil ?_ | refine dr_n rfl ?_ | refine dr_w' rfl rfl ?_)
    | (show drGo ..; first | refine dr_ev rfl ?_ | refine dr_call rfl ?_)
    | (show drOn ..; first | refine dn_nop ?_ | refine dn_new ?_ | refine dn_put ?_ | refine dn_born ?_ | refine dn_grow ?_)
    | (show dputGo ..; refine dput_box ?_)
    | (refine And.intro (by kernel_rfl : okAll _ = true) ?_)
    | (show pwCode ..; first | refine pc_seq ?_ | refine pc_region ?_ | refine pc_draw (by kernel_rfl) ?_ | refine pc_ret ?_ | refine pc_skip ?_ | refine pc_block ?_ | refine pc_exit ?_ | refine pc_cond ?_)
    | (show condGo ..; first | refine cd_t ?_ | refine cd_f ?_ | refine cd_n (fun _ => ?_) (fun _ => ?_) | refine cd_b (fun _ => ?_) (fun _ => ?_))
    | refine th_normal ?_
    | refine th_ret ?_
    | refine th_exit ?_
    | refine th_pan ?_
    | refine bl_normal ?_
    | refine bl_exit ?_
    | refine bl_pass rfl ?_
    | refine bl_ret ?_
    | refine bl_pan ?_
    | (show retQ ..; first | refine rt_ret ?_ | refine rt_normal ?_)
    | refine rs_some ?_)
    all_goals (rw [hp])
theorem at_csat {a b : List PV} (ha : ∀ S, BdL S a) (hb : ∀ S, BdL S b) (g : FuncId) (hg : entersP Try.prog g = true) (f : Mp → Int) (l : List Mp) (n : Int) (hl : l.length ≤ 1000000) (hs : MonF f l)
    (hf : ∀ x ∈ l, CSat Try.prog g [.agg (Mp.enc x), .ptr 1 0] (heapL [(0, .box a), (1, .box b)]) 2 (fun out H' m' => out = .ret (.int .i64 (f x)) ∧ 2 ≤ m' ∧ ∀ i, i < 2 → H' i = heapL [(0, .box a), (1, .box b)] i)) :
    CSat Try.prog 74 [.sl (l.map Mp.enc), .int .i64 n, .fn (.func g) [] [.ptr 1 0]] (heapL [(0, .box a), (1, .box b)]) 2 (fun out H' m' => out = .ret (.int .i64 (posF f l n)) ∧ H' = heapL [(0, .box a), (1, .box b)] ∧ m' = 2) := by
  refine csatI (by kernel_rfl) Try.func74 Try.results74 rfl (by simp [Try.ntmps74]) (by kernel_rfl) ?_
  repeat' (first
    | (show pwOps ..; first | refine pops_nil ?_ | refine pops_n rfl ?_ | refine pops_w' rfl rfl ?_)
    | (show runGo ..; first | refine run_ev rfl rfl ?_ | refine run_call rfl ?_)
    | (show goOn ..; first | refine on_nop ?_ | refine on_new ?_ | refine on_put ?_ | refine on_born ?_ | refine on_grow ?_)
    | (show putGo ..; refine put_box ?_)
    | (show wGo ..; first | refine gw_tt ?_ | refine gw_ff ?_ | refine gw_tf ?_ | refine gw_ft ?_ | refine gw_u ?_ | refine gw_tn (fun _ => ?_) (fun _ => ?_) | refine gw_fn (fun _ => ?_) (fun _ => ?_) | refine gw_tb (fun _ => ?_) (fun _ => ?_) | refine gw_fb (fun _ => ?_) (fun _ => ?_))
    | (show dr ..; first | refine dr_nil ?_ | refine dr_n rfl ?_ | refine dr_w' rfl rfl ?_)
    | (show drGo ..; first | refine dr_ev rfl ?_ | refine dr_call rfl ?_)
    | (show drOn ..; first | refine dn_nop ?_ | refine dn_new ?_ | refine dn_put ?_ | refine dn_born ?_ | refine dn_grow ?_)
    | (show dputGo ..; refine dput_box ?_)
    | (refine And.intro (by kernel_rfl : okAll _ = true) ?_)
    | (show pwCode ..; first | refine pc_seq ?_ | refine pc_region ?_ | refine pc_draw (by kernel_rfl) ?_ | refine pc_ret ?_ | refine pc_skip ?_ | refine pc_block ?_ | refine pc_exit ?_ | refine pc_cond ?_)
    | (show condGo ..; first | refine cd_t ?_ | refine cd_f ?_ | refine cd_n (fun _ => ?_) (fun _ => ?_) | refine cd_b (fun _ => ?_) (fun _ => ?_))
    | refine th_normal ?_
    | refine th_ret ?_
    | refine th_exit ?_
    | refine th_pan ?_
    | refine bl_normal ?_
    | refine bl_exit ?_
    | refine bl_pass rfl ?_
    | refine bl_ret ?_
    | refine bl_pan ?_
    | (show retQ ..; first | refine rt_ret ?_ | refine rt_normal ?_)
    | refine rs_some ?_)
  have hLV := g2_lv1 (a := a) (b := b)
  refine pc_loopK (S := Nat × Nat) [(0, .box a), (1, .box b)] g2_1 (g2_2 ha hb) g2_3 (fun s => s.2 - s.1) (fun s => s.1 ≤ s.2 ∧ s.2 ≤ l.length ∧ (∀ k, k < s.1 → ∀ x, l[k]? = some x → f x < n) ∧ (∀ k, s.2 ≤ k → ∀ x, l[k]? = some x → ¬ f x < n)) (fun s => [(0, .sl (l.map Mp.enc)), (1, .int .i64 n), (2, .fn (.func g) [] [.ptr 1 0]), (7, .int .i64 s.1), (8, .int .i64 s.2)]) (0, l.length) ⟨Nat.zero_le _, Nat.le_refl _, fun k hk => absurd hk (Nat.not_lt_zero k), fun k hk x hx => absurd (len_lt hx) (by simp only at hk; omega)⟩ (Nat.le_refl _) (keepK_j (fun i _ => rfl) (by (repeat' (first | exact ke_nil | refine ke_cons (by (try simp only [go_sem, *]); try rfl) (by simp only [go_sem, *]) ?_)))) ?_
  rintro ⟨i, j⟩ ⟨hij, hj, h1, h2⟩
  simp only at hij hj h1 h2
  rcases Nat.lt_or_ge i j with hlt | hge
  · obtain ⟨x, hx⟩ := lt_len (by omega : (i + j) / 2 < l.length)
    have h0 := lt_true hlt
    obtain ⟨e1, e2⟩ := half_add (by omega : i ≤ l.length) hj hl
    have e4 := wrap_nat ((i + j) / 2) (by omega)
    have hfx := hf x (List.mem_of_getElem? hx)
    repeat' (first
    | (show pwOps ..; first | refine pops_nil ?_ | refine pops_n rfl ?_ | refine pops_w' rfl rfl ?_)
    | (show runGo ..; first | refine run_ev rfl rfl ?_ | refine run_call rfl ?_)
    | (show goOn ..; first | refine on_nop ?_ | refine on_new ?_ | refine on_put ?_ | refine on_born ?_ | refine on_grow ?_)
    | (show putGo ..; refine put_box ?_)
    | (show wGo ..; first | refine gw_tt ?_ | refine gw_ff ?_ | refine gw_tf ?_ | refine gw_ft ?_ | refine gw_u ?_ | refine gw_tn (fun _ => ?_) (fun _ => ?_) | refine gw_fn (fun _ => ?_) (fun _ => ?_) | refine gw_tb (fun _ => ?_) (fun _ => ?_) | refine gw_fb (fun _ => ?_) (fun _ => ?_))
    | (show dr ..; first | refine dr_nil ?_ | refine dr_n rfl ?_ | refine dr_w' rfl rfl ?_)
    | (show drGo ..; first | refine dr_ev rfl ?_ | refine dr_call rfl ?_)
    | (show drOn ..; first | refine dn_nop ?_ | refine dn_new ?_ | refine dn_put ?_ | refine dn_born ?_ | refine dn_grow ?_)
    | (show dputGo ..; refine dput_box ?_)
    | (refine And.intro (by kernel_rfl : okAll _ = true) ?_)
    | (show pwCode ..; first | refine pc_seq ?_ | refine pc_region ?_ | refine pc_draw (by kernel_rfl) ?_ | refine pc_ret ?_ | refine pc_skip ?_ | refine pc_block ?_ | refine pc_exit ?_ | refine pc_cond ?_)
    | (show condGo ..; first | refine cd_t ?_ | refine cd_f ?_ | refine cd_n (fun _ => ?_) (fun _ => ?_) | refine cd_b (fun _ => ?_) (fun _ => ?_))
    | refine th_normal ?_
    | refine th_ret ?_
    | refine th_exit ?_
    | refine th_pan ?_
    | refine bl_normal ?_
    | refine bl_exit ?_
    | refine bl_pass rfl ?_
    | refine bl_ret ?_
    | refine bl_pan ?_
    | (show retQ ..; first | refine rt_ret ?_ | refine rt_normal ?_)
    | refine rs_some ?_)
    refine call_csat hg hfx ?_ ?_
    case refine_2 => rintro p H' m' ⟨h, _⟩; cases h
    rintro r H' m' ⟨h, hm', hH'⟩
    cases h
    clear hfx
    repeat' (first
    | (show pwOps ..; first | refine pops_nil ?_ | refine pops_n rfl ?_ | refine pops_w' rfl rfl ?_)
    | (show runGo ..; first | refine run_ev rfl rfl ?_ | refine run_call rfl ?_)
    | (show goOn ..; first | refine on_nop ?_ | refine on_new ?_ | refine on_put ?_ | refine on_born ?_ | refine on_grow ?_)
    | (show putGo ..; refine put_box ?_)
    | (show wGo ..; first | refine gw_tt ?_ | refine gw_ff ?_ | refine gw_tf ?_ | refine gw_ft ?_ | refine gw_u ?_ | refine gw_tn (fun _ => ?_) (fun _ => ?_) | refine gw_fn (fun _ => ?_) (fun _ => ?_) | refine gw_tb (fun _ => ?_) (fun _ => ?_) | refine gw_fb (fun _ => ?_) (fun _ => ?_))
    | (show dr ..; first | refine dr_nil ?_ | refine dr_n rfl ?_ | refine dr_w' rfl rfl ?_)
    | (show drGo ..; first | refine dr_ev rfl ?_ | refine dr_call rfl ?_)
    | (show drOn ..; first | refine dn_nop ?_ | refine dn_new ?_ | refine dn_put ?_ | refine dn_born ?_ | refine dn_grow ?_)
    | (show dputGo ..; refine dput_box ?_)
    | (refine And.intro (by kernel_rfl : okAll _ = true) ?_)
    | (show pwCode ..; first | refine pc_seq ?_ | refine pc_region ?_ | refine pc_draw (by kernel_rfl) ?_ | refine pc_ret ?_ | refine pc_skip ?_ | refine pc_block ?_ | refine pc_exit ?_ | refine pc_cond ?_)
    | (show condGo ..; first | refine cd_t ?_ | refine cd_f ?_ | refine cd_n (fun _ => ?_) (fun _ => ?_) | refine cd_b (fun _ => ?_) (fun _ => ?_))
    | refine th_normal ?_
    | refine th_ret ?_
    | refine th_exit ?_
    | refine th_pan ?_
    | refine bl_normal ?_
    | refine bl_exit ?_
    | refine bl_pass rfl ?_
    | refine bl_ret ?_
    | refine bl_pan ?_
    | (show retQ ..; first | refine rt_ret ?_ | refine rt_normal ?_)
    | refine rs_some ?_)
    all_goals rename_i hc
    · refine againK ((i + j) / 2 + 1, j) ⟨by simp only; omega, hj, fun k hk y hy => ?_, h2⟩ (by simp only; omega) hm' hH' (by (repeat' (first | exact ke_nil | refine ke_cons (by (try simp only [go_sem, *]); try rfl) (by simp only [go_sem, *]) ?_)))
      simp only at hk
      rcases Nat.lt_or_ge k ((i + j) / 2) with h | h
      · have := hs k _ y x hy hx h; have := of_decide_eq_true hc; omega
      · obtain rfl : k = (i + j) / 2 := by omega
        rw [hx] at hy; cases hy; exact of_decide_eq_true hc
    · refine againK (i, (i + j) / 2) ⟨by simp only; omega, by simp only; omega, h1, fun k hk y hy => ?_⟩ (by simp only; omega) hm' hH' (by (repeat' (first | exact ke_nil | refine ke_cons (by (try simp only [go_sem, *]); try rfl) (by simp only [go_sem, *]) ?_)))
      simp only at hk
      have hc' := of_decide_eq_false hc
      rcases Nat.lt_or_ge ((i + j) / 2) k with h | h
      · have := hs _ k x y hx hy h; omega
      · obtain rfl : k = (i + j) / 2 := by omega
        rw [hx] at hy; cases hy; exact hc'
  · obtain rfl : i = j := by omega
    have h0 := lt_false hge
    have hp := posF_spot (f := f) hj h1 (h2 i (Nat.le_refl _))
    repeat' (first
    | (show pwOps ..; first | refine pops_nil ?_ | refine pops_n rfl ?_ | refine pops_w' rfl rfl ?_)
    | (show runGo ..; first | refine run_ev rfl rfl ?_ | refine run_call rfl ?_)
    | (show goOn ..; first | refine on_nop ?_ | refine on_new ?_ | refine on_put ?_ | refine on_born ?_ | refine on_grow ?_)
    | (show putGo ..; refine put_box ?_)
    | (show wGo ..; first | refine gw_tt ?_ | refine gw_ff ?_ | refine gw_tf ?_ | refine gw_ft ?_ | refine gw_u ?_ | refine gw_tn (fun _ => ?_) (fun _ => ?_) | refine gw_fn (fun _ => ?_) (fun _ => ?_) | refine gw_tb (fun _ => ?_) (fun _ => ?_) | refine gw_fb (fun _ => ?_) (fun _ => ?_))
    | (show dr ..; first | refine dr_nil ?_ | refine dr_n rfl ?_ | refine dr_w' rfl rfl ?_)
    | (show drGo ..; first | refine dr_ev rfl ?_ | refine dr_call rfl ?_)
    | (show drOn ..; first | refine dn_nop ?_ | refine dn_new ?_ | refine dn_put ?_ | refine dn_born ?_ | refine dn_grow ?_)
    | (show dputGo ..; refine dput_box ?_)
    | (refine And.intro (by kernel_rfl : okAll _ = true) ?_)
    | (show pwCode ..; first | refine pc_seq ?_ | refine pc_region ?_ | refine pc_draw (by kernel_rfl) ?_ | refine pc_ret ?_ | refine pc_skip ?_ | refine pc_block ?_ | refine pc_exit ?_ | refine pc_cond ?_)
    | (show condGo ..; first | refine cd_t ?_ | refine cd_f ?_ | refine cd_n (fun _ => ?_) (fun _ => ?_) | refine cd_b (fun _ => ?_) (fun _ => ?_))
    | refine th_normal ?_
    | refine th_ret ?_
    | refine th_exit ?_
    | refine th_pan ?_
    | refine bl_normal ?_
    | refine bl_exit ?_
    | refine bl_pass rfl ?_
    | refine bl_ret ?_
    | refine bl_pan ?_
    | (show retQ ..; first | refine rt_ret ?_ | refine rt_normal ?_)
    | refine rs_some ?_)
    all_goals (rw [hp]; exact ⟨rfl, rfl, rfl⟩)
end Go.Proofs.Ytggkjfllbfcagaa
