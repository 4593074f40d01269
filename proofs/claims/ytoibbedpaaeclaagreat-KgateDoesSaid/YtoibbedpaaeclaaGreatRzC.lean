import Derived.Test.YtoibbedpaaeclaaGreatRzB
import Derived.Test.YtoibbedpaaeclaaGreatRzA
import Derived.Test.YtoibbedpaaeclaaGreatRz9
import Derived.Test.YtoibbedpaaeclaaGreatRz3
section
namespace Go.Proofs.YtoibbedpaaeclaaGreat
open Go Go.RowKit
set_option linter.unusedVariables false
set_option linter.unusedSimpArgs false
set_option maxHeartbeats 16000000
set_option maxRecDepth 100000
@[go_sem] theorem nilz_U : nilz Tryz.prog 23 = true := by kernel_rfl
@[go_sem] theorem cells_view (w : Wd) : PV.cells? (.agg (Wd.enc w)) = some (Wd.enc w) := rfl
@[go_sem] theorem cut_onil : cut Tryz.prog 23 [.nilsl] 0 = some .nilsl := by kernel_rfl
@[go_sem] theorem cut_ogr (i k : Nat) : cut Tryz.prog 23 [.gr i k] 0 = some (.gr i k) := by kernel_rfl
theorem heap14 (a b r : HE) : hset (hset (q1g [(1, a)]) 4 (some r)) 1 (some b) = q1g [(1, b), (4, r)] := by
  funext i
  unfold hset
  rw [q3j, q3j, q3j]
  by_cases h1 : i = 1 <;> by_cases h4 : i = 4 <;> simp [h1, h4]
theorem heap14' (a b r r' : HE) : hset (hset (q1g [(1, a), (4, r)]) 4 (some r')) 1 (some b) = q1g [(1, b), (4, r')] := by
  funext i
  unfold hset
  rw [q3j, q3j, q3j, q3j]
  by_cases h1 : i = 1 <;> by_cases h4 : i = 4 <;> simp [h1, h4]
attribute [local irreducible] q0i dr q0d Ex.then Ex.inBlock retQ q1l q2j q2g Pure CSat evOp q1i rdOf upd hset strip sp0 cut envL q1g q3q Keep BdL evBs q2s q3c
theorem holders_make {H : Heap} {m : Nat} (w : Wd) (id : Int) : CSat Tryz.prog 269 [.agg (Wd.enc w), .int .u64 id] H m (fun out H' m' => out = .ret (.fn (.func 298) [] [.ptr m 0, .ptr (m + 1) 0]) ∧ m' = m + 2 ∧ H' = hset (hset H m (some (.box (Wd.enc w)))) (m + 1) (some (.box [.int .u64 id]))) := by
  refine q4u (by kernel_rfl) Tryz.func269 Tryz.results269 rfl (by simp [Tryz.ntmps269]) (by kernel_rfl) ?_
  repeat' (first | (show q0i ..; first | refine q0c ?_ | refine q0e rfl ?_) | (show q0k ..; refine q0f rfl rfl ?_) | (show goOn ..; first | refine q0g ?_ | refine q1d ?_) | (show q0d ..; first | refine q0h ?_ | refine q0b ?_ | refine q0r ?_) | refine q0a ?_ | (show retQ ..; refine q0s ?_) | refine q0l ?_)
  exact ⟨rfl, rfl, rfl⟩
theorem snd_links {o : Ob} (hs : sound o = true) (hk : (o.kind == 2) = false) : o.links = [] := by
  unfold sound q6h at hs
  have e : (q6q o).links = [] := by
    unfold q6q
    rw [hk]
    repeat' split
    all_goals first | rfl | (rename_i h; cases h)
  simp only [q8j, Bool.and_eq_true, decide_eq_true_eq] at hs
  rw [← hs.1.2.2.2.2.2.2.2.1, e]
theorem links_ris {w : Wd} (g : Good w) {x : Ob} (hx : x ∈ w.objects) : RisU x.links ∧ x.links.length ≤ 1000000 := by
  refine ⟨?_, by have := (g.few.ob x hx).2.1; omega⟩
  have hs := q6n (q7z g.fit) hx
  cases hk : (x.kind == 2) with
  | true => exact okay_links ⟨(g.few.ob x hx).1, .inl hs⟩ hk
  | false =>
    rw [snd_links hs hk]
    intro i j a b h
    simp at h
theorem tree_holders (w : Wd) (id : Int) (g : Good w) : Pure Tryz.prog 230 [.agg (Wd.enc w), .int .u64 id] (.sl ((q2w w id).map u64)) := by
  have hs : ∀ x ∈ w.objects, RisU x.links ∧ x.links.length ≤ 1000000 := fun x hx => links_ris g hx
  have hit := holders_iter w id (by have := g.few.n; omega) hs
  have hxl : (q2w w id).length ≤ 24 := Nat.le_trans (q7t w id) g.few.n
  have hres : (.sl ((q2w w id).map u64) : PV) = .sl (((q2w w id).take (q2w w id).length).map u64) := by rw [List.take_length]
  rw [hres]
  generalize q2w w id = xs at hit hxl ⊢
  refine pure_range (encs := fun y : Int => .int .u64 y) (pvs := fun y => .int .u64 y) (xs := xs) (gf := 298) (by kernel_rfl) (by simp only [go_sem]) Tryz.func230 Tryz.results230 rfl (.more (.more .l)) (enters_of Tryz.func298 (by kernel_rfl) rfl) (by simp [Tryz.ntmps230]) (by kernel_rfl) (by kernel_rfl) (by kernel_rfl) (by kernel_rfl) (by kernel_rfl) (by kernel_rfl) (by kernel_rfl) (by simp [Tryz.ntmps230]) (fun y w M σ L => .int _ _) ?_
  repeat' (first | (show q0i ..; first | refine q0c ?_ | refine q0e rfl ?_) | (show q0k ..; first | (refine run_gr rfl rfl rfl ?_; first | refine q1d ?_ | (refine q1x ?_; refine q1h ?_)) | refine q0f rfl rfl ?_ | refine q0m rfl ?_) | (show goOn ..; first | refine q0g ?_ | refine q1d ?_) | (show q0d ..; first | refine q0h ?_ | refine q0b ?_) | refine q0a ?_)
  (refine q0w (by kernel_rfl) (holders_make _ _) ?_ ?_)
  case refine_2 => rintro p H' m' ⟨h, _⟩; cases h
  rintro r H' m' ⟨h, rfl, rfl⟩
  cases h
  repeat' (first | (show q0i ..; refine q0c ?_))
  refine ⟨rfl, [.ptr 2 0, .ptr 3 0], q1g (hlG w id), q1g [(1, .box [.nilsl])], envL [(5, .ptr 1 0)], fun k H m => (k = 0 ∧ H = q1g [(1, .box [.nilsl])] ∧ m = 4) ∨ (0 < k ∧ H = q1g [(1, .box [.gr 4 k]), (4, .row 22 1 ((xs.take k).map u64))] ∧ m = 5), fun _ _ => False, ?_, hit, ?_, ?_, ?_, ?_, ?_, ?_, ?_⟩
  · simp only [go_sem]
  · refine parts_L (nr_box (nr_box (nr_box (nr_box nr_nil)))) ?_ ?_ ?_ (hlG_ok w id).b ?_
    · unfold hlG; intro x hx; simp only [List.mem_cons, List.not_mem_nil, or_false] at hx; rcases hx with rfl | rfl <;> simp only [go_sem]
    · intro x hx; simp only [List.mem_cons, List.not_mem_nil, or_false] at hx; subst hx; simp only [go_sem]
    · unfold hlG; intro x hx y hy; simp only [List.mem_cons, List.not_mem_nil, or_false] at hx hy; subst hy; rcases hx with rfl | rfl <;> simp
    · intro i l h
      rw [q3j] at h
      split at h
      · cases h; intro p hp; simp at hp; subst hp; exact .nilsl
      · simp only [go_sem, reduceCtorEq] at h
  · refine env_ke ?_
    (repeat' (first | exact q0v | refine q0p (by (try simp only [go_sem, *]); try rfl) (by simp only [go_sem, *]) ?_))
  · unfold hlG; simp only [go_sem]
  · exact .inl ⟨rfl, rfl, rfl⟩
  · rintro k y H m hy (⟨rfl, rfl, rfl⟩ | ⟨hk, rfl, rfl⟩)
    · have e1 : xs.take (0 + 1) = [y] := by rw [q3u hy]; rfl
      repeat' (first | (show q0i ..; first | refine q0c ?_ | refine q0e rfl ?_) | (show q0k ..; refine q0f rfl rfl ?_) | (show goOn ..; refine q0g ?_) | (show q0d ..; refine q0b ?_))
      refine ⟨rfl, ?_⟩
      repeat' (first | (show q0i ..; first | refine q0c ?_ | refine q0e rfl ?_) | (show q0k ..; first | (refine run_gr rfl rfl rfl ?_; first | refine q1d ?_ | (refine q1x ?_; refine q1h ?_)) | refine q0f rfl rfl ?_) | (show goOn ..; first | refine q0g ?_ | refine q5g ?_) | (show q0d ..; first | refine q0b ?_ | refine q0n ?_) | refine q0t ?_)
      refine .inl ⟨rfl, .inr ⟨by omega, ?_, rfl⟩⟩
      rw [e1]
      exact heap14 _ _ _
    · have e1 := q3u hy
      have hlt := q3y hy
      have l1 : (xs.take k).length = k := by rw [List.length_take]; omega
      have l2 : ((xs.take k).map u64).length = k := by rw [List.length_map]; exact l1
      have l3 : ((k + 1) * 8 ≤ 140737488355328) = True := q8a (by omega) (by decide)
      have l4 : (k + 1 ≤ maxLen) = True := q6p (by omega)
      have l5 : ((xs.take k ++ [y]).length = k + 1) = True := eq_true (by rw [List.length_append, l1]; rfl)
      repeat' (first | (show q0i ..; first | refine q0c ?_ | refine q0e rfl ?_) | (show q0k ..; refine q0f rfl rfl ?_) | (show goOn ..; refine q0g ?_) | (show q0d ..; refine q0b ?_))
      refine ⟨rfl, ?_⟩
      repeat' (first | (show q0i ..; first | refine q0c ?_ | refine q0e rfl ?_) | (show q0k ..; first | (refine run_gr rfl rfl rfl ?_; first | refine q1d ?_ | (refine q1x ?_; refine q1h ?_)) | refine q0f rfl rfl ?_) | (show goOn ..; first | refine q0g ?_ | refine q4z ?_) | (show q0d ..; first | refine q0b ?_ | refine q0n ?_) | refine q0t ?_)
      refine .inl ⟨rfl, .inr ⟨by omega, ?_, rfl⟩⟩
      rw [e1]
      exact heap14' _ _ _ _
  · rintro H m (⟨hk, rfl, rfl⟩ | ⟨hk, rfl, rfl⟩)
    · have : xs = [] := List.eq_nil_of_length_eq_zero hk
      subst this
      repeat' (first | (show q0i ..; first | refine q0c ?_ | refine q0e rfl ?_) | (show q0k ..; refine q0f rfl rfl ?_) | (show goOn ..; refine q0g ?_) | (show q0d ..; first | refine q0h ?_ | refine q0b ?_ | refine q0r ?_) | refine q0a ?_ | (show retQ ..; refine q0s ?_) | refine q0l ?_)
      exact fz_same (by simp only [go_sem])
    · have l1 : (xs.take xs.length).length = xs.length := by rw [List.take_length]
      have l2 : ((xs.take xs.length).map u64).length = xs.length := by rw [List.length_map]; exact l1
      repeat' (first | (show q0i ..; first | refine q0c ?_ | refine q0e rfl ?_) | (show q0k ..; refine q0f rfl rfl ?_) | (show goOn ..; refine q0g ?_) | (show q0d ..; first | refine q0h ?_ | refine q0b ?_ | refine q0r ?_) | refine q0a ?_ | (show retQ ..; refine q0s ?_) | refine q0l ?_)
      exact fz_same (by simp only [go_sem])
  · exact fun H m h => h.elim
end Go.Proofs.YtoibbedpaaeclaaGreat
end

section
namespace Go.Proofs.YtoibbedpaaeclaaGreat
open Go Go.RowKit
set_option linter.unusedVariables false
set_option linter.unusedSimpArgs false
theorem VR.bds {w : World} {M σ L} {v : Value} {p : PV} (h : VR w M σ L v p) : Bd L p := by
  have key : ∀ {cs : List Value} {l : List PV}, cs.length = l.length → (∀ (i : Nat) (v : Value) (p : PV), cs[i]? = some v → l[i]? = some p → Bd L p) → ∀ p ∈ l, Bd L p := fun {cs l} hl ih p hp => by
    obtain ⟨i, hi⟩ := List.getElem?_of_mem hp
    have hlt := (List.getElem?_eq_some_iff.1 hi).1
    exact ih i _ p (List.getElem?_eq_getElem (by omega)) hi
  induction h with
  | any v => exact .any
  | undef => exact .undef
  | nilif => exact .nilif
  | nilfn => exact .nilfn
  | nilsl A => exact .nilsl
  | bool b => exact .bool b
  | int k n => exact .int k n
  | str s => exact .str s
  | agg cs l hl h1 h ih => exact .agg l (key hl ih)
  | tup cs l hl h ih => exact .tup l (key hl ih)
  | sl0 A cap => exact .sl [] (fun e he => by cases he)
  | sl b o sz cap els hc hs f hcell h ih =>
    refine .sl els (fun e he p hp => ?_)
    have : p ∈ els.flatten := List.mem_flatten.2 ⟨e, he, hp⟩
    obtain ⟨q, hq⟩ := List.getElem?_of_mem this
    exact ih q p hq
  | gr id k v h0 hle hL hv => exact .gr id k hL
  | ref b o l f hcell h ih =>
    refine .ref l (fun p hp => ?_)
    obtain ⟨q, hq⟩ := List.getElem?_of_mem hp
    exact ih q p hq
  | ptr id off hL h0 => exact .ptr id off hL
  | fn f fs cs l1 l2 hl1 hl2 h1 h2 ih1 ih2 => exact .fn f l1 l2 (key hl1 ih1) (key hl2 ih2)
  | ifc t v p h ih => exact .ifc t p ih
  | bs id n e sz hL h0 hc hty hsz => exact .bs id n e sz hL
  | bz => exact .bz
  | c0 A => exact .c0
/-- What is known of boxes when a function begins. -/
structure HK (H : Heap) (m : Nat) : Prop where
  free : ∀ i, m ≤ i → H i = none
  box : ∀ i l, H i = some (.box l) → ∀ p ∈ l, Bd (LV H) p
  row : ∀ i e sz els, H i = some (.row e sz els) → ∀ x ∈ els, ∀ p ∈ x, Bd (LV H) p
theorem csat_known {P : Program} {f : FuncId} {args : List PV} {H : Heap} {m : Nat} {Q : Out → Heap → Nat → Prop} (h : HK H m → CSat P f args H m Q) : CSat P f args H m Q := fun w M0 σ vs h1 h2 h3 => by
  refine h ⟨h2, fun i l hl p hp => ?_, fun i e sz els hl x hx p hp => ?_⟩ w M0 σ vs h1 h2 h3
  · obtain ⟨_, c, t, _, _, h4⟩ := h1.box i l hl
    obtain ⟨j, hj⟩ := List.getElem?_of_mem hp
    have hlt := (List.getElem?_eq_some_iff.1 hj).1
    exact (h4.rel j _ p (List.getElem?_eq_getElem (by rw [h4.len]; exact hlt)) hj).bds
  · obtain ⟨_, _, _, xs, _, h4⟩ := h1.row i e sz els hl
    obtain ⟨j, hj⟩ := List.getElem?_of_mem (List.mem_flatten.2 ⟨x, hx, hp⟩ : p ∈ els.flatten)
    have hlt := (List.getElem?_eq_some_iff.1 hj).1
    exact (h4.rel j _ p (List.getElem?_eq_getElem (by rw [h4.len]; exact hlt)) hj).bds
def KeepH (m0 : Nat) (G : Heap) (env : Env) (H : Heap) (E : List (Nat × PV)) : Prop := (∀ i, i < m0 → H i = G i) ∧ KE (LV G) env E
def AgainH {S : Type} (m0 : Nat) (G : Heap) (μ : S → Nat) (Inv : S → Prop) (E : S → List (Nat × PV)) (s : S) (env : Env) (H : Heap) (m : Nat) : Prop := ∃ s', μ s' < μ s ∧ Inv s' ∧ m0 ≤ m ∧ KeepH m0 G env H (E s')
theorem pc_loopH {P : Program} {x : Code} {Q : Ex → Env → Heap → Nat → Prop} {env : Env} {H : Heap} {m m0 : Nat} {S : Type} (G : Heap) (hG : HK G m0)
    (μ : S → Nat) (Inv : S → Prop) (E : S → List (Nat × PV)) (s0 : S) (h0 : Inv s0) (hm : m0 ≤ m) (hk : KeepH m0 G env H (E s0)) (hr : ∀ s, Inv s → q0d P m0 x (Ex.then (AgainH m0 G μ Inv E s) Q) (envL (E s)) G m0) : q0d P m0 (.loop x) Q env H m := by
  have wk : ∀ {env : Env} {H : Heap} {m : Nat} {s : S}, m0 ≤ m → KeepH m0 G env H (E s) → Wk m0 env H m (envL (E s)) G m0 := by
    rintro env H m s hm ⟨h1, h2⟩
    refine ⟨Nat.le_refl _, fun i => ?_, hG.free, fun t => ?_, hG.box, hG.row⟩
    · by_cases hi : i < m0
      · exact .inl (h1 i hi).symm
      · exact .inr ⟨Nat.le_of_not_lt hi, hG.free i (Nat.le_of_not_lt hi)⟩
    · unfold envL
      split
      · rename_i x hx
        have h4 := List.find?_some hx
        have h5 := List.mem_of_find?_eq_some hx
        have : x.1 = t := by simpa using h4
        subst this
        obtain ⟨h6, h7⟩ := h2 x h5
        exact .inr ⟨h6.symm, by rw [h6]; exact h7⟩
      · exact .inl rfl
  refine ⟨fun n env H m => ∃ s, μ s = n ∧ Inv s ∧ env = envL (E s) ∧ H = G ∧ m = m0, μ s0, ⟨_, _, _, wk hm hk, s0, rfl, h0, rfl, rfl, rfl⟩, ?_⟩
  rintro n env H m ⟨s, rfl, hs, rfl, rfl, rfl⟩
  have := hr s hs
  refine q9y (fun ex env' H' m' hq => ?_) x this
  cases ex with
  | normal =>
    obtain ⟨s', h1, h2, h3, h4⟩ := hq
    exact ⟨μ s', h1, _, _, _, wk h3 h4, s', rfl, h2, rfl, rfl, rfl⟩
  | exit i => exact hq
  | ret => exact hq
  | pan v => exact hq
theorem againH {S : Type} {m0 : Nat} {G : Heap} {μ : S → Nat} {Inv : S → Prop} {E : S → List (Nat × PV)} {s : S} {env : Env} {H : Heap} {m : Nat} (s' : S) (h2 : Inv s') (h1 : μ s' < μ s) (h3 : m0 ≤ m) (h4 : ∀ i, i < m0 → H i = G i) (h5 : KE (LV G) env (E s')) : AgainH m0 G μ Inv E s env H m := ⟨s', h1, h2, h3, h4, h5⟩
theorem keepH {m0 : Nat} {G : Heap} {env : Env} {H : Heap} {E : List (Nat × PV)} (h1 : ∀ i, i < m0 → H i = G i) (h2 : KE (LV G) env E) : KeepH m0 G env H E := ⟨h1, h2⟩
end Go.Proofs.YtoibbedpaaeclaaGreat
end

section
namespace Go.Proofs.YtoibbedpaaeclaaGreat.kgate
open Go Go.RowKit Go.Proofs.YtoibbedpaaeclaaGreat
set_option linter.unusedVariables false
set_option linter.unusedSimpArgs false
set_option maxHeartbeats 16000000
set_option maxRecDepth 100000
@[go_sem] theorem spl_Clr_reg3 (x : Clr) (v : Int) : splice (Clr.enc x) 11 [.int .u64 v] = Clr.enc { x with ob := { x.ob with thread := { x.ob.thread with regs := fun i => if i = 3 then v else x.ob.thread.regs i } } } := by kernel_rfl
@[go_sem] theorem spl_Ob_reg3 (x : Ob) (v : Int) : splice (Ob.enc x) 11 [.int .u64 v] = Ob.enc { x with thread := { x.thread with regs := fun i => if i = 3 then v else x.thread.regs i } } := by kernel_rfl
attribute [local irreducible] q0i dr q0d Ex.then Ex.inBlock retQ q1l q2j q2g Pure CSat evOp q1i rdOf upd hset strip sp0 cut envL q1g q3q Keep BdL evBs q2s q3c
theorem lab_yes {H : Heap} {m : Nat} (t : Ob) (w : Wd) (a : Nat → Int) (hb : H 7 = some (.box (Clr.enc ⟨t, w, a⟩))) (k : Nat) (hk : k = 2 ∨ k = 3) (h0 : 0 ≤ a k) (h1 : a k < 4) :
    CSat Tryz.prog 172 [.ptr 7 0, .int .i64 k] H m (fun out H' m' => out = .ret (.sl ((la t a k).map Pr.enc)) ∧ H' = H ∧ m' = m) := by
  have h4 : decide (a k < 4) = true := decide_eq_true h1
  have hv : a k = 0 ∨ a k = 1 ∨ a k = 2 ∨ a k = 3 := by omega
  unfold la
  rcases hk with rfl | rfl <;> rcases hv with hv | hv | hv | hv
  all_goals
    rw [hv] at h4
    refine q4u (by kernel_rfl) Tryz.func172 Tryz.results172 rfl (by simp [Tryz.ntmps172]) (by kernel_rfl) ?_
    repeat' (first | (show q0i ..; first | refine q0c ?_ | refine q0e rfl ?_) | (show q0k ..; first | refine q0f rfl rfl ?_ | refine q0m rfl ?_) | (show goOn ..; refine q0g ?_) | (show q0d ..; first | refine q0h ?_ | refine q0b ?_) | refine q0a ?_)
    (refine q0w (by kernel_rfl) (must_yes _ _ _) ?_ ?_)
    case refine_2 => rintro p H' m' ⟨⟨_, h⟩, _⟩; cases h
    rintro r H' m' ⟨⟨_, h⟩, rfl, rfl⟩
    clear h
    repeat' (first | (show q0i ..; refine q0c ?_) | (show dr ..; first | refine q1y ?_ | refine dr_n rfl ?_) | (show drGo ..; refine q3b rfl ?_) | (show drOn ..; refine q1z ?_) | (refine And.intro (by kernel_rfl : q1l _ = true) ?_) | (show q0d ..; first | refine q0h ?_ | refine q1k (by kernel_rfl) ?_ | refine q0r ?_) | refine q0a ?_ | (show retQ ..; refine q0s ?_) | refine q0l ?_)
    rw [hv]
    exact ⟨rfl, rfl, rfl⟩
theorem lab_no {H : Heap} {m : Nat} (t : Ob) (w : Wd) (a : Nat → Int) (hb : H 7 = some (.box (Clr.enc ⟨t, w, a⟩))) (k : Nat) (hk : k = 2 ∨ k = 3) (h1 : decide (a k < 4) = false) :
    CSat Tryz.prog 172 [.ptr 7 0, .int .i64 k] H m (fun out H' m' => out = .pan (thr 4) ∧ H' = H ∧ m' = m) := by
  rcases hk with rfl | rfl
  all_goals
    refine q4u (by kernel_rfl) Tryz.func172 Tryz.results172 rfl (by simp [Tryz.ntmps172]) (by kernel_rfl) ?_
    repeat' (first | (show q0i ..; first | refine q0c ?_ | refine q0e rfl ?_) | (show q0k ..; first | refine q0f rfl rfl ?_ | refine q0m rfl ?_) | (show goOn ..; refine q0g ?_) | (show q0d ..; first | refine q0h ?_ | refine q0b ?_) | refine q0a ?_)
    (refine q0w (by kernel_rfl) (must_no _ _ _) ?_ ?_)
    case refine_1 => rintro r H' m' ⟨h, _⟩; cases h
    rintro p H' m' ⟨h, rfl, rfl⟩
    cases h
    repeat' (first | refine q4k ?_ | refine q4y ?_ | refine q4w ?_)
    exact ⟨rfl, rfl, rfl⟩
theorem lies_csat {H : Heap} {m : Nat} (t : Ob) (w : Wd) (a : Nat → Int) (hb : H 7 = some (.box (Clr.enc ⟨t, w, a⟩))) (l : List Pr) (hm : 8 ≤ m) (g : Good w) (hl : q3k l = true) (hll : l.length ≤ 16) :
    CSat Tryz.prog 177 [.ptr 7 0, .sl (l.map Pr.enc)] H m (fun out H' m' => (liesR w t.id l = true → ∃ r, out = .ret r) ∧ (liesR w t.id l = false → out = .pan (thr 2)) ∧ m ≤ m' ∧ ∀ j, j < m → H' j = H j) := by
  have hwd := q7z g.fit
  have hh := tree_holders w t.id g
  have hlen : (q2w w t.id).length ≤ 24 := Nat.le_trans (q7t w t.id) g.few.n
  have n7 : (7 = m) = False := eq_false (by omega)
  have L7 : LV H 7 = True := eq_true (by unfold LV; rw [hb]; simp)
  have hpl := fun x => place_p g x hl hll
  refine csat_known (fun hK => ?_)
  refine q4u (by kernel_rfl) Tryz.func177 Tryz.results177 rfl (by simp [Tryz.ntmps177]) (by kernel_rfl) ?_
  repeat' (first | (show dr ..; first | refine q1y ?_ | refine dr_n rfl ?_) | (show drGo ..; first | refine q3b rfl ?_ | refine q2l rfl ?_) | (show drOn ..; refine q1z ?_) | (show q2h ..; (refine q1f (r := ?_) ?_ ?_; rotate_left 1; (focus exact hh))) | (refine And.intro (by kernel_rfl : q1l _ = true) ?_) | (show q0d ..; first | refine q0h ?_ | refine q1k (by kernel_rfl) ?_ | refine q0n ?_) | refine q0a ?_)
  refine pc_loopH H hK (S := Nat) (fun n => (q2w w t.id).length - n) (fun n => n ≤ (q2w w t.id).length ∧ ∀ j, j < n → liesAt w t.id l j = true) (fun n => [(0, .ptr 7 0), (1, .sl (l.map Pr.enc)), (17, .sl ((q2w w t.id).map u64)), (18, .int .i64 (q2w w t.id).length), (19, .int .i64 n)]) 0 ⟨Nat.zero_le _, fun j hj => absurd hj (Nat.not_lt_zero j)⟩ (Nat.le_refl _) (keepH (fun i _ => rfl) (by (repeat' (first | exact q0v | refine q0p (by (try simp only [go_sem, *]); try rfl) (by simp only [go_sem, *]) ?_)))) ?_
  rintro n ⟨hn, hs⟩
  rcases Nat.lt_or_ge n (q2w w t.id).length with hlt | hge
  · obtain ⟨x, hx⟩ := q2f hlt
    have h0 := q2k hlt
    have h4 := q2e n (by omega)
    have hfd := find_p g.few g.fit x
    have hpx := hpl x
    have e : liesAt w t.id l n = q6w (q2p w x).1.label l := by unfold liesAt; rw [hx]
    cases hv : q6w (q2p w x).1.label l with
    | true =>
      rw [hv] at hpx
      repeat' (first | (show q0i ..; first | refine q0c ?_ | refine q0e rfl ?_) | (show q0k ..; first | refine q0f rfl rfl ?_ | refine q0m rfl ?_) | (show goOn ..; first | refine q0g ?_ | refine q1d ?_ | refine q1x ?_) | (show q3f ..; refine q1h ?_) | (show q1j ..; (refine q0u (r := ?_) ?_ ?_; rotate_left 1; (focus first | exact hfd | exact hpx))) | (show q0d ..; first | refine q0h ?_ | refine q0b ?_ | refine q0q ?_ | refine q0n ?_ | refine q0j ?_) | (show q0o ..; refine cd_t ?_) | refine q0a ?_)
      (refine q0w (by kernel_rfl) (must_yes _ _ _) ?_ ?_)
      case refine_2 => rintro p H' m' ⟨⟨_, h⟩, _⟩; cases h
      rintro r H' m' ⟨⟨_, h⟩, rfl, rfl⟩
      clear h
      repeat' (first | (show q0i ..; first | refine q0c ?_ | refine q0e rfl ?_) | (show q0k ..; refine q0f rfl rfl ?_) | (show goOn ..; refine q0g ?_) | (show q0d ..; refine q0b ?_) | refine q0a ?_ | refine q0t ?_)
      exact againH (n + 1) ⟨by omega, q5d hs (by rw [e, hv])⟩ (by omega) (by omega) (fun i hi => by repeat rw [q1a _ _ (by omega)]) (by (repeat' (first | exact q0v | refine q0p (by (try simp only [go_sem, *]); try rfl) (by simp only [go_sem, *]) ?_)))
    | false =>
      rw [hv] at hpx
      repeat' (first | (show q0i ..; first | refine q0c ?_ | refine q0e rfl ?_) | (show q0k ..; first | refine q0f rfl rfl ?_ | refine q0m rfl ?_) | (show goOn ..; first | refine q0g ?_ | refine q1d ?_ | refine q1x ?_) | (show q3f ..; refine q1h ?_) | (show q1j ..; (refine q0u (r := ?_) ?_ ?_; rotate_left 1; (focus first | exact hfd | exact hpx))) | (show q0d ..; first | refine q0h ?_ | refine q0b ?_ | refine q0q ?_ | refine q0n ?_ | refine q0j ?_) | (show q0o ..; refine cd_t ?_) | refine q0a ?_)
      (refine q0w (by kernel_rfl) (must_no _ _ _) ?_ ?_)
      case refine_1 => rintro r H' m' ⟨h, _⟩; cases h
      rintro p H' m' ⟨h, rfl, rfl⟩
      cases h
      repeat' (first | refine q4k ?_ | refine q4y ?_ | refine q4w ?_)
      refine ⟨fun h => ?_, fun _ => rfl, by omega, fun j hj => by repeat rw [q1a _ _ (by omega)]⟩
      rw [show liesR w t.id l = false from q2o hlt (by rw [e, hv])] at h; cases h
  · have h0 := q1w hge
    repeat' (first | (show q0i ..; first | refine q0c ?_ | refine q0e rfl ?_) | (show q0k ..; refine q0f rfl rfl ?_) | (show goOn ..; refine q0g ?_) | (show q0d ..; first | refine q0h ?_ | refine q0b ?_ | refine q1q ?_ | refine q0j ?_) | (show q0o ..; refine cd_f ?_) | refine q0a ?_ | refine q1p ?_ | refine q1r ?_ | (show retQ ..; refine x0k ?_) | refine q0l ?_)
    refine ⟨fun _ => ⟨_, rfl⟩, fun h => ?_, Nat.le_refl _, fun j _ => rfl⟩
    rw [show liesR w t.id l = true from q2m fun j hj => hs j (by omega)] at h; cases h
theorem gate_ok {w : Wd} (g : Good w) {t : Ob} {a : Nat → Int} (h : ((q6m w t a).2 == 0) = true) : kept (q6m w t a).1.gate.grant = true ∧ kept (q6m w t a).1.gate.clear = true := by
  have h1 : (q6m w t a).1 ∈ w.objects := (see_in g.fit h).1
  have hk : ((q6m w t a).1.kind == 5) = true := by
    unfold q6m seeR at h ⊢
    split at h
    · rename_i h1
      rw [if_pos h1]
      split at h
      · rename_i h2
        rw [if_pos h2]
        split at h
        · rename_i h3; rw [if_pos h3]; simpa using h2
        · cases h
      · cases h
    · rename_i h1; exact absurd h h1
  have hs := q6n (q7z g.fit) h1
  have hk' : (q6m w t a).1.kind = 5 := by simpa using hk
  have e : inner (q6m w t a).1 = (kept (q6m w t a).1.gate.grant && (kept (q6m w t a).1.gate.clear && leqR (q6m w t a).1.gate.grant (q6m w t a).1.gate.clear)) := by
    unfold inner; rw [hk']; rfl
  unfold sound at hs
  rw [e] at hs
  simp only [Bool.and_eq_true] at hs
  exact ⟨hs.2.2.1, hs.2.2.2.1⟩
theorem enter_csat {H : Heap} (t : Ob) (w : Wd) (a : Nat → Int) (hb : H 7 = some (.box (Clr.enc ⟨t, w, a⟩))) (g : Good w) (ht : t ∈ w.objects) (hk : t.kind = 4) (ha : ∀ i, i < 7 → 0 ≤ a i) :
    CSat Tryz.prog 122 [.ptr 7 0] H 8 (fun out H' m' => (((q5s w t a).2.2.1 == 0) = true → out = .ret (.int .u64 (q5s w t a).2.1) ∧ ∃ t', H' 7 = some (.box (Clr.enc ⟨t', (q5s w t a).1, a⟩))) ∧ (((q5s w t a).2.2.1 == 0) = false → out = .pan (thr (q5s w t a).2.2.1)) ∧ 8 ≤ m' ∧ ∀ j, j < 7 → H' j = H j) := by
  have hwd := q7z g.fit
  have hT := thr_of (q6n hwd ht) hk
  have l1 := q4m hT.lab
  have f1 := q6a hT.lab
  have hcl := thr_clear hT.fit
  have f2 := q6a hcl.1
  have l2 := q4m hcl.1
  have hsee := reach_see w t ⟨a 0, a 1⟩ 5 g.few hwd f1 (by omega)
  have hput := fun o => put_c w o (q5n hwd).1 (by have := g.few.n; omega)
  have a2 := ha 2 (by decide)
  have a3 := ha 3 (by decide)
  have hgate := gate_ok (t := t) (a := a) g
  clear hk
  unfold q5s mayR
  unfold q6m at hgate ⊢
  cases h2 : decide (a 2 < 4) with
  | false =>
    simp only [Bool.false_and, Bool.false_eq_true, if_false]
    refine q4u (by kernel_rfl) Tryz.func122 Tryz.results122 rfl (by simp [Tryz.ntmps122]) (by kernel_rfl) ?_
    repeat' (first | (show q0i ..; first | refine q0c ?_ | refine q0e rfl ?_) | (show q0k ..; first | refine q0f rfl rfl ?_ | refine q0m rfl ?_) | (show goOn ..; refine q0g ?_) | (show q0d ..; first | refine q0h ?_ | refine q0b ?_) | refine q0a ?_)
    (refine q0w (by kernel_rfl) (lab_no t w a hb 2 (.inl rfl) h2) ?_ ?_)
    case refine_1 => rintro r H' m' ⟨h, _⟩; cases h
    rintro p H' m' ⟨h, rfl, rfl⟩
    cases h
    repeat' (first | refine q4k ?_ | refine q4y ?_ | refine q4w ?_)
    exact ⟨(fun h => by cases h), (fun _ => rfl), Nat.le_refl _, fun _ _ => rfl⟩
  | true =>
  cases h3 : decide (a 3 < 4) with
  | false =>
    simp only [Bool.and_false, Bool.false_eq_true, if_false]
    refine q4u (by kernel_rfl) Tryz.func122 Tryz.results122 rfl (by simp [Tryz.ntmps122]) (by kernel_rfl) ?_
    repeat' (first | (show q0i ..; first | refine q0c ?_ | refine q0e rfl ?_) | (show q0k ..; first | refine q0f rfl rfl ?_ | refine q0m rfl ?_) | (show goOn ..; refine q0g ?_) | (show q0d ..; first | refine q0h ?_ | refine q0b ?_) | refine q0a ?_)
    (refine q0w (by kernel_rfl) (lab_yes t w a hb 2 (.inl rfl) a2 (of_decide_eq_true h2)) ?_ ?_)
    case refine_2 => rintro p H' m' ⟨h, _⟩; cases h
    rintro r H' m' ⟨h, rfl, rfl⟩
    cases h
    repeat' (first | (show q0i ..; refine q0e rfl ?_) | (show q0k ..; first | refine q0f rfl rfl ?_ | refine q0m rfl ?_) | (show goOn ..; refine q0g ?_))
    (refine q0w (by kernel_rfl) (lab_no t w a hb 3 (.inr rfl) h3) ?_ ?_)
    case refine_1 => rintro r H' m' ⟨h, _⟩; cases h
    rintro p H' m' ⟨h, rfl, rfl⟩
    cases h
    repeat' (first | refine q4k ?_ | refine q4y ?_ | refine q4w ?_)
    exact ⟨(fun h => by cases h), (fun _ => rfl), Nat.le_refl _, fun _ _ => rfl⟩
  | true =>
  simp only [Bool.and_true, if_true]
  have k2 : kept (la t a 2) = true := x0i hT.fit (by have := of_decide_eq_true h2; omega)
  have k3 : kept (la t a 3) = true := x0i hT.fit (by have := of_decide_eq_true h3; omega)
  have lab2 := fun m => lab_yes (m := m) t w a hb 2 (.inl rfl) a2 (of_decide_eq_true h2)
  have lab3 := fun m => lab_yes (m := m) t w a hb 3 (.inr rfl) a3 (of_decide_eq_true h3)
  generalize la t a 2 = n at k2 lab2 ⊢
  generalize la t a 3 = m at k3 lab3 ⊢
  generalize seeR w t ⟨a 0, a 1⟩ 5 = D at hsee hgate ⊢
  obtain ⟨o, e⟩ := D
  simp only at hsee hgate ⊢
  cases he : (e == 0) with
  | false =>
    simp only [Bool.false_eq_true, if_false]
    refine q4u (by kernel_rfl) Tryz.func122 Tryz.results122 rfl (by simp [Tryz.ntmps122]) (by kernel_rfl) ?_
    repeat' (first | (show q0i ..; first | refine q0c ?_ | refine q0e rfl ?_) | (show q0k ..; first | refine q0f rfl rfl ?_ | refine q0m rfl ?_) | (show goOn ..; refine q0g ?_) | (show q0d ..; first | refine q0h ?_ | refine q0b ?_) | refine q0a ?_)
    (refine q0w (by kernel_rfl) (lab2 _) ?_ ?_)
    case refine_2 => rintro p H' m' ⟨h, _⟩; cases h
    rintro r H' m' ⟨h, rfl, rfl⟩
    cases h
    repeat' (first | (show q0i ..; refine q0e rfl ?_) | (show q0k ..; first | refine q0f rfl rfl ?_ | refine q0m rfl ?_) | (show goOn ..; refine q0g ?_))
    (refine q0w (by kernel_rfl) (lab3 _) ?_ ?_)
    case refine_2 => rintro p H' m' ⟨h, _⟩; cases h
    rintro r H' m' ⟨h, rfl, rfl⟩
    cases h
    repeat' (first | (show q0i ..; first | refine q0c ?_ | refine q0e rfl ?_) | (show q0k ..; first | refine q0f rfl rfl ?_ | refine q0m rfl ?_) | (show goOn ..; refine q0g ?_) | (show dr ..; first | refine q1y ?_ | refine dr_n rfl ?_) | (show drGo ..; first | refine q3b rfl ?_ | refine q2l rfl ?_) | (show drOn ..; first | refine q1z ?_ | refine dn_new ?_ | refine q7m ?_) | (show q5w ..; refine q4t ?_) | (show q2h ..; (refine q1f (r := ?_) ?_ ?_; rotate_left 1; (focus exact hsee))) | (refine And.intro (by kernel_rfl : q1l _ = true) ?_) | (show q0d ..; first | refine q0h ?_ | refine q0b ?_ | refine q1k (by kernel_rfl) ?_) | refine q0a ?_)
    (refine q0w (by kernel_rfl) (none_no _ _ _ he) ?_ ?_)
    case refine_1 => rintro r H' m' ⟨h, _⟩; cases h
    rintro p H1 m1 ⟨h, rfl, rfl⟩
    cases h
    repeat' (first | refine q4k ?_ | refine q4y ?_ | refine q4w ?_)
    exact ⟨(fun h => by rw [he] at h; cases h), (fun _ => rfl), by omega, (fun j hj => by repeat rw [q1a _ _ (by omega)])⟩
  | true =>
  obtain rfl : e = 0 := by simpa using he
  obtain ⟨kg, kc⟩ := hgate he
  simp only [if_true]
  have hent := chk_enter t.label t.thread.clear o.gate.grant o.gate.clear n m (by omega) (by omega) (by have := q4m kg; omega) (by have := q4m kc; omega) (by have := q4m k2; omega) (by have := q4m k3; omega)
  rw [enter_eq f1 f2 (q6a kg) (q6a kc) (q6a k2) (q6a k3)] at hent
  cases hE : enterR t.label t.thread.clear o.gate.grant o.gate.clear n m with
  | false =>
    rw [hE] at hent
    simp only [Bool.false_and, Bool.false_eq_true, if_false]
    refine q4u (by kernel_rfl) Tryz.func122 Tryz.results122 rfl (by simp [Tryz.ntmps122]) (by kernel_rfl) ?_
    repeat' (first | (show q0i ..; first | refine q0c ?_ | refine q0e rfl ?_) | (show q0k ..; first | refine q0f rfl rfl ?_ | refine q0m rfl ?_) | (show goOn ..; refine q0g ?_) | (show q0d ..; first | refine q0h ?_ | refine q0b ?_) | refine q0a ?_)
    (refine q0w (by kernel_rfl) (lab2 _) ?_ ?_)
    case refine_2 => rintro p H' m' ⟨h, _⟩; cases h
    rintro r H' m' ⟨h, rfl, rfl⟩
    cases h
    repeat' (first | (show q0i ..; refine q0e rfl ?_) | (show q0k ..; first | refine q0f rfl rfl ?_ | refine q0m rfl ?_) | (show goOn ..; refine q0g ?_))
    (refine q0w (by kernel_rfl) (lab3 _) ?_ ?_)
    case refine_2 => rintro p H' m' ⟨h, _⟩; cases h
    rintro r H' m' ⟨h, rfl, rfl⟩
    cases h
    repeat' (first | (show q0i ..; first | refine q0c ?_ | refine q0e rfl ?_) | (show q0k ..; first | refine q0f rfl rfl ?_ | refine q0m rfl ?_) | (show goOn ..; refine q0g ?_) | (show dr ..; first | refine q1y ?_ | refine dr_n rfl ?_) | (show drGo ..; first | refine q3b rfl ?_ | refine q2l rfl ?_) | (show drOn ..; first | refine q1z ?_ | refine dn_new ?_ | refine q7m ?_) | (show q5w ..; refine q4t ?_) | (show q2h ..; (refine q1f (r := ?_) ?_ ?_; rotate_left 1; (focus exact hsee))) | (refine And.intro (by kernel_rfl : q1l _ = true) ?_) | (show q0d ..; first | refine q0h ?_ | refine q0b ?_ | refine q1k (by kernel_rfl) ?_) | refine q0a ?_)
    (refine q0w (by kernel_rfl) (none_yes _ _) ?_ ?_)
    case refine_2 => rintro p H' m' ⟨⟨_, h⟩, _⟩; cases h
    rintro r H' m' ⟨⟨_, h⟩, rfl, rfl⟩
    clear h
    repeat' (first | (show q0i ..; first | refine q0c ?_ | refine q0e rfl ?_) | (show q0k ..; refine q0f rfl rfl ?_) | (show goOn ..; first | refine q0g ?_ | refine q1d ?_ | refine q1x ?_) | (show q3f ..; refine q1h ?_) | (show q0d ..; first | refine q0h ?_ | refine q0b ?_) | refine q0a ?_)
    refine pc_drawL 18 (by kernel_rfl) (by kernel_rfl) ?_
    repeat' (first | (show q0i ..; refine q0e rfl ?_) | (show q0k ..; refine q0m rfl ?_) | (show dr ..; first | refine q1y ?_ | refine dr_n rfl ?_) | (show drGo ..; first | refine q3b rfl ?_ | refine q2l rfl ?_) | (show drOn ..; refine q1z ?_) | (show q2h ..; (refine q1f (r := ?_) ?_ ?_; rotate_left 1; (focus exact hent))) | (refine And.intro (by kernel_rfl : q1l _ = true) ?_))
    (refine q0w (by kernel_rfl) (must_no _ _ _) ?_ ?_)
    case refine_1 => rintro r H' m' ⟨h, _⟩; cases h
    rintro p H' m' ⟨h, rfl, rfl⟩
    cases h
    repeat' (first | refine q4k ?_ | refine q4y ?_ | refine q4w ?_)
    exact ⟨(fun h => by cases h), (fun _ => rfl), by omega, (fun j hj => by repeat rw [q1a _ _ (by omega)])⟩
  | true =>
  rw [hE] at hent
  simp only [Bool.true_and]
  have hlies := fun H hb => lies_csat (H := H) (m := 10) t w a hb n (by decide) g (q6a k2) (q4m k2)
  cases hL : liesR w t.id n with
  | false =>
    rw [hL] at hlies
    simp only [Bool.false_eq_true, if_false]
    refine q4u (by kernel_rfl) Tryz.func122 Tryz.results122 rfl (by simp [Tryz.ntmps122]) (by kernel_rfl) ?_
    repeat' (first | (show q0i ..; first | refine q0c ?_ | refine q0e rfl ?_) | (show q0k ..; first | refine q0f rfl rfl ?_ | refine q0m rfl ?_) | (show goOn ..; refine q0g ?_) | (show q0d ..; first | refine q0h ?_ | refine q0b ?_) | refine q0a ?_)
    (refine q0w (by kernel_rfl) (lab2 _) ?_ ?_)
    case refine_2 => rintro p H' m' ⟨h, _⟩; cases h
    rintro r H' m' ⟨h, rfl, rfl⟩
    cases h
    repeat' (first | (show q0i ..; refine q0e rfl ?_) | (show q0k ..; first | refine q0f rfl rfl ?_ | refine q0m rfl ?_) | (show goOn ..; refine q0g ?_))
    (refine q0w (by kernel_rfl) (lab3 _) ?_ ?_)
    case refine_2 => rintro p H' m' ⟨h, _⟩; cases h
    rintro r H' m' ⟨h, rfl, rfl⟩
    cases h
    repeat' (first | (show q0i ..; first | refine q0c ?_ | refine q0e rfl ?_) | (show q0k ..; first | refine q0f rfl rfl ?_ | refine q0m rfl ?_) | (show goOn ..; refine q0g ?_) | (show dr ..; first | refine q1y ?_ | refine dr_n rfl ?_) | (show drGo ..; first | refine q3b rfl ?_ | refine q2l rfl ?_) | (show drOn ..; first | refine q1z ?_ | refine dn_new ?_ | refine q7m ?_) | (show q5w ..; refine q4t ?_) | (show q2h ..; (refine q1f (r := ?_) ?_ ?_; rotate_left 1; (focus exact hsee))) | (refine And.intro (by kernel_rfl : q1l _ = true) ?_) | (show q0d ..; first | refine q0h ?_ | refine q0b ?_ | refine q1k (by kernel_rfl) ?_) | refine q0a ?_)
    (refine q0w (by kernel_rfl) (none_yes _ _) ?_ ?_)
    case refine_2 => rintro p H' m' ⟨⟨_, h⟩, _⟩; cases h
    rintro r H' m' ⟨⟨_, h⟩, rfl, rfl⟩
    clear h
    repeat' (first | (show q0i ..; first | refine q0c ?_ | refine q0e rfl ?_) | (show q0k ..; refine q0f rfl rfl ?_) | (show goOn ..; first | refine q0g ?_ | refine q1d ?_ | refine q1x ?_) | (show q3f ..; refine q1h ?_) | (show q0d ..; first | refine q0h ?_ | refine q0b ?_) | refine q0a ?_)
    refine pc_drawL 18 (by kernel_rfl) (by kernel_rfl) ?_
    repeat' (first | (show q0i ..; refine q0e rfl ?_) | (show q0k ..; refine q0m rfl ?_) | (show dr ..; first | refine q1y ?_ | refine dr_n rfl ?_) | (show drGo ..; first | refine q3b rfl ?_ | refine q2l rfl ?_) | (show drOn ..; refine q1z ?_) | (show q2h ..; (refine q1f (r := ?_) ?_ ?_; rotate_left 1; (focus exact hent))) | (refine And.intro (by kernel_rfl : q1l _ = true) ?_))
    (refine q0w (by kernel_rfl) (must_yes _ _ _) ?_ ?_)
    case refine_2 => rintro p H' m' ⟨⟨_, h⟩, _⟩; cases h
    rintro r H' m' ⟨⟨_, h⟩, rfl, rfl⟩
    clear h
    repeat' (first | (show q0i ..; first | refine q0c ?_ | refine q0e rfl ?_) | (show q0k ..; first | refine q0f rfl rfl ?_ | refine q0m rfl ?_) | (show goOn ..; refine q0g ?_) | (show q0d ..; first | refine q0h ?_ | refine q0b ?_) | refine q0a ?_)
    (refine q0w (by kernel_rfl) (hlies _ (by simp only [go_sem, *])) ?_ ?_)
    case refine_1 => rintro r H' m' ⟨_, h, _⟩; have := h rfl; cases this
    rintro p H1 m1 ⟨_, h, L1, A1⟩
    have := h rfl
    cases this
    repeat' (first | refine q4k ?_ | refine q4y ?_ | refine q4w ?_)
    exact ⟨(fun h => by cases h), (fun _ => rfl), by omega, (fun j hj => by rw [A1 j (by omega)]; repeat rw [q1a _ _ (by omega)])⟩
  | true =>
    rw [hL] at hlies
    simp only [if_true]
    refine q4u (by kernel_rfl) Tryz.func122 Tryz.results122 rfl (by simp [Tryz.ntmps122]) (by kernel_rfl) ?_
    repeat' (first | (show q0i ..; first | refine q0c ?_ | refine q0e rfl ?_) | (show q0k ..; first | refine q0f rfl rfl ?_ | refine q0m rfl ?_) | (show goOn ..; refine q0g ?_) | (show q0d ..; first | refine q0h ?_ | refine q0b ?_) | refine q0a ?_)
    (refine q0w (by kernel_rfl) (lab2 _) ?_ ?_)
    case refine_2 => rintro p H' m' ⟨h, _⟩; cases h
    rintro r H' m' ⟨h, rfl, rfl⟩
    cases h
    repeat' (first | (show q0i ..; refine q0e rfl ?_) | (show q0k ..; first | refine q0f rfl rfl ?_ | refine q0m rfl ?_) | (show goOn ..; refine q0g ?_))
    (refine q0w (by kernel_rfl) (lab3 _) ?_ ?_)
    case refine_2 => rintro p H' m' ⟨h, _⟩; cases h
    rintro r H' m' ⟨h, rfl, rfl⟩
    cases h
    repeat' (first | (show q0i ..; first | refine q0c ?_ | refine q0e rfl ?_) | (show q0k ..; first | refine q0f rfl rfl ?_ | refine q0m rfl ?_) | (show goOn ..; refine q0g ?_) | (show dr ..; first | refine q1y ?_ | refine dr_n rfl ?_) | (show drGo ..; first | refine q3b rfl ?_ | refine q2l rfl ?_) | (show drOn ..; first | refine q1z ?_ | refine dn_new ?_ | refine q7m ?_) | (show q5w ..; refine q4t ?_) | (show q2h ..; (refine q1f (r := ?_) ?_ ?_; rotate_left 1; (focus exact hsee))) | (refine And.intro (by kernel_rfl : q1l _ = true) ?_) | (show q0d ..; first | refine q0h ?_ | refine q0b ?_ | refine q1k (by kernel_rfl) ?_) | refine q0a ?_)
    (refine q0w (by kernel_rfl) (none_yes _ _) ?_ ?_)
    case refine_2 => rintro p H' m' ⟨⟨_, h⟩, _⟩; cases h
    rintro r H' m' ⟨⟨_, h⟩, rfl, rfl⟩
    clear h
    repeat' (first | (show q0i ..; first | refine q0c ?_ | refine q0e rfl ?_) | (show q0k ..; refine q0f rfl rfl ?_) | (show goOn ..; first | refine q0g ?_ | refine q1d ?_ | refine q1x ?_) | (show q3f ..; refine q1h ?_) | (show q0d ..; first | refine q0h ?_ | refine q0b ?_) | refine q0a ?_)
    refine pc_drawL 18 (by kernel_rfl) (by kernel_rfl) ?_
    repeat' (first | (show q0i ..; refine q0e rfl ?_) | (show q0k ..; refine q0m rfl ?_) | (show dr ..; first | refine q1y ?_ | refine dr_n rfl ?_) | (show drGo ..; first | refine q3b rfl ?_ | refine q2l rfl ?_) | (show drOn ..; refine q1z ?_) | (show q2h ..; (refine q1f (r := ?_) ?_ ?_; rotate_left 1; (focus exact hent))) | (refine And.intro (by kernel_rfl : q1l _ = true) ?_))
    (refine q0w (by kernel_rfl) (must_yes _ _ _) ?_ ?_)
    case refine_2 => rintro p H' m' ⟨⟨_, h⟩, _⟩; cases h
    rintro r H' m' ⟨⟨_, h⟩, rfl, rfl⟩
    clear h
    repeat' (first | (show q0i ..; first | refine q0c ?_ | refine q0e rfl ?_) | (show q0k ..; first | refine q0f rfl rfl ?_ | refine q0m rfl ?_) | (show goOn ..; refine q0g ?_) | (show q0d ..; first | refine q0h ?_ | refine q0b ?_) | refine q0a ?_)
    (refine q0w (by kernel_rfl) (hlies _ (by simp only [go_sem, *])) ?_ ?_)
    case refine_2 => rintro p H' m' ⟨h, _⟩; obtain ⟨_, h⟩ := h rfl; cases h
    rintro r H1 m1 ⟨_, _, L1, A1⟩
    have c7 : H1 7 = some (.box (Clr.enc ⟨t, w, a⟩)) := by rw [A1 7 (by omega)]; simp only [go_sem, *]
    have c9 : H1 9 = some (.box (Gt.enc o.gate)) := by rw [A1 9 (by omega)]; simp only [go_sem, *]
    repeat' (first | (show q0i ..; first | refine q0c ?_ | refine q0e rfl ?_) | (show q0k ..; refine q0f rfl rfl ?_) | (show goOn ..; first | refine q0g ?_ | refine q1x ?_) | (show q3f ..; refine q1h ?_) | (show dr ..; first | refine q1y ?_ | refine dr_n rfl ?_) | (show drGo ..; first | refine q3b rfl ?_ | refine q2l rfl ?_) | (show drOn ..; first | refine q1z ?_ | refine q7m ?_) | (show q5w ..; refine q4t ?_) | (show q2h ..; (refine q1f (r := ?_) ?_ ?_; rotate_left 1; (focus exact hput _))) | (refine And.intro (by kernel_rfl : q2j _ _ _ = true) ?_) | (show q0d ..; first | refine q0h ?_ | refine q0b ?_ | refine pc_drawR (by kernel_rfl) ?_ | refine q0r ?_) | refine q0a ?_ | (show retQ ..; refine q0s ?_) | refine q0l ?_)
    refine ⟨(fun _ => ⟨rfl, gone t n m o.gate (a 4), ?_⟩), (fun h => by cases h), by omega, (fun j hj => ?_)⟩
    · simp only [go_sem] <;> rfl
    · repeat rw [q1a _ _ (by omega)]
      rw [A1 j (by omega)]
      repeat rw [q1a _ _ (by omega)]
theorem do_doC (t : Ob) (w : Wd) (n : Int) (a : Nat → Int) (g : Good w) (ht : t ∈ w.objects) (hk : t.kind = 4) (ha : ∀ i, i < 7 → 0 ≤ a i) : DoC t w n a (q4x w t n a) := by
  intro H hb
  unfold q4x
  cases h : (n == 40) with
  | false =>
    have h' : (n != 40) = true := by simp [bne, h]
    simp only [Bool.false_eq_true, if_false]
    refine q4u (by kernel_rfl) Tryz.func62 Tryz.results62 rfl (by simp [Tryz.ntmps62]) (by kernel_rfl) ?_
    repeat' (first | (show q0i ..; first | refine q0c ?_ | refine q0e rfl ?_) | (show q0k ..; refine q0f rfl rfl ?_) | (show goOn ..; refine q0g ?_) | (show q0d ..; first | refine q0h ?_ | refine q0b ?_ | refine q0r ?_ | refine q0j ?_) | (show q0o ..; refine cd_t ?_) | refine q0a ?_ | refine q1v ?_ | (show retQ ..; refine q0s ?_) | refine q0l ?_)
    exact ⟨(fun _ => ⟨rfl, _, hb⟩), (fun h => by cases h), by omega, (fun j hj => rfl)⟩
  | true =>
    have h' : (n != 40) = false := by simp [bne, h]
    simp only [if_true]
    have hen := enter_csat t w a hb g ht hk ha
    have hkn := enter_k w t a
    generalize q5s w t a = R at hen hkn ⊢
    obtain ⟨x, v, e, k⟩ := R
    simp only at hen hkn ⊢
    subst hkn
    cases he : (e == 0) with
    | true =>
      refine q4u (by kernel_rfl) Tryz.func62 Tryz.results62 rfl (by simp [Tryz.ntmps62]) (by kernel_rfl) ?_
      repeat' (first | (show q0i ..; first | refine q0c ?_ | refine q0e rfl ?_) | (show q0k ..; first | refine q0f rfl rfl ?_ | refine q0m rfl ?_) | (show goOn ..; refine q0g ?_) | (show q0d ..; first | refine q0h ?_ | refine q0b ?_ | refine q0q ?_ | refine q0j ?_) | (show q0o ..; refine cd_f ?_) | refine q0a ?_)
      (refine q0w (by kernel_rfl) (hen) ?_ ?_)
      case refine_2 => rintro p H' m' ⟨h, _⟩; have := (h he).1; cases this
      rintro r H1 m1 ⟨h, _, L1, A1⟩
      obtain ⟨ho, t', c7⟩ := h he
      cases ho
      repeat' (first | (show q0i ..; first | refine q0c ?_ | refine q0e rfl ?_) | (show q0k ..; refine q0f rfl rfl ?_) | (show goOn ..; refine q0g ?_) | (show q0d ..; refine q0r ?_) | refine q0a ?_ | (show retQ ..; refine q0s ?_) | refine q0l ?_)
      exact ⟨(fun _ => ⟨rfl, t', c7⟩), (fun h => by first | cases h | (rw [he] at h; cases h)), L1, A1⟩
    | false =>
      refine q4u (by kernel_rfl) Tryz.func62 Tryz.results62 rfl (by simp [Tryz.ntmps62]) (by kernel_rfl) ?_
      repeat' (first | (show q0i ..; first | refine q0c ?_ | refine q0e rfl ?_) | (show q0k ..; first | refine q0f rfl rfl ?_ | refine q0m rfl ?_) | (show goOn ..; refine q0g ?_) | (show q0d ..; first | refine q0h ?_ | refine q0b ?_ | refine q0q ?_ | refine q0j ?_) | (show q0o ..; refine cd_f ?_) | refine q0a ?_)
      (refine q0w (by kernel_rfl) (hen) ?_ ?_)
      case refine_1 => rintro r H' m' ⟨_, h, _⟩; have := h he; cases this
      rintro p H1 m1 ⟨_, h, L1, A1⟩
      have ho := h he
      cases ho
      repeat' (first | refine q4k ?_ | refine q4y ?_ | refine q4w ?_)
      exact ⟨(fun h => by first | cases h | (rw [he] at h; cases h)), (fun _ => rfl), L1, A1⟩
end Go.Proofs.YtoibbedpaaeclaaGreat.kgate
end

section
namespace Go.Proofs.YtoibbedpaaeclaaGreat.kgate
open Go Go.RowKit Go.Proofs.YtoibbedpaaeclaaGreat
set_option linter.unusedVariables false
set_option linter.unusedSimpArgs false
set_option maxHeartbeats 16000000
set_option maxRecDepth 100000
theorem cut_labs (t : Ob) {i : Nat} (hi : i < 4) : cut Tryz.prog 26 (Ob.enc t) (39 + i * 1) = some (.sl (List.map Pr.enc (t.thread.labs i))) := by
  obtain rfl | rfl | rfl | rfl : i = 0 ∨ i = 1 ∨ i = 2 ∨ i = 3 := by omega
  all_goals kernel_rfl
attribute [local irreducible] q0i dr q0d Ex.then Ex.inBlock retQ q1l q2j q2g Pure CSat evOp q1i rdOf upd hset strip sp0 cut envL q1g q3q Keep BdL evBs q2s q3c
theorem r23_placed (w : Wd) (t : Ob) (l : List Pr) (g : Good w) (hl : l.length ≤ 400) : Pure Tryz.prog 65 [.agg (Wd.enc w), .agg (Ob.enc t), .sl (l.map Pr.enc)] (.bool (liesR w t.id l)) := by
  have hh := q9w w t.id g.L g.few
  have hlen : (q2w w t.id).length ≤ 24 := Nat.le_trans (q7t w t.id) g.few.n
  refine q2d (by kernel_rfl) (by simp only [go_sem, *]) (by simp only [go_sem, *]) Tryz.func65 Tryz.results65 rfl (by simp [Tryz.ntmps65]) (by kernel_rfl) ?_
  repeat' (first | (show q0i ..; first | refine q0c ?_ | refine q0e rfl ?_) | (show q0k ..; first | refine q0f rfl rfl ?_ | refine q0m rfl ?_) | (show goOn ..; first | refine q0g ?_ | refine q1d ?_) | (show q1j ..; (refine q0u (r := ?_) ?_ ?_; rotate_left 1; (focus exact hh))) | (show q0d ..; first | refine q0h ?_ | refine q0b ?_ | refine q0n ?_) | refine q0a ?_)
  refine q2q (S := Nat) (fun n => (q2w w t.id).length - n) (fun n => n ≤ (q2w w t.id).length ∧ ∀ j, j < n → liesAt w t.id l j = true) (fun n => [(2, .sl (l.map Pr.enc)), (3, .ptr 0 0), (7, .sl ((q2w w t.id).map u64)), (8, .int .i64 n)]) (fun _ => [(0, .box (Wd.enc w))]) (fun _ => 2) 0 ⟨Nat.zero_le _, fun j hj => absurd hj (Nat.not_lt_zero j)⟩ (by (refine q1n ?_ ?_ <;> repeat' (first | exact q0v | exact q0y | refine q0p (by (try simp only [go_sem, *]); try rfl) (by simp only [go_sem, *]) ?_ | refine q0z (by (try simp only [go_sem, *]); try rfl) (by omega) (by simp only [go_sem, *]) ?_ | refine q0x (by (try simp only [go_sem, *]); try rfl) (by omega) (by simp only [go_sem, *]) ?_))) ?_
  rintro n ⟨hn, hs⟩
  rcases Nat.lt_or_ge n (q2w w t.id).length with hlt | hge
  · obtain ⟨x, hx⟩ := q2f hlt
    have h0 := q2k hlt
    have h4 := q2e n (by omega)
    have hfd := q5y w x (by have := g.few.n; omega)
    have hpl := r3_place (q2p w x).1.label l (by have := q6o g.few x; omega) hl
    have e : liesAt w t.id l n = q6w (q2p w x).1.label l := by unfold liesAt; rw [hx]
    repeat' (first | (show q0i ..; first | refine q0c ?_ | refine q0e rfl ?_) | (show q0k ..; first | refine q0f rfl rfl ?_ | refine q0m rfl ?_) | (show goOn ..; refine q0g ?_) | (show q1j ..; (refine q0u (r := ?_) ?_ ?_; rotate_left 1; (focus first | exact hfd | exact hpl))) | (show dr ..; first | refine q1y ?_ | refine dr_n rfl ?_) | (show drGo ..; first | refine q3b rfl ?_ | refine q2l rfl ?_) | (show drOn ..; first | refine q1z ?_ | refine dn_new ?_ | refine q7m ?_) | (show q5w ..; refine q4t ?_) | (show q2h ..; (refine q1f (r := ?_) ?_ ?_; rotate_left 1; (focus first | exact hfd | exact hpl))) | (refine And.intro (by kernel_rfl : q1l _ = true) ?_) | (show q0d ..; first | refine q0h ?_ | refine q0b ?_ | refine q1k (by kernel_rfl) ?_ | refine q0r ?_ | refine q0q ?_ | refine q0n ?_ | refine q0j ?_) | (show q0o ..; first | refine cd_t ?_ | refine cd_n (fun _ => ?_) (fun _ => ?_)) | refine q0a ?_ | refine q1v ?_ | refine q0t ?_ | refine q3m ?_ | (show retQ ..; refine q0s ?_) | refine q0l ?_)
    all_goals rename_i hc
    · exact q1o (q2o hlt (f := liesAt w t.id l) (by rw [e, hc])).symm
    · exact again (n + 1) ⟨by omega, q5d hs (by rw [e, hc])⟩ (by omega) (by (refine q1n ?_ ?_ <;> repeat' (first | exact q0v | exact q0y | refine q0p (by (try simp only [go_sem, *]); try rfl) (by simp only [go_sem, *]) ?_ | refine q0z (by (try simp only [go_sem, *]); try rfl) (by omega) (by simp only [go_sem, *]) ?_ | refine q0x (by (try simp only [go_sem, *]); try rfl) (by omega) (by simp only [go_sem, *]) ?_)))
  · have h0 := q1w hge
    repeat' (first | (show q0i ..; first | refine q0c ?_ | refine q0e rfl ?_) | (show q0k ..; refine q0f rfl rfl ?_) | (show goOn ..; refine q0g ?_) | (show q0d ..; first | refine q0h ?_ | refine q0b ?_ | refine q0r ?_ | refine q1q ?_ | refine q0j ?_) | (show q0o ..; refine cd_f ?_) | refine q0a ?_ | refine q1p ?_ | refine q1r ?_ | (show retQ ..; refine q0s ?_) | refine q0l ?_)
    exact q1o (q2m fun j hj => hs j (by omega)).symm
theorem r23_do (w : Wd) (id n : Int) (a : Nat → Int) (g : Good w) (hi : isThr w id = true) (ha : ∀ i, i < 7 → 0 ≤ a i) :
    Pure Tryz.prog 27 [.agg (Wd.enc w), .int .u64 id, .int .i64 n, .agg (args a)] (.tup [.agg (Wd.enc (q4x w (q2p w id).1 n a).1), .int .u64 (q4x w (q2p w id).1 n a).2.1, .int .i64 (q4x w (q2p w id).1 n a).2.2.1, .bool (q4x w (q2p w id).1 n a).2.2.2]) := by
  have hwd := q7z g.fit
  have h1 := q5y w id (by have := g.few.n; omega)
  obtain ⟨ht, hid, hk⟩ := isThr_ok hi
  have hput := fun o => putR_c w o (q5n hwd).1 (by have := g.few.n; omega)
  generalize q2p w id = F at h1 ht hid hk ⊢
  obtain ⟨t, b⟩ := F
  simp only at h1 ht hid hk ⊢
  have hT := thr_of (q6n hwd ht) hk
  have l1 := q4m hT.lab
  have l2 := q4m (thr_clear hT.fit).1
  have hsee := r17_see w t ⟨a 0, a 1⟩ 5 g.few (by omega)
  have a2 := ha 2 (by decide)
  have a3 := ha 3 (by decide)
  have hlies := fun l hl => r23_placed w t l g hl
  unfold q4x
  cases g1 : (n == 40) with
  | false =>
    have g1' : (n != 40) = true := by simp [bne, g1]
    simp only [Bool.false_eq_true, if_false]
    refine q2d (by kernel_rfl) (by simp only [go_sem, *]) (by simp only [go_sem, *]) Tryz.func27 Tryz.results27 rfl (by simp [Tryz.ntmps27]) (by kernel_rfl) ?_
    repeat' (first | (show q0i ..; first | refine q0c ?_ | refine q0e rfl ?_) | (show q0k ..; refine q0f rfl rfl ?_) | (show goOn ..; first | refine q0g ?_ | refine q1d ?_ | refine q1x ?_) | (show q3f ..; refine q1h ?_) | (show q0d ..; first | refine q0h ?_ | refine q0b ?_ | refine q0r ?_ | refine q0j ?_) | (show q0o ..; refine cd_t ?_) | refine q0a ?_ | refine q1v ?_ | (show retQ ..; refine q0s ?_) | refine q0l ?_)
    all_goals rfl
  | true =>
  have g1' : (n != 40) = false := by simp [bne, g1]
  simp only [if_true]
  unfold q5s mayR la
  have hgl : ((q6m w t a).2 == 0) = true → (q6m w t a).1.gate.grant.length ≤ 16 ∧ (q6m w t a).1.gate.clear.length ≤ 16 := fun h => ⟨q4m (gate_ok g h).1, q4m (gate_ok g h).2⟩
  unfold q6m at hgl ⊢
  generalize seeR w t ⟨a 0, a 1⟩ 5 = D at hsee hgl ⊢
  obtain ⟨o, e⟩ := D
  simp only at hsee hgl ⊢
  cases h2 : decide (a 2 < 4) with
  | false =>
    have h2' : decide (a 2 > 3) = true := decide_eq_true (by have := of_decide_eq_false h2; omega)
    simp only [Bool.false_and, Bool.false_eq_true, if_false]
    refine q2d (by kernel_rfl) (by simp only [go_sem, *]) (by simp only [go_sem, *]) Tryz.func27 Tryz.results27 rfl (by simp [Tryz.ntmps27]) (by kernel_rfl) ?_
    repeat' (first | (show q0i ..; first | refine q0c ?_ | refine q0e rfl ?_ | refine q1b rfl rfl ?_) | (show q0k ..; refine q0f rfl rfl ?_) | (show goOn ..; first | refine q0g ?_ | refine q1d ?_ | refine q1x ?_) | (show q3f ..; refine q1h ?_) | (show wGo ..; refine q5b ?_) | (show q0d ..; first | refine q0h ?_ | refine q0b ?_ | refine q0r ?_ | refine q0q ?_ | refine q0j ?_) | (show q0o ..; first | refine cd_t ?_ | refine cd_f ?_) | refine q0a ?_ | refine q1v ?_ | (show retQ ..; refine q0s ?_) | refine q0l ?_)
    all_goals rfl
  | true =>
  have h2' : decide (a 2 > 3) = false := decide_eq_false (by have := of_decide_eq_true h2; omega)
  cases h3 : decide (a 3 < 4) with
  | false =>
    have h3' : decide (a 3 > 3) = true := decide_eq_true (by have := of_decide_eq_false h3; omega)
    simp only [Bool.and_false, Bool.false_eq_true, if_false]
    refine q2d (by kernel_rfl) (by simp only [go_sem, *]) (by simp only [go_sem, *]) Tryz.func27 Tryz.results27 rfl (by simp [Tryz.ntmps27]) (by kernel_rfl) ?_
    repeat' (first | (show q0i ..; first | refine q0c ?_ | refine q0e rfl ?_ | refine q1b rfl rfl ?_) | (show q0k ..; refine q0f rfl rfl ?_) | (show goOn ..; first | refine q0g ?_ | refine q1d ?_ | refine q1x ?_) | (show q3f ..; refine q1h ?_) | (show wGo ..; refine q4e ?_) | (show q0d ..; first | refine q0h ?_ | refine q0b ?_ | refine q0r ?_ | refine q0q ?_ | refine q0j ?_) | (show q0o ..; first | refine cd_t ?_ | refine cd_f ?_) | refine q0a ?_ | refine q1v ?_ | (show retQ ..; refine q0s ?_) | refine q0l ?_)
    all_goals rfl
  | true =>
  have h3' : decide (a 3 > 3) = false := decide_eq_false (by have := of_decide_eq_true h3; omega)
  simp only [Bool.and_true, if_true]
  cases he : (e == 0) with
  | false =>
    have he' : (e != 0) = true := by simp [bne, he]
    simp only [Bool.false_eq_true, if_false]
    refine q2d (by kernel_rfl) (by simp only [go_sem, *]) (by simp only [go_sem, *]) Tryz.func27 Tryz.results27 rfl (by simp [Tryz.ntmps27]) (by kernel_rfl) ?_
    repeat' (first | (show q0i ..; first | refine q0c ?_ | refine q0e rfl ?_ | refine q1b rfl rfl ?_) | (show q0k ..; first | refine q0f rfl rfl ?_ | refine q0m rfl ?_) | (show goOn ..; first | refine q0g ?_ | refine q1d ?_ | refine q1x ?_) | (show q3f ..; refine q1h ?_) | (show q1j ..; (refine q0u (r := ?_) ?_ ?_; rotate_left 1; (focus first | exact h1 | exact hsee))) | (show wGo ..; refine q4e ?_) | (show q0d ..; first | refine q0h ?_ | refine q0b ?_ | refine q0r ?_ | refine q0q ?_ | refine q0j ?_) | (show q0o ..; first | refine cd_t ?_ | refine cd_f ?_) | refine q0a ?_ | refine q1v ?_ | (show retQ ..; refine q0s ?_) | refine q0l ?_)
    all_goals rfl
  | true =>
  have he' : (e != 0) = false := by simp [bne, he]
  obtain ⟨g5, g6⟩ := hgl he
  simp only [if_true]
  have key : ∀ i, i < 4 → (t.thread.labs i).length ≤ 16 := fun i hi => q4m (x0i hT.fit hi)
  have v2 : a 2 = 0 ∨ a 2 = 1 ∨ a 2 = 2 ∨ a 2 = 3 := by have := of_decide_eq_true h2; omega
  have v3 : a 3 = 0 ∨ a 3 = 1 ∨ a 3 = 2 ∨ a 3 = 3 := by have := of_decide_eq_true h3; omega
  have hent := fun i j (hi : i < 4) (hj : j < 4) => r3_enter t.label t.thread.clear o.gate.grant o.gate.clear (t.thread.labs i) (t.thread.labs j) (by omega) (by omega) (by omega) (by omega) (by have := key i hi; omega) (by have := key j hj; omega)
  have hl2 := fun i (hi : i < 4) => hlies (t.thread.labs i) (by have := key i hi; omega)
  obtain ⟨i, hi, ei⟩ : ∃ i : Nat, i < 4 ∧ a 2 = i := ⟨(a 2).toNat, by have := of_decide_eq_true h2; omega, by omega⟩
  obtain ⟨j, hj, ej⟩ : ∃ j : Nat, j < 4 ∧ a 3 = j := ⟨(a 3).toNat, by have := of_decide_eq_true h3; omega, by omega⟩
  have ti : (a 2).toNat = i := by omega
  have tj : (a 3).toNat = j := by omega
  rw [ti, tj]
  have hent := hent i j hi hj
  have hl2 := hl2 i hi
  clear v2 v3 key hlies hgl hk g1' hT hid
  have ni : (0 ≤ (i : Int)) = True := eq_true (by omega)
  have nj : (0 ≤ (j : Int)) = True := eq_true (by omega)
  have mi : ((i : Int) < 4) = True := eq_true (by omega)
  have mj : ((j : Int) < 4) = True := eq_true (by omega)
  have ci := cut_labs t hi
  have cj := cut_labs t hj
  rw [ei] at h2'
  rw [ej] at h3'
  cases hE : enterR t.label t.thread.clear o.gate.grant o.gate.clear (t.thread.labs i) (t.thread.labs j) with
  | false =>
    rw [hE] at hent
    simp only [Bool.false_and, Bool.false_eq_true, if_false]
    refine q2d (by kernel_rfl) (by simp only [go_sem, *]) (by simp only [go_sem, *]) Tryz.func27 Tryz.results27 rfl (by simp [Tryz.ntmps27]) (by kernel_rfl) ?_
    repeat' (first | (show q0i ..; first | refine q0c ?_ | refine q0e rfl ?_ | refine q1b rfl rfl ?_) | (show q0k ..; first | refine q0f rfl rfl ?_ | refine q0m rfl ?_) | (show goOn ..; first | refine q0g ?_ | refine q1d ?_ | refine q1x ?_) | (show q3f ..; refine q1h ?_) | (show q1j ..; (refine q0u (r := ?_) ?_ ?_; rotate_left 1; (focus first | exact h1 | exact hsee | exact hent))) | (show wGo ..; first | refine q4e ?_ | refine q5b ?_) | (show q0d ..; first | refine q0h ?_ | refine q0b ?_ | refine q0r ?_ | refine q0q ?_ | refine q0j ?_) | (show q0o ..; first | refine cd_t ?_ | refine cd_f ?_) | refine q0a ?_ | refine q1v ?_ | (show retQ ..; refine q0s ?_) | refine q0l ?_)
    all_goals rfl
  | true =>
    rw [hE] at hent
    simp only [Bool.true_and]
    cases hL : liesR w t.id (t.thread.labs i) with
    | false =>
      rw [hL] at hl2
      simp only [Bool.false_eq_true, if_false]
      refine q2d (by kernel_rfl) (by simp only [go_sem, *]) (by simp only [go_sem, *]) Tryz.func27 Tryz.results27 rfl (by simp [Tryz.ntmps27]) (by kernel_rfl) ?_
      repeat' (first | (show q0i ..; first | refine q0c ?_ | refine q0e rfl ?_ | refine q1b rfl rfl ?_) | (show q0k ..; first | refine q0f rfl rfl ?_ | refine q0m rfl ?_) | (show goOn ..; first | refine q0g ?_ | refine q1d ?_ | refine q1x ?_) | (show q3f ..; refine q1h ?_) | (show q1j ..; (refine q0u (r := ?_) ?_ ?_; rotate_left 1; (focus first | exact h1 | exact hsee | exact hent | exact hl2))) | (show wGo ..; refine q4e ?_) | (show q0d ..; first | refine q0h ?_ | refine q0b ?_ | refine q0r ?_ | refine q0q ?_ | refine q0j ?_) | (show q0o ..; first | refine cd_t ?_ | refine cd_f ?_) | refine q0a ?_ | refine q1v ?_ | (show retQ ..; refine q0s ?_) | refine q0l ?_)
      all_goals rfl
    | true =>
      rw [hL] at hl2
      simp only [if_true]
      refine q2d (by kernel_rfl) (by simp only [go_sem, *]) (by simp only [go_sem, *]) Tryz.func27 Tryz.results27 rfl (by simp [Tryz.ntmps27]) (by kernel_rfl) ?_
      repeat' (first | (show q0i ..; first | refine q0c ?_ | refine q0e rfl ?_ | refine q1b rfl rfl ?_) | (show q0k ..; first | refine q0f rfl rfl ?_ | refine q0m rfl ?_) | (show goOn ..; first | refine q0g ?_ | refine q1d ?_ | refine q1x ?_) | (show q3f ..; refine q1h ?_) | (show q1j ..; (refine q0u (r := ?_) ?_ ?_; rotate_left 1; (focus first | exact h1 | exact hsee | exact hent | exact hl2 | exact hput _))) | (show wGo ..; refine q4e ?_) | (show dr ..; first | refine q1y ?_ | refine dr_n rfl ?_) | (show drGo ..; first | refine q3b rfl ?_ | refine q2l rfl ?_) | (show drOn ..; first | refine q1z ?_ | refine q7m ?_) | (show q5w ..; refine q4t ?_) | (show q2h ..; (refine q1f (r := ?_) ?_ ?_; rotate_left 1; (focus first | exact h1 | exact hsee | exact hent | exact hl2 | exact hput _))) | (refine And.intro (by kernel_rfl : q1l _ = true) ?_) | (show q0d ..; first | refine q0h ?_ | refine q0b ?_ | refine q1k (by kernel_rfl) ?_ | refine q0r ?_ | refine q0q ?_ | refine q0j ?_) | (show q0o ..; refine cd_f ?_) | refine q0a ?_ | (show retQ ..; refine q0s ?_) | refine q0l ?_)
      all_goals rfl
end Go.Proofs.YtoibbedpaaeclaaGreat.kgate
end

section
namespace Go.Proofs.YtoibbedpaaeclaaGreat
open Go Go.RowKit Go.ChangeShapes Go.WideShapes Go.Joins
set_option linter.unusedVariables false
set_option linter.unusedSimpArgs false
theorem opens_args : q4i Tryz.prog 48 args (fun f => ∀ i, i < 7 → U (f i)) := q4b (q8m (n := 7) Tryz.underlying48 (by kernel_rfl) (by kernel_rfl) (q1t (k := .u64) Tryz.underlying22)) (fun y => rfl) (fun y h => h)
theorem okWide_array {P : Program} {w : World} {r : Reach} {b0 : Nat} {t e : TypeId} {n : Nat} {v : Value} (ht : P.underlying t = some (.array n e)) (h : Value.okWide P w r b0 t v) : ∃ cs, v = .agg cs ∧ cs.size = P.cellsOf t := by
  simp only [Value.okWide, ht] at h
  obtain ⟨cs, h1, h2, _⟩ := h
  exact ⟨cs, h1, h2⟩
theorem openedR_array {P : Program} {t e : TypeId} {n : Nat} {α : Type} {en : α → List PV} {wf : α → Prop} {H : Type} {enc : TypeId × Value → H} {w : World} {spare : Nat → Bool} {held : Bool} {r : Reach} {b0 : Nat} {v : Value} {dt : DataW H} {p : List MemPlace}
    (ht : P.underlying t = some (.array n e)) (h : q4i P t en wf) (hv : Value.okWide P w r b0 t v) (hd : DataW.Trod enc P w 0 spare held t v dt p) : ∃ y : α, wf y ∧ ∀ σ L, VR w NoM σ L v (.agg (en y)) := by
  obtain ⟨cs, rfl, hsz⟩ := okWide_array ht hv
  obtain ⟨fuel, hf⟩ := hd
  obtain ⟨y, hw, hk⟩ := h H enc w 0 spare held fuel _ _ hf
  exact ⟨y, hw, fun σ L => vr_aggc (hk σ L)⟩
end Go.Proofs.YtoibbedpaaeclaaGreat
end

section
namespace Go.Proofs.YtoibbedpaaeclaaGreat.kgate
open Go Go.RowKit Go.Proofs.YtoibbedpaaeclaaGreat
set_option linter.unusedVariables false
set_option linter.unusedSimpArgs false
set_option maxHeartbeats 16000000
set_option maxRecDepth 100000
def arg4 (x y z u : Int) : Nat → Int := fun i => if i = 0 then x else if i = 1 then y else if i = 2 then z else if i = 3 then u else 0
@[go_sem] theorem args_build4 (x y z u : Int) : q4c Tryz.prog 48 [(0, .int .u64 x), (1, .int .u64 y), (2, .int .u64 z), (3, .int .u64 u)] = some (.agg (args (arg4 x y z u))) := by kernel_rfl
def exL : Nat → List Pr := fun i => if i = 2 then [⟨7, 4⟩] else if i = 1 then ownL else []
def exT : Ob := { Ob.zero with id := 1152921504606846977, kind := 4, quota := 1, thread := { Th.zero with labs := exL } }
def exG : Ob := { Ob.zero with id := 1152921504606846978, kind := 5, quota := 1, gate := ⟨ownL, [⟨7, 4⟩], Rf.zero, 5, 6⟩ }
def exC : Ob := { Ob.zero with id := 1152921504606846976, kind := 2, quota := 9, links := [1152921504606846977, 1152921504606846978] }
def exW : Wd := { Wd.zero with key := 3, root := 1152921504606846976, objects := [exC, exT, exG] }
theorem exW_few : FewW exW := ⟨by simp [exW], fun x hx => by simp only [exW, List.mem_cons, List.not_mem_nil, or_false] at hx; rcases hx with rfl | rfl | rfl <;> simp [exC, exT, exG, Ob.zero]⟩
theorem exW_L : exW.L := by
  refine ⟨by simp [exW], fun x hx => ?_⟩
  simp only [exW, List.mem_cons, List.not_mem_nil, or_false] at hx
  have hz : ([] : List Int).length ≤ 9223372036854775807 := by decide
  have hp : ([] : List Pr).length ≤ 9223372036854775807 := by decide
  have hm : ([] : List Mp).length ≤ 9223372036854775807 := by decide
  have hl : ∀ i, i < 4 → (exL i).length ≤ 9223372036854775807 := by
    intro i hi
    unfold exL
    repeat' split
    all_goals decide
  rcases hx with rfl | rfl | rfl
  · exact ⟨⟨hp, by decide, hz, hm, Th.zeroL, Gt.zeroL, hz, hz⟩, by decide⟩
  · exact ⟨⟨hp, hz, hz, hm, ⟨hp, hz, hl⟩, Gt.zeroL, hz, hz⟩, by decide⟩
  · exact ⟨⟨hp, hz, hz, hm, Th.zeroL, ⟨by decide, by decide⟩, hz, hz⟩, by decide⟩
theorem exW_fit : fitW exW = true := by
  have h : q6s exW = true := by decide +kernel
  have h1 : (q2p exW exW.root).2 = true := by rfl
  have h2 : allB exW.objects.length (q8g exW) = true := by rfl
  have hz : ∀ n, hasZ 3 Th.zero.span n = false := fun n => by
    unfold hasZ
    have : (decide (numF 3 n ≥ Th.zero.span.lo) && decide (numF 3 n < Th.zero.span.hi)) = false := by
      show (decide (numF 3 n ≥ 0) && decide (numF 3 n < 0)) = false
      rcases Int.lt_or_le (numF 3 n) 0 with h | h
      · rw [decide_eq_false (by omega : ¬ numF 3 n ≥ 0)]; rfl
      · rw [decide_eq_false (by omega : ¬ numF 3 n < 0), Bool.and_false]
    rw [this]; simp
  have h3 : q7d exW = true := by
    unfold q7d
    refine q2m fun j hj => ?_
    have hj' : j < 3 := hj
    rcases (by omega : j = 0 ∨ j = 1 ∨ j = 2) with rfl | rfl | rfl
    · rfl
    · show (if (exT.kind == 4) = true then allB 3 (q9m exW exT 1) else true) = true
      rw [if_pos (show (exT.kind == 4) = true from rfl)]
      refine q2m fun k hk => ?_
      have hzz : hasZ exW.key exT.thread.span = hasZ 3 Th.zero.span := rfl
      rcases (by omega : k = 0 ∨ k = 1 ∨ k = 2) with rfl | rfl | rfl
      · show (!(hasZ exW.key exT.thread.span exC.id || _)) = true
        rw [hzz, hz]; rfl
      · show (!(hasZ exW.key exT.thread.span exT.id || _)) = true
        rw [hzz, hz]; rfl
      · show (!(hasZ exW.key exT.thread.span exG.id || _)) = true
        rw [hzz, hz]; rfl
    · rfl
  unfold fitW
  rw [h, h1, h2, h3]; rfl
theorem exW_good : Good exW := ⟨exW_L, exW_few, exW_fit⟩
@[go_sem] theorem ex23_b0 (x y : Int) : q3h Tryz.prog 23 2 [(0, .int .u64 x), (1, .int .u64 y)] = some (.sl [u64 x, u64 y]) := by kernel_rfl
@[go_sem] theorem ex23_b1 (id kind quota : Int) (x y : Int) : q4c Tryz.prog 71 [(0, .int .u64 id), (1, .int .i64 kind), (3, .int .i64 quota), (5, .sl [u64 x, u64 y])] = some (.agg (Ob.enc ⟨id, kind, [], quota, false, [x, y], [], [], Th.zero, Gt.zero, [], []⟩)) := by kernel_rfl
@[go_sem] theorem ex23_b2 (p : List Pr) (q : Pr) (a b : Int) : q4c Tryz.prog 69 [(0, .sl (List.map Pr.enc p)), (1, .sl [Pr.enc q]), (3, .int .u64 a), (4, .int .u64 b)] = some (.agg (Gt.enc ⟨p, [q], Rf.zero, a, b⟩)) := by kernel_rfl
@[go_sem] theorem ex23_b3 (id kind quota : Int) (g : Gt) : q4c Tryz.prog 71 [(0, .int .u64 id), (1, .int .i64 kind), (3, .int .i64 quota), (9, .agg (Gt.enc g))] = some (.agg (Ob.enc { Ob.zero with id := id, kind := kind, quota := quota, gate := g })) := by kernel_rfl
@[go_sem] theorem ex23_b4 (x y z : Ob) : q3h Tryz.prog 31 3 [(0, .agg (Ob.enc x)), (1, .agg (Ob.enc y)), (2, .agg (Ob.enc z))] = some (.sl [Ob.enc x, Ob.enc y, Ob.enc z]) := by kernel_rfl
@[go_sem] theorem ex23_b5 (k r : Int) (x y z : Ob) : q4c Tryz.prog 33 [(1, .int .u64 k), (2, .int .u64 r), (3, .sl [Ob.enc x, Ob.enc y, Ob.enc z])] = some (.agg (Wd.enc ⟨0, k, r, [x, y, z]⟩)) := by kernel_rfl
@[go_sem] theorem spl_lab1 (x : Ob) (p : List Pr) : splice (Ob.enc x) 40 [.sl (List.map Pr.enc p)] = Ob.enc { x with thread := { x.thread with labs := fun i => if i = 1 then p else x.thread.labs i } } := by kernel_rfl
@[go_sem] theorem spl_lab2 (x : Ob) (p : Pr) : splice (Ob.enc x) 41 [.sl [Pr.enc p]] = Ob.enc { x with thread := { x.thread with labs := fun i => if i = 2 then [p] else x.thread.labs i } } := by kernel_rfl
theorem arg4_nat (x y z u : Int) (hx : 0 ≤ x) (hy : 0 ≤ y) (hz : 0 ≤ z) (hu : 0 ≤ u) : ∀ i, i < 7 → 0 ≤ arg4 x y z u i := by
  intro i _
  unfold arg4
  repeat' split
  all_goals omega
theorem kgate_do (w : Wd) (id n : Int) (a : Nat → Int) (g : Good w) (hi : isThr w id = true) (ha : ∀ i, i < 7 → 0 ≤ a i) :
    Pure Tryz.prog 26 [.agg (Wd.enc w), .int .u64 id, .int .i64 n, .agg (args a)] (.tup [.agg (Wd.enc (q4x w (q2p w id).1 n a).1), .int .u64 (q4x w (q2p w id).1 n a).2.1, .int .i64 (q4x w (q2p w id).1 n a).2.2.1, .bool (q4x w (q2p w id).1 n a).2.2.2]) :=
  do_pure w id n a _ _ _ (find_p g.few g.fit id) (do_doC _ w n a g (isThr_ok hi).1 (isThr_ok hi).2.2 ha) (kgate_err _ _ _ _)
attribute [local irreducible] q0i dr q0d Ex.then Ex.inBlock retQ q1l q2j q2g Pure CSat evOp q1i rdOf upd hset strip sp0 cut envL q1g q3q Keep BdL evBs q2s q3c
theorem law23_awake : Pure Tryz.prog 25 [] (.bool true) := by
  have h1 := kgate_do exW 1152921504606846977 40 (arg4 1152921504606846976 1152921504606846978 1 2) exW_good (by rfl) (arg4_nat _ _ _ _ (by decide) (by decide) (by decide) (by decide))
  have e1 : q4x exW (q2p exW 1152921504606846977).1 40 (arg4 1152921504606846976 1152921504606846978 1 2) = (exW.ins (gone exT ownL [⟨7, 4⟩] exG.gate 0), 6, 0, true) := by rfl
  rw [e1] at h1
  have h2 := kgate_do exW 1152921504606846977 40 (arg4 1152921504606846976 1152921504606846977 1 2) exW_good (by rfl) (arg4_nat _ _ _ _ (by decide) (by decide) (by decide) (by decide))
  have e2 : q4x exW (q2p exW 1152921504606846977).1 40 (arg4 1152921504606846976 1152921504606846977 1 2) = (exW, 0, 3, true) := by rfl
  rw [e2] at h2
  have h3 := q5y (exW.ins (gone exT ownL [⟨7, 4⟩] exG.gate 0)) 1152921504606846977 (by decide)
  have e3 : q2p (exW.ins (gone exT ownL [⟨7, 4⟩] exG.gate 0)) 1152921504606846977 = (gone exT ownL [⟨7, 4⟩] exG.gate 0, true) := by rfl
  rw [e3] at h3
  have h4 : Pure Tryz.prog 43 [.sl (List.map Pr.enc ownL), .sl (List.map Pr.enc ownL)] (.bool true) := by
    have := q7p ownL ownL (by decide)
    simpa using this
  clear e1 e2 e3
  generalize hX : exW.ins (gone exT ownL [⟨7, 4⟩] exG.gate 0) = X at h1 h3
  clear hX
  have t1 : (gone exT ownL [⟨7, 4⟩] exG.gate 0).label = ownL := rfl
  have t2 : (gone exT ownL [⟨7, 4⟩] exG.gate 0).thread.pc = 5 := rfl
  generalize gone exT ownL [⟨7, 4⟩] exG.gate 0 = T at h3 t1 t2
  simp only at h3
  unfold exW exC exT exG exL at h1 h2
  refine q2d (by kernel_rfl) (by simp only [go_sem, *]) (by simp only [go_sem, *]) Tryz.func25 Tryz.results25 rfl (by simp [Tryz.ntmps25]) (by kernel_rfl) ?_
  repeat' (first | (show q0i ..; first | refine q0c ?_ | refine q0e rfl ?_ | refine q1b rfl rfl ?_) | (show q0k ..; first | refine q0f rfl rfl ?_ | refine q0m rfl ?_) | (show goOn ..; first | refine q0g ?_ | refine q1d ?_ | refine q1x ?_) | (show q3f ..; refine q1h ?_) | (show q1j ..; (refine q0u (r := ?_) ?_ ?_; rotate_left 1; (focus first | exact h1 | exact h2 | exact h3 | exact h4))) | (show wGo ..; refine q3n ?_) | (show q0d ..; first | refine q0h ?_ | refine q0b ?_ | refine q0r ?_) | refine q0a ?_ | (show retQ ..; refine q0s ?_) | refine q0l ?_)
  all_goals rfl
theorem law23_does (w : Wd) (id n : Int) (a : Nat → Int) (xw : w.wf) (xi : U id) (xn : I n) (xa : ∀ i, i < 7 → U (a i)) :
    Pure Tryz.prog 4 [.agg (Wd.enc w), .int .u64 id, .int .i64 n, .agg (args a)] (.bool true) := by
  have hk := law23_awake
  have lo : ∀ x ∈ w.objects, x.L := fun x hx => Ob.lens (xw.2.2.2.1 x hx)
  have b1 := law23_few w xw.2.2.2.2 lo
  cases h1 : fewS w with
  | false =>
    rw [h1] at b1
    refine q2d (by kernel_rfl) (by simp only [go_sem, *]) (by simp only [go_sem, *]) Tryz.func4 Tryz.results4 rfl (by simp [Tryz.ntmps4]) (by kernel_rfl) ?_
    repeat' (first | (show q0i ..; first | refine q0c ?_ | refine q0e rfl ?_ | refine q1b rfl rfl ?_) | (show q0k ..; first | refine q0f rfl rfl ?_ | refine q0m rfl ?_) | (show goOn ..; first | refine q0g ?_ | refine q1d ?_) | (show q1j ..; (refine q0u (r := ?_) ?_ ?_; rotate_left 1; (focus first | exact b1 | exact hk))) | (show wGo ..; refine q5b ?_) | (show q0d ..; first | refine q0h ?_ | refine q0b ?_ | refine q0r ?_ | refine q0j ?_) | (show q0o ..; refine cd_t ?_) | refine q0a ?_ | refine q1v ?_ | (show retQ ..; refine q0s ?_) | refine q0l ?_)
    all_goals rfl
  | true =>
  obtain ⟨hf, hw⟩ := fewS_of h1
  have b2 := law23_thread w id (by have := hf.n; omega)
  cases h2 : isThr w id with
  | false =>
    rw [h1] at b1
    rw [h2] at b2
    refine q2d (by kernel_rfl) (by simp only [go_sem, *]) (by simp only [go_sem, *]) Tryz.func4 Tryz.results4 rfl (by simp [Tryz.ntmps4]) (by kernel_rfl) ?_
    repeat' (first | (show q0i ..; first | refine q0c ?_ | refine q0e rfl ?_ | refine q1b rfl rfl ?_) | (show q0k ..; first | refine q0f rfl rfl ?_ | refine q0m rfl ?_) | (show goOn ..; first | refine q0g ?_ | refine q1d ?_) | (show q1j ..; (refine q0u (r := ?_) ?_ ?_; rotate_left 1; (focus first | exact b1 | exact b2 | exact hk))) | (show wGo ..; refine q4e ?_) | (show q0d ..; first | refine q0h ?_ | refine q0b ?_ | refine q0r ?_ | refine q0j ?_) | (show q0o ..; refine cd_t ?_) | refine q0a ?_ | refine q1v ?_ | (show retQ ..; refine q0s ?_) | refine q0l ?_)
    all_goals rfl
  | true =>
  rw [h1] at b1
  rw [h2] at b2
  have lw : w.L := ⟨xw.2.2.2.2, fun x hx => ⟨lo x hx, by have := (hf.ob x hx).1; omega⟩⟩
  have g : Good w := ⟨lw, hf, hw⟩
  have ha : ∀ i, i < 7 → 0 ≤ a i := fun i hi => by obtain ⟨k, _, hk⟩ := U_nat (xa i hi); omega
  obtain ⟨ht, _, hkd⟩ := isThr_ok h2
  clear h1 lo
  have c1 := kgate_do w id n a g h2 ha
  have d1 := r23_do w id n a g h2 ha
  clear h2
  have gx := kgate_good g ht hkd n a ha
  have s1 := same_c gx.L (rfl : (q4x w (q2p w id).1 n a).1 = _)
  have f1 := r14_fit _ gx.L gx.few
  rw [gx.fit] at f1
  have herr := kgate_err w (q2p w id).1 n a
  generalize q4x w (q2p w id).1 n a = R at c1 d1 s1 f1 herr
  obtain ⟨x, v, e, k⟩ := R
  simp only at c1 d1 s1 f1 herr
  clear gx g xa xw
  cases he : (e == 0) with
  | true =>
    refine q2d (by kernel_rfl) (by simp only [go_sem, *]) (by simp only [go_sem, *]) Tryz.func4 Tryz.results4 rfl (by simp [Tryz.ntmps4]) (by kernel_rfl) ?_
    repeat' (first | (show q0i ..; first | refine q0c ?_ | refine q0e rfl ?_ | refine q1b rfl rfl ?_) | (show q0k ..; first | refine q0f rfl rfl ?_ | refine q0m rfl ?_) | (show goOn ..; first | refine q0g ?_ | refine q1d ?_ | refine q1x ?_) | (show q3f ..; refine q1h ?_) | (show q1j ..; (refine q0u (r := ?_) ?_ ?_; rotate_left 1; (focus first | exact b1 | exact b2 | exact c1 | exact d1 | exact s1 | exact f1 | exact hk))) | (show wGo ..; first | refine q3n ?_ | refine q4e ?_ | refine q5b ?_) | (show q0d ..; first | refine q0h ?_ | refine q0b ?_ | refine q0r ?_ | refine q0q ?_ | refine q0j ?_) | (show q0o ..; refine cd_f ?_) | refine q0a ?_ | (show retQ ..; refine q0s ?_) | refine q0l ?_)
    all_goals rfl
  | false =>
    obtain ⟨rfl, rfl, rfl⟩ := herr he
    refine q2d (by kernel_rfl) (by simp only [go_sem, *]) (by simp only [go_sem, *]) Tryz.func4 Tryz.results4 rfl (by simp [Tryz.ntmps4]) (by kernel_rfl) ?_
    repeat' (first | (show q0i ..; first | refine q0c ?_ | refine q0e rfl ?_ | refine q1b rfl rfl ?_) | (show q0k ..; first | refine q0f rfl rfl ?_ | refine q0m rfl ?_) | (show goOn ..; first | refine q0g ?_ | refine q1d ?_ | refine q1x ?_) | (show q3f ..; refine q1h ?_) | (show q1j ..; (refine q0u (r := ?_) ?_ ?_; rotate_left 1; (focus first | exact b1 | exact b2 | exact c1 | exact d1 | exact s1 | exact f1 | exact hk))) | (show wGo ..; first | refine q3n ?_ | refine q4e ?_) | (show q0d ..; first | refine q0h ?_ | refine q0b ?_ | refine q0r ?_ | refine q0q ?_ | refine q0j ?_) | (show q0o ..; refine cd_f ?_) | refine q0a ?_ | (show retQ ..; refine q0s ?_) | refine q0l ?_)
    all_goals rfl
end Go.Proofs.YtoibbedpaaeclaaGreat.kgate
end
