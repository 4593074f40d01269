import Derived.Test.YtoibbedpaaeclaaGreatRz8
import Derived.Test.YtoibbedpaaeclaaGreatProg
import Derived.Lib.Hide
import Derived.Test.YtoibbedpaaeclaaGreatRz9
import Derived.Test.YtoibbedpaaeclaaGreatRz6
import Derived.Test.YtoibbedpaaeclaaGreatRz3
import Derived.Below
import Derived.Deep.Draws
import Derived.Deep.AppendLies
import Derived.Maps.AppendAt
import Derived.OwnWalk
import Derived.Laws.BytesArg
import Derived.Laws.MakeOwn
import Derived.Laws.OwnMore
import Derived.Deep.OwnRows
import Derived.Tactics
import Derived.Lib.ConvBytes
import Derived.Laws.Slices
import Derived.WalkKit
import Derived.KernelRfl
import Derived.RowKit3
import Derived.Deep.LoopGhost
import Derived.Deep.QuietTactic
import Derived.BigQuiet
import Derived.WideLaws
import Derived.Deep.DeepCutAuto
import Derived.Deep.CutBlock
import Derived.Deep.RegionHeld3
import Derived.Laws.Rows
import Derived.Lib.AppendStr
import Derived.ArgAppend
import Derived.Laws.IdiomCopy
import Derived.OrdersHeld
import Derived.Laws.BitsLemmas
import Derived.RowKit
import Derived.Test.YtoibbedpaaeclaaGreatSW0
import Derived.Test.YtoibbedpaaeclaaGreatRz7
section
namespace Go.Proofs.YtoibbedpaaeclaaGreat
open Go Go.RowKit Go.Shelf
set_option linter.unusedVariables false
set_option linter.unusedSimpArgs false
def szOb : Nat := 51
theorem infoSlOb : (Tryz.prog.info? 71).map (fun i => (i.zero, i.size, i.bytes)) = some (some (.agg #[.int .u64 0, .int .i64 0, .slice none 0 0, .int .i64 0, .bool false, .slice none 0 0, .slice none 0 0, .slice none 0 0, .int .u64 0, .int .u64 0, .int .u64 0, .int .u64 0, .int .u64 0, .int .u64 0, .int .u64 0, .int .u64 0, .int .u64 0, .int .u64 0, .int .u64 0, .int .u64 0, .int .u64 0, .int .u64 0, .int .u64 0, .int .u64 0, .int .u64 0, .slice none 0 0, .int .u64 0, .int .u64 0, .int .u64 0, .int .u64 0, .int .i64 0, .int .u64 0, .int .u64 0, .int .u64 0, .int .u64 0, .bool false, .slice none 0 0, .int .u64 0, .int .u64 0, .slice none 0 0, .slice none 0 0, .slice none 0 0, .slice none 0 0, .slice none 0 0, .slice none 0 0, .int .u64 0, .int .u64 0, .int .u64 0, .int .u64 0, .slice none 0 0, .slice none 0 0]), 51, 632) := by kernel_rfl
theorem sizeOb : (Tryz.prog.info? 71).map (·.size) = some 51 := by kernel_rfl
set_option maxRecDepth 100000 in
theorem cloneOb_calls (l : List (Cl szOb)) (A : Option Addr) (c : Nat) (w : World) (hC : RdC w A l) (hc : l.length ≤ c) (hlen : l.length ≤ 1000000) :
    Calls Tryz.prog 189 #[.slice A l.length c] w fun e w' => ∃ v, e = .returned v ∧ RowC 71 w' w.heap.size v l ∧ Below w.heap.size w w' := by
  have HC := Lib.hid hC
  obtain ⟨n, hn⟩ : ∃ n, n = l.length := ⟨_, rfl⟩
  have HN := Lib.hid hn
  rw [← hn] at hc hlen ⊢
  clear hC hn
  have q22 : ∀ (W : World) (a : Option Addr) (n c : Nat), (binOp .eql 31 (.slice a n c) (.slice none 0 0)).run Tryz.prog W = .ok (.bool a.isNone) W := fun W a n c => Lib.run_eql_slice_nil W _ _ a n c 0 0 Tryz.underlying31
  cases A with
  | none =>
    have h0 : n = 0 := by
      have := HC.out
      by_cases h : 0 < l.length
      · obtain ⟨ad, e, _⟩ := this h
        cases e
      · have := HN.out; omega
    have hl : l = [] := List.eq_nil_of_length_eq_zero (by have := HN.out; omega)
    subst hl
    have H0 := Lib.hid h0
    clear h0
    go_enter Tryz.func189, Tryz.ntmps189
    go_wp2
    go_ret
    exact ⟨_, rfl, ⟨rfl, .inl ⟨rfl, rfl⟩⟩, Below.refl _ _⟩
  | some ad =>
    obtain ⟨w0, hw0⟩ : ∃ w0, w0 = w.alloc (.cells #[] 71) := ⟨_, rfl⟩
    have B0 : Below w.heap.size w w0 := by rw [hw0]; exact x1b w _
    obtain ⟨i, hi, hzz⟩ := Option.map_eq_some_iff.1 infoSlOb
    simp only [Prod.mk.injEq] at hzz
    have hC0 := RdC.below HC.out B0
    have hsrc := C_flat hC0 ad rfl
    have hfl := q5h l
    have hone := flat_one l
    obtain ⟨v1, w1, hrun, hown, hg, _, _⟩ := Go.run_append_own_at (P := Tryz.prog) w0 w.heap.size 31 31 71 i (.agg #[.int .u64 0, .int .i64 0, .slice none 0 0, .int .i64 0, .bool false, .slice none 0 0, .slice none 0 0, .slice none 0 0, .int .u64 0, .int .u64 0, .int .u64 0, .int .u64 0, .int .u64 0, .int .u64 0, .int .u64 0, .int .u64 0, .int .u64 0, .int .u64 0, .int .u64 0, .int .u64 0, .int .u64 0, .int .u64 0, .int .u64 0, .int .u64 0, .int .u64 0, .slice none 0 0, .int .u64 0, .int .u64 0, .int .u64 0, .int .u64 0, .int .i64 0, .int .u64 0, .int .u64 0, .int .u64 0, .int .u64 0, .bool false, .slice none 0 0, .int .u64 0, .int .u64 0, .slice none 0 0, .slice none 0 0, .slice none 0 0, .slice none 0 0, .slice none 0 0, .slice none 0 0, .int .u64 0, .int .u64 0, .int .u64 0, .int .u64 0, .slice none 0 0, .slice none 0 0]) 51 632 Tryz.underlying31 hi hzz.1 hzz.2.1 hzz.2.2 rfl (by decide)
      (.slice (some ⟨w.heap.size, 0, none⟩) 0 0) 0 [] (by rw [hw0]; exact World.ownsRow_made w #[] 0 (Nat.le_refl _) (Nat.zero_le _) rfl)
      ad n c (flat l) (by rw [hfl, HN.out]; rfl) hsrc hone (by simp only [maxLen]; omega) (by omega) (by rw [hw0]; simp)
    have B1 : Below w.heap.size w w1 := B0.grown hg (by rw [hw0]; simp) (fun k hk => by simp [Value.ownBlock] at hk; omega)
    have HR : Hid (RowC 71 w1 w.heap.size v1 l) := Lib.hid (by have := hown; rw [Nat.zero_add, HN.out, List.nil_append] at this; exact this)
    have HB := Lib.hid B1
    rw [hw0] at hrun
    clear hown hg B1 hsrc hfl hone hC0 B0 hw0 hzz
    go_enter Tryz.func189, Tryz.ntmps189
    go_wp2_with (at_builtin; refine Lib.wpList_append_run _ rfl _ _ _ _ rfl _ _ rfl rfl _ _ hrun ?_)
    go_ret
    exact ⟨_, rfl, HR.out, HB.out⟩
set_option maxRecDepth 100000 in
set_option maxHeartbeats 4000000 in
theorem insertEndOb_calls (l : List (Cl szOb)) (v : Value) (x : (Cl szOb)) (vb cv base : Nat) (w : World) (HR : RowC 71 w base v l) {cx : Array Value} {tx : TypeId} (hvb : w.heap[vb]? = some (.cells cx tx (0, 0))) (hcx : ∀ (j : Nat) (u : Value), x.1[j]? = some u → cx[j]? = some u) (hbase : base ≤ w.heap.size) (hlen : l.length ≤ 1000000) :
    Calls Tryz.prog 190 #[v, .int .i64 (l.length : Nat), .slice (some ⟨vb, 0, none⟩) 1 cv] w fun e w' => ∃ v', e = .returned v' ∧ RowC 71 w' base v' (l ++ [x]) ∧ Mv w w' v v' := by
  obtain ⟨i, hi, hzz⟩ := Option.map_eq_some_iff.1 infoSlOb
  simp only [Prod.mk.injEq] at hzz
  have hO := HR
  obtain ⟨n, hn⟩ : ∃ n, n = l.length := ⟨_, rfl⟩
  obtain ⟨v1, w1, hrun, hown, hblk⟩ := append_own2 (P := Tryz.prog) w base 31 71 i _ 31 Tryz.underlying31 hi hzz.1 (by rw [hzz.2.1]; rfl) (by rw [hzz.2.1]; decide) v l.length (flat l) (by rw [hzz.2.1]; exact hO) hbase vb cv x.1 (by rw [hzz.2.1]; exact x.2.1) x.2.2 (fun j u hu => by rw [Addr.add_lit, Nat.zero_add, cell_of_row _ vb _ _ _ _ hvb]; exact hcx j u hu) (by rw [hzz.2.2]; omega) (by simp only [maxLen]; omega)
  rw [hzz.2.1] at hown
  have hfin : Hid (RowC 71 w1 base v1 (l ++ [x])) := Lib.hid ((by
    have e : flat (l ++ [x]) = flat l ++ x.1 := by rw [q5m]; simp [flat]
    show w1.ownsRow base 71 51 v1 (l ++ [x]).length (flat (l ++ [x]))
    rw [e, List.length_append]; exact hown))
  rw [← hn] at hlen ⊢
  obtain ⟨A, c, hv⟩ := own_slice HR
  have hnc : n ≤ c := by
    rcases hO.2 with ⟨e, h0⟩ | ⟨g', c', cur, e, _, _, h, _⟩
    · omega
    · rw [hv] at e
      injection e with _ _ e3
      omega
  rw [← hn] at hv
  have hbk : Hid (∀ c', c' = c → Mv w w1 (.slice A n c') v1) := Lib.hid (fun c' e => by subst e; rw [hv] at hblk; exact hblk)
  subst hv
  clear HR hO hown hblk hvb hcx hbase hzz hi hn
  have hle : (n : Int) ≤ (n : Int) := Int.le_refl _
  have heq : ((n : Int) == (n : Int)) = true := by simp
  rw [← append_types (P := Tryz.prog) 31 31 71 71 31 Tryz.underlying31 Tryz.underlying31] at hrun
  go_enter Tryz.func190, Tryz.ntmps190
  go_wp2_with (at_builtin; refine Lib.wpList_append_run _ rfl _ _ _ _ rfl _ _ rfl rfl _ _ hrun ?_)
  all_goals (go_ret; exact ⟨_, rfl, hfin.out, hbk.out _ (by first | rfl | omega)⟩)
set_option maxRecDepth 100000 in
set_option maxHeartbeats 4000000 in
theorem x0t (l : List (Cl szOb)) (g c k : Nat) (x : (Cl szOb)) (vb cv base : Nat) (w : World) (HR : RowC 71 w base (.slice (some ⟨g, 0, none⟩) l.length c) l) (hk : k < l.length) (hroom : l.length + 1 ≤ c) {cx : Array Value} {tx : TypeId} (hvb : w.heap[vb]? = some (.cells cx tx (0, 0))) (hcx : ∀ (j : Nat) (u : Value), x.1[j]? = some u → cx[j]? = some u) (hne : vb ≠ g) (hlen : l.length ≤ 1000000) :
    Calls Tryz.prog 190 #[.slice (some ⟨g, 0, none⟩) l.length c, .int .i64 k, .slice (some ⟨vb, 0, none⟩) 1 cv] w fun e w' => ∃ v', e = .returned v' ∧ RowC 71 w' base v' (l.take k ++ x :: l.drop k) ∧ Mv w w' (.slice (some ⟨g, 0, none⟩) l.length c) v' := by
  have HR0 := HR
  obtain ⟨_, hcase⟩ := HR0
  rcases hcase with ⟨h0, _⟩ | ⟨g', c', cur, e, hb, hg, hnc, hcm, hcs, htake⟩
  · cases h0
  injection e with ea _ ec
  injection ea with ea
  injection ea with ea
  subst ea; subst ec
  obtain ⟨n, hn⟩ : ∃ n, n = l.length := ⟨_, rfl⟩
  have hsz : szOb = 51 := rfl
  have hdr : (flat (l.drop k)).length = (n - k) * 51 := by rw [q5h, List.length_drop, ← hn, hsz]
  obtain ⟨cur1, h1⟩ : ∃ cur1, cur1 = cur.toList.take ((k + 1) * szOb) ++ flat (l.drop k) ++ cur.toList.drop ((k + 1) * szOb + (flat (l.drop k)).length) := ⟨_, rfl⟩
  obtain ⟨cur2, h2⟩ : ∃ cur2, cur2 = cur1.take (k * szOb) ++ x.1 ++ cur1.drop (k * szOb + x.1.length) := ⟨_, rfl⟩
  have hD := insert_cells (cur := cur.toList) (l := l) (cap := c) (k := k) (by rw [Array.length_toList]; exact hcs) hroom htake hk h1 h2
  have hgd : w.drew.heap[g]? = some (.cells cur 71 (0, 0)) := hg
  have hg1 : (w.drew.setRow g cur1.toArray).heap[g]? = some (.cells cur1.toArray 71 (0, 0)) := q8w _ g cur _ _ _ hgd
  have hv1 : (w.drew.setRow g cur1.toArray).heap[vb]? = some (.cells cx tx (0, 0)) := (setRow_other _ g vb _ hne).trans hvb
  have hcp1 : ∀ ty dc sc, (Builtin.copy_ #[31, 31] ty #[.slice (some ⟨g, (k + 1) * 51, none⟩) (n - k) dc, .slice (some ⟨g, k * 51, none⟩) (n + 1 - k) sc]).run Tryz.prog w.drew = .ok (goInt (n - k : Nat)) (w.drew.setRow g cur1.toArray) := fun ty dc sc => by
    have hmin : Nat.min (n + 1 - k) (n - k) = n - k := Nat.min_eq_right (by omega)
    have := copy_row (P := Tryz.prog) w.drew 31 31 ty 71 51 g ((k + 1) * 51) (n - k) dc ⟨g, k * 51, none⟩ (n + 1 - k) sc cur 71 (flat (l.drop k)) Tryz.underlying31 sizeOb hgd (by rw [hdr, hmin]) (fun j u hj => by
      rw [Addr.add_lit, cell_of_row _ g _ cur _ _ hgd]
      rw [← flat_drop l k (by omega), ← htake, List.getElem?_drop, List.getElem?_take] at hj
      split at hj
      · rw [Array.getElem?_toList, hsz] at hj
        exact hj
      · cases hj) (by have := hD.1; rw [Array.length_toList] at this; exact this) (flat_one _)
    rw [hmin] at this
    rw [this, h1]; rfl
  have hcp2 : ∀ ty dc, (Builtin.copy_ #[31, 31] ty #[.slice (some ⟨g, k * 51, none⟩) (n + 1 - k) dc, .slice (some ⟨vb, 0, none⟩) 1 cv]).run Tryz.prog (w.drew.setRow g cur1.toArray) = .ok (goInt (1 : Nat)) ((w.drew.setRow g cur1.toArray).setRow g cur2.toArray) := fun ty dc => by
    have hmin : Nat.min 1 (n + 1 - k) = 1 := Nat.min_eq_left (by omega)
    have := copy_row (P := Tryz.prog) (w.drew.setRow g cur1.toArray) 31 31 ty 71 51 g (k * 51) (n + 1 - k) dc ⟨vb, 0, none⟩ 1 cv cur1.toArray 71 x.1 Tryz.underlying31 sizeOb hg1 (by rw [hmin, Nat.one_mul]; exact x.2.1) (fun j u hj => by
      rw [Addr.add_lit, Nat.zero_add, cell_of_row _ vb _ _ _ _ hv1]
      exact hcx j u hj) (by have : k * 51 + x.1.length ≤ cur1.length := hD.2.2.1; simpa using this) (x.2.2)
    rw [hmin] at this
    rw [this, h2]; rfl
  have hov : ∀ lb cb, (callFunc 237 #[.slice (some ⟨vb, 0, none⟩) 1 cv, .slice (some ⟨g, (k + 1) * 51, none⟩) lb cb]).run Tryz.prog w = .ok (.value (.bool false)) w := fun lb cb => by
    rw [run_callFunc_extern Tryz.func237 (by kernel_rfl) (by kernel_rfl) (by kernel_rfl) (e := Extern.SlicesOverlaps.overlaps #[31, 31] #[4]) (by kernel_rfl),
      Lib.run_overlaps_apart w 31 4 71 Tryz.underlying31 51 (fun w => by kernel_rfl) ⟨vb, 0, none⟩ ⟨g, (k + 1) * 51, none⟩ 1 cv lb cb hne tx 71 cx.size cur.size (by simp [World.shape?, hvb]) (by simp [World.shape?, hg]) (by rw [hcs]; exact Nat.mul_ne_zero (by omega) (by decide)) (by simp [World.frozen?, hvb]) (by simp [World.frozen?, hvb])]
    rfl
  have hfin : Hid (RowC 71 ((w.drew.setRow g cur1.toArray).setRow g cur2.toArray) base (.slice (some ⟨g, 0, none⟩) (n + 1) c) (l.take k ++ x :: l.drop k)) := Lib.hid (by
    have hle : (l.take k ++ x :: l.drop k).length = n + 1 := by rw [List.length_append, List.length_cons, List.length_take, List.length_drop]; omega
    have := flat_block (xs := l.take k ++ x :: l.drop k) (cap := c) hb (q8w _ g _ cur2.toArray _ _ hg1) (by omega) hcm (by simpa using hD.2.2.2.1) (by have := hD.2.2.2.2; rw [← hn] at this; rw [hle]; simpa using this)
    have e2 : Value.slice (some ⟨g, 0, none⟩) (l.take k ++ x :: l.drop k).length c = .slice (some ⟨g, 0, none⟩) (n + 1) c := by rw [hle]
    rw [e2] at this
    exact this)
  have hbel : Hid (w.grownBy ((w.drew.setRow g cur1.toArray).setRow g cur2.toArray) (some g)) := Lib.hid (gb_setRow (gb_setRow (gb_drew (gb_refl _ _)) g _ (.inl rfl)) g _ (.inl rfl))
  have mixed : Tryz.prog.follows Departure.mixedOrders = true := by kernel_rfl
  rw [← hn] at hk hroom hlen ⊢
  have hz2 : ¬ ((k : Int) = (n : Int)) := by omega
  have hzb : ((k : Int) == (n : Int)) = false := beq_eq_false_iff_ne.2 hz2
  have hx1 : (k : Int) ≤ (n : Int) := by omega
  have hx2 : (k : Int) ≤ (n : Int) + 1 := by omega
  have hx3 : (k : Int) + 1 ≤ (n : Int) + 1 := by omega
  have hx4 : (0 : Int) ≤ (k : Int) + 1 := by omega
  have hx5 : (0 : Int) ≤ (n : Int) + 1 := by omega
  have hx6 : (n : Int) + 1 ≤ (c : Int) := by omega
  have hx7 : ¬ (c < n + 1) := by omega
  have hw1 : IntKind.i64.wrap ((k : Int) + 1) = (k : Int) + 1 := by rw [IntKind.wrap_i64]; omega
  have htn : ((k : Int) + 1).toNat = k + 1 := by omega
  have hw2 : IntKind.i64.wrap ((n : Int) + 1) = (n : Int) + 1 := by rw [IntKind.wrap_i64]; omega
  have hx8 : ¬ ((c : Int) < (n : Int) + 1) := by omega
  have hc1 : ¬ (c = k) := by omega
  have hc2 : ¬ (c = k + 1) := by omega
  have hcm' : c ≤ 9223372036854775807 := by simp only [maxLen] at hcm; omega
  clear HR hb hg hcm hcs htake hD h1 h2 hdr hgd hg1 hv1 hn hvb hcx hnc
  go_enter Tryz.func190, Tryz.ntmps190
  go_wp2_with (simp only [hov])
  go_region_law_o (refine step_copy rfl _ _ 31 31 rfl _ _ (by simp [Act.eval, Act.put]; done) (by simp [Act.eval, Act.put]; done) (hcp1 _ (c - (k + 1)) (c - k)) ?_)
  go_wp2_with (at_builtin; refine wpl_copy _ rfl _ _ 31 31 rfl _ _ rfl rfl (hcp2 _ _) ?_)
  go_ret
  exact ⟨_, rfl, hfin.out, .inl ⟨⟨_, _, _, _, rfl, rfl⟩, hbel.out⟩⟩
set_option maxRecDepth 100000 in
set_option maxHeartbeats 4000000 in
theorem x0u (l : List (Cl szOb)) (g c k : Nat) (x : (Cl szOb)) (vb cv base : Nat) (w : World) (HR : RowC 71 w base (.slice (some ⟨g, 0, none⟩) l.length c) l) (hk : k < l.length) (hroom : ¬ (l.length + 1 ≤ c)) {cx : Array Value} {tx : TypeId} (hvb : w.heap[vb]? = some (.cells cx tx (0, 0))) (hcx : ∀ (j : Nat) (u : Value), x.1[j]? = some u → cx[j]? = some u) (hbase : base ≤ w.heap.size) (hlen : l.length ≤ 1000000) :
    Calls Tryz.prog 190 #[.slice (some ⟨g, 0, none⟩) l.length c, .int .i64 k, .slice (some ⟨vb, 0, none⟩) 1 cv] w fun e w' => ∃ v', e = .returned v' ∧ RowC 71 w' base v' (l.take k ++ x :: l.drop k) ∧ Mv w w' (.slice (some ⟨g, 0, none⟩) l.length c) v' := by
  have HR0 := HR
  obtain ⟨_, hcase⟩ := HR0
  rcases hcase with ⟨h0, _⟩ | ⟨g', c', cur, e, hb, hg, hnc, hcm, hcs, htake⟩
  · cases h0
  injection e with ea _ ec
  injection ea with ea
  injection ea with ea
  subst ea; subst ec
  obtain ⟨i, hi, hzz⟩ := Option.map_eq_some_iff.1 infoSlOb
  simp only [Prod.mk.injEq] at hzz
  obtain ⟨n, hn⟩ : ∃ n, n = l.length := ⟨_, rfl⟩
  obtain rfl : c = n := by omega
  have hsz : szOb = 51 := rfl
  have hdr : (flat (l.drop k)).length = (c - k) * 51 := by rw [q5h, List.length_drop, ← hn, hsz]
  have htk : (flat (l.take k)).length = k * 51 := by rw [q5h, List.length_take, Nat.min_eq_left (by omega)]; rfl
  have hgl : g < w.heap.size := blk_lt hg
  have hvl : vb < w.heap.size := blk_lt hvb
  obtain ⟨G, hG⟩ : ∃ G, G = grownCap w (c + 1) c 71 := ⟨_, rfl⟩
  have hGn : c + 1 ≤ G := by rw [hG]; exact grownCap_ge w _ _ _
  have hGm : G ≤ maxLen := by rw [hG]; exact grownCap_le_maxLen w (c + 1) c 71 (by unfold maxLen; omega)
  obtain ⟨ROW, hROW⟩ : ∃ ROW : Array Value, ROW = (flat (l.take k)).toArray ++ Builtin.zeroCells (.agg #[.int .u64 0, .int .i64 0, .slice none 0 0, .int .i64 0, .bool false, .slice none 0 0, .slice none 0 0, .slice none 0 0, .int .u64 0, .int .u64 0, .int .u64 0, .int .u64 0, .int .u64 0, .int .u64 0, .int .u64 0, .int .u64 0, .int .u64 0, .int .u64 0, .int .u64 0, .int .u64 0, .int .u64 0, .int .u64 0, .int .u64 0, .int .u64 0, .int .u64 0, .slice none 0 0, .int .u64 0, .int .u64 0, .int .u64 0, .int .u64 0, .int .i64 0, .int .u64 0, .int .u64 0, .int .u64 0, .int .u64 0, .bool false, .slice none 0 0, .int .u64 0, .int .u64 0, .slice none 0 0, .slice none 0 0, .slice none 0 0, .slice none 0 0, .slice none 0 0, .slice none 0 0, .int .u64 0, .int .u64 0, .int .u64 0, .int .u64 0, .slice none 0 0, .slice none 0 0] : Value).cells (c + 1 - k) ++ Builtin.zeroCells (.agg #[.int .u64 0, .int .i64 0, .slice none 0 0, .int .i64 0, .bool false, .slice none 0 0, .slice none 0 0, .slice none 0 0, .int .u64 0, .int .u64 0, .int .u64 0, .int .u64 0, .int .u64 0, .int .u64 0, .int .u64 0, .int .u64 0, .int .u64 0, .int .u64 0, .int .u64 0, .int .u64 0, .int .u64 0, .int .u64 0, .int .u64 0, .int .u64 0, .int .u64 0, .slice none 0 0, .int .u64 0, .int .u64 0, .int .u64 0, .int .u64 0, .int .i64 0, .int .u64 0, .int .u64 0, .int .u64 0, .int .u64 0, .bool false, .slice none 0 0, .int .u64 0, .int .u64 0, .slice none 0 0, .slice none 0 0, .slice none 0 0, .slice none 0 0, .slice none 0 0, .slice none 0 0, .int .u64 0, .int .u64 0, .int .u64 0, .int .u64 0, .slice none 0 0, .slice none 0 0] : Value).cells (G - (c + 1)) := ⟨_, rfl⟩
  have hzsz : (.agg #[.int .u64 0, .int .i64 0, .slice none 0 0, .int .i64 0, .bool false, .slice none 0 0, .slice none 0 0, .slice none 0 0, .int .u64 0, .int .u64 0, .int .u64 0, .int .u64 0, .int .u64 0, .int .u64 0, .int .u64 0, .int .u64 0, .int .u64 0, .int .u64 0, .int .u64 0, .int .u64 0, .int .u64 0, .int .u64 0, .int .u64 0, .int .u64 0, .int .u64 0, .slice none 0 0, .int .u64 0, .int .u64 0, .int .u64 0, .int .u64 0, .int .i64 0, .int .u64 0, .int .u64 0, .int .u64 0, .int .u64 0, .bool false, .slice none 0 0, .int .u64 0, .int .u64 0, .slice none 0 0, .slice none 0 0, .slice none 0 0, .slice none 0 0, .slice none 0 0, .slice none 0 0, .int .u64 0, .int .u64 0, .int .u64 0, .int .u64 0, .slice none 0 0, .slice none 0 0] : Value).cells.size = 51 := rfl
  have hRs : ROW.toList.length = G * szOb := by
    rw [hROW, Array.length_toList]
    simp only [Array.size_append, List.size_toArray, size_zeroCells, htk, hzsz, ← Nat.add_mul, hsz]
    congr 1; omega
  have hRt : ROW.toList.take (k * szOb) = flat (l.take k) := by
    show ROW.toList.take (k * 51) = flat (l.take k)
    rw [hROW]
    simp only [Array.toList_append, List.append_assoc]
    exact List.take_left' htk
  have hrz : ∀ ty, (Builtin.append_ #[31, 3] ty #[.slice (some ⟨g, 0, none⟩) k c, .int .i64 ((c : Int) + 1 - (k : Int))]).run Tryz.prog w =
      .ok (.slice (some ⟨w.heap.size, 0, none⟩) (c + 1) G) (w.drew.alloc (.cells ROW 71)) := fun ty => by
    have hold : (Builtin.firstCells i.size k (.slice (some ⟨g, 0, none⟩) k c)).run Tryz.prog w.drew = .ok (flat (l.take k)).toArray w.drew := by
      rw [hzz.2.1]
      exact run_firstCells_some w.drew 51 k ⟨g, 0, none⟩ k c (flat (l.take k)) htk (fun j u hj => by
        rw [Addr.add_lit, Nat.zero_add, cell_of_row _ g _ cur _ _ (show w.drew.heap[g]? = some (.cells cur 71 (0, 0)) from hg)]
        rw [← flat_take l k (by omega), ← htake, List.take_take, List.getElem?_take] at hj
        split at hj
        · rw [Array.getElem?_toList] at hj
          exact hj
        · cases hj)
    have hkk : (c : Int) + 1 - (k : Int) = ((c + 1 - k : Nat) : Int) := by omega
    have hik : k + (c + 1 - k) = c + 1 := by omega
    have h := Lib.run_append_grow_zeros w 31 3 ty 71 i _ .i64 .i64 Tryz.underlying31 Tryz.underlying3 hi hzz.1 (some ⟨g, 0, none⟩) k c (flat (l.take k)) hold (c + 1 - k) (by omega) (by rw [hzz.2.1]; decide) (by omega) (by omega) (by rw [hzz.2.2]; omega) (by rw [hzz.2.2, hik]; exact growslice_fits (by omega) (by omega))
    rw [hik, ← hG, ← hROW] at h
    rw [hkk]
    exact h
  obtain ⟨cur1, h1⟩ : ∃ cur1, cur1 = ROW.toList.take (k * szOb) ++ x.1 ++ ROW.toList.drop (k * szOb + x.1.length) := ⟨_, rfl⟩
  obtain ⟨cur2, h2⟩ : ∃ cur2, cur2 = cur1.take ((k + 1) * szOb) ++ flat (l.drop k) ++ cur1.drop ((k + 1) * szOb + (flat (l.drop k)).length) := ⟨_, rfl⟩
  have hD := grown_cells (row := ROW.toList) (l := l) (cap := G) (k := k) hRs (by omega) hk hRt h1 h2
  obtain ⟨W1, hW1⟩ : ∃ W1, W1 = w.drew.alloc (.cells ROW 71) := ⟨_, rfl⟩
  have hgW : W1.heap[w.heap.size]? = some (.cells ROW 71 (0, 0)) := by rw [hW1]; exact heap_alloc_new w.drew _
  have hgg : W1.heap[g]? = some (.cells cur 71 (0, 0)) := by rw [hW1]; exact blk_alloc (show w.drew.heap[g]? = some (.cells cur 71 (0, 0)) from hg) _
  have hgv : W1.heap[vb]? = some (.cells cx tx (0, 0)) := by rw [hW1]; exact blk_alloc (show w.drew.heap[vb]? = some (.cells cx tx (0, 0)) from hvb) _
  have hg1 : ∀ W : World, W.heap = W1.heap → (W.setRow w.heap.size cur1.toArray).heap[w.heap.size]? = some (.cells cur1.toArray 71 (0, 0)) := fun W hW => q8w _ _ ROW _ _ _ (by rw [hW]; exact hgW)
  have hcpA : ∀ W : World, W.heap = W1.heap → ∀ ty dc, (Builtin.copy_ #[31, 31] ty #[.slice (some ⟨w.heap.size, k * 51, none⟩) (c + 1 - k) dc, .slice (some ⟨vb, 0, none⟩) 1 cv]).run Tryz.prog W = .ok (goInt (1 : Nat)) (W.setRow w.heap.size cur1.toArray) := fun W hW ty dc => by
    have hmin : Nat.min 1 (c + 1 - k) = 1 := Nat.min_eq_left (by omega)
    have := copy_row (P := Tryz.prog) W 31 31 ty 71 51 w.heap.size (k * 51) (c + 1 - k) dc ⟨vb, 0, none⟩ 1 cv ROW 71 x.1 Tryz.underlying31 sizeOb (by rw [hW]; exact hgW) (by rw [hmin, Nat.one_mul]; exact x.2.1) (fun j u hj => by
      rw [Addr.add_lit, Nat.zero_add, cell_of_row _ vb _ _ _ _ (by rw [hW]; exact hgv)]
      exact hcx j u hj) (by have : k * 51 + x.1.length ≤ ROW.toList.length := hD.1; rw [Array.length_toList] at this; exact this) (x.2.2)
    rw [hmin] at this
    rw [this, h1]; rfl
  have hcpB : ∀ W : World, W.heap = (W1.setRow w.heap.size cur1.toArray).heap → ∀ ty dc sc, (Builtin.copy_ #[31, 31] ty #[.slice (some ⟨w.heap.size, (k + 1) * 51, none⟩) (c - k) dc, .slice (some ⟨g, k * 51, none⟩) (c - k) sc]).run Tryz.prog W = .ok (goInt (c - k : Nat)) (W.setRow w.heap.size cur2.toArray) := fun W hW ty dc sc => by
    have hmin : Nat.min (c - k) (c - k) = c - k := Nat.min_self _
    have hgB : W.heap[g]? = some (.cells cur 71 (0, 0)) := by rw [hW]; exact (setRow_other _ _ g _ (by omega)).trans hgg
    have := copy_row (P := Tryz.prog) W 31 31 ty 71 51 w.heap.size ((k + 1) * 51) (c - k) dc ⟨g, k * 51, none⟩ (c - k) sc cur1.toArray 71 (flat (l.drop k)) Tryz.underlying31 sizeOb (by rw [hW]; exact hg1 W1 rfl) (by rw [hdr, hmin]) (fun j u hj => by
      rw [Addr.add_lit, cell_of_row _ g _ cur _ _ hgB]
      rw [← flat_drop l k (by omega), ← htake, List.getElem?_drop, List.getElem?_take] at hj
      split at hj
      · rw [Array.getElem?_toList, hsz] at hj
        exact hj
      · cases hj) (by have : (k + 1) * 51 + (flat (l.drop k)).length ≤ cur1.length := hD.2.2.1; simpa using this) (flat_one _)
    rw [hmin] at this
    rw [this, h2]; rfl
  have hfin : Hid (∀ W : World, W.heap = ((W1.setRow w.heap.size cur1.toArray).setRow w.heap.size cur2.toArray).heap → RowC 71 W base (.slice (some ⟨w.heap.size, 0, none⟩) (c + 1) G) (l.take k ++ x :: l.drop k)) := Lib.hid (fun W hW => by
    have hle : (l.take k ++ x :: l.drop k).length = c + 1 := by rw [List.length_append, List.length_cons, List.length_take, List.length_drop]; omega
    have hgF : W.heap[w.heap.size]? = some (.cells cur2.toArray 71 (0, 0)) := by rw [hW]; exact q8w _ _ cur1.toArray _ _ _ (hg1 W1 rfl)
    have := flat_block (xs := l.take k ++ x :: l.drop k) (cap := G) hbase hgF (by omega) hGm (by simpa using hD.2.2.2.1) (by have := hD.2.2.2.2; rw [← hn] at this; rw [hle]; simpa using this)
    have e2 : Value.slice (some ⟨w.heap.size, 0, none⟩) (l.take k ++ x :: l.drop k).length G = .slice (some ⟨w.heap.size, 0, none⟩) (c + 1) G := by rw [hle]
    rw [e2] at this
    exact this)
  have hbel : Hid (Below w.heap.size w ((W1.setRow w.heap.size cur1.toArray).setRow w.heap.size cur2.toArray)) := Lib.hid (by
    rw [hW1]
    have hbA : Below w.heap.size w (w.drew.alloc (.cells ROW 71)) := (Below.refl _ _).drew.alloc (by simp) _
    exact below_setRow (below_setRow hbA _ _ (Nat.le_refl _)) _ _ (Nat.le_refl _))
  have mixed : Tryz.prog.follows Departure.mixedOrders = true := by kernel_rfl
  rw [← hn] at hk hlen ⊢
  have hz2 : ¬ ((k : Int) = (c : Int)) := by omega
  have hzb : ((k : Int) == (c : Int)) = false := beq_eq_false_iff_ne.2 hz2
  have hx1 : (k : Int) ≤ (c : Int) := by omega
  have hx2 : (k : Int) ≤ (c : Int) + 1 := by omega
  have hx3 : (k : Int) + 1 ≤ (c : Int) + 1 := by omega
  have hx4 : (0 : Int) ≤ (k : Int) + 1 := by omega
  have hx5 : (0 : Int) ≤ (c : Int) + 1 := by omega
  have hx8 : (c : Int) < (c : Int) + 1 := by omega
  have hw1 : IntKind.i64.wrap ((k : Int) + 1) = (k : Int) + 1 := by rw [IntKind.wrap_i64]; omega
  have htn : ((k : Int) + 1).toNat = k + 1 := by omega
  have hw2 : IntKind.i64.wrap ((c : Int) + 1) = (c : Int) + 1 := by rw [IntKind.wrap_i64]; omega
  have hw3 : IntKind.i64.wrap ((c : Int) + 1 - (k : Int)) = (c : Int) + 1 - (k : Int) := by rw [IntKind.wrap_i64]; omega
  have hc1 : ¬ (c = k) := by omega
  have hG1 : ¬ (G = k) := by omega
  have hG2 : ¬ (G = k + 1) := by omega
  have hG63 : G ≤ 9223372036854775807 := by simp only [maxLen] at hGm; omega
  subst hW1
  clear HR hb hg hcm hcs htake hD h1 h2 hdr hn hvb hcx hnc hRs hRt hgW hgg hgv hg1 htk hGm hG hROW hzz hi hgl hvl
  have hA : ∀ ty, (Builtin.copy_ #[31, 31] ty #[.slice (some ⟨w.heap.size, k * 51, none⟩) (c + 1 - k) (G - k), .slice (some ⟨vb, 0, none⟩) 1 cv]).run Tryz.prog ((w.alloc (.cells ROW 71)).drew) = .ok (goInt (1 : Nat)) (((w.alloc (.cells ROW 71)).drew).setRow w.heap.size cur1.toArray) := fun ty => hcpA ((w.alloc (.cells ROW 71)).drew) rfl ty (G - k)
  have hB : ∀ ty, (Builtin.copy_ #[31, 31] ty #[.slice (some ⟨w.heap.size, (k + 1) * 51, none⟩) (c - k) (G - (k + 1)), .slice (some ⟨g, k * 51, none⟩) (c - k) (c - k)]).run Tryz.prog (((w.alloc (.cells ROW 71)).drew.setRow w.heap.size cur1.toArray).drew) = .ok (goInt (c - k : Nat)) ((((w.alloc (.cells ROW 71)).drew.setRow w.heap.size cur1.toArray).drew).setRow w.heap.size cur2.toArray) := fun ty => hcpB (((w.alloc (.cells ROW 71)).drew.setRow w.heap.size cur1.toArray).drew) rfl ty (G - (k + 1)) (c - k)
  clear hcpA hcpB
  go_enter Tryz.func190, Tryz.ntmps190
  go_wp2_with (first
    | (at_builtin; refine Lib.wpList_append_run _ rfl _ _ _ _ rfl _ _ rfl rfl _ _ (hrz _) ?_)
    | (at_builtin; refine wpl_copy _ rfl _ _ 31 31 rfl _ _ rfl rfl (hA _) ?_))
  go_region_law_o (refine step_copy rfl _ _ 31 31 rfl _ _ (by simp [Act.eval, Act.put]; done) (by simp [Act.eval, Act.put]; done) (hB _) ?_)
  go_wp2
  go_ret
  exact ⟨_, rfl, hfin.out _ (by rfl), .inr ⟨rfl, hbel.out.os, hbel.out.tape, hbel.out.output, hbel.out.size, hbel.out.block⟩⟩
theorem insertOb_calls (l : List (Cl szOb)) (v : Value) (k : Nat) (x : (Cl szOb)) (vb cv base : Nat) (w : World) (HR : RowC 71 w base v l) (hk : k ≤ l.length) {cx : Array Value} {tx : TypeId} (hvb : w.heap[vb]? = some (.cells cx tx (0, 0))) (hcx : ∀ (j : Nat) (u : Value), x.1[j]? = some u → cx[j]? = some u) (hne : v.ownBlock ≠ some vb) (hbase : base ≤ w.heap.size) (hlen : l.length ≤ 1000000) :
    Calls Tryz.prog 190 #[v, .int .i64 k, .slice (some ⟨vb, 0, none⟩) 1 cv] w fun e w' => ∃ v', e = .returned v' ∧ RowC 71 w' base v' (l.take k ++ x :: l.drop k) ∧ Mv w w' v v' := by
  by_cases he : k = l.length
  · subst he
    rw [List.take_length, List.drop_length]
    exact insertEndOb_calls l v x vb cv base w HR hvb hcx hbase hlen
  · have hk' : k < l.length := by omega
    have HR0 := HR
    obtain ⟨_, hcase⟩ := HR0
    rcases hcase with ⟨_, h0⟩ | ⟨g, c, cur, rfl, _⟩
    · omega
    have hg : vb ≠ g := fun e => hne (by simp [Value.ownBlock, e])
    by_cases hroom : l.length + 1 ≤ c
    · exact x0t l g c k x vb cv base w HR hk' hroom hvb hcx hg hlen
    · exact x0u l g c k x vb cv base w HR hk' hroom hvb hcx hbase hlen
end Go.Proofs.YtoibbedpaaeclaaGreat
end

section
namespace Go.Proofs.YtoibbedpaaeclaaGreat
open Go Go.RowKit
set_option linter.unusedVariables false
set_option linter.unusedSimpArgs false
set_option maxHeartbeats 16000000
set_option maxRecDepth 100000
attribute [go_sem] q1m
attribute [local irreducible] q0i dr q0d Ex.then Ex.inBlock retQ q1l q2j q2g Pure CSat evOp q1i rdOf upd hset strip sp0 cut envL q1g q3q Keep BdL evBs q2s q3c
theorem q7o (l : List Ob) : ∀ e ∈ l.map Ob.enc, e.length = szOb := fun e he => by obtain ⟨y, _, rfl⟩ := List.mem_map.1 he; exact Ob.len y
theorem flat_mlen (l : List Ob) : (l.map Ob.enc).flatten.length = l.length * 51 := by rw [q1u (q7o l), List.length_map]; rfl
theorem flat_mset (l : List Ob) (k : Nat) (x : Ob) (hk : k < l.length) : ((l.set k x).map Ob.enc).flatten = splice (l.map Ob.enc).flatten (k * 51) (Ob.enc x) := by
  induction l generalizing k with
  | nil => simp at hk
  | cons a l ih =>
    cases k with
    | zero =>
      simp only [List.set_cons_zero, List.map_cons, List.flatten_cons, Nat.zero_mul, splice, List.take_zero, List.nil_append, Nat.zero_add]
      rw [List.drop_left' (by rw [Ob.len, Ob.len])]
    | succ k =>
      have := ih k (by simpa using hk)
      simp only [List.set_cons_succ, List.map_cons, List.flatten_cons, this]
      have e : (Ob.enc a).length = 51 := Ob.len a
      have h1 : ∀ (R : List PV), (Ob.enc a ++ R).take ((k + 1) * 51) = Ob.enc a ++ R.take (k * 51) := fun R => by
        rw [List.take_append, List.take_of_length_le (by rw [e]; omega), e, show (k + 1) * 51 - 51 = k * 51 by omega]
      have h2 : ∀ (R : List PV), (Ob.enc a ++ R).drop ((k + 1) * 51 + (Ob.enc x).length) = R.drop (k * 51 + (Ob.enc x).length) := fun R => by
        rw [List.drop_append, List.drop_eq_nil_of_le (by rw [e]; omega), e, show (k + 1) * 51 + (Ob.enc x).length - 51 = k * 51 + (Ob.enc x).length by omega, List.nil_append]
      unfold splice
      rw [h1, h2]
      simp only [List.append_assoc]
theorem ins_ob {fn : FuncId} (hins : InsertC Tryz.prog fn 71 szOb) {l : List Ob} {k : Nat} (hk : k ≤ l.length) (x : Ob) (hl : l.length ≤ 1000000) {H : Heap} {m id ix e1 z1 : Nat} (hid : H id = some (.box (l.map Ob.enc).flatten)) (hix : H ix = some (.box [Ob.enc x].flatten)) (hne : ix ≠ id) :
    CSat Tryz.prog fn [.bs id l.length 71 szOb, .int .i64 k, .bs ix 1 e1 z1] H m (fun out H' m' =>
      (out = .ret (.bs id ((l.take k ++ x :: l.drop k).length) 71 szOb) ∧ H' = hset H id (some (.box ((l.take k ++ x :: l.drop k).map Ob.enc).flatten)) ∧ m' = m) ∨
      (out = .ret (.bs m ((l.take k ++ x :: l.drop k).length) 71 szOb) ∧ H' = hset H m (some (.box ((l.take k ++ x :: l.drop k).map Ob.enc).flatten)) ∧ m' = m + 1)) := by
  have := insert_csat hins (els := l.map Ob.enc) (q7o l) (by simpa using hl) (k := k) (by simpa using hk) (xe := [Ob.enc x].flatten) (by simp only [List.flatten_cons, List.flatten_nil, List.append_nil]; exact Ob.len x) (m := m) (e1 := e1) (z1 := z1) hid hix hne
  have e : (l.map Ob.enc).take k ++ [Ob.enc x].flatten :: (l.map Ob.enc).drop k = (l.take k ++ x :: l.drop k).map Ob.enc := by simp
  rw [e, List.length_map, List.length_map] at this
  exact this
theorem obj_with (l : List Ob) (x : Ob) (hl : l.length ≤ 1000000) (hs : RisO l) : Pure Tryz.prog 131 [.agg (Ls.enc (LsO l)), .agg (Ob.enc x)] (.sl ((withL l x).map Ob.enc)) := by
  have hat := obj_at l x.id hl hs
  have hcl : CloneC Tryz.prog 189 71 szOb := cloneOb_calls
  have hins : InsertC Tryz.prog 190 71 szOb := fun l v k x vb cv base w h1 h2 {cx tx} h3 h4 h5 h6 h7 => insertOb_calls l v k x vb cv base w h1 h2 h3 h4 h5 h6 h7
  have hpl := pos_le l x.id
  cases hh : hitO l x.id with
  | true =>
    rw [hh] at hat
    obtain ⟨y, hy, hyid, hk⟩ := hit_lt hh
    have hw : withL l x = l.set (posO l x.id) x := by unfold withL; rw [if_pos hh]
    rw [hw]
    clear hh hw
    refine pureF (by kernel_rfl) (by simp only [go_sem, *]) Tryz.func131 Tryz.results131 rfl (by simp [Tryz.ntmps131]) (by kernel_rfl) ?_
    repeat' (first | (show q0i ..; first | refine q0c ?_ | refine q0e rfl ?_) | (show q0k ..; first | refine q0f rfl rfl ?_ | refine q0m rfl ?_) | (show goOn ..; first | refine q0g ?_ | refine q1d ?_) | (show dr ..; first | refine q1y ?_ | refine dr_n rfl ?_) | (show drGo ..; first | refine q3b rfl ?_ | refine q2l rfl ?_) | (show drOn ..; refine q1z ?_) | (show q2h ..; (refine q1f (r := ?_) ?_ ?_; rotate_left 1; (focus first | exact obj_idOf _ | exact hat))) | (refine And.intro (by kernel_rfl : q1l _ = true) ?_) | (show q0d ..; first | refine q0h ?_ | refine q0b ?_ | refine q1k (by kernel_rfl) ?_) | refine q0a ?_)
    (refine q0w (by kernel_rfl) (clone_csat hcl (els := l.map Ob.enc) (q7o l) (by simpa using hl) _ _) ?_ ?_)
    case refine_2 => rintro p H' m' (⟨_, h, _⟩ | ⟨h, _⟩) <;> cases h
    rintro r H' m' (⟨hnil, _⟩ | ⟨h, rfl, rfl⟩)
    · have : l = [] := by simpa using hnil
      subst this; simp at hk
    · cases h
      have h1 : ((posO l x.id : Int) < (l.length : Int)) = True := eq_true (by omega)
      have h2 : (posO l x.id * 51 + 51 ≤ ((l.map Ob.enc).flatten).length) = True := eq_true (by rw [flat_mlen]; omega)
      repeat' (first | (show q0i ..; first | refine q0c ?_ | refine q0e rfl ?_) | (show q0k ..; refine q0f rfl rfl ?_) | (show goOn ..; first | refine q0g ?_ | refine q1x ?_) | (show q3f ..; refine q1h ?_) | (show q0d ..; first | refine q0h ?_ | refine q0b ?_ | refine q0r ?_ | refine q0j ?_) | (show q0o ..; refine cd_t ?_) | refine q0a ?_ | refine q1v ?_ | (show retQ ..; refine q0s ?_) | refine q0l ?_)
      refine ⟨_, rfl, fz_bs szOb (by (try simp only [go_sem]); try rfl) (by rw [List.length_map, List.length_set]) (q7o _) (flat_mset _ _ _ hk) (by simp only [go_sem])⟩
  | false =>
    rw [hh] at hat
    have hw : withL l x = l.take (posO l x.id) ++ x :: l.drop (posO l x.id) := by unfold withL; rw [if_neg (by rw [hh]; simp)]
    rw [hw]
    clear hh hw
    refine pureF (by kernel_rfl) (by simp only [go_sem, *]) Tryz.func131 Tryz.results131 rfl (by simp [Tryz.ntmps131]) (by kernel_rfl) ?_
    repeat' (first | (show q0i ..; first | refine q0c ?_ | refine q0e rfl ?_) | (show q0k ..; first | refine q0f rfl rfl ?_ | refine q0m rfl ?_) | (show goOn ..; first | refine q0g ?_ | refine q1d ?_) | (show dr ..; first | refine q1y ?_ | refine dr_n rfl ?_) | (show drGo ..; first | refine q3b rfl ?_ | refine q2l rfl ?_) | (show drOn ..; refine q1z ?_) | (show q2h ..; (refine q1f (r := ?_) ?_ ?_; rotate_left 1; (focus first | exact obj_idOf _ | exact hat))) | (refine And.intro (by kernel_rfl : q1l _ = true) ?_) | (show q0d ..; first | refine q0h ?_ | refine q0b ?_ | refine q1k (by kernel_rfl) ?_) | refine q0a ?_)
    (refine q0w (by kernel_rfl) (clone_csat hcl (els := l.map Ob.enc) (q7o l) (by simpa using hl) _ _) ?_ ?_)
    case refine_2 => rintro p H' m' (⟨_, h, _⟩ | ⟨h, _⟩) <;> cases h
    rintro r H' m' (⟨hnil, h, rfl, rfl⟩ | ⟨h, rfl, rfl⟩)
    · cases h
      have : l = [] := by simpa using hnil
      subst this
      have hp0 : posO ([] : List Ob) x.id = 0 := rfl
      repeat' (first | (show q0i ..; first | refine q0c ?_ | refine q0e rfl ?_) | (show q0k ..; first | (refine run_bs rfl rfl ?_; first | refine q1d ?_ | (refine q1x ?_; refine q1h ?_)) | refine q0f rfl rfl ?_ | refine q0m rfl ?_) | (show goOn ..; refine q0g ?_) | (show q0d ..; first | refine q0h ?_ | refine q0b ?_ | refine q0q ?_ | refine q0j ?_) | (show q0o ..; refine cd_f ?_) | refine q0a ?_)
      (refine q0w (by kernel_rfl) (insert0_csat hins (xe := [Ob.enc x].flatten) (by simp only [List.flatten_cons, List.flatten_nil, List.append_nil]; exact Ob.len x) (by simp only [go_sem])) ?_ ?_)
      case refine_2 => rintro p H' m' ⟨h, _⟩; cases h
      rintro r H' m' ⟨h, rfl, rfl⟩
      cases h
      repeat' (first | (show q0i ..; first | refine q0c ?_ | refine q0e rfl ?_) | (show q0k ..; refine q0f rfl rfl ?_) | (show goOn ..; refine q0g ?_) | (show q0d ..; refine q0r ?_) | refine q0a ?_ | (show retQ ..; refine q0s ?_) | refine q0l ?_)
      refine ⟨_, rfl, fz_bs szOb (by (try simp only [go_sem]); try rfl) (by simp) (q7o _) (by simp) (by simp only [go_sem])⟩
    · cases h
      repeat' (first | (show q0i ..; first | refine q0c ?_ | refine q0e rfl ?_) | (show q0k ..; first | (refine run_bs rfl rfl ?_; first | refine q1d ?_ | (refine q1x ?_; refine q1h ?_)) | refine q0f rfl rfl ?_ | refine q0m rfl ?_) | (show goOn ..; refine q0g ?_) | (show q0d ..; first | refine q0h ?_ | refine q0b ?_ | refine q0q ?_ | refine q0j ?_) | (show q0o ..; refine cd_f ?_) | refine q0a ?_)
      (refine q0w (by kernel_rfl) (ins_ob hins hpl x hl (id := 2) (ix := 3) (by simp only [go_sem]) (by simp only [go_sem]) (by decide)) ?_ ?_)
      case refine_2 => rintro p H' m' (⟨h, _⟩ | ⟨h, _⟩) <;> cases h
      rintro r H' m' (⟨h, rfl, rfl⟩ | ⟨h, rfl, rfl⟩)
      all_goals cases h
      all_goals repeat' (first | (show q0i ..; first | refine q0c ?_ | refine q0e rfl ?_) | (show q0k ..; refine q0f rfl rfl ?_) | (show goOn ..; refine q0g ?_) | (show q0d ..; refine q0r ?_) | refine q0a ?_ | (show retQ ..; refine q0s ?_) | refine q0l ?_)
      all_goals (refine ⟨_, rfl, fz_bs szOb (by (try simp only [go_sem]); try rfl) (by simp) (q7o _) (by simp) (by simp only [go_sem])⟩)
theorem obj_put (w : Wd) (o : Ob) (hl : w.objects.length ≤ 1000000) (hs : RisO w.objects) : Pure Tryz.prog 75 [.agg (Wd.enc w), .agg (Ob.enc o)] (.agg (Wd.enc (putW w o))) := by
  have hw := obj_with w.objects o hl hs
  refine q2d (by kernel_rfl) (by simp only [go_sem, *]) (by simp only [go_sem, *]) Tryz.func75 Tryz.results75 rfl (by simp [Tryz.ntmps75]) (by kernel_rfl) ?_
  repeat' (first | (show q0i ..; first | refine q0c ?_ | refine q0e rfl ?_) | (show q0k ..; refine q0f rfl rfl ?_) | (show goOn ..; first | refine q0g ?_ | refine q1d ?_ | refine q1x ?_) | (show q3f ..; refine q1h ?_) | (show dr ..; first | refine q1y ?_ | refine dr_n rfl ?_) | (show drGo ..; first | refine q3b rfl ?_ | refine q2l rfl ?_) | (show drOn ..; refine q1z ?_) | (show q2h ..; (refine q1f (r := ?_) ?_ ?_; rotate_left 1; (focus first | exact x0c _ | exact hw))) | (refine And.intro (by kernel_rfl : q1l _ = true) ?_) | (show q0d ..; first | refine q0h ?_ | refine q0b ?_ | refine q1k (by kernel_rfl) ?_ | refine q0r ?_ | refine q0q ?_ | refine q0j ?_) | (show q0o ..; refine cd_b (fun _ => ?_) (fun _ => ?_)) | refine q0a ?_ | (show retQ ..; refine q0s ?_) | refine q0l ?_)
  all_goals (rename_i hc; unfold putW; rw [hc]; rfl)
end Go.Proofs.YtoibbedpaaeclaaGreat
end

section
namespace Go.Proofs.YtoibbedpaaeclaaGreat
open Go Go.RowKit
set_option linter.unusedVariables false
set_option linter.unusedSimpArgs false
set_option maxHeartbeats 16000000
set_option maxRecDepth 100000
def ownL : List Pr := [⟨7, 0⟩]
@[go_sem high] theorem bs_own : q3h Tryz.prog 26 1 [(0, .agg (Pr.enc ⟨7, 0⟩))] = some (.sl (List.map Pr.enc ownL)) := by kernel_rfl
attribute [local irreducible] q0i dr q0d Ex.then Ex.inBlock retQ q1l q2j q2g Pure CSat evOp q1i rdOf upd hset strip sp0 cut envL q1g q3q Keep BdL evBs q2s q3c
end Go.Proofs.YtoibbedpaaeclaaGreat
end

section
namespace Go.Proofs.YtoibbedpaaeclaaGreat
open Go Go.RowKit
set_option linter.unusedVariables false
set_option linter.unusedSimpArgs false
set_option maxHeartbeats 16000000
set_option maxRecDepth 100000
attribute [local irreducible] q0i dr q0d Ex.then Ex.inBlock retQ q1l q2j q2g Pure CSat evOp q1i rdOf upd hset strip sp0 cut envL q1g q3q Keep BdL evBs q2s q3c
end Go.Proofs.YtoibbedpaaeclaaGreat
end

section
namespace Go.Proofs.YtoibbedpaaeclaaGreat
open Go Go.RowKit
set_option linter.unusedVariables false
set_option linter.unusedSimpArgs false
set_option maxHeartbeats 16000000
set_option maxRecDepth 100000
def Wd.ins (w : Wd) (o : Ob) : Wd := { w with objects := insR o w.objects }
theorem ins_ris {w : Wd} (h : RisO w.objects) (o : Ob) : RisO (w.ins o).objects := insR_ris h
theorem ins_len (w : Wd) (o : Ob) : (w.ins o).objects.length ≤ w.objects.length + 1 := insR_len o _
theorem ins_L {w : Wd} (h : w.L) {o : Ob} (ho : o.L) (hl : o.label.length ≤ 900000) (hn : w.objects.length ≤ 100000) : (w.ins o).L := by
  refine ⟨by have := ins_len w o; omega, fun x hx => ?_⟩
  rcases insR_mem hx with rfl | hx
  · exact ⟨ho, hl⟩
  · exact h.2 x hx
theorem put_c (w : Wd) (o : Ob) (hr : RisO w.objects) (hl : w.objects.length ≤ 1000) : Pure Tryz.prog 75 [.agg (Wd.enc w), .agg (Ob.enc o)] (.agg (Wd.enc (w.ins o))) := by
  have := obj_put w o (by omega) hr
  rw [(putW_eq hr hl).1] at this; exact this
theorem putR_c (w : Wd) (o : Ob) (hr : RisO w.objects) (hl : w.objects.length ≤ 1000) : Pure Tryz.prog 66 [.agg (Wd.enc w), .agg (Ob.enc o)] (.agg (Wd.enc (w.ins o))) := by
  have := r13_put w o (by omega)
  rw [(putW_eq hr hl).2] at this; exact this
theorem same_c {a b : Wd} (ha : a.L) (h : a = b) : Pure Tryz.prog 28 [.agg (Wd.enc a), .agg (Wd.enc b)] (.bool true) := by
  subst h
  have := r13_sameW a a ha
  rw [sameWd_refl] at this; exact this
attribute [local irreducible] q0i dr q0d Ex.then Ex.inBlock retQ q1l q2j q2g Pure CSat evOp q1i rdOf upd hset strip sp0 cut envL q1g q3q Keep BdL evBs q2s q3c
end Go.Proofs.YtoibbedpaaeclaaGreat
end

section
namespace Go.Proofs.YtoibbedpaaeclaaGreat
open Go Go.RowKit
set_option linter.unusedVariables false
set_option linter.unusedSimpArgs false
def hd (x : Ob) : Ob := { Ob.zero with id := x.id, kind := x.kind, label := x.label, quota := x.quota, fixed := x.fixed, links := x.links, data := List.replicate x.data.length 0, thread := { Th.zero with span := x.thread.span } }
theorem allB_congr {n : Nat} {f g : Nat → Bool} (h : ∀ k, f k = g k) : allB n f = allB n g := by
  have : f = g := funext h
  rw [this]
noncomputable def treeR (w : Wd) : Bool := (q2p w w.root).2 && (allB w.objects.length (q8g w) && q7d w)
theorem fitW_eq (w : Wd) : fitW w = (q6s w && treeR w) := by
  unfold fitW treeR
  rw [Bool.and_assoc]
theorem q6n {w : Wd} (hw : q6s w = true) {o : Ob} (ho : o ∈ w.objects) : sound o = true := (q5n hw).2.1 o ho
theorem fnd_mem : ∀ {l : List Ob} {x : Ob}, RisO l → x ∈ l → fnd l x.id = some x
  | [], _, _, h => by cases h
  | y :: l, x, hr, h => by
    rw [fnd_cons]
    rcases List.mem_cons.1 h with rfl | h
    · rw [if_pos rfl]
    · have := hr.head x h
      rw [if_neg (by omega), fnd_mem hr.tail h]
theorem insR_map {o p : Ob} : ∀ {l : List Ob}, RisO l → o ∈ l → p.id = o.id → insR p l = l.map fun x => if x.id = o.id then p else x
  | [], _, h, _ => by cases h
  | x :: l, hr, ho, hp => by
    have same : ∀ k : List Ob, (∀ y ∈ k, o.id < y.id) → (k.map fun x => if x.id = o.id then p else x) = k := fun k hk => by
      induction k with
      | nil => rfl
      | cons y k ih =>
        have hy := hk y (by simp)
        rw [List.map_cons, ih (fun z hz => hk z (by simp [hz])), if_neg (by omega)]
    rw [List.map_cons]
    unfold insR
    rcases List.mem_cons.1 ho with rfl | ho
    · rw [if_neg (by omega), if_pos hp.symm, if_pos rfl, same l hr.head]
    · have := hr.head o ho
      rw [if_pos (by omega), if_neg (by omega), insR_map hr.tail ho hp]
end Go.Proofs.YtoibbedpaaeclaaGreat
end

section
namespace Go.Proofs.YtoibbedpaaeclaaGreat
open Go Go.RowKit
set_option linter.unusedVariables false
set_option linter.unusedSimpArgs false
section
variable {w x : Wd} {ρ : Ob → Ob}
end
theorem id_eq {w : Wd} (hr : RisO w.objects) {a b : Ob} (ha : a ∈ w.objects) (hb : b ∈ w.objects) (h : a.id = b.id) : a = b := by
  have h1 := fnd_mem hr ha
  have h2 := fnd_mem hr hb
  rw [h, h2] at h1
  cases h1; rfl
theorem sound_pos {o : Ob} (h : sound o = true) : 1 ≤ o.id := by
  unfold sound q6h at h
  simp only [Bool.and_eq_true] at h
  have := h.1.1
  unfold idOk at this
  simp only [Bool.and_eq_true, decide_eq_true_eq] at this
  omega
end Go.Proofs.YtoibbedpaaeclaaGreat
end

section
namespace Go.Proofs.YtoibbedpaaeclaaGreat
open Go Go.RowKit
set_option linter.unusedVariables false
set_option linter.unusedSimpArgs false
def hl (x : Ob) : Ob := { Ob.zero with id := x.id, kind := x.kind, quota := x.quota, fixed := x.fixed, links := x.links, data := List.replicate x.data.length 0, thread := { Th.zero with span := x.thread.span } }
def hlW (w : Wd) : Wd := { w with time := 0, objects := w.objects.map hl }
theorem hl_pages (x : Ob) : pagesR (hl x) = pagesR x := by
  unfold pagesR hl
  simp only [List.length_replicate]
theorem hl_find (w : Wd) (id : Int) : q2p (hlW w) id = (hl (q2p w id).1, (q2p w id).2) := by
  have e : (hlW w).objects.find? (fun x => x.id == id) = (w.objects.find? (fun x => x.id == id)).map hl := by
    show (w.objects.map hl).find? _ = _
    rw [List.find?_map]; rfl
  unfold q2p
  rw [e]
  cases w.objects.find? (fun x => x.id == id) with
  | none => rfl
  | some x => rfl
theorem hl_holders (w : Wd) (id : Int) : q2w (hlW w) id = q2w w id := by
  unfold q2w
  show ((w.objects.map hl).filter _).map Ob.id = _
  rw [List.filter_map, List.map_map]; rfl
theorem hl_aboveG (w : Wd) : ∀ (f : Nat) (id : Int) (out : List Int), q8u (hlW w) f id out = q8u w f id out
  | 0, _, _ => rfl
  | f + 1, id, out => by
    unfold q8u
    rw [hl_holders]
    cases q2w w id with
    | nil => rfl
    | cons h t => exact hl_aboveG w f h (out ++ [h])
theorem hl_above (w : Wd) (id : Int) : above (hlW w) id = above w id := by
  unfold above
  rw [hl_aboveG]
  show q8u w ((w.objects.map hl).length + 1) id [] = _
  rw [List.length_map]
theorem hl_up (w : Wd) (id : Int) : upR (hlW w) id = upR w id := by
  unfold upR
  rw [hl_above]; rfl
theorem hl_placed (w : Wd) (o : Ob) : q8l (hlW w) (hl o) = q8l w o := by
  unfold q8l
  rw [hl_holders, hl_up]; rfl
theorem hl_uses (w : Wd) (o : Ob) : usesR (hlW w) (hl o) = usesR w o := by
  unfold usesR
  rw [hl_pages]
  show List.foldl _ _ o.links = _
  congr 1
  funext s id
  rw [hl_find]; rfl
theorem hl_spanOk (w : Wd) (t : Ob) (i : Int) (k : Nat) : q9m (hlW w) (hl t) i k = q9m w t i k := by
  unfold q9m
  show (match (w.objects.map hl)[k]? with | some o => !(hasZ w.key (hl t).thread.span o.id || ((o.kind == 4) && (((k : Int) != i) && !apartZ (hl t).thread.span o.thread.span))) | none => true) = _
  rw [List.getElem?_map]
  cases w.objects[k]? with
  | none => rfl
  | some x => rfl
theorem hl_spanAt (w : Wd) (i : Nat) : q8i (hlW w) i = q8i w i := by
  unfold q8i
  show (match (w.objects.map hl)[i]? with | some t => if (t.kind == 4) = true then allB (w.objects.map hl).length (q9m (hlW w) t i) else true | none => true) = _
  rw [List.getElem?_map, List.length_map]
  cases w.objects[i]? with
  | none => rfl
  | some x => simp only [Option.map_some]; rw [allB_congr (hl_spanOk w x i)]; rfl
theorem hl_spans (w : Wd) : q7d (hlW w) = q7d w := by
  unfold q7d
  rw [allB_congr (hl_spanAt w)]
  show allB (w.objects.map hl).length _ = _
  rw [List.length_map]
theorem allB_at {n k : Nat} {f : Nat → Bool} (h : allB n f = true) (hk : k < n) : f k = true := allB_iff.1 h k hk
theorem hl_at {w y : Wd} (h : hlW y = hlW w) {k : Nat} {z' : Ob} (hz : y.objects[k]? = some z') : ∃ z, w.objects[k]? = some z ∧ hl z' = hl z := by
  have h1 : (y.objects.map hl)[k]? = (w.objects.map hl)[k]? := by
    have := congrArg Wd.objects h
    exact congrArg (fun l : List Ob => l[k]?) this
  rw [List.getElem?_map, List.getElem?_map, hz] at h1
  cases hw : w.objects[k]? with
  | none => rw [hw] at h1; cases h1
  | some z => rw [hw] at h1; exact ⟨z, rfl, Option.some.inj h1⟩
theorem hl_links {a b : Ob} (h : hl a = hl b) : a.links = b.links := (congrArg Ob.links h : (hl a).links = (hl b).links)
theorem hl_kind {a b : Ob} (h : hl a = hl b) : a.kind = b.kind := (congrArg Ob.kind h : (hl a).kind = (hl b).kind)
theorem hl_quota {a b : Ob} (h : hl a = hl b) : a.quota = b.quota := (congrArg Ob.quota h : (hl a).quota = (hl b).quota)
theorem hl_id {a b : Ob} (h : hl a = hl b) : a.id = b.id := (congrArg Ob.id h : (hl a).id = (hl b).id)
theorem tree_relab {w y : Wd} (h : hlW y = hlW w) (ht : treeR w = true) (hp : ∀ (k : Nat) (z' : Ob), y.objects[k]? = some z' → ∀ (j : Nat) (id : Int), z'.links[j]? = some id → q6w z'.label (q2p y id).1.label = true) : treeR y = true := by
  have hroot : y.root = w.root := (congrArg Wd.root h : (hlW y).root = (hlW w).root)
  have hf2 : ∀ id, (q2p y id).2 = (q2p w id).2 := fun id => by
    have h1 := congrArg Prod.snd (hl_find y id)
    have h2 := congrArg Prod.snd (hl_find w id)
    rw [h] at h1
    rw [h1] at h2
    exact h2
  unfold treeR at ht ⊢
  simp only [Bool.and_eq_true] at ht ⊢
  obtain ⟨h1, h2, h3⟩ := ht
  refine ⟨by rw [hroot, hf2]; exact h1, q2m fun k hk => ?_, by rw [← hl_spans, h, hl_spans]; exact h3⟩
  obtain ⟨z', hz'⟩ := q2f hk
  obtain ⟨z, hz, e⟩ := hl_at h hz'
  have ha := allB_at h2 (q3y hz)
  unfold q8g at ha ⊢
  rw [hz] at ha
  rw [hz']
  simp only [Bool.and_eq_true] at ha ⊢
  obtain ⟨a1, a2⟩ := ha
  refine ⟨?_, by rw [← hl_placed, h, e, hl_placed]; exact a2⟩
  unfold q9p at a1 ⊢
  simp only [Bool.and_eq_true] at a1 ⊢
  refine ⟨q2m fun j hj => ?_, by rw [← hl_uses, h, e, hl_uses, hl_kind e, hl_quota e]; exact a1.2⟩
  rw [hl_links e] at hj
  have b1 := allB_at a1.1 hj
  unfold q7q at b1 ⊢
  obtain ⟨id, hid⟩ := q2f hj
  rw [hid] at b1
  rw [hl_links e, hid]
  simp only [Bool.and_eq_true] at b1 ⊢
  exact ⟨by rw [hf2]; exact b1.1, hp k z' hz' j id (by rw [hl_links e]; exact hid)⟩
/-- One object with another label: it links nothing itself, and may lie where it lies. -/
theorem lab_fit {w : Wd} {o p : Ob} (hw : fitW w = true) (ho : o ∈ w.objects) (e : hl p = hl o) (hn : o.links = []) (hs : sound p = true) (hpl : ∀ d ∈ w.objects, o.id ∈ d.links → q6w d.label p.label = true) : fitW (w.ins p) = true := by
  have hwd := q7z hw
  obtain ⟨h1, h2, h3, h4, h5⟩ := q5n hwd
  have hid : p.id = o.id := hl_id e
  have hobj : (w.ins p).objects = w.objects.map fun x => if x.id = o.id then p else x := insR_map h1 ho hid
  have hone : ∀ x ∈ w.objects, x.id = o.id → x = o := fun x hx h => id_eq h1 hx ho h
  have hhl : hlW (w.ins p) = hlW w := by
    unfold hlW
    rw [hobj, List.map_map]
    show ({ w with time := 0, objects := _ } : Wd) = _
    congr 1
    refine List.map_congr_left fun x hx => ?_
    simp only [Function.comp]
    by_cases h : x.id = o.id
    · rw [if_pos h, e, hone x hx h]
    · rw [if_neg h]
  have hfind : ∀ id, q2p (w.ins p) id = if id = o.id then (p, true) else q2p w id := fun id => by
    unfold q2p
    rw [hobj, List.find?_map]
    by_cases h : id = o.id
    · rw [if_pos h]
      have : w.objects.find? ((fun x : Ob => x.id == id) ∘ fun x => if x.id = o.id then p else x) = some o := by
        rw [List.find?_eq_some_iff_getElem]
        obtain ⟨k, hk⟩ := List.getElem?_of_mem ho
        have hkl := q3y hk
        have hke : w.objects[k] = o := by rw [List.getElem?_eq_getElem hkl] at hk; exact Option.some.inj hk
        refine ⟨by simp [Function.comp, hid, h], k, hkl, hke, fun j hj => ?_⟩
        have hne : (w.objects[j]'(by omega)).id ≠ o.id := fun hc => by
          have := h1 j k _ _ (List.getElem?_eq_getElem (by omega)) hk hj
          omega
        simp [Function.comp, hne, h]
      rw [this]
      simp
    · rw [if_neg h]
      have : w.objects.find? ((fun x : Ob => x.id == id) ∘ fun x => if x.id = o.id then p else x) = w.objects.find? (fun x => x.id == id) := by
        congr 1
        funext x
        simp only [Function.comp]
        by_cases hx : x.id = o.id
        · rw [if_pos hx, hid, hx]
        · rw [if_neg hx]
      rw [this]
      cases hq : w.objects.find? (fun x => x.id == id) with
      | none => rfl
      | some x =>
        have hx : x.id = id := by simpa using List.find?_some hq
        simp only [Option.map_some]
        rw [if_neg (by omega)]
  rw [fitW_eq, Bool.and_eq_true] at hw ⊢
  refine ⟨ris_fit (ins_ris h1 p) (fun y hy => ?_) (by rw [hobj, List.length_map]; exact h3) h4 h5, tree_relab hhl hw.2 fun k z' hz' j id hj => ?_⟩
  · rw [hobj] at hy
    obtain ⟨z, hz, rfl⟩ := List.mem_map.1 hy
    by_cases h : z.id = o.id
    · rw [if_pos h]; exact hs
    · rw [if_neg h]; exact h2 z hz
  · rw [hobj, List.getElem?_map] at hz'
    cases hz : w.objects[k]? with
    | none => rw [hz] at hz'; cases hz'
    | some z =>
      rw [hz] at hz'
      have hzm := List.mem_of_getElem? hz
      simp only [Option.map_some, Option.some.injEq] at hz'
      by_cases h : z.id = o.id
      · rw [if_pos h] at hz'
        subst hz'
        rw [hl_links e, hn] at hj
        simp at hj
      · rw [if_neg h] at hz'
        subst hz'
        rw [hfind]
        by_cases hi : id = o.id
        · rw [if_pos hi]
          subst hi
          exact hpl z hzm (List.mem_of_getElem? hj)
        · rw [if_neg hi]
          have ht := hw.2
          unfold treeR at ht
          simp only [Bool.and_eq_true] at ht
          have ha := allB_at ht.2.1 (q3y hz)
          unfold q8g at ha
          rw [hz] at ha
          simp only [Bool.and_eq_true] at ha
          have hl := ha.1
          unfold q9p at hl
          simp only [Bool.and_eq_true] at hl
          have hb := allB_at hl.1 (q3y hj)
          unfold q7q at hb
          rw [hj] at hb
          simp only [Bool.and_eq_true] at hb
          exact hb.2
end Go.Proofs.YtoibbedpaaeclaaGreat
end

section
namespace Go.Proofs.YtoibbedpaaeclaaGreat
open Go Go.RowKit
set_option linter.unusedVariables false
set_option linter.unusedSimpArgs false
set_option maxHeartbeats 4000000
--BEGIN
section
variable {l A B : List Mp} {m : Mp}
end
--END
end Go.Proofs.YtoibbedpaaeclaaGreat
end

section
namespace Go.Proofs.YtoibbedpaaeclaaGreat
open Go Go.RowKit Go.Shelf
set_option linter.unusedVariables false
set_option linter.unusedSimpArgs false
end Go.Proofs.YtoibbedpaaeclaaGreat
end

section
namespace Go.Proofs.YtoibbedpaaeclaaGreat
open Go Go.RowKit
set_option linter.unusedVariables false
set_option linter.unusedSimpArgs false
set_option maxHeartbeats 16000000
set_option maxRecDepth 100000
section
variable {a b : List PV}
end
attribute [local irreducible] q0i dr q0d Ex.then Ex.inBlock retQ q1l q2j q2g Pure CSat evOp q1i rdOf upd hset strip sp0 cut envL q1g q3q Keep BdL evBs q2s q3c
end Go.Proofs.YtoibbedpaaeclaaGreat
end

section
namespace Go.Proofs.YtoibbedpaaeclaaGreat
open Go Go.RowKit
set_option linter.unusedVariables false
set_option linter.unusedSimpArgs false
set_option maxHeartbeats 16000000
set_option maxRecDepth 100000
attribute [go_sem] q1m
attribute [local irreducible] q0i dr q0d Ex.then Ex.inBlock retQ q1l q2j q2g Pure CSat evOp q1i rdOf upd hset strip sp0 cut envL q1g q3q Keep BdL evBs q2s q3c
end Go.Proofs.YtoibbedpaaeclaaGreat
end

section
namespace Go.Proofs.YtoibbedpaaeclaaGreat
open Go Go.RowKit
set_option linter.unusedVariables false
set_option linter.unusedSimpArgs false
set_option maxHeartbeats 16000000
set_option maxRecDepth 100000
attribute [go_sem] q1m
attribute [local irreducible] q0i dr q0d Ex.then Ex.inBlock retQ q1l q2j q2g Pure CSat evOp q1i rdOf upd hset strip sp0 cut envL q1g q3q Keep BdL evBs q2s q3c
end Go.Proofs.YtoibbedpaaeclaaGreat
end

section
namespace Go.Proofs.YtoibbedpaaeclaaGreat
open Go Go.RowKit
set_option linter.unusedVariables false
set_option linter.unusedSimpArgs false
set_option maxHeartbeats 16000000
set_option maxRecDepth 100000
attribute [go_sem] q1m
attribute [local go_sem] List.length_append
@[go_sem] theorem pne_3 (m : Nat) : (0 = m + 1) = False := eq_false (by omega)
@[go_sem] theorem pne_4 (m : Nat) : (m + 1 = 0) = False := eq_false (by omega)
attribute [local irreducible] q0i dr q0d Ex.then Ex.inBlock retQ q1l q2j q2g Pure CSat evOp q1i rdOf upd hset strip sp0 cut envL q1g q3q Keep BdL evBs q2s q3c
end Go.Proofs.YtoibbedpaaeclaaGreat
end

section
namespace Go.Proofs.YtoibbedpaaeclaaGreat
open Go Go.RowKit
set_option linter.unusedVariables false
set_option linter.unusedSimpArgs false
set_option maxHeartbeats 16000000
set_option maxRecDepth 100000
attribute [go_sem] q1m
attribute [local irreducible] q0i dr q0d Ex.then Ex.inBlock retQ q1l q2j q2g Pure CSat evOp q1i rdOf upd hset strip sp0 cut envL q1g q3q Keep BdL evBs q2s q3c
end Go.Proofs.YtoibbedpaaeclaaGreat
end

section
namespace Go.Proofs.YtoibbedpaaeclaaGreat
open Go Go.RowKit Go.Shelf
set_option linter.unusedVariables false
set_option linter.unusedSimpArgs false
end Go.Proofs.YtoibbedpaaeclaaGreat
end

section
namespace Go.Proofs.YtoibbedpaaeclaaGreat
open Go Go.RowKit
set_option linter.unusedVariables false
set_option linter.unusedSimpArgs false
set_option maxHeartbeats 16000000
set_option maxRecDepth 100000
@[go_sem] theorem spl6_cells (o : Ob) (x : PV) : PV.cells? (.agg (splice (Ob.enc o) 6 [x])) = some (splice (Ob.enc o) 6 [x]) := rfl
attribute [local irreducible] q0i dr q0d Ex.then Ex.inBlock retQ q1l q2j q2g Pure CSat evOp q1i rdOf upd hset strip sp0 cut envL q1g q3q Keep BdL evBs q2s q3c
end Go.Proofs.YtoibbedpaaeclaaGreat
end

section
namespace Go.Proofs.YtoibbedpaaeclaaGreat
open Go Go.RowKit Go.Shelf
set_option linter.unusedVariables false
set_option linter.unusedSimpArgs false
end Go.Proofs.YtoibbedpaaeclaaGreat
end

section
namespace Go.Proofs.YtoibbedpaaeclaaGreat
open Go Go.RowKit
set_option linter.unusedVariables false
set_option linter.unusedSimpArgs false
set_option maxHeartbeats 16000000
set_option maxRecDepth 100000
/-- What has been written so far. -/
def gk (f : Nat → Int) (k : Nat) : Nat → Int := fun i => if i < k then f i else 0
attribute [local irreducible] q0i dr q0d Ex.then Ex.inBlock retQ q1l q2j q2g Pure CSat evOp q1i rdOf upd hset strip sp0 cut envL q1g q3q Keep BdL evBs q2s q3c
end Go.Proofs.YtoibbedpaaeclaaGreat
end

section
namespace Go.Proofs.YtoibbedpaaeclaaGreat
open Go Go.RowKit
set_option linter.unusedVariables false
set_option linter.unusedSimpArgs false
set_option maxHeartbeats 16000000
set_option maxRecDepth 100000
attribute [local irreducible] q0i dr q0d Ex.then Ex.inBlock retQ q1l q2j q2g Pure CSat evOp q1i rdOf upd hset strip sp0 cut envL q1g q3q Keep BdL evBs q2s q3c
end Go.Proofs.YtoibbedpaaeclaaGreat
end

section
namespace Go.Proofs.YtoibbedpaaeclaaGreat
open Go Go.RowKit
set_option linter.unusedVariables false
set_option linter.unusedSimpArgs false
set_option maxHeartbeats 16000000
set_option maxRecDepth 100000
attribute [local irreducible] q0i dr q0d Ex.then Ex.inBlock retQ q1l q2j q2g Pure CSat evOp q1i rdOf upd hset strip sp0 cut envL q1g q3q Keep BdL evBs q2s q3c
end Go.Proofs.YtoibbedpaaeclaaGreat
end

section
namespace Go.Proofs.YtoibbedpaaeclaaGreat
open Go Go.RowKit
set_option linter.unusedVariables false
set_option linter.unusedSimpArgs false
set_option maxHeartbeats 16000000
set_option maxRecDepth 100000
attribute [local irreducible] q0i dr q0d Ex.then Ex.inBlock retQ q1l q2j q2g Pure CSat evOp q1i rdOf upd hset strip sp0 cut envL q1g q3q Keep BdL evBs q2s q3c
theorem look_in {w : Wd} {t : Ob} {r : Rf} (hw : fitW w = true) (h : ((q7g w t r).2 == 0) = true) : (q7g w t r).1 ∈ w.objects := by
  unfold q7g at h ⊢
  split at h
  · rename_i h1
    rw [if_pos h1]
    split at h
    · rename_i h2
      rw [if_pos h2]
      obtain ⟨e1, e2, _⟩ := dir_found h1
      rw [e1] at h2
      obtain ⟨x, hx, hxi⟩ := List.any_eq_true.1 h2
      have : x = r.id := by simpa using hxi
      subst this
      exact (find_id (links_found hw (find_id e2).2 hx)).2
    · simp at h
  · rename_i h1; simp only at h; rw [h] at h1; exact absurd rfl h1
theorem see_in {w : Wd} {t : Ob} {r : Rf} {k : Int} (hw : fitW w = true) (h : ((seeR w t r k).2 == 0) = true) : (seeR w t r k).1 ∈ w.objects ∧ x0j t (seeR w t r k).1 = true ∧ (seeR w t r k).1 = (q7g w t r).1 := by
  unfold seeR at h ⊢
  split at h
  · rename_i h1
    rw [if_pos h1]
    split at h
    · rename_i h2
      rw [if_pos h2]
      split at h
      · rename_i h3; rw [if_pos h3]; exact ⟨look_in hw h1, h3, rfl⟩
      · cases h
    · cases h
  · rename_i h1; exact absurd h h1
end Go.Proofs.YtoibbedpaaeclaaGreat
end

section
namespace Go.Proofs.YtoibbedpaaeclaaGreat
open Go Go.RowKit
set_option linter.unusedVariables false
set_option linter.unusedSimpArgs false
set_option maxHeartbeats 16000000
set_option maxRecDepth 100000
section
variable {w x : Wd} {ρ : Ob → Ob}
end
end Go.Proofs.YtoibbedpaaeclaaGreat
end

section
namespace Go.Proofs.YtoibbedpaaeclaaGreat
open Go Go.RowKit
set_option linter.unusedVariables false
set_option linter.unusedSimpArgs false
set_option maxHeartbeats 16000000
set_option maxRecDepth 100000
theorem U_nat {n : Int} (h : U n) : ∃ k : Nat, k ≤ 18446744073709551615 ∧ n = (k : Int) := by
  have h1 : IntKind.u64.min = 0 := by decide
  have h2 : IntKind.u64.max = 18446744073709551615 := by decide
  unfold U at h
  exact ⟨n.toNat, by omega, by omega⟩
structure Good (x : Wd) : Prop where
  L : x.L
  few : FewW x
  fit : fitW x = true
attribute [local irreducible] q0i dr q0d Ex.then Ex.inBlock retQ q1l q2j q2g Pure CSat evOp q1i rdOf upd hset strip sp0 cut envL q1g q3q Keep BdL evBs q2s q3c
end Go.Proofs.YtoibbedpaaeclaaGreat
end

section
-- PRINTED by print.py (a twelfth state) out of the translation. Not trusted: Lean checks it.
namespace Go.Proofs.YtoibbedpaaeclaaGreat.PChk
open Go.RowKit Go.Proofs.YtoibbedpaaeclaaGreatW.PrintWords Go.Proofs.YtoibbedpaaeclaaGreatW.PrintLast Go.Proofs.YtoibbedpaaeclaaGreatW.PrintMore
attribute [local go_sem] max2_int min2_int max_two min_two max_three min_three max_four min_four -- for this text's walks alone
set_option linter.unusedVariables false
set_option linter.unusedSimpArgs false
def errW : Option Int → Value
  | none => .nilIface
  | some c => .iface 0 (.int .i64 c)
theorem errW_none : errW none = .nilIface := rfl
theorem errW_some (c : Int) : errW (some c) = .iface 0 (.int .i64 c) := rfl
-- the values' own types
structure S76 where
  f0 : Int
  f1 : Int
def z76 : S76 := ⟨(0 : Int), (0 : Int)⟩
def k76 : Kd S76 := Kd.iso (Kd.pair (Kd.int .u64) (Kd.int .i64)) (fun x : S76 => (x.f0, x.f1))
theorem k76_open {w : World} {x : S76} {cs : List Value} (h : k76.K w x cs) : cs = [.int .u64 x.f0, .int .i64 x.f1] := by
  obtain ⟨_, _, rfl, rfl, rfl⟩ := h
  exact rfl
def rd_T76 (xs : List S76) (i : Int) : S76 := xs.getD i.toNat z76
theorem at_T76 {w : World} {A : Option Addr} {n : Nat} {xs : List S76} (h : Kd.C k76 w A n xs) (i : Int) (h0 : 0 ≤ i) (h1 : i < n) : ∃ ad , A = some ad ∧ w.cell? (ad.add (i.toNat * 2)) = some (.int .u64 (rd_T76 xs i).f0) ∧ w.cell? ⟨(ad.add (i.toNat * 2)).block, (ad.add (i.toNat * 2)).off + 1, none⟩ = some (.int .i64 (rd_T76 xs i).f1) := by
  obtain ⟨ad, c, e, _, hK, hc0⟩ := Kd.C_get h z76 i h0 h1
  have hc : ∀ j u, c[j]? = some u → w.cell? (ad.add (i.toNat * 2 + j)) = some u := hc0
  obtain rfl := k76_open hK
  exact ⟨ad, e, hc 0 _ rfl, by rw [← add_field _ _ 1 (by omega)]; exact hc 1 _ rfl⟩
end Go.Proofs.YtoibbedpaaeclaaGreat.PChk
end

section
-- PRINTED by print.py (a twelfth state) out of the translation. Not trusted: Lean checks it.
namespace Go.Proofs.YtoibbedpaaeclaaGreat.PChk
open Go.RowKit Go.Proofs.YtoibbedpaaeclaaGreatW.PrintWords Go.Proofs.YtoibbedpaaeclaaGreatW.PrintLast Go.Proofs.YtoibbedpaaeclaaGreatW.PrintMore
attribute [local go_sem] max2_int min2_int max_two min_two max_three min_three max_four min_four -- for this text's walks alone
set_option linter.unusedVariables false
set_option linter.unusedSimpArgs false
def check_plain.l0 : Nat → List (S76) → Int → Int → Option (Bool)
  | 0, _, _, _ => none
  | k + 1, x5, x6, x7 => if x7 < x6 then (if 0 ≤ x7 then (if x7 < (x5.length : Int) then (if ((rd_T76 x5 x7).f1) = 5 then (some false) else (check_plain.l0 k x5 x6 (wrap64 (x7 + 1)))) else (none)) else (none)) else (some true)
def check_plain.f (k : Nat) (l0 : List (S76)) : Option (Bool) := check_plain.l0 k l0 (l0.length : Int) 0
set_option maxHeartbeats 8000000 in
set_option maxRecDepth 100000 in
theorem check_plain.calls (k : Nat) (A0 : Option Addr) (c0 : Nat) (l0 : List (S76)) (r : Bool) (w : World) (hr0 : Kd.C k76 w A0 l0.length l0) (hc0 : l0.length ≤ c0) (h : check_plain.f k l0 = some r) :
    Calls Tryz.prog 267 #[.slice A0 l0.length c0] w fun e w' => e = .returned (.bool r) ∧ Below w.heap.size w w' := by
  have hu76 := Tryz.underlying76
  have HR0 := Aside0.mk hr0
  have HC0 := Aside0.mk hc0
  clear hr0 hc0
  have HB := Aside0.mk (Below.refl w.heap.size w)
  have H : (check_plain.l0 k l0 (l0.length : Int) 0) = some r := h
  clear h
  have H' := Aside0.mk H
  clear H
  go_enter Tryz.func267, Tryz.ntmps267
  go_wp2
  go_loopg [7] k (fun kq v7 w' => ∃ (x7_1 : Int), v7 = .int .i64 x7_1 ∧ Aside0 (check_plain.l0 kq l0 (l0.length : Int) x7_1 = some r) ∧ Aside0 (kq ≤ k) ∧ Aside0 (Below w.heap.size w w'))
  case atStart => exact ⟨(0), (by first | rfl | (simp; done) | (simp [*]; done)), H', ⟨Nat.le_refl _⟩, ⟨by repeat (first | (with_reducible first | exact HB.out | apply below_alloc | apply pw_below_drewN | apply below_drew1) | exact HB.out)⟩⟩
  case round =>
    clear H'
    obtain ⟨x7_1, rfl, HA, HK1, HB⟩ := hrel
    cases gk with
    | zero => exact absurd HA.out (by simp [check_plain.l0])
    | succ k1 =>
      have H := HA.out
      clear HA
      simp only [check_plain.l0] at H
      by_cases c2 : x7_1 < (l0.length : Int)
      · rw [if_pos c2] at H
        have c2b0 : decide (x7_1 < (l0.length : Int)) = true := decide_eq_true c2
        clear c2
        by_cases c3 : 0 ≤ x7_1
        · rw [if_pos c3] at H
          have c3b0 : decide (0 ≤ x7_1) = true := decide_eq_true c3
          clear c3
          by_cases c4 : x7_1 < (l0.length : Int)
          · rw [if_pos c4] at H
            have c4b0 : decide (x7_1 < (l0.length : Int)) = true := decide_eq_true c4
            clear c4
            by_cases c5 : ((rd_T76 l0 x7_1).f1) = 5
            · rw [if_pos c5] at H
              have c5b0 : (((rd_T76 l0 x7_1).f1) == 5) = true := beq_iff_eq.mpr c5
              have c5b1 : (((rd_T76 l0 x7_1).f1) != 5) = false := bne_eq_false_iff_eq.mpr c5
              clear c5
              obtain rfl := Option.some.inj H
              have p101 : 0 ≤ (x7_1 : Int) := of_decide_eq_true (by first | (with_reducible assumption) | assumption)
              have q101 : x7_1 < (l0.length : Int) := of_decide_eq_true (by first | (with_reducible assumption) | assumption)
              obtain ⟨ad101, e101, hx101_0, hx101_1⟩ := at_T76 HR0.out x7_1 p101 q101
              cases e101
              replace hx101_0 := (HB.out.cell (World.block_lt_of_cell? w _ hx101_0)).trans hx101_0
              replace hx101_1 := (HB.out.cell (World.block_lt_of_cell? w _ hx101_1)).trans hx101_1
              replace p101 := eq_true p101
              replace q101 := eq_true q101
              go_wp2_with (first | ((with_reducible refine gate_dst (N := 4) rfl ?_); refine box_event ?hg (N := 4) ?hd (cs := #[.int .u64 0, .int .i64 0]) (t := 76) ?hr ?_; (case hd => rfl); (case hg => rfl); (case hr => first | (go_simp; done) | (go_simp; rfl)); intro gb102 hg w6 hbox hb; have n0_ := Aside0.mk (below_step (by repeat (first | (with_reducible first | exact HB.out | apply below_alloc | apply pw_below_drewN | apply below_drew1) | exact HB.out)) hb); have n1_ := Aside0.mk (hbox); have n2_ := Aside0.mk ((by rw [hg]; exact (below_size (by repeat (first | (with_reducible first | exact HB.out | apply below_alloc | apply pw_below_drewN | apply below_drew1) | exact HB.out))) : w.heap.size ≤ gb102)); have n3_ := Aside0.mk ((by rw [hg]; exact (below_size (by repeat (first | (with_reducible first | exact HB.out | apply below_alloc | apply pw_below_drewN | apply below_drew1) | exact HB.out))) : w.heap.size ≤ gb102)); clear HB; have HB := n0_; have BK102 := n1_; have GW102 := n2_; have GE102 := n3_; clear n0_ n1_ n2_ n3_; clear hb hbox hg; have hcz7_0 : w6.cell? ⟨gb102, 0, none⟩ = some (.int .u64 0) := (blk_cell BK102.out 0).trans rfl; have hcz7_1 : w6.cell? ⟨gb102, 1, none⟩ = some (.int .i64 0) := (blk_cell BK102.out 1).trans rfl; have hfz7_0 := blk_frozen BK102.out 0; have hfz7_1 := blk_frozen BK102.out 1))
              go_ret
              exact ⟨by first | rfl | (simp [errW_none, errW_some] <;> rfl) | (simp [*, errW_none, errW_some] <;> rfl), by repeat (first | (with_reducible first | exact HB.out | apply below_alloc | apply pw_below_drewN | apply below_drew1 | refine below_set ?_ GE102.out) | exact HB.out)⟩
            · rw [if_neg c5] at H
              have c5b0 : (((rd_T76 l0 x7_1).f1) == 5) = false := beq_eq_false_iff_ne.mpr c5
              have c5b1 : (((rd_T76 l0 x7_1).f1) != 5) = true := bne_iff_ne.mpr c5
              have H' := Aside0.mk H
              clear H
              have p101 : 0 ≤ (x7_1 : Int) := of_decide_eq_true (by first | (with_reducible assumption) | assumption)
              have q101 : x7_1 < (l0.length : Int) := of_decide_eq_true (by first | (with_reducible assumption) | assumption)
              obtain ⟨ad101, e101, hx101_0, hx101_1⟩ := at_T76 HR0.out x7_1 p101 q101
              cases e101
              replace hx101_0 := (HB.out.cell (World.block_lt_of_cell? w _ hx101_0)).trans hx101_0
              replace hx101_1 := (HB.out.cell (World.block_lt_of_cell? w _ hx101_1)).trans hx101_1
              replace p101 := eq_true p101
              replace q101 := eq_true q101
              go_wp2_with (first | ((with_reducible refine gate_dst (N := 4) rfl ?_); refine box_event ?hg (N := 4) ?hd (cs := #[.int .u64 0, .int .i64 0]) (t := 76) ?hr ?_; (case hd => rfl); (case hg => rfl); (case hr => first | (go_simp; done) | (go_simp; rfl)); intro gb102 hg w8 hbox hb; have n0_ := Aside0.mk (below_step (by repeat (first | (with_reducible first | exact HB.out | apply below_alloc | apply pw_below_drewN | apply below_drew1) | exact HB.out)) hb); have n1_ := Aside0.mk (hbox); have n2_ := Aside0.mk ((by rw [hg]; exact (below_size (by repeat (first | (with_reducible first | exact HB.out | apply below_alloc | apply pw_below_drewN | apply below_drew1) | exact HB.out))) : w.heap.size ≤ gb102)); have n3_ := Aside0.mk ((by rw [hg]; exact (below_size (by repeat (first | (with_reducible first | exact HB.out | apply below_alloc | apply pw_below_drewN | apply below_drew1) | exact HB.out))) : w.heap.size ≤ gb102)); clear HB; have HB := n0_; have BK102 := n1_; have GW102 := n2_; have GE102 := n3_; clear n0_ n1_ n2_ n3_; clear hb hbox hg; have hcz9_0 : w8.cell? ⟨gb102, 0, none⟩ = some (.int .u64 0) := (blk_cell BK102.out 0).trans rfl; have hcz9_1 : w8.cell? ⟨gb102, 1, none⟩ = some (.int .i64 0) := (blk_cell BK102.out 1).trans rfl; have hfz9_0 := blk_frozen BK102.out 0; have hfz9_1 := blk_frozen BK102.out 1))
              go_roundg k1
              case measure => have := HK1.out; omega
              case rel => exact ⟨(wrap64 (x7_1 + 1)), (by first | rfl | (simp; done) | (simp [*]; done)), H', ⟨by have := HK1.out; omega⟩, ⟨by repeat (first | (with_reducible first | exact HB.out | apply below_alloc | apply pw_below_drewN | apply below_drew1 | refine below_set ?_ GE102.out) | exact HB.out)⟩⟩
          · rw [if_neg c4] at H
            exact absurd H (by simp)
        · rw [if_neg c3] at H
          exact absurd H (by simp)
      · rw [if_neg c2] at H
        have c2b0 : decide (x7_1 < (l0.length : Int)) = false := decide_eq_false c2
        clear c2
        obtain rfl := Option.some.inj H
        go_wp2
        go_ret
        exact ⟨by first | rfl | (simp [errW_none, errW_some] <;> rfl) | (simp [*, errW_none, errW_some] <;> rfl), by repeat (first | (with_reducible first | exact HB.out | apply below_alloc | apply pw_below_drewN | apply below_drew1) | exact HB.out)⟩
end Go.Proofs.YtoibbedpaaeclaaGreat.PChk
end

section
-- PRINTED by print.py (a twelfth state) out of the translation. Not trusted: Lean checks it.
namespace Go.Proofs.YtoibbedpaaeclaaGreat.PChk
open Go.RowKit Go.Proofs.YtoibbedpaaeclaaGreatW.PrintWords Go.Proofs.YtoibbedpaaeclaaGreatW.PrintLast Go.Proofs.YtoibbedpaaeclaaGreatW.PrintMore
attribute [local go_sem] max2_int min2_int max_two min_two max_three min_three max_four min_four -- for this text's walks alone
set_option linter.unusedVariables false
set_option linter.unusedSimpArgs false
end Go.Proofs.YtoibbedpaaeclaaGreat.PChk
end

section
namespace Go.Proofs.YtoibbedpaaeclaaGreat
open Go Go.RowKit Go.Shelf Go.Proofs.YtoibbedpaaeclaaGreatW.PrintWords Go.Proofs.YtoibbedpaaeclaaGreatW.PrintLast Go.Proofs.YtoibbedpaaeclaaGreatW.PrintMore
set_option linter.unusedVariables false
set_option linter.unusedSimpArgs false
/-- A function value that answers b, in w and whatever has grown out of it. -/
structure Quest (w : World) (v : Value) (b : Bool) : Prop where
  out : ∃ (fn : Nat) (lb : Array Value), v = .func (.func fn) #[] lb ∧ (∀ args W, (callFunc fn args).run Tryz.prog W = .ok (.enter fn args) W) ∧ ∀ W, Below w.heap.size w W → Calls Tryz.prog fn lb W (fun e W' => e = .returned (.bool b) ∧ Below W.heap.size W W')
theorem Quest.below {w w1 : World} {v : Value} {b : Bool} (h : Quest w v b) (hb : Below w.heap.size w w1) : Quest w1 v b := by
  obtain ⟨fn, lb, h1, h2, h3⟩ := h
  exact ⟨fn, lb, h1, h2, fun W hW => h3 W (below_step hb hW)⟩
set_option maxRecDepth 100000 in
set_option maxHeartbeats 1000000 in
theorem all_calls (qs : List (Value × Bool)) (g : Nat) (t : TypeId) (w : World) (hb : w.heap[g]? = some (.cells (qs.map (·.1)).toArray t (0, 0))) (hq : ∀ q ∈ qs, Quest w q.1 q.2) (hn : qs.length ≤ 100) :
    Calls Tryz.prog 227 #[.slice (some ⟨g, 0, none⟩) qs.length qs.length] w fun e w' => e = .returned (.bool (qs.all (·.2))) ∧ Below w.heap.size w w' := by
  obtain ⟨n, hnn⟩ : ∃ n, n = qs.length := ⟨_, rfl⟩
  have HN := Lib.hid hnn
  have HB := Lib.hid hb
  have HQ := Lib.hid hq
  rw [← hnn] at hn ⊢
  clear hnn hb hq
  go_enter Tryz.func227, Tryz.ntmps227
  go_wp2
  go_loopw [7] (fun i W => ∃ k : Nat, k ≤ n ∧ i = .int .i64 k ∧ Hid (qs.all (·.2) = (qs.drop k).all (·.2)) ∧ Below w.heap.size w W) (fun i W => n - (intOf i).toNat)
  case atStart => exact ⟨0, by omega, rfl, Lib.hid (by simp), (by repeat (first | with_reducible (exact Below.refl _ _) | with_reducible (apply below_alloc) | with_reducible (apply below_drew1) | with_reducible (apply pw_below_drewN) | (with_reducible (refine q3g ?_ ?_ _ _); rotate_left; omega)))⟩
  case round =>
    obtain ⟨k, hk, rfl, hall, hB⟩ := hrel
    by_cases hlt : k < n
    · have hkl : k < qs.length := by have := HN.out; omega
      obtain ⟨q, hqe⟩ : ∃ q, q = qs[k] := ⟨_, rfl⟩
      obtain ⟨v, b⟩ := q
      have hquest := HQ.out (v, b) (by rw [hqe]; exact List.getElem_mem hkl)
      obtain ⟨fn, lb, hv, heg, hf⟩ := hquest
      simp only at hv hf
      subst hv
      have HF := Lib.hid hf
      have cel : w.cell? ⟨g, k, none⟩ = some (.func (.func fn) #[] lb) := by
        have := blk_cell HB.out k
        simp [List.getElem?_map, List.getElem?_eq_getElem hkl, ← hqe] at this
        exact this
      have cl1 := pw_cell_below hB cel
      have hdrop : Hid ((qs.drop k).all (·.2) = (b && (qs.drop (k + 1)).all (·.2))) := Lib.hid (by rw [List.drop_eq_getElem_cons hkl, List.all_cons, ← hqe])
      clear cel hf hqe
      cases b with
      | true =>
        go_wp2_with (refine (HF.out _ hB).mono ?_; rintro e w1 ⟨rfl, hb⟩)
        go_roundw
        case rel => exact ⟨k + 1, by omega, by simp, Lib.hid (by rw [hall.out, hdrop.out, Bool.true_and]), hB.trans (hb.mono hB.size)⟩
        case measure => simp [intOf]; omega
      | false =>
        go_wp2_with (refine (HF.out _ hB).mono ?_; rintro e w1 ⟨rfl, hb⟩)
        go_ret
        exact ⟨by rw [hall.out, hdrop.out, Bool.false_and]; rfl, hB.trans (hb.mono hB.size)⟩
    · obtain rfl : k = n := by omega
      go_wp2
      go_ret
      exact ⟨by rw [hall.out, List.drop_of_length_le (by have := HN.out; omega)]; rfl, hB⟩
def toS (l : Lab) : List PChk.S76 := l.map (fun p => ⟨p.1, p.2⟩)
theorem q9s (l : Lab) : (toS l).length = l.length := List.length_map _
theorem C_toS {w : World} {A : Option Addr} {n : Nat} {l : Lab} (h : kPr.C w A n l) : Kd.C PChk.k76 w A n (toS l) := by
  obtain ⟨h1, h2, h3⟩ := h
  refine ⟨by rw [q9s]; exact h1, h2, fun hn => ?_⟩
  obtain ⟨ad, e, hc⟩ := h3 hn
  refine ⟨ad, e, fun j p hp => ?_⟩
  unfold toS at hp
  rw [List.getElem?_map] at hp
  cases hj : l[j]? with
  | none => rw [hj] at hp; simp at hp
  | some q =>
    rw [hj] at hp
    simp at hp
    obtain ⟨c, hc1, hc2, hc3⟩ := hc j q hj
    subst hp
    exact ⟨c, hc1, hc2, hc3⟩
theorem rd_toS (l : Lab) (i : Nat) (h : i < l.length) : PChk.rd_T76 (toS l) (i : Int) = ⟨l[i].1, l[i].2⟩ := by
  unfold PChk.rd_T76 toS
  simp [h]
theorem w64' {x : Int} (h : 0 ≤ x ∧ x < 9223372036854775808) : wrap64 x = x := by unfold wrap64; omega
def q5q (l : Lab) : Bool := l.all (fun p => p.2 != 5)
theorem plainB_cons (p : Int × Int) (t : Lab) : q5q (p :: t) = (p.2 != 5 && q5q t) := rfl
theorem plain_loop (l : Lab) (hlen : l.length ≤ 1000000) : ∀ (d k i : Nat), i + d = l.length → d < k → PChk.check_plain.l0 k (toS l) (l.length : Int) (i : Int) = some (q5q (l.drop i)) := by
  intro d
  induction d with
  | zero =>
    intro k i hi hk
    obtain ⟨k, rfl⟩ : ∃ m, k = m + 1 := ⟨k - 1, by omega⟩
    simp only [PChk.check_plain.l0, q9s]
    rw [if_neg (by omega), List.drop_of_length_le (by omega)]
    rfl
  | succ d ih =>
    intro k i hi hk
    obtain ⟨k, rfl⟩ : ∃ m, k = m + 1 := ⟨k - 1, by omega⟩
    have hil : i < l.length := by omega
    have ih' := ih k (i + 1) (by omega) (by omega)
    have hw : wrap64 ((i : Int) + 1) = ((i + 1 : Nat) : Int) := by rw [w64' (by omega)]; omega
    simp only [PChk.check_plain.l0, q9s]
    rw [if_pos (by omega), if_pos (by omega), if_pos (by omega), rd_toS l i hil, hw, ih', List.drop_eq_getElem_cons hil]
    by_cases h1 : l[i].2 = 5
    · rw [if_pos h1, plainB_cons, h1]; rfl
    · rw [if_neg h1, plainB_cons, bne_iff_ne.2 h1, Bool.true_and]
theorem plain_calls (l : Lab) (A : Option Addr) (c : Nat) (w : World) (hC : kPr.C w A l.length l) (hc : l.length ≤ c) (hlen : l.length ≤ 1000000) :
    Calls Tryz.prog 267 #[.slice A l.length c] w fun e w' => e = .returned (.bool (q5q l)) ∧ Below w.heap.size w w' := by
  have h := PChk.check_plain.calls (l.length + 1) A c (toS l) (q5q l) w (by rw [q9s]; exact C_toS hC) (by rw [q9s]; exact hc) (by
    have := plain_loop l hlen l.length (l.length + 1) 0 (by omega) (by omega)
    rw [List.drop_zero] at this
    unfold PChk.check_plain.f
    rw [q9s]
    exact this)
  rw [q9s] at h
  refine h.mono ?_
  rintro e w' ⟨rfl, hb⟩
  exact ⟨rfl, by first | exact hb | exact hb.below⟩
theorem leq1_calls (la lb : Lab) (Aa Ab : Option Addr) (ca cb : Nat) (g h : Nat) (W : World) (hg : W.heap[g]? = some (.cells #[.slice Aa la.length ca] 26 (0, 0))) (hh : W.heap[h]? = some (.cells #[.slice Ab lb.length cb] 26 (0, 0)))
    (hCa : kPr.C W Aa la.length la) (hCb : kPr.C W Ab lb.length lb) (hca : la.length ≤ ca) (hcb : lb.length ≤ cb) (hlen : la.length + lb.length ≤ 1000000) :
    Calls Tryz.prog 268 #[.pointer (some ⟨g, 0, none⟩), .pointer (some ⟨h, 0, none⟩)] W fun e w' => e = .returned (.bool (leqB la lb)) ∧ Below W.heap.size W w' := by
  have c1 := blk_cell hg 0
  have c2 := blk_cell hh 0
  simp only [List.getElem?_toArray, List.getElem?_cons_zero] at c1 c2
  have HC := Lib.hid hCa
  have HD := Lib.hid hCb
  clear hg hh hCa hCb
  go_enter Tryz.func268, Tryz.ntmps268
  go_wp2_with (refine (leq_calls la lb Aa Ab ca cb _ HC.out HD.out hca hcb hlen).mono ?_; rintro e w1 ⟨rfl, hb⟩)
  go_ret
  exact ⟨rfl, hb⟩
theorem q6e (la lb : Lab) (Aa Ab : Option Addr) (ca cb : Nat) (w : World) (hCa : kPr.C w Aa la.length la) (hCb : kPr.C w Ab lb.length lb) (hca : la.length ≤ ca) (hcb : lb.length ≤ cb) (hlen : la.length + lb.length ≤ 1000000) :
    Calls Tryz.prog 229 #[.slice Aa la.length ca, .slice Ab lb.length cb] w fun e w' => ∃ fn lb_, e = .returned (.func (.func fn) #[] lb_) ∧ Quest w' (.func (.func fn) #[] lb_) (leqB la lb) ∧ Below w.heap.size w w' := by
  have HC := Lib.hid hCa
  have HD := Lib.hid hCb
  clear hCa hCb
  go_enter Tryz.func229, Tryz.ntmps229
  go_wp2
  go_ret
  refine ⟨_, _, rfl, ⟨268, _, rfl, enters_of Tryz.func268 (by kernel_rfl) rfl, fun W hW => ?_⟩, (by repeat (first | with_reducible (exact Below.refl _ _) | with_reducible (apply below_alloc) | with_reducible (apply below_drew1) | with_reducible (apply pw_below_drewN) | (with_reducible (refine q3g ?_ ?_ _ _); rotate_left; omega)))⟩
  exact leq1_calls la lb Aa Ab ca cb _ _ W (blk_below (blk_alloc (blk_new _ _) _) hW) (blk_below (blk_at (by simp)) hW) (Kd.C_below (Kd.C_below HC.out (by repeat (first | with_reducible (exact Below.refl _ _) | with_reducible (apply below_alloc) | with_reducible (apply below_drew1) | with_reducible (apply pw_below_drewN) | (with_reducible (refine q3g ?_ ?_ _ _); rotate_left; omega)))) hW) (Kd.C_below (Kd.C_below HD.out (by repeat (first | with_reducible (exact Below.refl _ _) | with_reducible (apply below_alloc) | with_reducible (apply below_drew1) | with_reducible (apply pw_below_drewN) | (with_reducible (refine q3g ?_ ?_ _ _); rotate_left; omega)))) hW) hca hcb hlen
theorem flat1_calls (la : Lab) (Aa : Option Addr) (ca : Nat) (g : Nat) (W : World) (hg : W.heap[g]? = some (.cells #[.slice Aa la.length ca] 26 (0, 0))) (hCa : kPr.C W Aa la.length la) (hca : la.length ≤ ca) (hlen : la.length ≤ 1000000) :
    Calls Tryz.prog 266 #[.pointer (some ⟨g, 0, none⟩)] W fun e w' => e = .returned (.bool (q5q la)) ∧ Below W.heap.size W w' := by
  have c1 := blk_cell hg 0
  simp only [List.getElem?_toArray, List.getElem?_cons_zero] at c1
  have HC := Lib.hid hCa
  clear hg hCa
  go_enter Tryz.func266, Tryz.ntmps266
  go_wp2_with (refine (plain_calls la Aa ca _ HC.out hca hlen).mono ?_; rintro e w1 ⟨rfl, hb⟩)
  go_ret
  exact ⟨rfl, hb⟩
theorem flat_calls (la : Lab) (Aa : Option Addr) (ca : Nat) (w : World) (hCa : kPr.C w Aa la.length la) (hca : la.length ≤ ca) (hlen : la.length ≤ 1000000) :
    Calls Tryz.prog 228 #[.slice Aa la.length ca] w fun e w' => ∃ fn lb_, e = .returned (.func (.func fn) #[] lb_) ∧ Quest w' (.func (.func fn) #[] lb_) (q5q la) ∧ Below w.heap.size w w' := by
  have HC := Lib.hid hCa
  clear hCa
  go_enter Tryz.func228, Tryz.ntmps228
  go_wp2
  go_ret
  refine ⟨_, _, rfl, ⟨266, _, rfl, enters_of Tryz.func266 (by kernel_rfl) rfl, fun W hW => ?_⟩, (by repeat (first | with_reducible (exact Below.refl _ _) | with_reducible (apply below_alloc) | with_reducible (apply below_drew1) | with_reducible (apply pw_below_drewN) | (with_reducible (refine q3g ?_ ?_ _ _); rotate_left; omega)))⟩
  exact flat1_calls la Aa ca _ W (blk_below (blk_new _ _) hW) (Kd.C_below (Kd.C_below HC.out (by repeat (first | with_reducible (exact Below.refl _ _) | with_reducible (apply below_alloc) | with_reducible (apply below_drew1) | with_reducible (apply pw_below_drewN) | (with_reducible (refine q3g ?_ ?_ _ _); rotate_left; omega)))) hW) hca hlen
end Go.Proofs.YtoibbedpaaeclaaGreat
end

section
namespace Go.Proofs.YtoibbedpaaeclaaGreat
open Go Go.RowKit Go.Shelf Go.Proofs.YtoibbedpaaeclaaGreatW.PrintWords Go.Proofs.YtoibbedpaaeclaaGreatW.PrintLast Go.Proofs.YtoibbedpaaeclaaGreatW.PrintMore
set_option linter.unusedVariables false
set_option linter.unusedSimpArgs false
theorem joinB_len (a b : Lab) : (joinB a b).length ≤ a.length + b.length := foldB_len _ _ _
theorem raiseB_len (a : Lab) : (q9n a).length ≤ a.length := foldB_len _ _ _
theorem lowerB_len (a : Lab) : (lowerB a).length ≤ a.length := foldB_len _ _ _
theorem raiseC (la : Lab) (Aa : Option Addr) (ca : Nat) (w : World) (hCa : kPr.C w Aa la.length la) (hca : la.length ≤ ca) (hlen : la.length ≤ 1000000) :
    Calls Tryz.prog 226 #[.slice Aa la.length ca] w fun e w' => ∃ v, e = .returned v ∧ Kd.R kPr 76 w' w.heap.size (fun _ => True) v (q9n la) ∧ Below w.heap.size w w' := raise_calls la Aa ca w hCa hca hlen
theorem lowerC (la : Lab) (Aa : Option Addr) (ca : Nat) (w : World) (hCa : kPr.C w Aa la.length la) (hca : la.length ≤ ca) (hlen : la.length ≤ 1000000) :
    Calls Tryz.prog 224 #[.slice Aa la.length ca] w fun e w' => ∃ v, e = .returned v ∧ Kd.R kPr 76 w' w.heap.size (fun _ => True) v (lowerB la) ∧ Below w.heap.size w w' := lower_calls la Aa ca w hCa hca hlen
theorem joinC (la lb : Lab) (Aa Ab : Option Addr) (ca cb : Nat) (w : World) (hCa : kPr.C w Aa la.length la) (hCb : kPr.C w Ab lb.length lb) (hca : la.length ≤ ca) (hcb : lb.length ≤ cb) (hlen : la.length + lb.length ≤ 1000000) :
    Calls Tryz.prog 225 #[.slice Aa la.length ca, .slice Ab lb.length cb] w fun e w' => ∃ v, e = .returned v ∧ Kd.R kPr 76 w' w.heap.size (fun _ => True) v (joinB la lb) ∧ Below w.heap.size w w' := join_calls la lb Aa Ab ca cb w hCa hCb hca hcb hlen
set_option maxRecDepth 100000 in
set_option maxHeartbeats 1000000 in
theorem become_calls (lT : Lab) (AT : Option Addr) (cT : Nat) (lC : Lab) (AC : Option Addr) (cC : Nat) (lN : Lab) (AN : Option Addr) (cN : Nat) (w : World) (hT : kPr.C w AT lT.length lT) (hcT : lT.length ≤ cT) (hlT : lT.length ≤ 1000) (hC : kPr.C w AC lC.length lC) (hcC : lC.length ≤ cC) (hlC : lC.length ≤ 1000) (hN : kPr.C w AN lN.length lN) (hcN : lN.length ≤ cN) (hlN : lN.length ≤ 1000) :
    Calls Tryz.prog 246 #[.slice AT lT.length cT, .slice AC lC.length cC, .slice AN lN.length cN] w fun e w' => e = .returned (.bool (q5q lN && (leqB lT lN && leqB lN lC))) ∧ Below w.heap.size w w' := by
  have hT := Lib.hid hT
  have hC := Lib.hid hC
  have hN := Lib.hid hN
  have HB := Lib.hid (Below.refl w.heap.size w)
  go_enter Tryz.func246, Tryz.ntmps246
  go_wp2_with fail
  with_reducible refine Calls.mono (flat_calls lN AN cN _ hN.out hcN (by omega)) ?_
  rintro e w1 ⟨f1, b1, rfl, q1, hb⟩
  have hT := Lib.hid (Kd.C_below hT.out hb)
  have hC := Lib.hid (Kd.C_below hC.out hb)
  have hN := Lib.hid (Kd.C_below hN.out hb)
  have HB := Lib.hid (below_step HB.out hb)
  clear hb
  go_wp2_with fail
  with_reducible refine Calls.mono (q6e lT lN AT AN cT cN _ hT.out hN.out hcT hcN (by omega)) ?_
  rintro e w1 ⟨f2, b2, rfl, q2, hb⟩
  have hT := Lib.hid (Kd.C_below hT.out hb)
  have hC := Lib.hid (Kd.C_below hC.out hb)
  have hN := Lib.hid (Kd.C_below hN.out hb)
  have q1 := q1.below hb
  have HB := Lib.hid (below_step HB.out hb)
  clear hb
  go_wp2_with fail
  with_reducible refine Calls.mono (q6e lN lC AN AC cN cC _ hN.out hC.out hcN hcC (by omega)) ?_
  rintro e w1 ⟨f3, b3, rfl, q3, hb⟩
  have hT := Lib.hid (Kd.C_below hT.out hb)
  have hC := Lib.hid (Kd.C_below hC.out hb)
  have hN := Lib.hid (Kd.C_below hN.out hb)
  have q1 := q1.below hb
  have q2 := q2.below hb
  have HB := Lib.hid (below_step HB.out hb)
  clear hb
  go_wp2_with fail
  with_reducible refine Calls.mono (all_calls [((Value.func (.func f1) #[] b1), q5q lN), ((Value.func (.func f2) #[] b2), leqB lT lN), ((Value.func (.func f3) #[] b3), leqB lN lC)] _ 257 _ ?hb ?hq (by simp)) ?_
  case hb => exact blk_at (by simp)
  case hq =>
    intro q hq
    simp only [List.mem_cons, List.not_mem_nil, or_false] at hq
    rcases hq with rfl | rfl | rfl
    · exact q1.below (by repeat (first | with_reducible (exact Below.refl _ _) | with_reducible (apply below_alloc) | with_reducible (apply below_drew1) | with_reducible (apply pw_below_drewN) | (with_reducible (refine q3g ?_ ?_ _ _); rotate_left; omega)))
    · exact q2.below (by repeat (first | with_reducible (exact Below.refl _ _) | with_reducible (apply below_alloc) | with_reducible (apply below_drew1) | with_reducible (apply pw_below_drewN) | (with_reducible (refine q3g ?_ ?_ _ _); rotate_left; omega)))
    · exact q3.below (by repeat (first | with_reducible (exact Below.refl _ _) | with_reducible (apply below_alloc) | with_reducible (apply below_drew1) | with_reducible (apply pw_below_drewN) | (with_reducible (refine q3g ?_ ?_ _ _); rotate_left; omega)))
  rintro e w1 ⟨rfl, hb⟩
  go_wp2_with fail
  go_ret
  exact ⟨by simp, below_step (show Below w.heap.size w _ from (by repeat (first | with_reducible (exact HB.out) | with_reducible (apply below_alloc) | with_reducible (apply below_drew1) | with_reducible (apply pw_below_drewN) | (with_reducible (refine q3g ?_ ?_ _ _); rotate_left; omega)))) hb⟩
set_option maxRecDepth 100000 in
set_option maxHeartbeats 1000000 in
theorem enter_calls (lT : Lab) (AT : Option Addr) (cT : Nat) (lC : Lab) (AC : Option Addr) (cC : Nat) (lG : Lab) (AG : Option Addr) (cG : Nat) (lK : Lab) (AK : Option Addr) (cK : Nat) (lN : Lab) (AN : Option Addr) (cN : Nat) (lM : Lab) (AM : Option Addr) (cM : Nat) (w : World) (hT : kPr.C w AT lT.length lT) (hcT : lT.length ≤ cT) (hlT : lT.length ≤ 1000) (hC : kPr.C w AC lC.length lC) (hcC : lC.length ≤ cC) (hlC : lC.length ≤ 1000) (hG : kPr.C w AG lG.length lG) (hcG : lG.length ≤ cG) (hlG : lG.length ≤ 1000) (hK : kPr.C w AK lK.length lK) (hcK : lK.length ≤ cK) (hlK : lK.length ≤ 1000) (hN : kPr.C w AN lN.length lN) (hcN : lN.length ≤ cN) (hlN : lN.length ≤ 1000) (hM : kPr.C w AM lM.length lM) (hcM : lM.length ≤ cM) (hlM : lM.length ≤ 1000) :
    Calls Tryz.prog 176 #[.slice AT lT.length cT, .slice AC lC.length cC, .slice AG lG.length cG, .slice AK lK.length cK, .slice AN lN.length cN, .slice AM lM.length cM] w fun e w' => e = .returned (.bool (q5q lN && (q5q lM && (leqB lT lK && (leqB (lowerB (joinB (q9n lT) (q9n lG))) lN && (leqB lN lM && leqB lM (joinB lC lK))))))) ∧ Below w.heap.size w w' := by
  have hT := Lib.hid hT
  have hC := Lib.hid hC
  have hG := Lib.hid hG
  have hK := Lib.hid hK
  have hN := Lib.hid hN
  have hM := Lib.hid hM
  have HB := Lib.hid (Below.refl w.heap.size w)
  go_enter Tryz.func176, Tryz.ntmps176
  go_wp2_with fail
  with_reducible refine Calls.mono (raiseC lT AT cT _ hT.out hcT (by omega)) ?_
  rintro e w1 ⟨v_, rfl, hr, hb⟩
  obtain ⟨AR, cR, rfl, hcR, hmR⟩ := Kd.R_reads hr
  obtain ⟨lR, hlRe⟩ : ∃ l_, l_ = q9n lT := ⟨_, rfl⟩
  have hlR : lR.length ≤ 1000 := by rw [hlRe]; exact Nat.le_trans (raiseB_len _) hlT
  rw [← hlRe] at hcR hmR ⊢
  have hR := Lib.hid hmR
  have eR := Lib.hid hlRe
  clear hmR hlRe hr
  have hT := Lib.hid (Kd.C_below hT.out hb)
  have hC := Lib.hid (Kd.C_below hC.out hb)
  have hG := Lib.hid (Kd.C_below hG.out hb)
  have hK := Lib.hid (Kd.C_below hK.out hb)
  have hN := Lib.hid (Kd.C_below hN.out hb)
  have hM := Lib.hid (Kd.C_below hM.out hb)
  have HB := Lib.hid (below_step HB.out hb)
  clear hb
  go_wp2_with fail
  with_reducible refine Calls.mono (raiseC lG AG cG _ hG.out hcG (by omega)) ?_
  rintro e w1 ⟨v_, rfl, hr, hb⟩
  obtain ⟨AS, cS, rfl, hcS, hmS⟩ := Kd.R_reads hr
  obtain ⟨lS, hlSe⟩ : ∃ l_, l_ = q9n lG := ⟨_, rfl⟩
  have hlS : lS.length ≤ 1000 := by rw [hlSe]; exact Nat.le_trans (raiseB_len _) hlG
  rw [← hlSe] at hcS hmS ⊢
  have hS := Lib.hid hmS
  have eS := Lib.hid hlSe
  clear hmS hlSe hr
  have hT := Lib.hid (Kd.C_below hT.out hb)
  have hC := Lib.hid (Kd.C_below hC.out hb)
  have hG := Lib.hid (Kd.C_below hG.out hb)
  have hK := Lib.hid (Kd.C_below hK.out hb)
  have hN := Lib.hid (Kd.C_below hN.out hb)
  have hM := Lib.hid (Kd.C_below hM.out hb)
  have hR := Lib.hid (Kd.C_below hR.out hb)
  have HB := Lib.hid (below_step HB.out hb)
  clear hb
  go_wp2_with fail
  with_reducible refine Calls.mono (joinC lR lS AR AS cR cS _ hR.out hS.out hcR hcS (by omega)) ?_
  rintro e w1 ⟨v_, rfl, hr, hb⟩
  obtain ⟨AJ, cJ, rfl, hcJ, hmJ⟩ := Kd.R_reads hr
  obtain ⟨lJ, hlJe⟩ : ∃ l_, l_ = joinB lR lS := ⟨_, rfl⟩
  have hlJ : lJ.length ≤ 2000 := by rw [hlJe]; exact Nat.le_trans (joinB_len _ _) (by omega)
  rw [← hlJe] at hcJ hmJ ⊢
  have hJ := Lib.hid hmJ
  have eJ := Lib.hid hlJe
  clear hmJ hlJe hr
  have hT := Lib.hid (Kd.C_below hT.out hb)
  have hC := Lib.hid (Kd.C_below hC.out hb)
  have hG := Lib.hid (Kd.C_below hG.out hb)
  have hK := Lib.hid (Kd.C_below hK.out hb)
  have hN := Lib.hid (Kd.C_below hN.out hb)
  have hM := Lib.hid (Kd.C_below hM.out hb)
  have hR := Lib.hid (Kd.C_below hR.out hb)
  have hS := Lib.hid (Kd.C_below hS.out hb)
  have HB := Lib.hid (below_step HB.out hb)
  clear hb
  go_wp2_with fail
  with_reducible refine Calls.mono (lowerC lJ AJ cJ _ hJ.out hcJ (by omega)) ?_
  rintro e w1 ⟨v_, rfl, hr, hb⟩
  obtain ⟨AL, cL, rfl, hcL, hmL⟩ := Kd.R_reads hr
  obtain ⟨lL, hlLe⟩ : ∃ l_, l_ = lowerB lJ := ⟨_, rfl⟩
  have hlL : lL.length ≤ 2000 := by rw [hlLe]; exact Nat.le_trans (lowerB_len _) hlJ
  rw [← hlLe] at hcL hmL ⊢
  have hL := Lib.hid hmL
  have eL := Lib.hid hlLe
  clear hmL hlLe hr
  have hT := Lib.hid (Kd.C_below hT.out hb)
  have hC := Lib.hid (Kd.C_below hC.out hb)
  have hG := Lib.hid (Kd.C_below hG.out hb)
  have hK := Lib.hid (Kd.C_below hK.out hb)
  have hN := Lib.hid (Kd.C_below hN.out hb)
  have hM := Lib.hid (Kd.C_below hM.out hb)
  have hR := Lib.hid (Kd.C_below hR.out hb)
  have hS := Lib.hid (Kd.C_below hS.out hb)
  have hJ := Lib.hid (Kd.C_below hJ.out hb)
  have HB := Lib.hid (below_step HB.out hb)
  clear hb
  go_wp2_with fail
  with_reducible refine Calls.mono (flat_calls lN AN cN _ hN.out hcN (by omega)) ?_
  rintro e w1 ⟨f1, b1, rfl, q1, hb⟩
  have hT := Lib.hid (Kd.C_below hT.out hb)
  have hC := Lib.hid (Kd.C_below hC.out hb)
  have hG := Lib.hid (Kd.C_below hG.out hb)
  have hK := Lib.hid (Kd.C_below hK.out hb)
  have hN := Lib.hid (Kd.C_below hN.out hb)
  have hM := Lib.hid (Kd.C_below hM.out hb)
  have hR := Lib.hid (Kd.C_below hR.out hb)
  have hS := Lib.hid (Kd.C_below hS.out hb)
  have hJ := Lib.hid (Kd.C_below hJ.out hb)
  have hL := Lib.hid (Kd.C_below hL.out hb)
  have HB := Lib.hid (below_step HB.out hb)
  clear hb
  go_wp2_with fail
  with_reducible refine Calls.mono (flat_calls lM AM cM _ hM.out hcM (by omega)) ?_
  rintro e w1 ⟨f2, b2, rfl, q2, hb⟩
  have hT := Lib.hid (Kd.C_below hT.out hb)
  have hC := Lib.hid (Kd.C_below hC.out hb)
  have hG := Lib.hid (Kd.C_below hG.out hb)
  have hK := Lib.hid (Kd.C_below hK.out hb)
  have hN := Lib.hid (Kd.C_below hN.out hb)
  have hM := Lib.hid (Kd.C_below hM.out hb)
  have hR := Lib.hid (Kd.C_below hR.out hb)
  have hS := Lib.hid (Kd.C_below hS.out hb)
  have hJ := Lib.hid (Kd.C_below hJ.out hb)
  have hL := Lib.hid (Kd.C_below hL.out hb)
  have q1 := q1.below hb
  have HB := Lib.hid (below_step HB.out hb)
  clear hb
  go_wp2_with fail
  with_reducible refine Calls.mono (q6e lT lK AT AK cT cK _ hT.out hK.out hcT hcK (by omega)) ?_
  rintro e w1 ⟨f3, b3, rfl, q3, hb⟩
  have hT := Lib.hid (Kd.C_below hT.out hb)
  have hC := Lib.hid (Kd.C_below hC.out hb)
  have hG := Lib.hid (Kd.C_below hG.out hb)
  have hK := Lib.hid (Kd.C_below hK.out hb)
  have hN := Lib.hid (Kd.C_below hN.out hb)
  have hM := Lib.hid (Kd.C_below hM.out hb)
  have hR := Lib.hid (Kd.C_below hR.out hb)
  have hS := Lib.hid (Kd.C_below hS.out hb)
  have hJ := Lib.hid (Kd.C_below hJ.out hb)
  have hL := Lib.hid (Kd.C_below hL.out hb)
  have q1 := q1.below hb
  have q2 := q2.below hb
  have HB := Lib.hid (below_step HB.out hb)
  clear hb
  go_wp2_with fail
  with_reducible refine Calls.mono (q6e lL lN AL AN cL cN _ hL.out hN.out hcL hcN (by omega)) ?_
  rintro e w1 ⟨f4, b4, rfl, q4, hb⟩
  have hT := Lib.hid (Kd.C_below hT.out hb)
  have hC := Lib.hid (Kd.C_below hC.out hb)
  have hG := Lib.hid (Kd.C_below hG.out hb)
  have hK := Lib.hid (Kd.C_below hK.out hb)
  have hN := Lib.hid (Kd.C_below hN.out hb)
  have hM := Lib.hid (Kd.C_below hM.out hb)
  have hR := Lib.hid (Kd.C_below hR.out hb)
  have hS := Lib.hid (Kd.C_below hS.out hb)
  have hJ := Lib.hid (Kd.C_below hJ.out hb)
  have hL := Lib.hid (Kd.C_below hL.out hb)
  have q1 := q1.below hb
  have q2 := q2.below hb
  have q3 := q3.below hb
  have HB := Lib.hid (below_step HB.out hb)
  clear hb
  go_wp2_with fail
  with_reducible refine Calls.mono (q6e lN lM AN AM cN cM _ hN.out hM.out hcN hcM (by omega)) ?_
  rintro e w1 ⟨f5, b5, rfl, q5, hb⟩
  have hT := Lib.hid (Kd.C_below hT.out hb)
  have hC := Lib.hid (Kd.C_below hC.out hb)
  have hG := Lib.hid (Kd.C_below hG.out hb)
  have hK := Lib.hid (Kd.C_below hK.out hb)
  have hN := Lib.hid (Kd.C_below hN.out hb)
  have hM := Lib.hid (Kd.C_below hM.out hb)
  have hR := Lib.hid (Kd.C_below hR.out hb)
  have hS := Lib.hid (Kd.C_below hS.out hb)
  have hJ := Lib.hid (Kd.C_below hJ.out hb)
  have hL := Lib.hid (Kd.C_below hL.out hb)
  have q1 := q1.below hb
  have q2 := q2.below hb
  have q3 := q3.below hb
  have q4 := q4.below hb
  have HB := Lib.hid (below_step HB.out hb)
  clear hb
  go_wp2_with fail
  with_reducible refine Calls.mono (joinC lC lK AC AK cC cK _ hC.out hK.out hcC hcK (by omega)) ?_
  rintro e w1 ⟨v_, rfl, hr, hb⟩
  obtain ⟨AI, cI, rfl, hcI, hmI⟩ := Kd.R_reads hr
  obtain ⟨lI, hlIe⟩ : ∃ l_, l_ = joinB lC lK := ⟨_, rfl⟩
  have hlI : lI.length ≤ 2000 := by rw [hlIe]; exact Nat.le_trans (joinB_len _ _) (by omega)
  rw [← hlIe] at hcI hmI ⊢
  have hI := Lib.hid hmI
  have eI := Lib.hid hlIe
  clear hmI hlIe hr
  have hT := Lib.hid (Kd.C_below hT.out hb)
  have hC := Lib.hid (Kd.C_below hC.out hb)
  have hG := Lib.hid (Kd.C_below hG.out hb)
  have hK := Lib.hid (Kd.C_below hK.out hb)
  have hN := Lib.hid (Kd.C_below hN.out hb)
  have hM := Lib.hid (Kd.C_below hM.out hb)
  have hR := Lib.hid (Kd.C_below hR.out hb)
  have hS := Lib.hid (Kd.C_below hS.out hb)
  have hJ := Lib.hid (Kd.C_below hJ.out hb)
  have hL := Lib.hid (Kd.C_below hL.out hb)
  have q1 := q1.below hb
  have q2 := q2.below hb
  have q3 := q3.below hb
  have q4 := q4.below hb
  have q5 := q5.below hb
  have HB := Lib.hid (below_step HB.out hb)
  clear hb
  go_wp2_with fail
  with_reducible refine Calls.mono (q6e lM lI AM AI cM cI _ hM.out hI.out hcM hcI (by omega)) ?_
  rintro e w1 ⟨f6, b6, rfl, q6, hb⟩
  have hT := Lib.hid (Kd.C_below hT.out hb)
  have hC := Lib.hid (Kd.C_below hC.out hb)
  have hG := Lib.hid (Kd.C_below hG.out hb)
  have hK := Lib.hid (Kd.C_below hK.out hb)
  have hN := Lib.hid (Kd.C_below hN.out hb)
  have hM := Lib.hid (Kd.C_below hM.out hb)
  have hR := Lib.hid (Kd.C_below hR.out hb)
  have hS := Lib.hid (Kd.C_below hS.out hb)
  have hJ := Lib.hid (Kd.C_below hJ.out hb)
  have hL := Lib.hid (Kd.C_below hL.out hb)
  have hI := Lib.hid (Kd.C_below hI.out hb)
  have q1 := q1.below hb
  have q2 := q2.below hb
  have q3 := q3.below hb
  have q4 := q4.below hb
  have q5 := q5.below hb
  have HB := Lib.hid (below_step HB.out hb)
  clear hb
  go_wp2_with fail
  with_reducible refine Calls.mono (all_calls [((Value.func (.func f1) #[] b1), q5q lN), ((Value.func (.func f2) #[] b2), q5q lM), ((Value.func (.func f3) #[] b3), leqB lT lK), ((Value.func (.func f4) #[] b4), leqB lL lN), ((Value.func (.func f5) #[] b5), leqB lN lM), ((Value.func (.func f6) #[] b6), leqB lM lI)] _ 257 _ ?hb ?hq (by simp)) ?_
  case hb => exact blk_at (by simp)
  case hq =>
    intro q hq
    simp only [List.mem_cons, List.not_mem_nil, or_false] at hq
    rcases hq with rfl | rfl | rfl | rfl | rfl | rfl
    · exact q1.below (by repeat (first | with_reducible (exact Below.refl _ _) | with_reducible (apply below_alloc) | with_reducible (apply below_drew1) | with_reducible (apply pw_below_drewN) | (with_reducible (refine q3g ?_ ?_ _ _); rotate_left; omega)))
    · exact q2.below (by repeat (first | with_reducible (exact Below.refl _ _) | with_reducible (apply below_alloc) | with_reducible (apply below_drew1) | with_reducible (apply pw_below_drewN) | (with_reducible (refine q3g ?_ ?_ _ _); rotate_left; omega)))
    · exact q3.below (by repeat (first | with_reducible (exact Below.refl _ _) | with_reducible (apply below_alloc) | with_reducible (apply below_drew1) | with_reducible (apply pw_below_drewN) | (with_reducible (refine q3g ?_ ?_ _ _); rotate_left; omega)))
    · exact q4.below (by repeat (first | with_reducible (exact Below.refl _ _) | with_reducible (apply below_alloc) | with_reducible (apply below_drew1) | with_reducible (apply pw_below_drewN) | (with_reducible (refine q3g ?_ ?_ _ _); rotate_left; omega)))
    · exact q5.below (by repeat (first | with_reducible (exact Below.refl _ _) | with_reducible (apply below_alloc) | with_reducible (apply below_drew1) | with_reducible (apply pw_below_drewN) | (with_reducible (refine q3g ?_ ?_ _ _); rotate_left; omega)))
    · exact q6.below (by repeat (first | with_reducible (exact Below.refl _ _) | with_reducible (apply below_alloc) | with_reducible (apply below_drew1) | with_reducible (apply pw_below_drewN) | (with_reducible (refine q3g ?_ ?_ _ _); rotate_left; omega)))
  rintro e w1 ⟨rfl, hb⟩
  go_wp2_with fail
  go_ret
  exact ⟨by rw [← eR.out]; rw [← eS.out]; rw [← eJ.out]; rw [← eL.out]; rw [← eI.out]; simp, below_step (show Below w.heap.size w _ from (by repeat (first | with_reducible (exact HB.out) | with_reducible (apply below_alloc) | with_reducible (apply below_drew1) | with_reducible (apply pw_below_drewN) | (with_reducible (refine q3g ?_ ?_ _ _); rotate_left; omega)))) hb⟩
end Go.Proofs.YtoibbedpaaeclaaGreat
end

section
namespace Go.Proofs.YtoibbedpaaeclaaGreat
open Go Go.RowKit Go.Proofs.YtoibbedpaaeclaaGreatW.PrintWords Go.Proofs.YtoibbedpaaeclaaGreatW.PrintLast Go.Proofs.YtoibbedpaaeclaaGreatW.PrintMore
set_option linter.unusedVariables false
set_option linter.unusedSimpArgs false
theorem q8v {w : World} {M σ L} {vs : List Value} {p : PV} {ps : List PV} (h : VL w M σ L vs (p :: ps)) : ∃ v us, vs = v :: us ∧ VR w M σ L v p ∧ VL w M σ L us ps := by
  obtain ⟨h1, h2⟩ := h
  match vs, h1 with
  | v :: us, h1 => exact ⟨v, us, rfl, h2 0 v p rfl rfl, by simpa using h1, fun i v p hv hp => h2 (i + 1) v p (by simpa using hv) (by simpa using hp)⟩
theorem vl_nil' {w : World} {M σ L} {vs : List Value} (h : VL w M σ L vs []) : vs = [] := List.eq_nil_of_length_eq_zero h.1
theorem of_of (l : Lab) : q2n (l.map ofPair) = l := by simp [q2n, ofPair, List.map_map, Function.comp_def]
theorem label_get (l : List Pr) (c : Int) (hs : Sorted (q2n l)) (hl : l.length ≤ 1000000) : Pure Tryz.prog 201 [.sl (l.map Pr.enc), .int .u64 c] (.int .i64 (getL (q2n l) c)) := by
  intro w M σ L vs hM hvl
  obtain ⟨v, u, rfl, h1, h2⟩ := vl2 hvl
  obtain ⟨A, cap, rfl, hC, hc⟩ := q7c h1 (by omega)
  cases h2
  refine (get_calls (q2n l) A cap c w hC hc hs (by rw [q4g]; exact hl)).mono ?_
  rintro e w' ⟨rfl, hb⟩
  exact ⟨_, rfl, .int _ _, hb⟩
def enterB (t c g k n m : List Pr) : Bool := q5q (q2n n) && (q5q (q2n m) && (leqB (q2n t) (q2n k) && (leqB (lowerB (joinB (q9n (q2n t)) (q9n (q2n g)))) (q2n n) && (leqB (q2n n) (q2n m) && leqB (q2n m) (joinB (q2n c) (q2n k))))))
theorem chk_enter (t c g k n m : List Pr) (ht : t.length ≤ 1000) (hc : c.length ≤ 1000) (hg : g.length ≤ 1000) (hk : k.length ≤ 1000) (hn : n.length ≤ 1000) (hm : m.length ≤ 1000) : Pure Tryz.prog 176 [.sl (t.map Pr.enc), .sl (c.map Pr.enc), .sl (g.map Pr.enc), .sl (k.map Pr.enc), .sl (n.map Pr.enc), .sl (m.map Pr.enc)] (.bool (enterB t c g k n m)) := by
  intro w M σ L vs hM hvl
  obtain ⟨vt, vs, rfl, rt, hvl⟩ := q8v hvl
  obtain ⟨vc, vs, rfl, rc, hvl⟩ := q8v hvl
  obtain ⟨vg, vs, rfl, rg, hvl⟩ := q8v hvl
  obtain ⟨vk, vs, rfl, rk, hvl⟩ := q8v hvl
  obtain ⟨vn, vs, rfl, rn, hvl⟩ := q8v hvl
  obtain ⟨vm, vs, rfl, rm, hvl⟩ := q8v hvl
  cases vl_nil' hvl
  obtain ⟨At, ct, rfl, Ct, dt⟩ := q7c rt (by omega)
  obtain ⟨Ac, cc, rfl, Cc, dc⟩ := q7c rc (by omega)
  obtain ⟨Ag, cg, rfl, Cg, dg⟩ := q7c rg (by omega)
  obtain ⟨Ak, ck, rfl, Ck, dk⟩ := q7c rk (by omega)
  obtain ⟨An, cn, rfl, Cn, dn⟩ := q7c rn (by omega)
  obtain ⟨Am, cm, rfl, Cm, dm⟩ := q7c rm (by omega)
  refine (enter_calls (q2n t) At ct (q2n c) Ac cc (q2n g) Ag cg (q2n k) Ak ck (q2n n) An cn (q2n m) Am cm w Ct dt (by rw [q4g]; exact ht) Cc dc (by rw [q4g]; exact hc) Cg dg (by rw [q4g]; exact hg) Ck dk (by rw [q4g]; exact hk) Cn dn (by rw [q4g]; exact hn) Cm dm (by rw [q4g]; exact hm)).mono ?_
  rintro e w' ⟨rfl, hb⟩
  exact ⟨_, rfl, .bool _, hb⟩
end Go.Proofs.YtoibbedpaaeclaaGreat
end

section
namespace Go.Proofs.YtoibbedpaaeclaaGreat
open Go Go.RowKit
set_option linter.unusedVariables false
set_option linter.unusedSimpArgs false
set_option maxHeartbeats 16000000
set_option maxRecDepth 100000
def q7y (a b : List Pr) (n : Nat) : List Pr := (a.take n).foldl (fun out p => q6r out p.cat (q3t p.lev (q2r b p.cat))) a
def q8p (a b : List Pr) (n : Nat) : List Pr := (b.take n).foldl (fun out p => q6r out p.cat (q3t (q2r a p.cat) p.lev)) (q7y a b a.length)
def joinR (a b : List Pr) : List Pr := q8p a b b.length
theorem joinAN_succ {a b : List Pr} {n : Nat} {x : Pr} (hx : a[n]? = some x) : q7y a b (n + 1) = q6r (q7y a b n) x.cat (q3t x.lev (q2r b x.cat)) := by
  unfold q7y; rw [q3u hx, List.foldl_append]; rfl
theorem joinBN_succ {a b : List Pr} {n : Nat} {x : Pr} (hx : b[n]? = some x) : q8p a b (n + 1) = q6r (q8p a b n) x.cat (q3t (q2r a x.cat) x.lev) := by
  unfold q8p; rw [q3u hx, List.foldl_append]; rfl
theorem with_fold (F : Pr → Int) : ∀ (l a : List Pr), (l.foldl (fun out p => q6r out p.cat (F p)) a).length ≤ a.length + l.length
  | [], a => by simp
  | x :: l, a => by
    rw [List.foldl_cons]
    have h1 := with_fold F l (q6r a x.cat (F x))
    have h2 := withR_len a x.cat (F x)
    simp only [List.length_cons]
    omega
theorem joinAN_len (a b : List Pr) (n : Nat) : (q7y a b n).length ≤ 2 * a.length := by
  have := with_fold (fun p => q3t p.lev (q2r b p.cat)) (a.take n) a
  have h2 : (a.take n).length ≤ a.length := by rw [List.length_take]; omega
  unfold q7y; omega
theorem joinBN_len (a b : List Pr) (n : Nat) : (q8p a b n).length ≤ 2 * a.length + b.length := by
  have := with_fold (fun p => q3t (q2r a p.cat) p.lev) (b.take n) (q7y a b a.length)
  have h2 : (b.take n).length ≤ b.length := by rw [List.length_take]; omega
  have := joinAN_len a b a.length
  unfold q8p; omega
theorem joinR_len (a b : List Pr) : (joinR a b).length ≤ 2 * a.length + b.length := joinBN_len a b _
def q7a (n : Int) : Int := if (q6t n == 5) = true then 0 else q6t n
def lowPr (p : Pr) : Pr := ⟨p.cat, q7a p.lev⟩
def plainR (l : List Pr) : Bool := allB l.length (q5k l)
def enterR (t c g k n m : List Pr) : Bool := plainR n && (plainR m && (leqR t k && (leqR ((joinR (t.map upPr) (g.map upPr)).map lowPr) n && (leqR n m && leqR m (joinR c k)))))
def plAt (d o : List Pr) (k : Nat) : Bool := match d[k]? with
  | some p => !decide (p.lev > if 2 > q2r (q4l o) p.cat then 2 else q2r (q4l o) p.cat)
  | none => true
def placeB (d o : List Pr) : Bool := allB d.length (plAt d o)
attribute [local irreducible] q0i dr q0d Ex.then Ex.inBlock retQ q1l q2j q2g Pure CSat evOp q1i rdOf upd hset strip sp0 cut envL q1g q3q Keep BdL evBs q2s q3c
theorem r2_join (a b : List Pr) (ha : a.length ≤ 1000) (hb : b.length ≤ 1000) : Pure Tryz.prog 126 [.sl (a.map Pr.enc), .sl (b.map Pr.enc)] (.sl ((joinR a b).map Pr.enc)) := by
  refine q2d (by kernel_rfl) (by simp only [go_sem, *]) (by simp only [go_sem, *]) Tryz.func126 Tryz.results126 rfl (by simp [Tryz.ntmps126]) (by kernel_rfl) ?_
  repeat' (first | (show q0i ..; first | refine q0c ?_ | refine q0e rfl ?_) | (show q0k ..; refine q0f rfl rfl ?_) | (show goOn ..; refine q0g ?_) | (show q0d ..; first | refine q0h ?_ | refine q0b ?_ | refine q0n ?_) | refine q0a ?_)
  refine q2q (S := Nat) (fun n => a.length - n) (fun n => n ≤ a.length) (fun n => [(0, .sl (a.map Pr.enc)), (1, .sl (b.map Pr.enc)), (5, .sl ((q7y a b n).map Pr.enc)), (6, .int .i64 n)]) (fun _ => []) (fun _ => 0) 0 (Nat.zero_le _) (by (refine q1n ?_ ?_ <;> repeat' (first | exact q0v | exact q0y | refine q0p (by (try simp only [go_sem, *]); try rfl) (by simp only [go_sem, *]) ?_ | refine q0z (by (try simp only [go_sem, *]); try rfl) (by omega) (by simp only [go_sem, *]) ?_ | refine q0x (by (try simp only [go_sem, *]); try rfl) (by omega) (by simp only [go_sem, *]) ?_))) ?_
  intro n hn
  rcases Nat.lt_or_ge n a.length with hlt | hge
  · obtain ⟨x, hx⟩ := q2f hlt
    have h0 := q2k hlt
    have h4 := q2e n (by omega)
    have hg := r2_get b x.cat (by omega)
    have hj := r01_join x.lev (q2r b x.cat)
    have hw := r2_with (q7y a b n) x.cat (q3t x.lev (q2r b x.cat)) (by have := joinAN_len a b n; omega)
    have hs := joinAN_succ (b := b) hx
    repeat' (first | (show q0i ..; first | refine q0c ?_ | refine q0e rfl ?_) | (show q0k ..; refine q0f rfl rfl ?_) | (show goOn ..; refine q0g ?_) | (show dr ..; first | refine q1y ?_ | refine dr_n rfl ?_) | (show drGo ..; first | refine q3b rfl ?_ | refine q2l rfl ?_) | (show drOn ..; refine q1z ?_) | (show q2h ..; (refine q1f (r := ?_) ?_ ?_; rotate_left 1; (focus first | exact hg | exact hj | exact hw))) | (refine And.intro (by kernel_rfl : q1l _ = true) ?_) | (show q0d ..; first | refine q0h ?_ | refine q0b ?_ | refine q1k (by kernel_rfl) ?_ | refine q0q ?_ | refine q0n ?_ | refine q0j ?_) | (show q0o ..; refine cd_t ?_) | refine q0a ?_ | refine q0t ?_)
    exact again (n + 1) (show n + 1 ≤ a.length from hlt) (show a.length - (n + 1) < a.length - n by omega) (by (refine q1n ?_ ?_ <;> repeat' (first | exact q0v | exact q0y | refine q0p (by (try simp only [go_sem, *]); try rfl) (by simp only [go_sem, *]) ?_ | refine q0z (by (try simp only [go_sem, *]); try rfl) (by omega) (by simp only [go_sem, *]) ?_ | refine q0x (by (try simp only [go_sem, *]); try rfl) (by omega) (by simp only [go_sem, *]) ?_)))
  · have h0 := q1w hge
    obtain rfl : n = a.length := by omega
    have e : q7y a b a.length = q8p a b 0 := rfl
    rw [e]
    repeat' (first | (show q0i ..; first | refine q0c ?_ | refine q0e rfl ?_) | (show q0k ..; refine q0f rfl rfl ?_) | (show goOn ..; refine q0g ?_) | (show q0d ..; first | refine q0h ?_ | refine q0b ?_ | refine q0n ?_ | refine q1q ?_ | refine q0j ?_) | (show q0o ..; refine cd_f ?_) | refine q0a ?_ | refine q1p ?_ | refine q1r ?_)
    refine q2q (S := Nat) (fun n => b.length - n) (fun n => n ≤ b.length) (fun n => [(0, .sl (a.map Pr.enc)), (1, .sl (b.map Pr.enc)), (5, .sl ((q8p a b n).map Pr.enc)), (7, .int .i64 n)]) (fun _ => []) (fun _ => 0) 0 (Nat.zero_le _) (by (refine q1n ?_ ?_ <;> repeat' (first | exact q0v | exact q0y | refine q0p (by (try simp only [go_sem, *]); try rfl) (by simp only [go_sem, *]) ?_ | refine q0z (by (try simp only [go_sem, *]); try rfl) (by omega) (by simp only [go_sem, *]) ?_ | refine q0x (by (try simp only [go_sem, *]); try rfl) (by omega) (by simp only [go_sem, *]) ?_))) ?_
    intro n hn
    rcases Nat.lt_or_ge n b.length with hlt | hge
    · obtain ⟨x, hx⟩ := q2f hlt
      have h0 := q2k hlt
      have h4 := q2e n (by omega)
      have hg := r2_get a x.cat (by omega)
      have hj := r01_join (q2r a x.cat) x.lev
      have hw := r2_with (q8p a b n) x.cat (q3t (q2r a x.cat) x.lev) (by have := joinBN_len a b n; omega)
      have hs := joinBN_succ (a := a) hx
      repeat' (first | (show q0i ..; first | refine q0c ?_ | refine q0e rfl ?_) | (show q0k ..; refine q0f rfl rfl ?_) | (show goOn ..; refine q0g ?_) | (show dr ..; first | refine q1y ?_ | refine dr_n rfl ?_) | (show drGo ..; first | refine q3b rfl ?_ | refine q2l rfl ?_) | (show drOn ..; refine q1z ?_) | (show q2h ..; (refine q1f (r := ?_) ?_ ?_; rotate_left 1; (focus first | exact hg | exact hj | exact hw))) | (refine And.intro (by kernel_rfl : q1l _ = true) ?_) | (show q0d ..; first | refine q0h ?_ | refine q0b ?_ | refine q1k (by kernel_rfl) ?_ | refine q0q ?_ | refine q0n ?_ | refine q0j ?_) | (show q0o ..; refine cd_t ?_) | refine q0a ?_ | refine q0t ?_)
      exact again (n + 1) (show n + 1 ≤ b.length from hlt) (show b.length - (n + 1) < b.length - n by omega) (by (refine q1n ?_ ?_ <;> repeat' (first | exact q0v | exact q0y | refine q0p (by (try simp only [go_sem, *]); try rfl) (by simp only [go_sem, *]) ?_ | refine q0z (by (try simp only [go_sem, *]); try rfl) (by omega) (by simp only [go_sem, *]) ?_ | refine q0x (by (try simp only [go_sem, *]); try rfl) (by omega) (by simp only [go_sem, *]) ?_)))
    · have h0 := q1w hge
      obtain rfl : n = b.length := by omega
      repeat' (first | (show q0i ..; first | refine q0c ?_ | refine q0e rfl ?_) | (show q0k ..; refine q0f rfl rfl ?_) | (show goOn ..; refine q0g ?_) | (show q0d ..; first | refine q0h ?_ | refine q0b ?_ | refine q0r ?_ | refine q1q ?_ | refine q0j ?_) | (show q0o ..; refine cd_f ?_) | refine q0a ?_ | refine q1p ?_ | refine q1r ?_ | (show retQ ..; refine q0s ?_) | refine q0l ?_)
      all_goals rfl
theorem r01_lower (n : Int) : Pure Tryz.prog 181 [.int .i64 n] (.int .i64 (q7a n)) := by
  refine q2d (by kernel_rfl) (by simp only [go_sem, *]) (by simp only [go_sem, *]) Tryz.func181 Tryz.results181 rfl (by simp [Tryz.ntmps181]) (by kernel_rfl) ?_
  repeat' (first | (show q0i ..; first | refine q0c ?_ | refine q0e rfl ?_) | (show q0k ..; first | refine q0f rfl rfl ?_ | refine q0m rfl ?_) | (show goOn ..; refine q0g ?_) | (show q1j ..; (refine q0u (r := ?_) ?_ ?_; rotate_left 1; (focus exact r01_of _))) | (show q0d ..; first | refine q0h ?_ | refine q0b ?_ | refine q0r ?_ | refine q0q ?_ | refine q0j ?_) | (show q0o ..; refine cd_b (fun _ => ?_) (fun _ => ?_)) | refine q0a ?_ | refine q1v ?_ | (show retQ ..; refine q0s ?_) | refine q0l ?_)
  all_goals (unfold q7a; simp only [*, if_true, if_false, Bool.false_eq_true]; try rfl)
theorem r2_lower (l : List Pr) (hl : l.length ≤ 900000) : Pure Tryz.prog 125 [.sl (l.map Pr.enc)] (.sl ((l.map lowPr).map Pr.enc)) := by
  refine q2d (by kernel_rfl) (by simp only [go_sem, *]) (by simp only [go_sem, *]) Tryz.func125 Tryz.results125 rfl (by simp [Tryz.ntmps125]) (by kernel_rfl) ?_
  repeat' (first | (show q0i ..; first | refine q0c ?_ | refine q0e rfl ?_) | (show q0k ..; refine q0f rfl rfl ?_) | (show goOn ..; refine q0g ?_) | (show q0d ..; first | refine q0h ?_ | refine q0b ?_ | refine q0n ?_) | refine q0a ?_)
  refine q2q (S := Nat × List Pr × Nat) (fun s => l.length - s.1) (fun s => s.1 ≤ l.length ∧ (l.take s.1).map lowPr = s.2.1) (fun s => [(0, .sl (l.map Pr.enc)), (3, accV s.2.2 s.2.1), (4, .int .i64 s.1)]) (fun s => accG s.2.2 76 2 Pr.enc s.2.1) (fun s => accM 0 s.2.2 s.2.1) (0, [], 0) ⟨Nat.zero_le _, rfl⟩ (by simp only [q2a, q2c, q2b]; (refine q1n ?_ ?_ <;> repeat' (first | exact q0v | exact q0y | refine q0p (by (try simp only [go_sem, *]); try rfl) (by simp only [go_sem, *]) ?_ | refine q0z (by (try simp only [go_sem, *]); try rfl) (by omega) (by simp only [go_sem, *]) ?_ | refine q0x (by (try simp only [go_sem, *]); try rfl) (by omega) (by simp only [go_sem, *]) ?_))) ?_
  rintro ⟨n, acc, id⟩ ⟨hn, hs⟩
  simp only at hn hs
  have ha : acc.length < 1000000 := by rw [← hs]; simp only [List.length_map, List.length_take]; omega
  have hb1 := q6p ha
  have hb2 := q8a (b := 16) ha (by decide)
  rcases Nat.lt_or_ge n l.length with hlt | hge
  · obtain ⟨x, hx⟩ := q2f hlt
    have h0 := q2k hlt
    have h4 := q2e n (by omega)
    have hy : (l.take (n + 1)).map lowPr = (l.take n).map lowPr ++ [lowPr x] := by rw [q3u hx, List.map_append]; rfl
    rcases q4a acc with hnil | hne
    · subst hnil
      simp only [q2a, q2c, q2b]
      repeat' (first | (show q0i ..; first | refine q0c ?_ | refine q0e rfl ?_) | (show q0k ..; refine q0f rfl rfl ?_) | (show goOn ..; refine q0g ?_) | (show dr ..; first | refine q1y ?_ | refine dr_n rfl ?_) | (show drGo ..; first | refine q3b rfl ?_ | refine q2l rfl ?_) | (show drOn ..; first | refine q1z ?_ | refine dn_born ?_) | (show q2h ..; (refine q1f (r := ?_) ?_ ?_; rotate_left 1; (focus exact r01_lower _))) | (refine And.intro (by kernel_rfl : q1l _ = true) ?_) | (show q0d ..; first | refine q0h ?_ | refine q0b ?_ | refine q1k (by kernel_rfl) ?_ | refine q0q ?_ | refine q0n ?_ | refine q0j ?_) | (show q0o ..; refine cd_t ?_) | refine q0a ?_ | refine q0t ?_)
      · refine again (n + 1, [] ++ [lowPr x], 0) ⟨hlt, by rw [hy, hs]⟩ (by simp only; omega) ?_
        simp only [q2t, q2v, q2u]
        (refine q1n ?_ ?_ <;> repeat' (first | exact q0v | exact q0y | refine q0p (by (try simp only [go_sem, *]); try rfl) (by simp only [go_sem, *]) ?_ | refine q0z (by (try simp only [go_sem, *]); try rfl) (by omega) (by simp only [go_sem, *]) ?_ | refine q0x (by (try simp only [go_sem, *]); try rfl) (by omega) (by simp only [go_sem, *]) ?_))
    · simp only [q2y hne, q3a hne, q2z hne]
      repeat' (first | (show q0i ..; first | refine q0c ?_ | refine q0e rfl ?_) | (show q0k ..; refine q0f rfl rfl ?_) | (show goOn ..; refine q0g ?_) | (show dr ..; first | refine q1y ?_ | refine dr_n rfl ?_) | (show drGo ..; first | refine q3b rfl ?_ | refine q2l rfl ?_) | (show drOn ..; first | refine q1z ?_ | refine dn_grow ?_) | (show q2h ..; (refine q1f (r := ?_) ?_ ?_; rotate_left 1; (focus exact r01_lower _))) | (refine And.intro (by kernel_rfl : q1l _ = true) ?_) | (show q0d ..; first | refine q0h ?_ | refine q0b ?_ | refine q1k (by kernel_rfl) ?_ | refine q0q ?_ | refine q0n ?_ | refine q0j ?_) | (show q0o ..; refine cd_t ?_) | refine q0a ?_ | refine q0t ?_)
      · refine again (n + 1, acc ++ [lowPr x], id) ⟨hlt, by rw [hy, hs]⟩ (by simp only; omega) ?_
        simp only [q2t, q2v, q2u]
        (refine q1n ?_ ?_ <;> repeat' (first | exact q0v | exact q0y | refine q0p (by (try simp only [go_sem, *]); try rfl) (by simp only [go_sem, *]) ?_ | refine q0z (by (try simp only [go_sem, *]); try rfl) (by omega) (by simp only [go_sem, *]) ?_ | refine q0x (by (try simp only [go_sem, *]); try rfl) (by omega) (by simp only [go_sem, *]) ?_))
  · have h0 := q1w hge
    have hs' : l.map lowPr = acc := by rw [← hs, List.take_of_length_le hge]
    rcases q4a acc with hnil | hne
    · subst hnil
      simp only [q2a, q2c, q2b]
      repeat' (first | (show q0i ..; first | refine q0c ?_ | refine q0e rfl ?_) | (show q0k ..; refine q0f rfl rfl ?_) | (show goOn ..; refine q0g ?_) | (show q0d ..; first | refine q0h ?_ | refine q0b ?_ | refine q0r ?_ | refine q1q ?_ | refine q0j ?_) | (show q0o ..; refine cd_f ?_) | refine q0a ?_ | refine q1p ?_ | refine q1r ?_ | (show retQ ..; refine q0s ?_) | refine q0l ?_)
      rw [hs']; rfl
    · simp only [q2y hne, q3a hne, q2z hne]
      repeat' (first | (show q0i ..; first | refine q0c ?_ | refine q0e rfl ?_) | (show q0k ..; refine q0f rfl rfl ?_) | (show goOn ..; refine q0g ?_) | (show q0d ..; first | refine q0h ?_ | refine q0b ?_ | refine q0r ?_ | refine q1q ?_ | refine q0j ?_) | (show q0o ..; refine cd_f ?_) | refine q0a ?_ | refine q1p ?_ | refine q1r ?_ | (show retQ ..; refine q0s ?_) | refine q0l ?_)
      rw [hs']
theorem r3_plain (l : List Pr) (hl : l.length ≤ 9223372036854775807) : Pure Tryz.prog 127 [.sl (l.map Pr.enc)] (.bool (plainR l)) := by
  refine q2d (by kernel_rfl) (by simp only [go_sem, *]) (by simp only [go_sem, *]) Tryz.func127 Tryz.results127 rfl (by simp [Tryz.ntmps127]) (by kernel_rfl) ?_
  repeat' (first | (show q0i ..; first | refine q0c ?_ | refine q0e rfl ?_) | (show q0k ..; refine q0f rfl rfl ?_) | (show goOn ..; refine q0g ?_) | (show q0d ..; first | refine q0h ?_ | refine q0b ?_ | refine q0n ?_) | refine q0a ?_)
  refine q2q (S := Nat) (fun n => l.length - n) (fun n => n ≤ l.length ∧ ∀ j, j < n → q5k l j = true) (fun n => [(0, .sl (l.map Pr.enc)), (3, .int .i64 n)]) (fun _ => []) (fun _ => 0) 0 ⟨Nat.zero_le _, fun j hj => absurd hj (Nat.not_lt_zero j)⟩ (by (refine q1n ?_ ?_ <;> repeat' (first | exact q0v | exact q0y | refine q0p (by (try simp only [go_sem, *]); try rfl) (by simp only [go_sem, *]) ?_ | refine q0z (by (try simp only [go_sem, *]); try rfl) (by omega) (by simp only [go_sem, *]) ?_ | refine q0x (by (try simp only [go_sem, *]); try rfl) (by omega) (by simp only [go_sem, *]) ?_))) ?_
  rintro n ⟨hn, hs⟩
  rcases Nat.lt_or_ge n l.length with hlt | hge
  · obtain ⟨x, hx⟩ := q2f hlt
    have h0 := q2k hlt
    have h4 := q2e n (by omega)
    have e : q5k l n = !(x.lev == 5) := by unfold q5k; rw [hx]
    repeat' (first | (show q0i ..; first | refine q0c ?_ | refine q0e rfl ?_) | (show q0k ..; refine q0f rfl rfl ?_) | (show goOn ..; refine q0g ?_) | (show q0d ..; first | refine q0h ?_ | refine q0b ?_ | refine q0r ?_ | refine q0q ?_ | refine q0n ?_ | refine q0j ?_) | (show q0o ..; first | refine cd_t ?_ | refine cd_b (fun _ => ?_) (fun _ => ?_)) | refine q0a ?_ | refine q1v ?_ | refine q0t ?_ | refine q3m ?_ | (show retQ ..; refine q0s ?_) | refine q0l ?_)
    all_goals rename_i hc
    · exact q1o (q2o hlt (f := q5k l) (by rw [e, hc]; rfl)).symm
    · exact again (n + 1) ⟨by omega, q5d hs (by rw [e, hc]; rfl)⟩ (by omega) (by (refine q1n ?_ ?_ <;> repeat' (first | exact q0v | exact q0y | refine q0p (by (try simp only [go_sem, *]); try rfl) (by simp only [go_sem, *]) ?_ | refine q0z (by (try simp only [go_sem, *]); try rfl) (by omega) (by simp only [go_sem, *]) ?_ | refine q0x (by (try simp only [go_sem, *]); try rfl) (by omega) (by simp only [go_sem, *]) ?_)))
  · have h0 := q1w hge
    repeat' (first | (show q0i ..; first | refine q0c ?_ | refine q0e rfl ?_) | (show q0k ..; refine q0f rfl rfl ?_) | (show goOn ..; refine q0g ?_) | (show q0d ..; first | refine q0h ?_ | refine q0b ?_ | refine q0r ?_ | refine q1q ?_ | refine q0j ?_) | (show q0o ..; refine cd_f ?_) | refine q0a ?_ | refine q1p ?_ | refine q1r ?_ | (show retQ ..; refine q0s ?_) | refine q0l ?_)
    exact q1o (q2m fun j hj => hs j (by omega)).symm
theorem r3_enter (t c g k n m : List Pr) (ht : t.length ≤ 300) (hc : c.length ≤ 300) (hg : g.length ≤ 300) (hk : k.length ≤ 300) (hn : n.length ≤ 300) (hm : m.length ≤ 300) : Pure Tryz.prog 64 [.sl (t.map Pr.enc), .sl (c.map Pr.enc), .sl (g.map Pr.enc), .sl (k.map Pr.enc), .sl (n.map Pr.enc), .sl (m.map Pr.enc)] (.bool (enterR t c g k n m)) := by
  have h1 := r3_plain n (by omega)
  have h2 := r3_plain m (by omega)
  have h3 := x0n t k (by omega) (by omega)
  have h4 := x0m t (by omega)
  have h5 := x0m g (by omega)
  have h6 := r2_join (t.map upPr) (g.map upPr) (by simp; omega) (by simp; omega)
  have l6 := joinR_len (t.map upPr) (g.map upPr)
  simp only [List.length_map] at l6
  have h7 := r2_lower (joinR (t.map upPr) (g.map upPr)) (by omega)
  have h8 := x0n ((joinR (t.map upPr) (g.map upPr)).map lowPr) n (by rw [List.length_map]; omega) (by omega)
  have h9 := x0n n m (by omega) (by omega)
  have ha := r2_join c k (by omega) (by omega)
  have la := joinR_len c k
  have hb := x0n m (joinR c k) (by omega) (by omega)
  refine q2d (by kernel_rfl) (by simp only [go_sem, *]) (by simp only [go_sem, *]) Tryz.func64 Tryz.results64 rfl (by simp [Tryz.ntmps64]) (by kernel_rfl) ?_
  repeat' (first | (show q0i ..; first | refine q0c ?_ | refine q0e rfl ?_ | refine q1b rfl rfl ?_) | (show q0k ..; first | refine q0f rfl rfl ?_ | refine q0m rfl ?_) | (show goOn ..; refine q0g ?_) | (show q1j ..; (refine q0u (r := ?_) ?_ ?_; rotate_left 1; (focus first | exact h1 | exact h2 | exact h3 | exact h4 | exact h5 | exact h6 | exact h7 | exact h8 | exact h9 | exact ha | exact hb))) | (show wGo ..; first | refine q3n ?_ | refine q3x ?_ | refine q8d (fun _ => ?_) (fun _ => ?_)) | (show q0d ..; first | refine q0h ?_ | refine q0b ?_ | refine q0r ?_) | refine q0a ?_ | (show retQ ..; refine q0s ?_) | refine q0l ?_)
  all_goals (refine q1o ?_; unfold enterR; simp only [*, Bool.not_true, Bool.not_false, Bool.and_true, Bool.true_and, Bool.and_false, Bool.false_and, Bool.or_true, Bool.true_or, Bool.or_false, Bool.false_or, Bool.and_self, Bool.or_self, decide_true, decide_false, Bool.not_not, if_true, if_false, Bool.false_eq_true, eq_self])
end Go.Proofs.YtoibbedpaaeclaaGreat
end
