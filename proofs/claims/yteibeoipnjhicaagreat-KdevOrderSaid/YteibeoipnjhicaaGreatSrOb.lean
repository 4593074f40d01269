import Derived.Test.YteibeoipnjhicaaGreatRzA
import Derived.Test.YteibeoipnjhicaaGreatProg
import Derived.Lib.Hide
namespace Go.Proofs.YteibeoipnjhicaaGreat
open Go Go.RowKit Go.Shelf
set_option linter.unusedVariables false
set_option linter.unusedSimpArgs false
def szOb : Nat := 51
theorem infoSlOb : (Tryz.prog.info? 58).map (fun i => (i.zero, i.size, i.bytes)) = some (some (.agg #[.int .u64 0, .int .i64 0, .slice none 0 0, .int .i64 0, .bool false, .slice none 0 0, .slice none 0 0, .slice none 0 0, .int .u64 0, .int .u64 0, .int .u64 0, .int .u64 0, .int .u64 0, .int .u64 0, .int .u64 0, .int .u64 0, .int .u64 0, .int .u64 0, .int .u64 0, .int .u64 0, .int .u64 0, .int .u64 0, .int .u64 0, .int .u64 0, .int .u64 0, .slice none 0 0, .int .u64 0, .int .u64 0, .int .u64 0, .int .u64 0, .int .i64 0, .int .u64 0, .int .u64 0, .int .u64 0, .int .u64 0, .bool false, .slice none 0 0, .int .u64 0, .int .u64 0, .slice none 0 0, .slice none 0 0, .slice none 0 0, .slice none 0 0, .slice none 0 0, .slice none 0 0, .int .u64 0, .int .u64 0, .int .u64 0, .int .u64 0, .slice none 0 0, .slice none 0 0]), 51, 632) := by kernel_rfl
theorem sizeOb : (Tryz.prog.info? 58).map (·.size) = some 51 := by kernel_rfl
set_option maxRecDepth 100000 in
theorem cloneOb_calls (l : List (Cl szOb)) (A : Option Addr) (c : Nat) (w : World) (hC : RdC w A l) (hc : l.length ≤ c) (hlen : l.length ≤ 1000000) :
    Calls Tryz.prog 167 #[.slice A l.length c] w fun e w' => ∃ v, e = .returned v ∧ RowC 58 w' w.heap.size v l ∧ Below w.heap.size w w' := by
  have HC := Lib.hid hC
  obtain ⟨n, hn⟩ : ∃ n, n = l.length := ⟨_, rfl⟩
  have HN := Lib.hid hn
  rw [← hn] at hc hlen ⊢
  clear hC hn
  have q22 : ∀ (W : World) (a : Option Addr) (n c : Nat), (binOp .eql 23 (.slice a n c) (.slice none 0 0)).run Tryz.prog W = .ok (.bool a.isNone) W := fun W a n c => Lib.run_eql_slice_nil W _ _ a n c 0 0 Tryz.underlying23
  cases A with
  | none =>
    have h0 : n = 0 := by
      have := HC.out
      by_cases h : 0 < l.length
      · obtain ⟨ad, e, _⟩ := this h
        cases e
      · have := HN.out; omega
    have hl : l = [] := List.eq_nil_of_length_eq_zero (by have := HN.out; omega)
    subst hl
    have H0 := Lib.hid h0
    clear h0
    go_enter Tryz.func167, Tryz.ntmps167
    go_wp2
    go_ret
    exact ⟨_, rfl, ⟨rfl, .inl ⟨rfl, rfl⟩⟩, Below.refl _ _⟩
  | some ad =>
    obtain ⟨w0, hw0⟩ : ∃ w0, w0 = w.alloc (.cells #[] 58) := ⟨_, rfl⟩
    have B0 : Below w.heap.size w w0 := by rw [hw0]; exact q7h w _
    obtain ⟨i, hi, hzz⟩ := Option.map_eq_some_iff.1 infoSlOb
    simp only [Prod.mk.injEq] at hzz
    have hC0 := RdC.below HC.out B0
    have hsrc := C_flat hC0 ad rfl
    have hfl := q4q l
    have hone := q9x l
    obtain ⟨v1, w1, hrun, hown, hg, _, _⟩ := Go.run_append_own_at (P := Tryz.prog) w0 w.heap.size 23 23 58 i (.agg #[.int .u64 0, .int .i64 0, .slice none 0 0, .int .i64 0, .bool false, .slice none 0 0, .slice none 0 0, .slice none 0 0, .int .u64 0, .int .u64 0, .int .u64 0, .int .u64 0, .int .u64 0, .int .u64 0, .int .u64 0, .int .u64 0, .int .u64 0, .int .u64 0, .int .u64 0, .int .u64 0, .int .u64 0, .int .u64 0, .int .u64 0, .int .u64 0, .int .u64 0, .slice none 0 0, .int .u64 0, .int .u64 0, .int .u64 0, .int .u64 0, .int .i64 0, .int .u64 0, .int .u64 0, .int .u64 0, .int .u64 0, .bool false, .slice none 0 0, .int .u64 0, .int .u64 0, .slice none 0 0, .slice none 0 0, .slice none 0 0, .slice none 0 0, .slice none 0 0, .slice none 0 0, .int .u64 0, .int .u64 0, .int .u64 0, .int .u64 0, .slice none 0 0, .slice none 0 0]) 51 632 Tryz.underlying23 hi hzz.1 hzz.2.1 hzz.2.2 rfl (by decide)
      (.slice (some ⟨w.heap.size, 0, none⟩) 0 0) 0 [] (by rw [hw0]; exact World.ownsRow_made w #[] 0 (Nat.le_refl _) (Nat.zero_le _) rfl)
      ad n c (flat l) (by rw [hfl, HN.out]; rfl) hsrc hone (by simp only [maxLen]; omega) (by omega) (by rw [hw0]; simp)
    have B1 : Below w.heap.size w w1 := B0.grown hg (by rw [hw0]; simp) (fun k hk => by simp [Value.ownBlock] at hk; omega)
    have HR : Hid (RowC 58 w1 w.heap.size v1 l) := Lib.hid (by have := hown; rw [Nat.zero_add, HN.out, List.nil_append] at this; exact this)
    have HB := Lib.hid B1
    rw [hw0] at hrun
    clear hown hg B1 hsrc hfl hone hC0 B0 hw0 hzz
    go_enter Tryz.func167, Tryz.ntmps167
    go_wp2_with (at_builtin; refine Lib.wpList_append_run _ rfl _ _ _ _ rfl _ _ rfl rfl _ _ hrun ?_)
    go_ret
    exact ⟨_, rfl, HR.out, HB.out⟩
set_option maxRecDepth 100000 in
set_option maxHeartbeats 4000000 in
theorem insertEndOb_calls (l : List (Cl szOb)) (v : Value) (x : (Cl szOb)) (vb cv base : Nat) (w : World) (HR : RowC 58 w base v l) {cx : Array Value} {tx : TypeId} (hvb : w.heap[vb]? = some (.cells cx tx (0, 0))) (hcx : ∀ (j : Nat) (u : Value), x.1[j]? = some u → cx[j]? = some u) (hbase : base ≤ w.heap.size) (hlen : l.length ≤ 1000000) :
    Calls Tryz.prog 168 #[v, .int .i64 (l.length : Nat), .slice (some ⟨vb, 0, none⟩) 1 cv] w fun e w' => ∃ v', e = .returned v' ∧ RowC 58 w' base v' (l ++ [x]) ∧ Mv w w' v v' := by
  obtain ⟨i, hi, hzz⟩ := Option.map_eq_some_iff.1 infoSlOb
  simp only [Prod.mk.injEq] at hzz
  have hO := HR
  obtain ⟨n, hn⟩ : ∃ n, n = l.length := ⟨_, rfl⟩
  obtain ⟨v1, w1, hrun, hown, hblk⟩ := append_own2 (P := Tryz.prog) w base 23 58 i _ 23 Tryz.underlying23 hi hzz.1 (by rw [hzz.2.1]; rfl) (by rw [hzz.2.1]; decide) v l.length (flat l) (by rw [hzz.2.1]; exact hO) hbase vb cv x.1 (by rw [hzz.2.1]; exact x.2.1) x.2.2 (fun j u hu => by rw [Addr.add_lit, Nat.zero_add, cell_of_row _ vb _ _ _ _ hvb]; exact hcx j u hu) (by rw [hzz.2.2]; omega) (by simp only [maxLen]; omega)
  rw [hzz.2.1] at hown
  have hfin : Hid (RowC 58 w1 base v1 (l ++ [x])) := Lib.hid ((by
    have e : flat (l ++ [x]) = flat l ++ x.1 := by rw [q4z]; simp [flat]
    show w1.ownsRow base 58 51 v1 (l ++ [x]).length (flat (l ++ [x]))
    rw [e, List.length_append]; exact hown))
  rw [← hn] at hlen ⊢
  obtain ⟨A, c, hv⟩ := own_slice HR
  have hnc : n ≤ c := by
    rcases hO.2 with ⟨e, h0⟩ | ⟨g', c', cur, e, _, _, h, _⟩
    · omega
    · rw [hv] at e
      injection e with _ _ e3
      omega
  rw [← hn] at hv
  have hbk : Hid (∀ c', c' = c → Mv w w1 (.slice A n c') v1) := Lib.hid (fun c' e => by subst e; rw [hv] at hblk; exact hblk)
  subst hv
  clear HR hO hown hblk hvb hcx hbase hzz hi hn
  have hle : (n : Int) ≤ (n : Int) := Int.le_refl _
  have heq : ((n : Int) == (n : Int)) = true := by simp
  rw [← append_types (P := Tryz.prog) 23 23 58 58 23 Tryz.underlying23 Tryz.underlying23] at hrun
  go_enter Tryz.func168, Tryz.ntmps168
  go_wp2_with (at_builtin; refine Lib.wpList_append_run _ rfl _ _ _ _ rfl _ _ rfl rfl _ _ hrun ?_)
  all_goals (go_ret; exact ⟨_, rfl, hfin.out, hbk.out _ (by first | rfl | omega)⟩)
set_option maxRecDepth 100000 in
set_option maxHeartbeats 4000000 in
theorem q9v (l : List (Cl szOb)) (g c k : Nat) (x : (Cl szOb)) (vb cv base : Nat) (w : World) (HR : RowC 58 w base (.slice (some ⟨g, 0, none⟩) l.length c) l) (hk : k < l.length) (hroom : l.length + 1 ≤ c) {cx : Array Value} {tx : TypeId} (hvb : w.heap[vb]? = some (.cells cx tx (0, 0))) (hcx : ∀ (j : Nat) (u : Value), x.1[j]? = some u → cx[j]? = some u) (hne : vb ≠ g) (hlen : l.length ≤ 1000000) :
    Calls Tryz.prog 168 #[.slice (some ⟨g, 0, none⟩) l.length c, .int .i64 k, .slice (some ⟨vb, 0, none⟩) 1 cv] w fun e w' => ∃ v', e = .returned v' ∧ RowC 58 w' base v' (l.take k ++ x :: l.drop k) ∧ Mv w w' (.slice (some ⟨g, 0, none⟩) l.length c) v' := by
  have HR0 := HR
  obtain ⟨_, hcase⟩ := HR0
  rcases hcase with ⟨h0, _⟩ | ⟨g', c', cur, e, hb, hg, hnc, hcm, hcs, htake⟩
  · cases h0
  injection e with ea _ ec
  injection ea with ea
  injection ea with ea
  subst ea; subst ec
  obtain ⟨n, hn⟩ : ∃ n, n = l.length := ⟨_, rfl⟩
  have hsz : szOb = 51 := rfl
  have hdr : (flat (l.drop k)).length = (n - k) * 51 := by rw [q4q, List.length_drop, ← hn, hsz]
  obtain ⟨cur1, h1⟩ : ∃ cur1, cur1 = cur.toList.take ((k + 1) * szOb) ++ flat (l.drop k) ++ cur.toList.drop ((k + 1) * szOb + (flat (l.drop k)).length) := ⟨_, rfl⟩
  obtain ⟨cur2, h2⟩ : ∃ cur2, cur2 = cur1.take (k * szOb) ++ x.1 ++ cur1.drop (k * szOb + x.1.length) := ⟨_, rfl⟩
  have hD := insert_cells (cur := cur.toList) (l := l) (cap := c) (k := k) (by rw [Array.length_toList]; exact hcs) hroom htake hk h1 h2
  have hgd : w.drew.heap[g]? = some (.cells cur 58 (0, 0)) := hg
  have hg1 : (w.drew.setRow g cur1.toArray).heap[g]? = some (.cells cur1.toArray 58 (0, 0)) := q8j _ g cur _ _ _ hgd
  have hv1 : (w.drew.setRow g cur1.toArray).heap[vb]? = some (.cells cx tx (0, 0)) := (setRow_other _ g vb _ hne).trans hvb
  have hcp1 : ∀ ty dc sc, (Builtin.copy_ #[23, 23] ty #[.slice (some ⟨g, (k + 1) * 51, none⟩) (n - k) dc, .slice (some ⟨g, k * 51, none⟩) (n + 1 - k) sc]).run Tryz.prog w.drew = .ok (goInt (n - k : Nat)) (w.drew.setRow g cur1.toArray) := fun ty dc sc => by
    have hmin : Nat.min (n + 1 - k) (n - k) = n - k := Nat.min_eq_right (by omega)
    have := copy_row (P := Tryz.prog) w.drew 23 23 ty 58 51 g ((k + 1) * 51) (n - k) dc ⟨g, k * 51, none⟩ (n + 1 - k) sc cur 58 (flat (l.drop k)) Tryz.underlying23 sizeOb hgd (by rw [hdr, hmin]) (fun j u hj => by
      rw [Addr.add_lit, cell_of_row _ g _ cur _ _ hgd]
      rw [← flat_drop l k (by omega), ← htake, List.getElem?_drop, List.getElem?_take] at hj
      split at hj
      · rw [Array.getElem?_toList, hsz] at hj
        exact hj
      · cases hj) (by have := hD.1; rw [Array.length_toList] at this; exact this) (q9x _)
    rw [hmin] at this
    rw [this, h1]; rfl
  have hcp2 : ∀ ty dc, (Builtin.copy_ #[23, 23] ty #[.slice (some ⟨g, k * 51, none⟩) (n + 1 - k) dc, .slice (some ⟨vb, 0, none⟩) 1 cv]).run Tryz.prog (w.drew.setRow g cur1.toArray) = .ok (goInt (1 : Nat)) ((w.drew.setRow g cur1.toArray).setRow g cur2.toArray) := fun ty dc => by
    have hmin : Nat.min 1 (n + 1 - k) = 1 := Nat.min_eq_left (by omega)
    have := copy_row (P := Tryz.prog) (w.drew.setRow g cur1.toArray) 23 23 ty 58 51 g (k * 51) (n + 1 - k) dc ⟨vb, 0, none⟩ 1 cv cur1.toArray 58 x.1 Tryz.underlying23 sizeOb hg1 (by rw [hmin, Nat.one_mul]; exact x.2.1) (fun j u hj => by
      rw [Addr.add_lit, Nat.zero_add, cell_of_row _ vb _ _ _ _ hv1]
      exact hcx j u hj) (by have : k * 51 + x.1.length ≤ cur1.length := hD.2.2.1; simpa using this) (x.2.2)
    rw [hmin] at this
    rw [this, h2]; rfl
  have hov : ∀ lb cb, (callFunc 220 #[.slice (some ⟨vb, 0, none⟩) 1 cv, .slice (some ⟨g, (k + 1) * 51, none⟩) lb cb]).run Tryz.prog w = .ok (.value (.bool false)) w := fun lb cb => by
    rw [run_callFunc_extern Tryz.func220 (by kernel_rfl) (by kernel_rfl) (by kernel_rfl) (e := Extern.SlicesOverlaps.overlaps #[23, 23] #[4]) (by kernel_rfl),
      Lib.run_overlaps_apart w 23 4 58 Tryz.underlying23 51 (fun w => by kernel_rfl) ⟨vb, 0, none⟩ ⟨g, (k + 1) * 51, none⟩ 1 cv lb cb hne tx 58 cx.size cur.size (by simp [World.shape?, hvb]) (by simp [World.shape?, hg]) (by rw [hcs]; exact Nat.mul_ne_zero (by omega) (by decide)) (by simp [World.frozen?, hvb]) (by simp [World.frozen?, hvb])]
    rfl
  have hfin : Hid (RowC 58 ((w.drew.setRow g cur1.toArray).setRow g cur2.toArray) base (.slice (some ⟨g, 0, none⟩) (n + 1) c) (l.take k ++ x :: l.drop k)) := Lib.hid (by
    have hle : (l.take k ++ x :: l.drop k).length = n + 1 := by rw [List.length_append, List.length_cons, List.length_take, List.length_drop]; omega
    have := flat_block (xs := l.take k ++ x :: l.drop k) (cap := c) hb (q8j _ g _ cur2.toArray _ _ hg1) (by omega) hcm (by simpa using hD.2.2.2.1) (by have := hD.2.2.2.2; rw [← hn] at this; rw [hle]; simpa using this)
    have e2 : Value.slice (some ⟨g, 0, none⟩) (l.take k ++ x :: l.drop k).length c = .slice (some ⟨g, 0, none⟩) (n + 1) c := by rw [hle]
    rw [e2] at this
    exact this)
  have hbel : Hid (w.grownBy ((w.drew.setRow g cur1.toArray).setRow g cur2.toArray) (some g)) := Lib.hid (gb_setRow (gb_setRow (gb_drew (gb_refl _ _)) g _ (.inl rfl)) g _ (.inl rfl))
  have mixed : Tryz.prog.follows Departure.mixedOrders = true := by kernel_rfl
  rw [← hn] at hk hroom hlen ⊢
  have hz2 : ¬ ((k : Int) = (n : Int)) := by omega
  have hzb : ((k : Int) == (n : Int)) = false := beq_eq_false_iff_ne.2 hz2
  have hx1 : (k : Int) ≤ (n : Int) := by omega
  have hx2 : (k : Int) ≤ (n : Int) + 1 := by omega
  have hx3 : (k : Int) + 1 ≤ (n : Int) + 1 := by omega
  have hx4 : (0 : Int) ≤ (k : Int) + 1 := by omega
  have hx5 : (0 : Int) ≤ (n : Int) + 1 := by omega
  have hx6 : (n : Int) + 1 ≤ (c : Int) := by omega
  have hx7 : ¬ (c < n + 1) := by omega
  have hw1 : IntKind.i64.wrap ((k : Int) + 1) = (k : Int) + 1 := by rw [IntKind.wrap_i64]; omega
  have htn : ((k : Int) + 1).toNat = k + 1 := by omega
  have hw2 : IntKind.i64.wrap ((n : Int) + 1) = (n : Int) + 1 := by rw [IntKind.wrap_i64]; omega
  have hx8 : ¬ ((c : Int) < (n : Int) + 1) := by omega
  have hc1 : ¬ (c = k) := by omega
  have hc2 : ¬ (c = k + 1) := by omega
  have hcm' : c ≤ 9223372036854775807 := by simp only [maxLen] at hcm; omega
  clear HR hb hg hcm hcs htake hD h1 h2 hdr hgd hg1 hv1 hn hvb hcx hnc
  go_enter Tryz.func168, Tryz.ntmps168
  go_wp2_with (simp only [hov])
  go_region_law_o (refine step_copy rfl _ _ 23 23 rfl _ _ (by simp [Act.eval, Act.put]; done) (by simp [Act.eval, Act.put]; done) (hcp1 _ (c - (k + 1)) (c - k)) ?_)
  go_wp2_with (at_builtin; refine wpl_copy _ rfl _ _ 23 23 rfl _ _ rfl rfl (hcp2 _ _) ?_)
  go_ret
  exact ⟨_, rfl, hfin.out, .inl ⟨⟨_, _, _, _, rfl, rfl⟩, hbel.out⟩⟩
set_option maxRecDepth 100000 in
set_option maxHeartbeats 4000000 in
theorem q9w (l : List (Cl szOb)) (g c k : Nat) (x : (Cl szOb)) (vb cv base : Nat) (w : World) (HR : RowC 58 w base (.slice (some ⟨g, 0, none⟩) l.length c) l) (hk : k < l.length) (hroom : ¬ (l.length + 1 ≤ c)) {cx : Array Value} {tx : TypeId} (hvb : w.heap[vb]? = some (.cells cx tx (0, 0))) (hcx : ∀ (j : Nat) (u : Value), x.1[j]? = some u → cx[j]? = some u) (hbase : base ≤ w.heap.size) (hlen : l.length ≤ 1000000) :
    Calls Tryz.prog 168 #[.slice (some ⟨g, 0, none⟩) l.length c, .int .i64 k, .slice (some ⟨vb, 0, none⟩) 1 cv] w fun e w' => ∃ v', e = .returned v' ∧ RowC 58 w' base v' (l.take k ++ x :: l.drop k) ∧ Mv w w' (.slice (some ⟨g, 0, none⟩) l.length c) v' := by
  have HR0 := HR
  obtain ⟨_, hcase⟩ := HR0
  rcases hcase with ⟨h0, _⟩ | ⟨g', c', cur, e, hb, hg, hnc, hcm, hcs, htake⟩
  · cases h0
  injection e with ea _ ec
  injection ea with ea
  injection ea with ea
  subst ea; subst ec
  obtain ⟨i, hi, hzz⟩ := Option.map_eq_some_iff.1 infoSlOb
  simp only [Prod.mk.injEq] at hzz
  obtain ⟨n, hn⟩ : ∃ n, n = l.length := ⟨_, rfl⟩
  obtain rfl : c = n := by omega
  have hsz : szOb = 51 := rfl
  have hdr : (flat (l.drop k)).length = (c - k) * 51 := by rw [q4q, List.length_drop, ← hn, hsz]
  have htk : (flat (l.take k)).length = k * 51 := by rw [q4q, List.length_take, Nat.min_eq_left (by omega)]; rfl
  have hgl : g < w.heap.size := blk_lt hg
  have hvl : vb < w.heap.size := blk_lt hvb
  obtain ⟨G, hG⟩ : ∃ G, G = grownCap w (c + 1) c 58 := ⟨_, rfl⟩
  have hGn : c + 1 ≤ G := by rw [hG]; exact grownCap_ge w _ _ _
  have hGm : G ≤ maxLen := by rw [hG]; exact grownCap_le_maxLen w (c + 1) c 58 (by unfold maxLen; omega)
  obtain ⟨ROW, hROW⟩ : ∃ ROW : Array Value, ROW = (flat (l.take k)).toArray ++ Builtin.zeroCells (.agg #[.int .u64 0, .int .i64 0, .slice none 0 0, .int .i64 0, .bool false, .slice none 0 0, .slice none 0 0, .slice none 0 0, .int .u64 0, .int .u64 0, .int .u64 0, .int .u64 0, .int .u64 0, .int .u64 0, .int .u64 0, .int .u64 0, .int .u64 0, .int .u64 0, .int .u64 0, .int .u64 0, .int .u64 0, .int .u64 0, .int .u64 0, .int .u64 0, .int .u64 0, .slice none 0 0, .int .u64 0, .int .u64 0, .int .u64 0, .int .u64 0, .int .i64 0, .int .u64 0, .int .u64 0, .int .u64 0, .int .u64 0, .bool false, .slice none 0 0, .int .u64 0, .int .u64 0, .slice none 0 0, .slice none 0 0, .slice none 0 0, .slice none 0 0, .slice none 0 0, .slice none 0 0, .int .u64 0, .int .u64 0, .int .u64 0, .int .u64 0, .slice none 0 0, .slice none 0 0] : Value).cells (c + 1 - k) ++ Builtin.zeroCells (.agg #[.int .u64 0, .int .i64 0, .slice none 0 0, .int .i64 0, .bool false, .slice none 0 0, .slice none 0 0, .slice none 0 0, .int .u64 0, .int .u64 0, .int .u64 0, .int .u64 0, .int .u64 0, .int .u64 0, .int .u64 0, .int .u64 0, .int .u64 0, .int .u64 0, .int .u64 0, .int .u64 0, .int .u64 0, .int .u64 0, .int .u64 0, .int .u64 0, .int .u64 0, .slice none 0 0, .int .u64 0, .int .u64 0, .int .u64 0, .int .u64 0, .int .i64 0, .int .u64 0, .int .u64 0, .int .u64 0, .int .u64 0, .bool false, .slice none 0 0, .int .u64 0, .int .u64 0, .slice none 0 0, .slice none 0 0, .slice none 0 0, .slice none 0 0, .slice none 0 0, .slice none 0 0, .int .u64 0, .int .u64 0, .int .u64 0, .int .u64 0, .slice none 0 0, .slice none 0 0] : Value).cells (G - (c + 1)) := ⟨_, rfl⟩
  have hzsz : (.agg #[.int .u64 0, .int .i64 0, .slice none 0 0, .int .i64 0, .bool false, .slice none 0 0, .slice none 0 0, .slice none 0 0, .int .u64 0, .int .u64 0, .int .u64 0, .int .u64 0, .int .u64 0, .int .u64 0, .int .u64 0, .int .u64 0, .int .u64 0, .int .u64 0, .int .u64 0, .int .u64 0, .int .u64 0, .int .u64 0, .int .u64 0, .int .u64 0, .int .u64 0, .slice none 0 0, .int .u64 0, .int .u64 0, .int .u64 0, .int .u64 0, .int .i64 0, .int .u64 0, .int .u64 0, .int .u64 0, .int .u64 0, .bool false, .slice none 0 0, .int .u64 0, .int .u64 0, .slice none 0 0, .slice none 0 0, .slice none 0 0, .slice none 0 0, .slice none 0 0, .slice none 0 0, .int .u64 0, .int .u64 0, .int .u64 0, .int .u64 0, .slice none 0 0, .slice none 0 0] : Value).cells.size = 51 := rfl
  have hRs : ROW.toList.length = G * szOb := by
    rw [hROW, Array.length_toList]
    simp only [Array.size_append, List.size_toArray, size_zeroCells, htk, hzsz, ← Nat.add_mul, hsz]
    congr 1; omega
  have hRt : ROW.toList.take (k * szOb) = flat (l.take k) := by
    show ROW.toList.take (k * 51) = flat (l.take k)
    rw [hROW]
    simp only [Array.toList_append, List.append_assoc]
    exact List.take_left' htk
  have hrz : ∀ ty, (Builtin.append_ #[23, 3] ty #[.slice (some ⟨g, 0, none⟩) k c, .int .i64 ((c : Int) + 1 - (k : Int))]).run Tryz.prog w =
      .ok (.slice (some ⟨w.heap.size, 0, none⟩) (c + 1) G) (w.drew.alloc (.cells ROW 58)) := fun ty => by
    have hold : (Builtin.firstCells i.size k (.slice (some ⟨g, 0, none⟩) k c)).run Tryz.prog w.drew = .ok (flat (l.take k)).toArray w.drew := by
      rw [hzz.2.1]
      exact run_firstCells_some w.drew 51 k ⟨g, 0, none⟩ k c (flat (l.take k)) htk (fun j u hj => by
        rw [Addr.add_lit, Nat.zero_add, cell_of_row _ g _ cur _ _ (show w.drew.heap[g]? = some (.cells cur 58 (0, 0)) from hg)]
        rw [← flat_take l k (by omega), ← htake, List.take_take, List.getElem?_take] at hj
        split at hj
        · rw [Array.getElem?_toList] at hj
          exact hj
        · cases hj)
    have hkk : (c : Int) + 1 - (k : Int) = ((c + 1 - k : Nat) : Int) := by omega
    have hik : k + (c + 1 - k) = c + 1 := by omega
    have h := Lib.run_append_grow_zeros w 23 3 ty 58 i _ .i64 .i64 Tryz.underlying23 Tryz.underlying3 hi hzz.1 (some ⟨g, 0, none⟩) k c (flat (l.take k)) hold (c + 1 - k) (by omega) (by rw [hzz.2.1]; decide) (by omega) (by omega) (by rw [hzz.2.2]; omega) (by rw [hzz.2.2, hik]; exact growslice_fits (by omega) (by omega))
    rw [hik, ← hG, ← hROW] at h
    rw [hkk]
    exact h
  obtain ⟨cur1, h1⟩ : ∃ cur1, cur1 = ROW.toList.take (k * szOb) ++ x.1 ++ ROW.toList.drop (k * szOb + x.1.length) := ⟨_, rfl⟩
  obtain ⟨cur2, h2⟩ : ∃ cur2, cur2 = cur1.take ((k + 1) * szOb) ++ flat (l.drop k) ++ cur1.drop ((k + 1) * szOb + (flat (l.drop k)).length) := ⟨_, rfl⟩
  have hD := grown_cells (row := ROW.toList) (l := l) (cap := G) (k := k) hRs (by omega) hk hRt h1 h2
  obtain ⟨W1, hW1⟩ : ∃ W1, W1 = w.drew.alloc (.cells ROW 58) := ⟨_, rfl⟩
  have hgW : W1.heap[w.heap.size]? = some (.cells ROW 58 (0, 0)) := by rw [hW1]; exact heap_alloc_new w.drew _
  have hgg : W1.heap[g]? = some (.cells cur 58 (0, 0)) := by rw [hW1]; exact blk_alloc (show w.drew.heap[g]? = some (.cells cur 58 (0, 0)) from hg) _
  have hgv : W1.heap[vb]? = some (.cells cx tx (0, 0)) := by rw [hW1]; exact blk_alloc (show w.drew.heap[vb]? = some (.cells cx tx (0, 0)) from hvb) _
  have hg1 : ∀ W : World, W.heap = W1.heap → (W.setRow w.heap.size cur1.toArray).heap[w.heap.size]? = some (.cells cur1.toArray 58 (0, 0)) := fun W hW => q8j _ _ ROW _ _ _ (by rw [hW]; exact hgW)
  have hcpA : ∀ W : World, W.heap = W1.heap → ∀ ty dc, (Builtin.copy_ #[23, 23] ty #[.slice (some ⟨w.heap.size, k * 51, none⟩) (c + 1 - k) dc, .slice (some ⟨vb, 0, none⟩) 1 cv]).run Tryz.prog W = .ok (goInt (1 : Nat)) (W.setRow w.heap.size cur1.toArray) := fun W hW ty dc => by
    have hmin : Nat.min 1 (c + 1 - k) = 1 := Nat.min_eq_left (by omega)
    have := copy_row (P := Tryz.prog) W 23 23 ty 58 51 w.heap.size (k * 51) (c + 1 - k) dc ⟨vb, 0, none⟩ 1 cv ROW 58 x.1 Tryz.underlying23 sizeOb (by rw [hW]; exact hgW) (by rw [hmin, Nat.one_mul]; exact x.2.1) (fun j u hj => by
      rw [Addr.add_lit, Nat.zero_add, cell_of_row _ vb _ _ _ _ (by rw [hW]; exact hgv)]
      exact hcx j u hj) (by have : k * 51 + x.1.length ≤ ROW.toList.length := hD.1; rw [Array.length_toList] at this; exact this) (x.2.2)
    rw [hmin] at this
    rw [this, h1]; rfl
  have hcpB : ∀ W : World, W.heap = (W1.setRow w.heap.size cur1.toArray).heap → ∀ ty dc sc, (Builtin.copy_ #[23, 23] ty #[.slice (some ⟨w.heap.size, (k + 1) * 51, none⟩) (c - k) dc, .slice (some ⟨g, k * 51, none⟩) (c - k) sc]).run Tryz.prog W = .ok (goInt (c - k : Nat)) (W.setRow w.heap.size cur2.toArray) := fun W hW ty dc sc => by
    have hmin : Nat.min (c - k) (c - k) = c - k := Nat.min_self _
    have hgB : W.heap[g]? = some (.cells cur 58 (0, 0)) := by rw [hW]; exact (setRow_other _ _ g _ (by omega)).trans hgg
    have := copy_row (P := Tryz.prog) W 23 23 ty 58 51 w.heap.size ((k + 1) * 51) (c - k) dc ⟨g, k * 51, none⟩ (c - k) sc cur1.toArray 58 (flat (l.drop k)) Tryz.underlying23 sizeOb (by rw [hW]; exact hg1 W1 rfl) (by rw [hdr, hmin]) (fun j u hj => by
      rw [Addr.add_lit, cell_of_row _ g _ cur _ _ hgB]
      rw [← flat_drop l k (by omega), ← htake, List.getElem?_drop, List.getElem?_take] at hj
      split at hj
      · rw [Array.getElem?_toList, hsz] at hj
        exact hj
      · cases hj) (by have : (k + 1) * 51 + (flat (l.drop k)).length ≤ cur1.length := hD.2.2.1; simpa using this) (q9x _)
    rw [hmin] at this
    rw [this, h2]; rfl
  have hfin : Hid (∀ W : World, W.heap = ((W1.setRow w.heap.size cur1.toArray).setRow w.heap.size cur2.toArray).heap → RowC 58 W base (.slice (some ⟨w.heap.size, 0, none⟩) (c + 1) G) (l.take k ++ x :: l.drop k)) := Lib.hid (fun W hW => by
    have hle : (l.take k ++ x :: l.drop k).length = c + 1 := by rw [List.length_append, List.length_cons, List.length_take, List.length_drop]; omega
    have hgF : W.heap[w.heap.size]? = some (.cells cur2.toArray 58 (0, 0)) := by rw [hW]; exact q8j _ _ cur1.toArray _ _ _ (hg1 W1 rfl)
    have := flat_block (xs := l.take k ++ x :: l.drop k) (cap := G) hbase hgF (by omega) hGm (by simpa using hD.2.2.2.1) (by have := hD.2.2.2.2; rw [← hn] at this; rw [hle]; simpa using this)
    have e2 : Value.slice (some ⟨w.heap.size, 0, none⟩) (l.take k ++ x :: l.drop k).length G = .slice (some ⟨w.heap.size, 0, none⟩) (c + 1) G := by rw [hle]
    rw [e2] at this
    exact this)
  have hbel : Hid (Below w.heap.size w ((W1.setRow w.heap.size cur1.toArray).setRow w.heap.size cur2.toArray)) := Lib.hid (by
    rw [hW1]
    have hbA : Below w.heap.size w (w.drew.alloc (.cells ROW 58)) := (Below.refl _ _).drew.alloc (by simp) _
    exact below_setRow (below_setRow hbA _ _ (Nat.le_refl _)) _ _ (Nat.le_refl _))
  have mixed : Tryz.prog.follows Departure.mixedOrders = true := by kernel_rfl
  rw [← hn] at hk hlen ⊢
  have hz2 : ¬ ((k : Int) = (c : Int)) := by omega
  have hzb : ((k : Int) == (c : Int)) = false := beq_eq_false_iff_ne.2 hz2
  have hx1 : (k : Int) ≤ (c : Int) := by omega
  have hx2 : (k : Int) ≤ (c : Int) + 1 := by omega
  have hx3 : (k : Int) + 1 ≤ (c : Int) + 1 := by omega
  have hx4 : (0 : Int) ≤ (k : Int) + 1 := by omega
  have hx5 : (0 : Int) ≤ (c : Int) + 1 := by omega
  have hx8 : (c : Int) < (c : Int) + 1 := by omega
  have hw1 : IntKind.i64.wrap ((k : Int) + 1) = (k : Int) + 1 := by rw [IntKind.wrap_i64]; omega
  have htn : ((k : Int) + 1).toNat = k + 1 := by omega
  have hw2 : IntKind.i64.wrap ((c : Int) + 1) = (c : Int) + 1 := by rw [IntKind.wrap_i64]; omega
  have hw3 : IntKind.i64.wrap ((c : Int) + 1 - (k : Int)) = (c : Int) + 1 - (k : Int) := by rw [IntKind.wrap_i64]; omega
  have hc1 : ¬ (c = k) := by omega
  have hG1 : ¬ (G = k) := by omega
  have hG2 : ¬ (G = k + 1) := by omega
  have hG63 : G ≤ 9223372036854775807 := by simp only [maxLen] at hGm; omega
  subst hW1
  clear HR hb hg hcm hcs htake hD h1 h2 hdr hn hvb hcx hnc hRs hRt hgW hgg hgv hg1 htk hGm hG hROW hzz hi hgl hvl
  have hA : ∀ ty, (Builtin.copy_ #[23, 23] ty #[.slice (some ⟨w.heap.size, k * 51, none⟩) (c + 1 - k) (G - k), .slice (some ⟨vb, 0, none⟩) 1 cv]).run Tryz.prog ((w.alloc (.cells ROW 58)).drew) = .ok (goInt (1 : Nat)) (((w.alloc (.cells ROW 58)).drew).setRow w.heap.size cur1.toArray) := fun ty => hcpA ((w.alloc (.cells ROW 58)).drew) rfl ty (G - k)
  have hB : ∀ ty, (Builtin.copy_ #[23, 23] ty #[.slice (some ⟨w.heap.size, (k + 1) * 51, none⟩) (c - k) (G - (k + 1)), .slice (some ⟨g, k * 51, none⟩) (c - k) (c - k)]).run Tryz.prog (((w.alloc (.cells ROW 58)).drew.setRow w.heap.size cur1.toArray).drew) = .ok (goInt (c - k : Nat)) ((((w.alloc (.cells ROW 58)).drew.setRow w.heap.size cur1.toArray).drew).setRow w.heap.size cur2.toArray) := fun ty => hcpB (((w.alloc (.cells ROW 58)).drew.setRow w.heap.size cur1.toArray).drew) rfl ty (G - (k + 1)) (c - k)
  clear hcpA hcpB
  go_enter Tryz.func168, Tryz.ntmps168
  go_wp2_with (first
    | (at_builtin; refine Lib.wpList_append_run _ rfl _ _ _ _ rfl _ _ rfl rfl _ _ (hrz _) ?_)
    | (at_builtin; refine wpl_copy _ rfl _ _ 23 23 rfl _ _ rfl rfl (hA _) ?_))
  go_region_law_o (refine step_copy rfl _ _ 23 23 rfl _ _ (by simp [Act.eval, Act.put]; done) (by simp [Act.eval, Act.put]; done) (hB _) ?_)
  go_wp2
  go_ret
  exact ⟨_, rfl, hfin.out _ (by rfl), .inr ⟨rfl, hbel.out.os, hbel.out.tape, hbel.out.output, hbel.out.size, hbel.out.block⟩⟩
theorem insertOb_calls (l : List (Cl szOb)) (v : Value) (k : Nat) (x : (Cl szOb)) (vb cv base : Nat) (w : World) (HR : RowC 58 w base v l) (hk : k ≤ l.length) {cx : Array Value} {tx : TypeId} (hvb : w.heap[vb]? = some (.cells cx tx (0, 0))) (hcx : ∀ (j : Nat) (u : Value), x.1[j]? = some u → cx[j]? = some u) (hne : v.ownBlock ≠ some vb) (hbase : base ≤ w.heap.size) (hlen : l.length ≤ 1000000) :
    Calls Tryz.prog 168 #[v, .int .i64 k, .slice (some ⟨vb, 0, none⟩) 1 cv] w fun e w' => ∃ v', e = .returned v' ∧ RowC 58 w' base v' (l.take k ++ x :: l.drop k) ∧ Mv w w' v v' := by
  by_cases he : k = l.length
  · subst he
    rw [List.take_length, List.drop_length]
    exact insertEndOb_calls l v x vb cv base w HR hvb hcx hbase hlen
  · have hk' : k < l.length := by omega
    have HR0 := HR
    obtain ⟨_, hcase⟩ := HR0
    rcases hcase with ⟨_, h0⟩ | ⟨g, c, cur, rfl, _⟩
    · omega
    have hg : vb ≠ g := fun e => hne (by simp [Value.ownBlock, e])
    by_cases hroom : l.length + 1 ≤ c
    · exact q9v l g c k x vb cv base w HR hk' hroom hvb hcx hg hlen
    · exact q9w l g c k x vb cv base w HR hk' hroom hvb hcx hbase hlen
end Go.Proofs.YteibeoipnjhicaaGreat
