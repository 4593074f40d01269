import Derived.Test.YtggkjfllbfcagaaSrw
import Derived.Test.YtggkjfllbfcagaaProg
import Derived.Lib.Hide
namespace Go.Proofs.Ytggkjfllbfcagaa
open Go Go.RowKit Go.Shelf
set_option linter.unusedVariables false
set_option linter.unusedSimpArgs false
def szMp : Nat := 6
theorem infoSlMp : (Try.prog.info? 52).map (fun i => (i.zero, i.size, i.bytes)) = some (some (.agg #[.int .i64 0, .int .i64 0, .int .u64 0, .int .u64 0, .int .i64 0, .bool false]), 6, 48) := by kernel_rfl
theorem zeroMp (w : World) : (zeroValue 52).run Try.prog w = .ok (.agg #[.int .i64 0, .int .i64 0, .int .u64 0, .int .u64 0, .int .i64 0, .bool false]) w := by kernel_rfl
theorem sizeMp : (Try.prog.info? 52).map (·.size) = some 6 := by kernel_rfl
set_option maxRecDepth 100000 in
theorem cloneMp_calls (l : List (Cl szMp)) (A : Option Addr) (c : Nat) (w : World) (hC : RdC w A l) (hc : l.length ≤ c) (hlen : l.length ≤ 1000000) :
    Calls Try.prog 73 #[.slice A l.length c] w fun e w' => ∃ v, e = .returned v ∧ RowC 52 w' w.heap.size v l ∧ Below w.heap.size w w' := by
  have HC := Lib.hid hC
  obtain ⟨n, hn⟩ : ∃ n, n = l.length := ⟨_, rfl⟩
  have HN := Lib.hid hn
  rw [← hn] at hc hlen ⊢
  clear hC hn
  have q22 : ∀ (W : World) (a : Option Addr) (n c : Nat), (binOp .eql 26 (.slice a n c) (.slice none 0 0)).run Try.prog W = .ok (.bool a.isNone) W := fun W a n c => Lib.run_eql_slice_nil W _ _ a n c 0 0 Try.underlying26
  cases A with
  | none =>
    have h0 : n = 0 := by
      have := HC.out
      by_cases h : 0 < l.length
      · obtain ⟨ad, e, _⟩ := this h
        cases e
      · have := HN.out; omega
    have hl : l = [] := List.eq_nil_of_length_eq_zero (by have := HN.out; omega)
    subst hl
    have H0 := Lib.hid h0
    clear h0
    go_enter Try.func73, Try.ntmps73
    go_wp2
    go_ret
    exact ⟨_, rfl, ⟨rfl, .inl ⟨rfl, rfl⟩⟩, Below.refl _ _⟩
  | some ad =>
    obtain ⟨w0, hw0⟩ : ∃ w0, w0 = w.alloc (.cells #[] 52) := ⟨_, rfl⟩
    have B0 : Below w.heap.size w w0 := by rw [hw0]; exact below_new w _
    obtain ⟨i, hi, hzz⟩ := Option.map_eq_some_iff.1 infoSlMp
    simp only [Prod.mk.injEq] at hzz
    have hC0 := RdC.below HC.out B0
    have hsrc := C_flat hC0 ad rfl
    have hfl := flat_len l
    have hone := flat_one l
    obtain ⟨v1, w1, hrun, hown, hg, _, _⟩ := Go.run_append_own_at (P := Try.prog) w0 w.heap.size 26 26 52 i (.agg #[.int .i64 0, .int .i64 0, .int .u64 0, .int .u64 0, .int .i64 0, .bool false]) 6 48 Try.underlying26 hi hzz.1 hzz.2.1 hzz.2.2 rfl (by decide)
      (.slice (some ⟨w.heap.size, 0, none⟩) 0 0) 0 [] (by rw [hw0]; exact World.ownsRow_made w #[] 0 (Nat.le_refl _) (Nat.zero_le _) rfl)
      ad n c (flat l) (by rw [hfl, HN.out]; rfl) hsrc hone (by simp only [maxLen]; omega) (by omega) (by rw [hw0]; simp)
    have B1 : Below w.heap.size w w1 := B0.grown hg (by rw [hw0]; simp) (fun k hk => by simp [Value.ownBlock] at hk; omega)
    have HR : Hid (RowC 52 w1 w.heap.size v1 l) := Lib.hid (by have := hown; rw [Nat.zero_add, HN.out, List.nil_append] at this; exact this)
    have HB := Lib.hid B1
    rw [hw0] at hrun
    clear hown hg B1 hsrc hfl hone hC0 B0 hw0 hzz
    go_enter Try.func73, Try.ntmps73
    go_wp2_with (at_builtin; refine Lib.wpList_append_run _ rfl _ _ _ _ rfl _ _ rfl rfl _ _ hrun ?_)
    go_ret
    exact ⟨_, rfl, HR.out, HB.out⟩
set_option maxRecDepth 100000 in
set_option maxHeartbeats 4000000 in
theorem deleteMp_calls (l : List (Cl szMp)) (v : Value) (k : Nat) (base : Nat) (w : World) (HR : RowC 52 w base v l) (hk : k < l.length) (hlen : l.length ≤ 1000000) :
    Calls Try.prog 103 #[v, .int .i64 k, .int .i64 ((k : Int) + 1)] w fun e w' => ∃ v', e = .returned v' ∧ RowC 52 w' base v' (l.eraseIdx k) ∧ Kp w w' v v' := by
  have HR0 := HR
  obtain ⟨_, hcase⟩ := HR0
  rcases hcase with ⟨_, h0⟩ | ⟨g, c, cur, rfl, hb, hg, hnc, hcm, hcs, htake⟩
  · omega
  obtain ⟨n, hn⟩ : ∃ n, l.length = n + 1 := ⟨l.length - 1, by omega⟩
  obtain ⟨i, hi, hzz⟩ := Option.map_eq_some_iff.1 infoSlMp
  simp only [Prod.mk.injEq] at hzz
  have hsz : szMp = 6 := rfl
  have hdr : (flat (l.drop (k + 1))).length = (n - k) * 6 := by rw [flat_len, List.length_drop, hn, hsz]; congr 1; omega
  obtain ⟨cur1, h1⟩ : ∃ cur1, cur1 = cur.toList.take (k * szMp) ++ flat (l.drop (k + 1)) ++ cur.toList.drop (k * szMp + (flat (l.drop (k + 1))).length) := ⟨_, rfl⟩
  have hD := delete_cells (cur := cur.toList) (l := l) (cap := c) (k := k) (zs := List.replicate 6 undef) (by rw [Array.length_toList]; exact hcs) hnc htake hk (by simp; rfl) h1 rfl
  have hl1 : cur1.length = c * szMp := hD.2.1
  have hgd : w.drew.heap[g]? = some (.cells cur 52 (0, 0)) := hg
  have hg1 : (w.drew.setRow g cur1.toArray).heap[g]? = some (.cells cur1.toArray 52 (0, 0)) := setRow_get _ g cur _ _ _ hgd
  obtain ⟨zs, hzs, hclr⟩ := clear_row (P := Try.prog) (w.drew.setRow g cur1.toArray) 26 52 (.agg #[.int .i64 0, .int .i64 0, .int .u64 0, .int .u64 0, .int .i64 0, .bool false]) Try.underlying26 zeroMp (by decide) g (n * 6) 1 (by omega) cur1.toArray 52 hg1 (by
    have := hD.2.2.1
    rw [hn, Nat.add_sub_cancel, hsz] at this
    have h2 : n * 6 + 1 * 6 ≤ cur1.toArray.size := by simpa using this
    exact h2)
  have hzs2 : zs.length = szMp := by rw [hzs]; rfl
  obtain ⟨cur2, h2⟩ : ∃ cur2, cur2 = cur1.take ((l.length - 1) * szMp) ++ zs ++ cur1.drop ((l.length - 1) * szMp + zs.length) := ⟨_, rfl⟩
  have hD := delete_cells (cur := cur.toList) (l := l) (cap := c) (k := k) (zs := zs) (by rw [Array.length_toList]; exact hcs) hnc htake hk hzs2 h1 h2
  have h2' : cur1.take (n * 6) ++ zs ++ cur1.drop (n * 6 + zs.length) = cur2 := by rw [h2, hn, Nat.add_sub_cancel, hsz]
  simp only [List.toList_toArray, h2'] at hclr
  have happ : ∀ (a : Addr), (¬ (c = k + 1) → a = ⟨g, (k + 1) * 6, none⟩) → ∀ ty c2, (Builtin.append_ #[26, 26] ty #[.slice (some ⟨g, 0, none⟩) k c, .slice (some a) (n - k) c2]).run Try.prog w.drew = .ok (.slice (some ⟨g, 0, none⟩) n c) (w.drew.setRow g cur1.toArray) := fun a ha ty c2 => by
    have := Go.run_append_room (P := Try.prog) w.drew 26 ty 52 i Try.underlying26 hi g k c cur hgd a (n - k) c2 (flat (l.drop (k + 1))) (by rw [hdr, hzz.2.1]) (fun j u hj => by
      have hjl := (List.getElem?_eq_some_iff.1 hj).1
      rw [hdr] at hjl
      have hnk : ¬ (c = k + 1) := by
        intro hc
        have : n - k = 0 := by rw [hn] at hnc; omega
        rw [this] at hjl; omega
      rw [ha hnk, Addr.add_lit]
      rw [← flat_drop l (k + 1) (by omega), ← htake, List.getElem?_drop, List.getElem?_take] at hj
      split at hj
      · rw [cell_of_row _ g _ cur _ _ hgd]
        rw [Array.getElem?_toList] at hj
        rw [hsz] at hj
        exact hj
      · cases hj) (flat_one _) (by omega) (by have := hD.1; rw [Array.length_toList] at this; rw [hzz.2.1]; exact this)
    rw [show k + (n - k) = n by omega, hzz.2.1, ← hsz, ← h1] at this
    exact this
  have hfin : Hid (RowC 52 ((w.drew.setRow g cur1.toArray).setRow g cur2.toArray) base (.slice (some ⟨g, 0, none⟩) n c) (l.eraseIdx k)) := Lib.hid (by
    have hle : (l.eraseIdx k).length = n := by rw [List.length_eraseIdx_of_lt hk, hn]; omega
    have := flat_block (xs := l.eraseIdx k) (cap := c) hb (setRow_get _ g _ cur2.toArray _ _ hg1) (by omega) hcm (by simpa using hD.2.2.2.1) (by have := hD.2.2.2.2; rw [hn, Nat.add_sub_cancel] at this; rw [hle]; simpa using this)
    have e2 : Value.slice (some ⟨g, 0, none⟩) (l.eraseIdx k).length c = .slice (some ⟨g, 0, none⟩) (n) c := by rw [hle]
    rw [e2] at this
    exact this)
  have hbel : Hid (w.grownBy ((w.drew.setRow g cur1.toArray).setRow g cur2.toArray) (some g)) := Lib.hid (gb_setRow (gb_setRow (gb_drew (gb_refl _ _)) g _ (.inl rfl)) g _ (.inl rfl))
  have hself : c = k + 1 → w.drew.setRow g cur1.toArray = w.drew := fun hc => by
    have h0 : flat (l.drop (k + 1)) = [] := List.eq_nil_of_length_eq_zero (by rw [hdr, show n - k = 0 by omega, Nat.zero_mul])
    have h3 : cur1.toArray = cur := by rw [h1, h0]; simp
    rw [h3]; exact setRow_self _ g cur _ _ hgd
  rw [hn] at hnc ⊢
  have hd1 : ¬ ((k : Int) = (k : Int) + 1) := by omega
  have hdb : ((k : Int) == (k : Int) + 1) = false := beq_eq_false_iff_ne.2 hd1
  have mixed : Try.prog.follows Departure.mixedOrders = true := by kernel_rfl
  have hkn : k ≤ n := by omega
  have hx1 : (k : Int) ≤ (k : Int) + 1 := by omega
  have hx2 : (k : Int) ≤ (c : Int) := by omega
  have hx3 : (k : Int) + 1 ≤ (c : Int) := by omega
  have hx4 : (k : Int) ≤ (n : Int) := by omega
  have hx5 : (0 : Int) ≤ (k : Int) + 1 := by omega
  have hkc : ¬ (c = k) := by omega
  have hnc' : ¬ (c = n) := by omega
  have hcm' : c ≤ 9223372036854775807 := by simp only [maxLen] at hcm; omega
  clear HR hb hg hcm hcs htake hD h1 h2 hl1 hzs hzs2 hdr hgd hg1 h2' hzz hi hlen hn hk
  by_cases hc1 : c = k + 1
  · rw [hself hc1] at hclr hfin hbel
    subst hc1
    obtain rfl : n = k := by omega
    have hnn : n - n = 0 := Nat.sub_self n
    clear happ
    go_enter Try.func103, Try.ntmps103
    go_wp2_with fail
    go_region_law_o fail
    go_wp2_with (at_builtin; refine wpl_clear _ rfl _ 26 rfl _ rfl (hclr _ _) ?_)
    go_ret
    exact ⟨_, rfl, hfin.out, hbel.out, ⟨_, _, _, _, rfl, rfl⟩⟩
  · have happ := happ ⟨g, (k + 1) * 6, none⟩ (fun _ => rfl)
    go_enter Try.func103, Try.ntmps103
    go_wp2_with fail
    go_region_law_o (refine step_append rfl _ _ 26 26 rfl _ _ (by simp [Act.eval, Act.put]; done) (by simp [Act.eval, Act.put]; done) (happ _ (c - (k + 1))) ?_)
    go_wp2_with (at_builtin; refine wpl_clear _ rfl _ 26 rfl _ rfl (hclr _ _) ?_)
    go_ret
    exact ⟨_, rfl, hfin.out, hbel.out, ⟨_, _, _, _, rfl, rfl⟩⟩
set_option maxRecDepth 100000 in
set_option maxHeartbeats 4000000 in
theorem insertEndMp_calls (l : List (Cl szMp)) (v : Value) (x : (Cl szMp)) (vb cv base : Nat) (w : World) (HR : RowC 52 w base v l) {cx : Array Value} {tx : TypeId} (hvb : w.heap[vb]? = some (.cells cx tx (0, 0))) (hcx : ∀ (j : Nat) (u : Value), x.1[j]? = some u → cx[j]? = some u) (hbase : base ≤ w.heap.size) (hlen : l.length ≤ 1000000) :
    Calls Try.prog 72 #[v, .int .i64 (l.length : Nat), .slice (some ⟨vb, 0, none⟩) 1 cv] w fun e w' => ∃ v', e = .returned v' ∧ RowC 52 w' base v' (l ++ [x]) ∧ Mv w w' v v' := by
  obtain ⟨i, hi, hzz⟩ := Option.map_eq_some_iff.1 infoSlMp
  simp only [Prod.mk.injEq] at hzz
  have hO := HR
  obtain ⟨n, hn⟩ : ∃ n, n = l.length := ⟨_, rfl⟩
  obtain ⟨v1, w1, hrun, hown, hblk⟩ := append_own2 (P := Try.prog) w base 26 52 i _ 26 Try.underlying26 hi hzz.1 (by rw [hzz.2.1]; rfl) (by rw [hzz.2.1]; decide) v l.length (flat l) (by rw [hzz.2.1]; exact hO) hbase vb cv x.1 (by rw [hzz.2.1]; exact x.2.1) x.2.2 (fun j u hu => by rw [Addr.add_lit, Nat.zero_add, cell_of_row _ vb _ _ _ _ hvb]; exact hcx j u hu) (by rw [hzz.2.2]; omega) (by simp only [maxLen]; omega)
  rw [hzz.2.1] at hown
  have hfin : Hid (RowC 52 w1 base v1 (l ++ [x])) := Lib.hid ((by
    have e : flat (l ++ [x]) = flat l ++ x.1 := by rw [flat_append]; simp [flat]
    show w1.ownsRow base 52 6 v1 (l ++ [x]).length (flat (l ++ [x]))
    rw [e, List.length_append]; exact hown))
  rw [← hn] at hlen ⊢
  obtain ⟨A, c, hv⟩ := own_slice HR
  have hnc : n ≤ c := by
    rcases hO.2 with ⟨e, h0⟩ | ⟨g', c', cur, e, _, _, h, _⟩
    · omega
    · rw [hv] at e
      injection e with _ _ e3
      omega
  rw [← hn] at hv
  have hbk : Hid (∀ c', c' = c → Mv w w1 (.slice A n c') v1) := Lib.hid (fun c' e => by subst e; rw [hv] at hblk; exact hblk)
  subst hv
  clear HR hO hown hblk hvb hcx hbase hzz hi hn
  have hle : (n : Int) ≤ (n : Int) := Int.le_refl _
  have heq : ((n : Int) == (n : Int)) = true := by simp
  rw [← append_types (P := Try.prog) 26 26 52 52 26 Try.underlying26 Try.underlying26] at hrun
  go_enter Try.func72, Try.ntmps72
  go_wp2_with (at_builtin; refine Lib.wpList_append_run _ rfl _ _ _ _ rfl _ _ rfl rfl _ _ hrun ?_)
  all_goals (go_ret; exact ⟨_, rfl, hfin.out, hbk.out _ (by first | rfl | omega)⟩)
set_option maxRecDepth 100000 in
set_option maxHeartbeats 4000000 in
theorem insertRoomMp_calls (l : List (Cl szMp)) (g c k : Nat) (x : (Cl szMp)) (vb cv base : Nat) (w : World) (HR : RowC 52 w base (.slice (some ⟨g, 0, none⟩) l.length c) l) (hk : k < l.length) (hroom : l.length + 1 ≤ c) {cx : Array Value} {tx : TypeId} (hvb : w.heap[vb]? = some (.cells cx tx (0, 0))) (hcx : ∀ (j : Nat) (u : Value), x.1[j]? = some u → cx[j]? = some u) (hne : vb ≠ g) (hlen : l.length ≤ 1000000) :
    Calls Try.prog 72 #[.slice (some ⟨g, 0, none⟩) l.length c, .int .i64 k, .slice (some ⟨vb, 0, none⟩) 1 cv] w fun e w' => ∃ v', e = .returned v' ∧ RowC 52 w' base v' (l.take k ++ x :: l.drop k) ∧ Mv w w' (.slice (some ⟨g, 0, none⟩) l.length c) v' := by
  have HR0 := HR
  obtain ⟨_, hcase⟩ := HR0
  rcases hcase with ⟨h0, _⟩ | ⟨g', c', cur, e, hb, hg, hnc, hcm, hcs, htake⟩
  · cases h0
  injection e with ea _ ec
  injection ea with ea
  injection ea with ea
  subst ea; subst ec
  obtain ⟨n, hn⟩ : ∃ n, n = l.length := ⟨_, rfl⟩
  have hsz : szMp = 6 := rfl
  have hdr : (flat (l.drop k)).length = (n - k) * 6 := by rw [flat_len, List.length_drop, ← hn, hsz]
  obtain ⟨cur1, h1⟩ : ∃ cur1, cur1 = cur.toList.take ((k + 1) * szMp) ++ flat (l.drop k) ++ cur.toList.drop ((k + 1) * szMp + (flat (l.drop k)).length) := ⟨_, rfl⟩
  obtain ⟨cur2, h2⟩ : ∃ cur2, cur2 = cur1.take (k * szMp) ++ x.1 ++ cur1.drop (k * szMp + x.1.length) := ⟨_, rfl⟩
  have hD := insert_cells (cur := cur.toList) (l := l) (cap := c) (k := k) (by rw [Array.length_toList]; exact hcs) hroom htake hk h1 h2
  have hgd : w.drew.heap[g]? = some (.cells cur 52 (0, 0)) := hg
  have hg1 : (w.drew.setRow g cur1.toArray).heap[g]? = some (.cells cur1.toArray 52 (0, 0)) := setRow_get _ g cur _ _ _ hgd
  have hv1 : (w.drew.setRow g cur1.toArray).heap[vb]? = some (.cells cx tx (0, 0)) := (setRow_other _ g vb _ hne).trans hvb
  have hcp1 : ∀ ty dc sc, (Builtin.copy_ #[26, 26] ty #[.slice (some ⟨g, (k + 1) * 6, none⟩) (n - k) dc, .slice (some ⟨g, k * 6, none⟩) (n + 1 - k) sc]).run Try.prog w.drew = .ok (goInt (n - k : Nat)) (w.drew.setRow g cur1.toArray) := fun ty dc sc => by
    have hmin : Nat.min (n + 1 - k) (n - k) = n - k := Nat.min_eq_right (by omega)
    have := copy_row (P := Try.prog) w.drew 26 26 ty 52 6 g ((k + 1) * 6) (n - k) dc ⟨g, k * 6, none⟩ (n + 1 - k) sc cur 52 (flat (l.drop k)) Try.underlying26 sizeMp hgd (by rw [hdr, hmin]) (fun j u hj => by
      rw [Addr.add_lit, cell_of_row _ g _ cur _ _ hgd]
      rw [← flat_drop l k (by omega), ← htake, List.getElem?_drop, List.getElem?_take] at hj
      split at hj
      · rw [Array.getElem?_toList, hsz] at hj
        exact hj
      · cases hj) (by have := hD.1; rw [Array.length_toList] at this; exact this) (flat_one _)
    rw [hmin] at this
    rw [this, h1]; rfl
  have hcp2 : ∀ ty dc, (Builtin.copy_ #[26, 26] ty #[.slice (some ⟨g, k * 6, none⟩) (n + 1 - k) dc, .slice (some ⟨vb, 0, none⟩) 1 cv]).run Try.prog (w.drew.setRow g cur1.toArray) = .ok (goInt (1 : Nat)) ((w.drew.setRow g cur1.toArray).setRow g cur2.toArray) := fun ty dc => by
    have hmin : Nat.min 1 (n + 1 - k) = 1 := Nat.min_eq_left (by omega)
    have := copy_row (P := Try.prog) (w.drew.setRow g cur1.toArray) 26 26 ty 52 6 g (k * 6) (n + 1 - k) dc ⟨vb, 0, none⟩ 1 cv cur1.toArray 52 x.1 Try.underlying26 sizeMp hg1 (by rw [hmin, Nat.one_mul]; exact x.2.1) (fun j u hj => by
      rw [Addr.add_lit, Nat.zero_add, cell_of_row _ vb _ _ _ _ hv1]
      exact hcx j u hj) (by have : k * 6 + x.1.length ≤ cur1.length := hD.2.2.1; simpa using this) (x.2.2)
    rw [hmin] at this
    rw [this, h2]; rfl
  have hov : ∀ lb cb, (callFunc 117 #[.slice (some ⟨vb, 0, none⟩) 1 cv, .slice (some ⟨g, (k + 1) * 6, none⟩) lb cb]).run Try.prog w = .ok (.value (.bool false)) w := fun lb cb => by
    rw [run_callFunc_extern Try.func117 (by kernel_rfl) (by kernel_rfl) (by kernel_rfl) (e := Extern.SlicesOverlaps.overlaps #[26, 26] #[4]) (by kernel_rfl),
      Lib.run_overlaps_apart w 26 4 52 Try.underlying26 6 (fun w => by kernel_rfl) ⟨vb, 0, none⟩ ⟨g, (k + 1) * 6, none⟩ 1 cv lb cb hne tx 52 cx.size cur.size (by simp [World.shape?, hvb]) (by simp [World.shape?, hg]) (by rw [hcs]; exact Nat.mul_ne_zero (by omega) (by decide)) (by simp [World.frozen?, hvb]) (by simp [World.frozen?, hvb])]
    rfl
  have hfin : Hid (RowC 52 ((w.drew.setRow g cur1.toArray).setRow g cur2.toArray) base (.slice (some ⟨g, 0, none⟩) (n + 1) c) (l.take k ++ x :: l.drop k)) := Lib.hid (by
    have hle : (l.take k ++ x :: l.drop k).length = n + 1 := by rw [List.length_append, List.length_cons, List.length_take, List.length_drop]; omega
    have := flat_block (xs := l.take k ++ x :: l.drop k) (cap := c) hb (setRow_get _ g _ cur2.toArray _ _ hg1) (by omega) hcm (by simpa using hD.2.2.2.1) (by have := hD.2.2.2.2; rw [← hn] at this; rw [hle]; simpa using this)
    have e2 : Value.slice (some ⟨g, 0, none⟩) (l.take k ++ x :: l.drop k).length c = .slice (some ⟨g, 0, none⟩) (n + 1) c := by rw [hle]
    rw [e2] at this
    exact this)
  have hbel : Hid (w.grownBy ((w.drew.setRow g cur1.toArray).setRow g cur2.toArray) (some g)) := Lib.hid (gb_setRow (gb_setRow (gb_drew (gb_refl _ _)) g _ (.inl rfl)) g _ (.inl rfl))
  have mixed : Try.prog.follows Departure.mixedOrders = true := by kernel_rfl
  rw [← hn] at hk hroom hlen ⊢
  have hz2 : ¬ ((k : Int) = (n : Int)) := by omega
  have hzb : ((k : Int) == (n : Int)) = false := beq_eq_false_iff_ne.2 hz2
  have hx1 : (k : Int) ≤ (n : Int) := by omega
  have hx2 : (k : Int) ≤ (n : Int) + 1 := by omega
  have hx3 : (k : Int) + 1 ≤ (n : Int) + 1 := by omega
  have hx4 : (0 : Int) ≤ (k : Int) + 1 := by omega
  have hx5 : (0 : Int) ≤ (n : Int) + 1 := by omega
  have hx6 : (n : Int) + 1 ≤ (c : Int) := by omega
  have hx7 : ¬ (c < n + 1) := by omega
  have hw1 : IntKind.i64.wrap ((k : Int) + 1) = (k : Int) + 1 := by rw [IntKind.wrap_i64]; omega
  have htn : ((k : Int) + 1).toNat = k + 1 := by omega
  have hw2 : IntKind.i64.wrap ((n : Int) + 1) = (n : Int) + 1 := by rw [IntKind.wrap_i64]; omega
  have hx8 : ¬ ((c : Int) < (n : Int) + 1) := by omega
  have hc1 : ¬ (c = k) := by omega
  have hc2 : ¬ (c = k + 1) := by omega
  have hcm' : c ≤ 9223372036854775807 := by simp only [maxLen] at hcm; omega
  clear HR hb hg hcm hcs htake hD h1 h2 hdr hgd hg1 hv1 hn hvb hcx hnc
  go_enter Try.func72, Try.ntmps72
  go_wp2_with (simp only [hov])
  go_region_law_o (refine step_copy rfl _ _ 26 26 rfl _ _ (by simp [Act.eval, Act.put]; done) (by simp [Act.eval, Act.put]; done) (hcp1 _ (c - (k + 1)) (c - k)) ?_)
  go_wp2_with (at_builtin; refine wpl_copy _ rfl _ _ 26 26 rfl _ _ rfl rfl (hcp2 _ _) ?_)
  go_ret
  exact ⟨_, rfl, hfin.out, .inl ⟨⟨_, _, _, _, rfl, rfl⟩, hbel.out⟩⟩
set_option maxRecDepth 100000 in
set_option maxHeartbeats 4000000 in
theorem insertGrowMp_calls (l : List (Cl szMp)) (g c k : Nat) (x : (Cl szMp)) (vb cv base : Nat) (w : World) (HR : RowC 52 w base (.slice (some ⟨g, 0, none⟩) l.length c) l) (hk : k < l.length) (hroom : ¬ (l.length + 1 ≤ c)) {cx : Array Value} {tx : TypeId} (hvb : w.heap[vb]? = some (.cells cx tx (0, 0))) (hcx : ∀ (j : Nat) (u : Value), x.1[j]? = some u → cx[j]? = some u) (hbase : base ≤ w.heap.size) (hlen : l.length ≤ 1000000) :
    Calls Try.prog 72 #[.slice (some ⟨g, 0, none⟩) l.length c, .int .i64 k, .slice (some ⟨vb, 0, none⟩) 1 cv] w fun e w' => ∃ v', e = .returned v' ∧ RowC 52 w' base v' (l.take k ++ x :: l.drop k) ∧ Mv w w' (.slice (some ⟨g, 0, none⟩) l.length c) v' := by
  have HR0 := HR
  obtain ⟨_, hcase⟩ := HR0
  rcases hcase with ⟨h0, _⟩ | ⟨g', c', cur, e, hb, hg, hnc, hcm, hcs, htake⟩
  · cases h0
  injection e with ea _ ec
  injection ea with ea
  injection ea with ea
  subst ea; subst ec
  obtain ⟨i, hi, hzz⟩ := Option.map_eq_some_iff.1 infoSlMp
  simp only [Prod.mk.injEq] at hzz
  obtain ⟨n, hn⟩ : ∃ n, n = l.length := ⟨_, rfl⟩
  obtain rfl : c = n := by omega
  have hsz : szMp = 6 := rfl
  have hdr : (flat (l.drop k)).length = (c - k) * 6 := by rw [flat_len, List.length_drop, ← hn, hsz]
  have htk : (flat (l.take k)).length = k * 6 := by rw [flat_len, List.length_take, Nat.min_eq_left (by omega)]; rfl
  have hgl : g < w.heap.size := blk_lt hg
  have hvl : vb < w.heap.size := blk_lt hvb
  obtain ⟨G, hG⟩ : ∃ G, G = grownCap w (c + 1) c 52 := ⟨_, rfl⟩
  have hGn : c + 1 ≤ G := by rw [hG]; exact grownCap_ge w _ _ _
  have hGm : G ≤ maxLen := by rw [hG]; exact grownCap_le_maxLen w (c + 1) c 52 (by unfold maxLen; omega)
  obtain ⟨ROW, hROW⟩ : ∃ ROW : Array Value, ROW = (flat (l.take k)).toArray ++ Builtin.zeroCells (.agg #[.int .i64 0, .int .i64 0, .int .u64 0, .int .u64 0, .int .i64 0, .bool false] : Value).cells (c + 1 - k) ++ Builtin.zeroCells (.agg #[.int .i64 0, .int .i64 0, .int .u64 0, .int .u64 0, .int .i64 0, .bool false] : Value).cells (G - (c + 1)) := ⟨_, rfl⟩
  have hzsz : (.agg #[.int .i64 0, .int .i64 0, .int .u64 0, .int .u64 0, .int .i64 0, .bool false] : Value).cells.size = 6 := rfl
  have hRs : ROW.toList.length = G * szMp := by
    rw [hROW, Array.length_toList]
    simp only [Array.size_append, List.size_toArray, size_zeroCells, htk, hzsz, ← Nat.add_mul, hsz]
    congr 1; omega
  have hRt : ROW.toList.take (k * szMp) = flat (l.take k) := by
    show ROW.toList.take (k * 6) = flat (l.take k)
    rw [hROW]
    simp only [Array.toList_append, List.append_assoc]
    exact List.take_left' htk
  have hrz : ∀ ty, (Builtin.append_ #[26, 3] ty #[.slice (some ⟨g, 0, none⟩) k c, .int .i64 ((c : Int) + 1 - (k : Int))]).run Try.prog w =
      .ok (.slice (some ⟨w.heap.size, 0, none⟩) (c + 1) G) (w.drew.alloc (.cells ROW 52)) := fun ty => by
    have hold : (Builtin.firstCells i.size k (.slice (some ⟨g, 0, none⟩) k c)).run Try.prog w.drew = .ok (flat (l.take k)).toArray w.drew := by
      rw [hzz.2.1]
      exact run_firstCells_some w.drew 6 k ⟨g, 0, none⟩ k c (flat (l.take k)) htk (fun j u hj => by
        rw [Addr.add_lit, Nat.zero_add, cell_of_row _ g _ cur _ _ (show w.drew.heap[g]? = some (.cells cur 52 (0, 0)) from hg)]
        rw [← flat_take l k (by omega), ← htake, List.take_take, List.getElem?_take] at hj
        split at hj
        · rw [Array.getElem?_toList] at hj
          exact hj
        · cases hj)
    have hkk : (c : Int) + 1 - (k : Int) = ((c + 1 - k : Nat) : Int) := by omega
    have hik : k + (c + 1 - k) = c + 1 := by omega
    have h := Lib.run_append_grow_zeros w 26 3 ty 52 i _ .i64 .i64 Try.underlying26 Try.underlying3 hi hzz.1 (some ⟨g, 0, none⟩) k c (flat (l.take k)) hold (c + 1 - k) (by omega) (by rw [hzz.2.1]; decide) (by omega) (by omega) (by rw [hzz.2.2]; omega) (by rw [hzz.2.2, hik]; exact growslice_fits (by omega) (by omega))
    rw [hik, ← hG, ← hROW] at h
    rw [hkk]
    exact h
  obtain ⟨cur1, h1⟩ : ∃ cur1, cur1 = ROW.toList.take (k * szMp) ++ x.1 ++ ROW.toList.drop (k * szMp + x.1.length) := ⟨_, rfl⟩
  obtain ⟨cur2, h2⟩ : ∃ cur2, cur2 = cur1.take ((k + 1) * szMp) ++ flat (l.drop k) ++ cur1.drop ((k + 1) * szMp + (flat (l.drop k)).length) := ⟨_, rfl⟩
  have hD := grown_cells (row := ROW.toList) (l := l) (cap := G) (k := k) hRs (by omega) hk hRt h1 h2
  obtain ⟨W1, hW1⟩ : ∃ W1, W1 = w.drew.alloc (.cells ROW 52) := ⟨_, rfl⟩
  have hgW : W1.heap[w.heap.size]? = some (.cells ROW 52 (0, 0)) := by rw [hW1]; exact heap_alloc_new w.drew _
  have hgg : W1.heap[g]? = some (.cells cur 52 (0, 0)) := by rw [hW1]; exact blk_alloc (show w.drew.heap[g]? = some (.cells cur 52 (0, 0)) from hg) _
  have hgv : W1.heap[vb]? = some (.cells cx tx (0, 0)) := by rw [hW1]; exact blk_alloc (show w.drew.heap[vb]? = some (.cells cx tx (0, 0)) from hvb) _
  have hg1 : ∀ W : World, W.heap = W1.heap → (W.setRow w.heap.size cur1.toArray).heap[w.heap.size]? = some (.cells cur1.toArray 52 (0, 0)) := fun W hW => setRow_get _ _ ROW _ _ _ (by rw [hW]; exact hgW)
  have hcpA : ∀ W : World, W.heap = W1.heap → ∀ ty dc, (Builtin.copy_ #[26, 26] ty #[.slice (some ⟨w.heap.size, k * 6, none⟩) (c + 1 - k) dc, .slice (some ⟨vb, 0, none⟩) 1 cv]).run Try.prog W = .ok (goInt (1 : Nat)) (W.setRow w.heap.size cur1.toArray) := fun W hW ty dc => by
    have hmin : Nat.min 1 (c + 1 - k) = 1 := Nat.min_eq_left (by omega)
    have := copy_row (P := Try.prog) W 26 26 ty 52 6 w.heap.size (k * 6) (c + 1 - k) dc ⟨vb, 0, none⟩ 1 cv ROW 52 x.1 Try.underlying26 sizeMp (by rw [hW]; exact hgW) (by rw [hmin, Nat.one_mul]; exact x.2.1) (fun j u hj => by
      rw [Addr.add_lit, Nat.zero_add, cell_of_row _ vb _ _ _ _ (by rw [hW]; exact hgv)]
      exact hcx j u hj) (by have : k * 6 + x.1.length ≤ ROW.toList.length := hD.1; rw [Array.length_toList] at this; exact this) (x.2.2)
    rw [hmin] at this
    rw [this, h1]; rfl
  have hcpB : ∀ W : World, W.heap = (W1.setRow w.heap.size cur1.toArray).heap → ∀ ty dc sc, (Builtin.copy_ #[26, 26] ty #[.slice (some ⟨w.heap.size, (k + 1) * 6, none⟩) (c - k) dc, .slice (some ⟨g, k * 6, none⟩) (c - k) sc]).run Try.prog W = .ok (goInt (c - k : Nat)) (W.setRow w.heap.size cur2.toArray) := fun W hW ty dc sc => by
    have hmin : Nat.min (c - k) (c - k) = c - k := Nat.min_self _
    have hgB : W.heap[g]? = some (.cells cur 52 (0, 0)) := by rw [hW]; exact (setRow_other _ _ g _ (by omega)).trans hgg
    have := copy_row (P := Try.prog) W 26 26 ty 52 6 w.heap.size ((k + 1) * 6) (c - k) dc ⟨g, k * 6, none⟩ (c - k) sc cur1.toArray 52 (flat (l.drop k)) Try.underlying26 sizeMp (by rw [hW]; exact hg1 W1 rfl) (by rw [hdr, hmin]) (fun j u hj => by
      rw [Addr.add_lit, cell_of_row _ g _ cur _ _ hgB]
      rw [← flat_drop l k (by omega), ← htake, List.getElem?_drop, List.getElem?_take] at hj
      split at hj
      · rw [Array.getElem?_toList, hsz] at hj
        exact hj
      · cases hj) (by have : (k + 1) * 6 + (flat (l.drop k)).length ≤ cur1.length := hD.2.2.1; simpa using this) (flat_one _)
    rw [hmin] at this
    rw [this, h2]; rfl
  have hfin : Hid (∀ W : World, W.heap = ((W1.setRow w.heap.size cur1.toArray).setRow w.heap.size cur2.toArray).heap → RowC 52 W base (.slice (some ⟨w.heap.size, 0, none⟩) (c + 1) G) (l.take k ++ x :: l.drop k)) := Lib.hid (fun W hW => by
    have hle : (l.take k ++ x :: l.drop k).length = c + 1 := by rw [List.length_append, List.length_cons, List.length_take, List.length_drop]; omega
    have hgF : W.heap[w.heap.size]? = some (.cells cur2.toArray 52 (0, 0)) := by rw [hW]; exact setRow_get _ _ cur1.toArray _ _ _ (hg1 W1 rfl)
    have := flat_block (xs := l.take k ++ x :: l.drop k) (cap := G) hbase hgF (by omega) hGm (by simpa using hD.2.2.2.1) (by have := hD.2.2.2.2; rw [← hn] at this; rw [hle]; simpa using this)
    have e2 : Value.slice (some ⟨w.heap.size, 0, none⟩) (l.take k ++ x :: l.drop k).length G = .slice (some ⟨w.heap.size, 0, none⟩) (c + 1) G := by rw [hle]
    rw [e2] at this
    exact this)
  have hbel : Hid (Below w.heap.size w ((W1.setRow w.heap.size cur1.toArray).setRow w.heap.size cur2.toArray)) := Lib.hid (by
    rw [hW1]
    have hbA : Below w.heap.size w (w.drew.alloc (.cells ROW 52)) := (Below.refl _ _).drew.alloc (by simp) _
    exact below_setRow (below_setRow hbA _ _ (Nat.le_refl _)) _ _ (Nat.le_refl _))
  have mixed : Try.prog.follows Departure.mixedOrders = true := by kernel_rfl
  rw [← hn] at hk hlen ⊢
  have hz2 : ¬ ((k : Int) = (c : Int)) := by omega
  have hzb : ((k : Int) == (c : Int)) = false := beq_eq_false_iff_ne.2 hz2
  have hx1 : (k : Int) ≤ (c : Int) := by omega
  have hx2 : (k : Int) ≤ (c : Int) + 1 := by omega
  have hx3 : (k : Int) + 1 ≤ (c : Int) + 1 := by omega
  have hx4 : (0 : Int) ≤ (k : Int) + 1 := by omega
  have hx5 : (0 : Int) ≤ (c : Int) + 1 := by omega
  have hx8 : (c : Int) < (c : Int) + 1 := by omega
  have hw1 : IntKind.i64.wrap ((k : Int) + 1) = (k : Int) + 1 := by rw [IntKind.wrap_i64]; omega
  have htn : ((k : Int) + 1).toNat = k + 1 := by omega
  have hw2 : IntKind.i64.wrap ((c : Int) + 1) = (c : Int) + 1 := by rw [IntKind.wrap_i64]; omega
  have hw3 : IntKind.i64.wrap ((c : Int) + 1 - (k : Int)) = (c : Int) + 1 - (k : Int) := by rw [IntKind.wrap_i64]; omega
  have hc1 : ¬ (c = k) := by omega
  have hG1 : ¬ (G = k) := by omega
  have hG2 : ¬ (G = k + 1) := by omega
  have hG63 : G ≤ 9223372036854775807 := by simp only [maxLen] at hGm; omega
  subst hW1
  clear HR hb hg hcm hcs htake hD h1 h2 hdr hn hvb hcx hnc hRs hRt hgW hgg hgv hg1 htk hGm hG hROW hzz hi hgl hvl
  have hA : ∀ ty, (Builtin.copy_ #[26, 26] ty #[.slice (some ⟨w.heap.size, k * 6, none⟩) (c + 1 - k) (G - k), .slice (some ⟨vb, 0, none⟩) 1 cv]).run Try.prog ((w.alloc (.cells ROW 52)).drew) = .ok (goInt (1 : Nat)) (((w.alloc (.cells ROW 52)).drew).setRow w.heap.size cur1.toArray) := fun ty => hcpA ((w.alloc (.cells ROW 52)).drew) rfl ty (G - k)
  have hB : ∀ ty, (Builtin.copy_ #[26, 26] ty #[.slice (some ⟨w.heap.size, (k + 1) * 6, none⟩) (c - k) (G - (k + 1)), .slice (some ⟨g, k * 6, none⟩) (c - k) (c - k)]).run Try.prog (((w.alloc (.cells ROW 52)).drew.setRow w.heap.size cur1.toArray).drew) = .ok (goInt (c - k : Nat)) ((((w.alloc (.cells ROW 52)).drew.setRow w.heap.size cur1.toArray).drew).setRow w.heap.size cur2.toArray) := fun ty => hcpB (((w.alloc (.cells ROW 52)).drew.setRow w.heap.size cur1.toArray).drew) rfl ty (G - (k + 1)) (c - k)
  clear hcpA hcpB
  go_enter Try.func72, Try.ntmps72
  go_wp2_with (first
    | (at_builtin; refine Lib.wpList_append_run _ rfl _ _ _ _ rfl _ _ rfl rfl _ _ (hrz _) ?_)
    | (at_builtin; refine wpl_copy _ rfl _ _ 26 26 rfl _ _ rfl rfl (hA _) ?_))
  go_region_law_o (refine step_copy rfl _ _ 26 26 rfl _ _ (by simp [Act.eval, Act.put]; done) (by simp [Act.eval, Act.put]; done) (hB _) ?_)
  go_wp2
  go_ret
  exact ⟨_, rfl, hfin.out _ (by rfl), .inr ⟨rfl, hbel.out.os, hbel.out.tape, hbel.out.output, hbel.out.size, hbel.out.block⟩⟩
theorem insertMp_calls (l : List (Cl szMp)) (v : Value) (k : Nat) (x : (Cl szMp)) (vb cv base : Nat) (w : World) (HR : RowC 52 w base v l) (hk : k ≤ l.length) {cx : Array Value} {tx : TypeId} (hvb : w.heap[vb]? = some (.cells cx tx (0, 0))) (hcx : ∀ (j : Nat) (u : Value), x.1[j]? = some u → cx[j]? = some u) (hne : v.ownBlock ≠ some vb) (hbase : base ≤ w.heap.size) (hlen : l.length ≤ 1000000) :
    Calls Try.prog 72 #[v, .int .i64 k, .slice (some ⟨vb, 0, none⟩) 1 cv] w fun e w' => ∃ v', e = .returned v' ∧ RowC 52 w' base v' (l.take k ++ x :: l.drop k) ∧ Mv w w' v v' := by
  by_cases he : k = l.length
  · subst he
    rw [List.take_length, List.drop_length]
    exact insertEndMp_calls l v x vb cv base w HR hvb hcx hbase hlen
  · have hk' : k < l.length := by omega
    have HR0 := HR
    obtain ⟨_, hcase⟩ := HR0
    rcases hcase with ⟨_, h0⟩ | ⟨g, c, cur, rfl, _⟩
    · omega
    have hg : vb ≠ g := fun e => hne (by simp [Value.ownBlock, e])
    by_cases hroom : l.length + 1 ≤ c
    · exact insertRoomMp_calls l g c k x vb cv base w HR hk' hroom hvb hcx hg hlen
    · exact insertGrowMp_calls l g c k x vb cv base w HR hk' hroom hvb hcx hbase hlen
end Go.Proofs.Ytggkjfllbfcagaa
