/- Package source: slices.Insert at Entry. -/
import Derived.Test.YtolpiaehleefbaaSrc6
import Derived.Test.YtolpiaehleefbaaA2
namespace Go.Proofs.Ytolpiaehleefbaa
open Go.RowKit Go.Sort
set_option linter.unusedSimpArgs false
set_option linter.unusedVariables false

set_option maxRecDepth 100000 in
set_option maxHeartbeats 4000000 in
theorem en_Insert_end (A : Option Addr) (c vb base : Nat) (l : List En) (x : En) (w : World) (hl : l.length ≤ 1000) (hbase : base ≤ w.heap.size) (own : w.ownsRow base 146 3 (.slice A l.length c) l.length (enR l)) (kv : Bk w vb 146 (enC x)) :
    Calls Try.prog 77 #[.slice A l.length c, .int .i64 l.length, .slice (some ⟨vb, 0, none⟩) 1 1] w fun e w' => ∃ B d, e = .returned (.slice B (l.length + 1) d) ∧ w'.ownsRow base 146 3 (.slice B (l.length + 1) d) (l.length + 1) (enR (l ++ [x])) ∧ Below base w w' := by
  obtain ⟨i0, hi, hz0, hz1, hz2⟩ := info_parts en_info
  obtain ⟨v', w', hr, own', hgr, _⟩ := run_append_own (P := Try.prog) w base 48 48 146 i0 _ 3 24 Try.underlying48 hi hz0 hz1 hz2 rfl (by omega) (.slice A l.length c) l.length (enR l) own ⟨vb, 0, none⟩ 1 1 (enC x) rfl (fun j u hu => by rw [Addr.add_lit, Nat.zero_add, kv.cell]; exact hu) (by intro u hu; simp [enC] at hu; rcases hu with rfl | rfl | rfl <;> simp [Value.oneCell']) (by unfold maxLen; omega) (by omega) hbase
  rw [← run_append_ty w 48 47 48 146 146 Try.underlying48 Try.underlying47] at hr
  obtain ⟨B, d, rfl⟩ := own_form own'
  have hb' : Below base w w' := (Below.refl base w).grown hgr hbase (fun k hk => (own.lt k hk).1)
  rw [show enR l ++ enC x = enR (l ++ [x]) from by simp [enR]] at own'
  have hcap := own_cap14 own
  clear hi hz0 hz1 hz2 i0 hgr kv
  rcases A with _ | ad
  · have hl0 : l.length = 0 ∧ c = 0 := by
      rcases own.2 with ⟨h0, h1⟩ | ⟨g, cap, cur, h0, _⟩
      · injection h0 with _ _ h2; exact ⟨h1, h2⟩
      · cases h0
    obtain ⟨h0, rfl⟩ := hl0
    have HN := hide h0
    rw [h0] at hr ⊢
    clear own h0
    go_enter Try.func77, Try.ntmps77
    go_wp2_with (at_builtin; refine Lib.wpList_append_run _ rfl _ _ _ _ rfl _ _ rfl rfl _ _ hr ?_)
    go_ret
    have o2 := own'
    rw [HN.out] at o2
    exact ⟨B, d, rfl, o2, hb'⟩
  · by_cases hcn : c = l.length
    all_goals
      clear own
      go_enter Try.func77, Try.ntmps77
      go_wp2_with (at_builtin; refine Lib.wpList_append_run _ rfl _ _ _ _ rfl _ _ rfl rfl _ _ hr ?_)
      go_ret
      exact ⟨B, d, rfl, own', hb'⟩
theorem en_ne_app (a b : List En) (x : En) : enR a ++ enC x ++ enR b = enR (a ++ x :: b) := by simp [enR]
set_option maxRecDepth 100000 in
set_option maxHeartbeats 4000000 in
theorem en_Insert_room (g c vb base i : Nat) (l : List En) (x : En) (w : World) (hl : l.length ≤ 1000) (hi : i < l.length) (hroom : l.length + 1 ≤ c) (own : w.ownsRow base 146 3 (.slice (some ⟨g, 0, none⟩) l.length c) l.length (enR l)) (kv : Bk w vb 146 (enC x)) (hne : vb ≠ g) (hbase : base ≤ w.heap.size) :
    Calls Try.prog 77 #[.slice (some ⟨g, 0, none⟩) l.length c, .int .i64 i, .slice (some ⟨vb, 0, none⟩) 1 1] w fun e w' => ∃ B d, e = .returned (.slice B (l.length + 1) d) ∧ w'.ownsRow base 146 3 (.slice B (l.length + 1) d) (l.length + 1) (enR (l.take i ++ x :: l.drop i)) ∧ Below base w w' := by
  obtain ⟨i0, hi0, hz0, hz1, hz2⟩ := info_parts en_info
  obtain ⟨cur, hgb, hg, _, hcm, hcs, htk, _⟩ := own_row own
  have hsz : (Try.prog.info? 146).map (·.size) = some 3 := by rw [hi0]; simp [hz1]
  have hlen := enR_length l
  -- the row in parts
  have hL : cur.toList = enR (l.take i) ++ enR (l.drop i) ++ cur.toList.drop (l.length * 3) := by
    rw [← enR_append, List.take_append_drop, ← htk, List.take_append_drop]
  have hA : (enR (l.take i)).length = i * 3 := by rw [enR_length, List.length_take]; omega
  have hB : (enR (l.drop i)).length = (l.length - i) * 3 := by rw [enR_length, List.length_drop]; omega
  have hC : 3 ≤ (cur.toList.drop (l.length * 3)).length := by rw [List.length_drop, Array.length_toList, hcs]; omega
  have h1c : ∀ u ∈ enC x, u.oneCell' = true := by intro u hu; simp [enC] at hu; rcases hu with rfl | rfl | rfl <;> simp [Value.oneCell']
  have hsh := shift_in cur.toList (enR (l.take i)) (enR (l.drop i)) (cur.toList.drop (l.length * 3)) (enC x) 3 hL rfl hC
  obtain ⟨cur1, hcur1⟩ : ∃ a : List Value, a = cur.toList.take ((enR (l.take i)).length + 3) ++ enR (l.drop i) ++ cur.toList.drop ((enR (l.take i)).length + 3 + (enR (l.drop i)).length) := ⟨_, rfl⟩
  rw [← hcur1] at hsh
  have hcl1 : cur1.length = c * 3 := by
    rw [hcur1, hA]
    simp only [List.length_append, List.length_take, List.length_drop, Array.length_toList, hcs, hB]
    omega
  -- the two copies
  have hcp1 : ∀ W, W.heap = w.heap → ∀ ty dT sT dc sc, Try.prog.underlying dT = some (.slice 146) → (Builtin.copy_ #[dT, sT] ty #[.slice (some ⟨g, (i + 1) * 3, none⟩) (l.length - i) dc, .slice (some ⟨g, i * 3, none⟩) (l.length + 1 - i) sc]).run Try.prog W = .ok (goInt ((l.length - i : Nat) : Int)) (W.setRow g cur1.toArray) := fun W hW ty dT sT dc sc hdT => by
    have h := run_copy_sz (P := Try.prog) W dT sT ty 146 3 g ((i + 1) * 3) (l.length - i) dc ⟨g, i * 3, none⟩ (l.length + 1 - i) sc (l.length - i) cur 146 (enR (l.drop i)) hdT hsz (by rw [hW]; exact hg) (by simp only [Nat.min_def]; split <;> omega) hB
      (row_cells (by rw [hW]; exact hg) (by
        rw [← hA, hL, List.append_assoc, List.drop_left' rfl, List.take_left' rfl])) (by rw [hB, hcs]; omega) (enR_one _)
    rw [h, hcur1, hA, show i * 3 + 3 = (i + 1) * 3 by omega]
  have hcp2 : ∀ W, W.heap = (w.setRow g cur1.toArray).heap → ∀ ty dT sT dc, Try.prog.underlying dT = some (.slice 146) → (Builtin.copy_ #[dT, sT] ty #[.slice (some ⟨g, i * 3, none⟩) (l.length + 1 - i) dc, .slice (some ⟨vb, 0, none⟩) 1 1]).run Try.prog W = .ok (goInt ((1 : Nat) : Int)) (W.setRow g (enR (l.take i) ++ enC x ++ enR (l.drop i) ++ (cur.toList.drop (l.length * 3)).drop 3).toArray) := fun W hW ty dT sT dc hdT => by
    have hg1 : W.heap[g]? = some (.cells cur1.toArray 146 (0, 0)) := by rw [hW]; exact setRow_heap w g cur _ _ _ hg
    have hv1 : Bk W vb 146 (enC x) := by
      unfold Bk at kv ⊢
      rw [hW]
      exact (setRow_other w g vb _ hne).trans kv
    have h := run_copy_sz (P := Try.prog) W dT sT ty 146 3 g (i * 3) (l.length + 1 - i) dc ⟨vb, 0, none⟩ 1 1 1 cur1.toArray 146 (enC x) hdT hsz hg1 (by simp only [Nat.min_def]; split <;> omega) rfl
      (fun j u hu => by rw [Addr.add_lit, Nat.zero_add, hv1.cell]; exact hu) (by simp only [List.size_toArray, hcl1]; show i * 3 + 3 ≤ c * 3; omega) h1c
    rw [h, ← hsh, hA]
  have hov : ∀ W lb cb, W.heap = w.heap → (callFunc 103 #[.slice (some ⟨vb, 0, none⟩) 1 1, .slice (some ⟨g, (i + 1) * 3, none⟩) lb cb]).run Try.prog W = .ok (.value (.bool false)) W := fun W lb cb hW => by
    rw [run_callFunc_extern Try.func103 (by kernel_rfl) (by kernel_rfl) (by kernel_rfl) (e := Extern.SlicesOverlaps.overlaps #[47, 47] #[4]) (by kernel_rfl),
      Lib.run_overlaps_apart W 47 4 146 Try.underlying47 3 (fun _ => rfl) ⟨vb, 0, none⟩ ⟨g, (i + 1) * 3, none⟩ 1 1 lb cb hne 146 146 3 cur.size (by unfold World.shape?; rw [hW]; unfold Bk at kv; rw [kv]; rfl) (by unfold World.shape?; rw [hW, hg]) (by rw [hcs]; omega) (by unfold World.frozen?; rw [hW]; unfold Bk at kv; rw [kv]; rfl) (by unfold World.frozen?; rw [hW]; unfold Bk at kv; rw [kv]; rfl)]
    rfl
  have hov1 := fun lb cb => hov w lb cb rfl
  have hw1 := IntWalk.i64_in ((i : Int) + 1) (by omega)
  have hw2 := IntWalk.i64_in ((l.length : Int) + 1) (by omega)
  have hin : (i : Int) ≤ (l.length : Int) := by omega
  have hine : ¬ (i : Int) = (l.length : Int) := by omega
  have hrm : ¬ (c : Int) < (l.length : Int) + 1 := by omega
  have hrm2 : l.length + 1 ≤ c := hroom
  have hc1 : ¬ c = i := by omega
  have hc2 : ¬ c = i + 1 := by omega
  have hi1 : (i : Int) + 1 ≤ (l.length : Int) + 1 := by omega
  have hi2 : (i : Int) ≤ (l.length : Int) + 1 := by omega
  have hcmx : c ≤ 9223372036854775807 := hcm
  have mixed : Try.prog.follows Departure.mixedOrders = true := by kernel_rfl
  have hb0 : (0 : Int) ≤ (i : Int) + 1 := by omega
  have htn : ((i : Int) + 1).toNat = i + 1 := by omega
  clear own hL hA hB hC h1c hsh hcur1 hcl1 htk hlen
  go_enter Try.func77, Try.ntmps77
  go_wp2_with (simp only [hov1])
  have hr1 := hcp1 w.drew rfl 3 48 48 (c - (i + 1)) (c - i) Try.underlying48
  go_region_law_o (refine step_copy_runI rfl _ _ 48 48 rfl (.slice (some ⟨g, (i + 1) * 3, none⟩) (l.length - i) (c - (i + 1))) (.slice (some ⟨g, i * 3, none⟩) (l.length + 1 - i) (c - i)) (by simp [Act.eval, Act.put]) (by simp [Act.eval, Act.put]) hr1 ?_)
  have hr2 := hcp2 (w.drew.setRow g cur1.toArray) rfl 3 48 47 (c - i) Try.underlying48
  go_wp2_with (at_builtin; refine wpList_copy_runI _ rfl _ _ 48 47 rfl _ _ rfl rfl hr2 ?_)
  go_ret
  refine ⟨some ⟨g, 0, none⟩, c, rfl, own_of_row (rest := cur.toList.drop (l.length * 3 + 3)) (setRow_heap _ g cur1.toArray _ _ _ (setRow_heap w.drew g cur _ _ _ hg)) hgb ?_ ?_ hroom hcm ?_, setRow_below (setRow_below (Below.drew (Below.refl base w)) hgb _) hgb _⟩
  · rw [← en_ne_app]; simp only [List.append_assoc, List.cons_append, List.nil_append]
  · rw [enR_length]; simp only [List.length_append, List.length_cons, List.length_take, List.length_drop]; omega
  · simp only [List.length_append, List.length_cons, enR_length, List.length_take, List.length_drop, Array.length_toList, hcs]; omega
set_option maxRecDepth 100000 in
set_option maxHeartbeats 4000000 in
theorem en_Insert_grow (g c vb base i : Nat) (l : List En) (x : En) (w : World) (hl : l.length ≤ 1000) (hi : i < l.length) (hroom : ¬ l.length + 1 ≤ c) (own : w.ownsRow base 146 3 (.slice (some ⟨g, 0, none⟩) l.length c) l.length (enR l)) (kv : Bk w vb 146 (enC x)) (hbase : base ≤ w.heap.size) :
    Calls Try.prog 77 #[.slice (some ⟨g, 0, none⟩) l.length c, .int .i64 i, .slice (some ⟨vb, 0, none⟩) 1 1] w fun e w' => ∃ B d, e = .returned (.slice B (l.length + 1) d) ∧ w'.ownsRow base 146 3 (.slice B (l.length + 1) d) (l.length + 1) (enR (l.take i ++ x :: l.drop i)) ∧ Below base w w' := by
  obtain ⟨i0, hi0, hz0, hz1, hz2⟩ := info_parts en_info
  obtain ⟨cur, hgb, hg, hnc, hcm, hcs, htk, _⟩ := own_row own
  have hcn : c = l.length := by omega
  have hgl : g < w.heap.size := (Array.getElem?_eq_some_iff.1 hg).1
  have hvl := kv.lt
  have hsz : (Try.prog.info? 146).map (·.size) = some 3 := by rw [hi0]; simp [hz1]
  have hlen := enR_length l
  have hA : (enR (l.take i)).length = i * 3 := by rw [enR_length, List.length_take]; omega
  have hB : (enR (l.drop i)).length = (l.length - i) * 3 := by rw [enR_length, List.length_drop]; omega
  have h1c : ∀ u ∈ enC x, u.oneCell' = true := by intro u hu; simp [enC] at hu; rcases hu with rfl | rfl | rfl <;> simp [Value.oneCell']
  have hold : (Builtin.firstCells i0.size i (.slice (some ⟨g, 0, none⟩) i c)).run Try.prog w.drew = .ok (enR (l.take i)).toArray w.drew := by
    rw [hz1]
    exact run_firstCells_some w.drew 3 i ⟨g, 0, none⟩ i c (enR (l.take i)) hA (row_cells (t := 146) (cur := cur) hg (by
      rw [List.drop_zero, hA, ← enR_take, ← htk, List.take_take, Nat.min_eq_left (by omega)]))
  obtain ⟨G, hG⟩ : ∃ G, G = grownCap w (l.length + 1) c 146 := ⟨_, rfl⟩
  have hGn : l.length + 1 ≤ G := by rw [hG]; exact grownCap_ge w _ _ _
  have hG63 : G ≤ maxLen := by rw [hG]; exact grownCap_le_maxLen w (l.length + 1) c 146 (by unfold maxLen; omega)
  obtain ⟨Z, hZ⟩ : ∃ Z : List Value, Z = (Builtin.zeroCells (enV ⟨0, 0, 0⟩).cells (l.length + 1 - i)).toList ++ (Builtin.zeroCells (enV ⟨0, 0, 0⟩).cells (G - (l.length + 1))).toList := ⟨_, rfl⟩
  have hZl : Z.length = (G - i) * 3 := by
    have z1 : ∀ n, (Builtin.zeroCells (enV ⟨0, 0, 0⟩).cells n).toList.length = n * 3 := fun n => by rw [Array.length_toList, size_zeroCells]; rfl
    rw [hZ, List.length_append, z1, z1]
    omega
  have hrz : ∀ ty, (Builtin.append_ #[48, 3] ty #[.slice (some ⟨g, 0, none⟩) i c, .int .i64 ((l.length : Int) + 1 - (i : Int))]).run Try.prog w = .ok (.slice (some ⟨w.heap.size, 0, none⟩) (l.length + 1) G) (w.drew.alloc (.cells (enR (l.take i) ++ Z).toArray 146)) := fun ty => by
    have h := Lib.run_append_grow_zeros (P := Try.prog) w 48 3 ty 146 i0 _ .i64 .i64 Try.underlying48 Try.underlying3 hi0 hz0 (some ⟨g, 0, none⟩) i c (enR (l.take i)) hold (l.length + 1 - i) (by omega) (by omega) (by omega) (by omega) (by rw [hz2]; omega) (by rw [hz2, show i + (l.length + 1 - i) = l.length + 1 by omega]; exact growslice_fits (by omega) (by omega))
    rw [show i + (l.length + 1 - i) = l.length + 1 by omega, ← hG] at h
    rw [show (l.length : Int) + 1 - (i : Int) = ((l.length + 1 - i : Nat) : Int) by omega, h, hZ]
    have ar : ∀ (a : List Value) (X Y : Array Value), a.toArray ++ X ++ Y = (a ++ (X.toList ++ Y.toList)).toArray := fun a X Y => by apply Array.toList_inj.1; simp
    rw [ar]
  have hfl := fill_in (enR (l.take i)) Z (enR (l.drop i)) (enC x) (by rw [hZl, hB]; show 3 + _ ≤ _; omega)
  obtain ⟨row1, hrow1⟩ : ∃ a : List Value, a = (enR (l.take i) ++ Z).take (enR (l.take i)).length ++ enC x ++ (enR (l.take i) ++ Z).drop ((enR (l.take i)).length + (enC x).length) := ⟨_, rfl⟩
  rw [← hrow1] at hfl
  have hr1l : row1.length = G * 3 := by
    rw [hrow1, hA]
    simp only [List.length_append, List.length_take, List.length_drop, hA, hZl]
    show min (i * 3) (i * 3 + (G - i) * 3) + 3 + (i * 3 + (G - i) * 3 - (i * 3 + 3)) = G * 3
    omega
  have hcpA : ∀ W, W.heap = (w.drew.alloc (.cells (enR (l.take i) ++ Z).toArray 146)).heap → ∀ ty dT sT dc, Try.prog.underlying dT = some (.slice 146) → (Builtin.copy_ #[dT, sT] ty #[.slice (some ⟨w.heap.size, i * 3, none⟩) (l.length + 1 - i) dc, .slice (some ⟨vb, 0, none⟩) 1 1]).run Try.prog W = .ok (goInt ((1 : Nat) : Int)) (W.setRow w.heap.size row1.toArray) := fun W hW ty dT sT dc hdT => by
    have hgW : W.heap[w.heap.size]? = some (.cells (enR (l.take i) ++ Z).toArray 146 (0, 0)) := by rw [hW]; exact heap_alloc_new w.drew _
    have hv1 : Bk W vb 146 (enC x) := by
      have := Bk.alloc (Bk.drew kv) (.cells (enR (l.take i) ++ Z).toArray 146)
      unfold Bk at this ⊢
      rw [hW]; exact this
    have h := run_copy_sz (P := Try.prog) W dT sT ty 146 3 w.heap.size (i * 3) (l.length + 1 - i) dc ⟨vb, 0, none⟩ 1 1 1 _ 146 (enC x) hdT hsz hgW (by simp only [Nat.min_def]; split <;> omega) rfl
      (fun j u hu => by rw [Addr.add_lit, Nat.zero_add, hv1.cell]; exact hu) (by simp only [List.size_toArray, List.length_append, hA, hZl]; show i * 3 + 3 ≤ _; omega) h1c
    rw [h, hrow1, hA]
  have hcpB : ∀ W, W.heap = ((w.drew.alloc (.cells (enR (l.take i) ++ Z).toArray 146)).setRow w.heap.size row1.toArray).heap → ∀ ty dT sT dc sc, Try.prog.underlying dT = some (.slice 146) → (Builtin.copy_ #[dT, sT] ty #[.slice (some ⟨w.heap.size, (i + 1) * 3, none⟩) (l.length - i) dc, .slice (some ⟨g, i * 3, none⟩) (l.length - i) sc]).run Try.prog W = .ok (goInt ((l.length - i : Nat) : Int)) (W.setRow w.heap.size (enR (l.take i) ++ enC x ++ enR (l.drop i) ++ Z.drop ((enC x).length + (enR (l.drop i)).length)).toArray) := fun W hW ty dT sT dc sc hdT => by
    have hgW : W.heap[w.heap.size]? = some (.cells row1.toArray 146 (0, 0)) := by rw [hW]; exact setRow_heap _ _ _ _ _ _ (heap_alloc_new w.drew _)
    have hgo : W.heap[g]? = some (.cells cur 146 (0, 0)) := by
      rw [hW, setRow_other _ _ g _ (by omega)]
      have := Below.heap_alloc w.drew (.cells (enR (l.take i) ++ Z).toArray 146) g hgl
      exact this.trans hg
    have h := run_copy_sz (P := Try.prog) W dT sT ty 146 3 w.heap.size ((i + 1) * 3) (l.length - i) dc ⟨g, i * 3, none⟩ (l.length - i) sc (l.length - i) row1.toArray 146 (enR (l.drop i)) hdT hsz hgW (by simp only [Nat.min_def]; split <;> omega) hB
      (row_cells hgo (by
        have e : cur.toList = enR l := by
          rw [← htk, List.take_of_length_le (by rw [Array.length_toList, hcs]; omega)]
        rw [e, enR_drop, List.take_of_length_le (Nat.le_refl _)])) (by simp only [List.size_toArray, hr1l, hB]; omega) (enR_one _)
    rw [h, ← hfl, hA]
    show _ = Result.ok _ (W.setRow _ (List.take (i * 3 + 3) row1 ++ enR (l.drop i) ++ List.drop (i * 3 + 3 + (enR (l.drop i)).length) row1).toArray)
    rw [show i * 3 + 3 = (i + 1) * 3 by omega]
  obtain ⟨W1, hW1⟩ : ∃ W1, W1 = w.drew.alloc (.cells (enR (l.take i) ++ Z).toArray 146) := ⟨_, rfl⟩
  have hb1 : Below base w W1 := by rw [hW1]; exact (Below.drew (Below.refl base w)).alloc hbase _
  have hg1 : W1.heap[w.heap.size]? = some (.cells (enR (l.take i) ++ Z).toArray 146 (0, 0)) := by rw [hW1]; exact heap_alloc_new w.drew _
  have hG9 : G ≤ 9223372036854775807 := hG63
  rw [← hW1] at hrz hcpA hcpB
  have hw1 := IntWalk.i64_in ((i : Int) + 1) (by omega)
  have hw2 := IntWalk.i64_in ((l.length : Int) + 1) (by omega)
  have hw3 := IntWalk.i64_in ((l.length : Int) + 1 - (i : Int)) (by omega)
  have hin : (i : Int) ≤ (l.length : Int) := by omega
  have hine : ¬ (i : Int) = (l.length : Int) := by omega
  have hrm : (c : Int) < (l.length : Int) + 1 := by omega
  have hrm2 : ¬ l.length + 1 ≤ c := hroom
  have hc1 : ¬ c = i := by omega
  have hG1 : ¬ G = i := by omega
  have hG2 : ¬ G = i + 1 := by omega
  have hi1 : (i : Int) + 1 ≤ (l.length : Int) + 1 := by omega
  have hi2 : (i : Int) ≤ (l.length : Int) + 1 := by omega
  have mixed : Try.prog.follows Departure.mixedOrders = true := by kernel_rfl
  have hb0 : (0 : Int) ≤ (i : Int) + 1 := by omega
  have htn : ((i : Int) + 1).toNat = i + 1 := by omega
  have hcmx : c ≤ 9223372036854775807 := hcm
  clear own h1c hfl hrow1 htk hlen hold hZ hG hW1 hcn hg
  go_enter Try.func77, Try.ntmps77
  go_wp2_with (first
    | (at_builtin; refine Lib.wpList_append_run _ rfl _ _ _ _ rfl _ _ rfl rfl _ _ (hrz _) ?_)
    | (at_builtin; refine wpList_copy_runI _ rfl _ _ 48 47 rfl _ _ rfl rfl (hcpA _ rfl _ _ _ _ Try.underlying48) ?_))
  have hrB := hcpB ((W1.setRow w.heap.size row1.toArray).drew) rfl 3 48 48 (G - (i + 1)) (c - i) Try.underlying48
  go_region_law_o (refine step_copy_runI rfl _ _ 48 48 rfl (.slice (some ⟨w.heap.size, (i + 1) * 3, none⟩) (l.length - i) (G - (i + 1))) (.slice (some ⟨g, i * 3, none⟩) (l.length - i) (c - i)) (by simp [Act.eval, Act.put]) (by simp [Act.eval, Act.put]) hrB ?_)
  go_wp2
  go_ret
  refine ⟨some ⟨w.heap.size, 0, none⟩, G, rfl, own_of_row (rest := Z.drop (3 + (l.length - i) * 3)) (setRow_heap _ _ row1.toArray _ _ _ (setRow_heap W1 w.heap.size _ _ _ _ hg1)) hbase ?_ ?_ hGn hG63 ?_, setRow_below (Below.drew (setRow_below hb1 hbase _)) hbase _⟩
  · rw [← en_ne_app]; simp only [List.append_assoc, List.cons_append, List.nil_append]
  · rw [enR_length]; simp only [List.length_append, List.length_cons, List.length_take, List.length_drop]; omega
  · simp only [List.length_append, List.length_cons, List.length_drop, hA, hB, hZl]; omega
theorem en_Insert (A : Option Addr) (c vb base i : Nat) (l : List En) (x : En) (w : World) (hl : l.length ≤ 1000) (hi : i ≤ l.length) (hbase : base ≤ w.heap.size) (own : w.ownsRow base 146 3 (.slice A l.length c) l.length (enR l)) (kv : Bk w vb 146 (enC x)) (hne : ∀ g, (Value.slice A l.length c).ownBlock = some g → vb ≠ g) :
    Calls Try.prog 77 #[.slice A l.length c, .int .i64 i, .slice (some ⟨vb, 0, none⟩) 1 1] w fun e w' => ∃ B d, e = .returned (.slice B (l.length + 1) d) ∧ w'.ownsRow base 146 3 (.slice B (l.length + 1) d) (l.length + 1) (enR (l.take i ++ x :: l.drop i)) ∧ Below base w w' := by
  rcases Nat.lt_or_eq_of_le hi with h | rfl
  · obtain ⟨g, cA, hA, _, _⟩ := own_some own (by omega)
    injection hA with hA _ hc
    subst hA hc
    by_cases hr : l.length + 1 ≤ c
    · exact en_Insert_room g c vb base i l x w hl h hr own kv (hne g rfl) hbase
    · exact en_Insert_grow g c vb base i l x w hl h hr own kv hbase
  · have := en_Insert_end A c vb base l x w hl hbase own kv
    rw [List.take_length, List.drop_length]
    exact this
end Go.Proofs.Ytolpiaehleefbaa
