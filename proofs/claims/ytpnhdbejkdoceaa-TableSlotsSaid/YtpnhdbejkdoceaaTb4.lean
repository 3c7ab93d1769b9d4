/- Package table: New, Add, Slots, Clear; one that is not there. -/
import Derived.Test.YtpnhdbejkdoceaaTb3
import Derived.Test.YtpnhdbejkdoceaaIns
import Derived.Laws.MakeOwn
namespace Go.Proofs.Ytpnhdbejkdoceaa
open Go.RowKit Go.Sort
set_option linter.unusedSimpArgs false
set_option linter.unusedVariables false

theorem zc3 (a b c : Value) : ∀ n : Nat, (List.range (n * 3)).map (fun i => (#[a, b, c] : Array Value)[i % 3]!) = (List.replicate n [a, b, c]).flatten
  | 0 => rfl
  | n + 1 => by
    rw [show (n + 1) * 3 = n * 3 + 1 + 1 + 1 by omega, List.range_succ, List.range_succ, List.range_succ, List.map_append, List.map_append, List.map_append, zc3 a b c n, List.replicate_succ', List.flatten_append]
    simp only [List.map_cons, List.map_nil]
    rw [show (n * 3) % 3 = 0 by omega, show (n * 3 + 1) % 3 = 1 by omega, show (n * 3 + 1 + 1) % 3 = 2 by omega]
    simp
abbrev tzV : Value := .agg #[.string ByteArray.empty, .int .i64 0, .bool false]
theorem tsR_zero (n : Nat) : tsR (List.replicate n tz) = (List.replicate n (tsC tz)).flatten := by
  simp [tsR, List.flatMap, List.map_replicate]
theorem made3 (n : Nat) : (madeCells tzV.cells (n * 3)).toList = tsR (List.replicate n tz) := by
  rw [tsR_zero, ← zc3]
  simp [madeCells, tzV, Value.cells]
  intros; rfl
theorem zero3 (n : Nat) : (Builtin.zeroCells tzV.cells n).toList = tsR (List.replicate n tz) := by
  rw [tsR_zero, ← zc3]
  simp [Builtin.zeroCells, tzV, Value.cells]
  intros; rfl
theorem gt_rep (n p : Nat) : gt (List.replicate n tz) p = tz := by
  unfold gt
  simp only [List.getD, List.getElem?_replicate]
  split <;> rfl
theorem slot_info : (Try.prog.info? 62).map (fun i => (i.zero, i.size, i.bytes)) = some (some tzV, 3, 32) := by kernel_rfl
theorem slot_zero (W : World) : (zeroValue 62).run Try.prog W = .ok tzV W := by kernel_rfl
theorem ti_zero {n : Nat} (hn : 2 ≤ n) : TI (List.replicate n tz) ∧ lv (List.replicate n tz) = 0 ∧ ∀ k v, ¬ hasE (List.replicate n tz) k v := by
  have h0 : lv (List.replicate n tz) = 0 := by
    unfold lv
    rw [List.countP_eq_zero]
    intro x hx
    rw [List.eq_of_mem_replicate hx]; simp [tz]
  have hd : ∀ p, (gt (List.replicate n tz) p).live = false := fun p => by rw [gt_rep]; rfl
  refine ⟨⟨by simpa using hn, fun p q _ _ h => ?_, fun p q _ _ h => ?_, by rw [h0, List.length_replicate]; omega, fun p _ => gt_rep n p⟩, h0, fun k v => ?_⟩
  · rw [hd] at h; cases h
  · rw [hd] at h; cases h
  · rintro ⟨p, _, h, _⟩
    rw [hd] at h; cases h

theorem tb_New (w : World) (n : Nat) (hn : 2 ≤ n ∧ n ≤ 256) :
    Calls Try.prog 15 #[.int .i64 n] w fun e w' => ∃ gT gS, e = .returned (.tuple #[.pointer (some ⟨gT, 0, none⟩), .int .i64 0]) ∧ Tb w' gT gS (List.replicate n tz) 0 ∧ w.heap.size ≤ gT ∧ w.heap.size ≤ gS ∧ Below w.heap.size w w' := by
  obtain ⟨i0, hi0, hz0, hz1, hz2⟩ := info_parts slot_info
  have hmk : ∀ W : World, (Instr.makeSlice 57 (.int .i64 (n : Int)) (.int .i64 (n : Int))).run Try.prog W = .ok (.slice (some ⟨W.heap.size, 0, none⟩) n n) (W.alloc (.cells (tsR (List.replicate n tz)).toArray 62)) := fun W => by
    have h := run_make (P := Try.prog) W 57 62 i0 _ Try.underlying57 hi0 hz0 .i64 .i64 (n : Int) (n : Int) (by omega) (by omega) (by rw [hz2]; omega) (by omega)
    rw [h, ← made3]
    simp only [Int.toNat_natCast, hz1, Array.toArray_toList]
  clear hi0 hz0 hz1 hz2
  go_enter Try.func15, Try.ntmps15
  go_wp2_with fail
  generalize hV : World.alloc (World.alloc w _) _ = w1
  have hb1 : Below w.heap.size w w1 := by subst hV; (repeat (first | with_reducible exact Below.refl _ _ | with_reducible assumption | with_reducible refine Below.drew ?_ | with_reducible refine Below.drewN ?_ _ | with_reducible refine Below.alloc1 ?_ _ | with_reducible refine Below.setCell1 ?_ (by first | omega | (simp; done) | (simp; omega)) _ | with_reducible refine Below.step ?_ (by with_reducible assumption)))
  have k0 : Bk w1 w.heap.size 62 (tsR (List.replicate n tz)) := by subst hV; exact (Bk.new w _ _).alloc _
  have k1 : Bk w1 (w.heap.size + 1) 59 [.slice (some ⟨w.heap.size, 0, none⟩) (List.replicate n tz).length (List.replicate n tz).length, .int .i64 ((0 : Nat) : Int)] := by subst hV; rw [List.length_replicate]; exact Bk.new' _ _ _ _ (by simp)
  clear hV hmk
  go_wp2
  go_ret2
  exact ⟨_, w.heap.size, rfl, ⟨k1, k0, by omega, by rw [List.length_replicate]; exact hn, fun p => by rw [gt_rep]; decide⟩, by omega, Nat.le_refl _, hb1⟩
theorem tb_New_bad (w : World) (n : Int) (hn : n < 2 ∨ 256 < n) :
    Calls Try.prog 15 #[.int .i64 n] w fun e w' => e = .returned (.tuple #[.pointer none, .int .i64 8]) ∧ w = w' := by
  have hn2 : n < 2 ∨ (2 ≤ n ∧ 256 < n) := by omega
  clear hn
  rcases hn2 with h | ⟨h1, h2⟩
  all_goals
    go_enter Try.func15, Try.ntmps15
    go_wp2
    go_ret2
    exact ⟨rfl, rfl⟩
def hdT (n : Int) : Int := min (max n (-1099511627776)) 1099511627776
def pSum (l : List TS) (k : ByteArray) (n : Int) : Int := hdT (hdT (if (fnd0 l k).2 then (gt l (fnd0 l k).1).v else 0) + hdT n)
set_option maxHeartbeats 4000000 in
theorem tb_Add (W : World) (gT gS : Nat) (l : List TS) (m : Nat) (k : ByteArray) (n : Int) (hk : k.size ≤ 1000) (hm : m ≤ 1000) (h : Tb W gT gS l m) :
    Calls Try.prog 20 #[.pointer (some ⟨gT, 0, none⟩), .string k, .int .i64 n] W fun e w' => e = .returned (.tuple #[.int .i64 (if (pPut l m k (pSum l k n)).2.2 = 0 then pSum l k n else 0), .int .i64 (pPut l m k (pSum l k n)).2.2]) ∧ Tb w' gT gS (pPut l m k (pSum l k n)).1 (pPut l m k (pSum l k n)).2.1 ∧ FpW [gT, gS] W w' := by
  have hG := tb_Get W gT gS l m k hk h
  have hH := fun n W => tb_held n W
  have hP := fun W v h => tb_Put W gT gS l m k v hk hm h
  have hS : pSum l k n = hdT (hdT (if (fnd0 l k).2 then (gt l (fnd0 l k).1).v else 0) + hdT n) := rfl
  generalize pSum l k n = S at *
  generalize (if (fnd0 l k).2 then (gt l (fnd0 l k).1).v else 0) = v at *
  generalize (fnd0 l k).2 = f at *
  have hPs := fun W h => hP W S h
  clear hP
  generalize pPut l m k S = R at *
  obtain ⟨l', m', C⟩ := R
  simp only at hPs ⊢
  have hH1 := fun W => hH v W
  have hH2 := fun W => hH n W
  have hH3 := fun W => hH (hdT v + hdT n) W
  clear hH
  change ∀ W, Calls _ _ _ _ (fun e w' => e = .returned (.int .i64 (hdT v)) ∧ _) at hH1
  change ∀ W, Calls _ _ _ _ (fun e w' => e = .returned (.int .i64 (hdT n)) ∧ _) at hH2
  change ∀ W, Calls _ _ _ _ (fun e w' => e = .returned (.int .i64 (hdT (hdT v + hdT n))) ∧ _) at hH3
  rw [← hS] at hH3
  have hv : -1099511627776 ≤ hdT v ∧ hdT v ≤ 1099511627776 := by unfold hdT; omega
  have hv2 : -1099511627776 ≤ hdT n ∧ hdT n ≤ 1099511627776 := by unfold hdT; omega
  generalize hdT v = a at *
  generalize hdT n = b at *
  clear hS
  by_cases hC : C = 0
  · have hCb : (C != 0) = false := by simpa using hC
    rw [if_pos hC]
    go_enter Try.func20, Try.ntmps20
    go_wp2_with fail
    refine hG.mono ?_
    rintro e w1 ⟨rfl, hb1⟩
    go_wp2_with fail
    refine (hH1 _).mono ?_
    rintro e w2 ⟨rfl, rfl⟩
    go_wp2_with fail
    refine (hH2 _).mono ?_
    rintro e w2 ⟨rfl, rfl⟩
    go_wp2_with fail
    refine (hH3 _).mono ?_
    rintro e w2 ⟨rfl, rfl⟩
    go_wp2_with fail
    refine (hPs _ (h.step hb1)).mono ?_
    rintro e w2 ⟨rfl, hT, hf⟩
    have hfe := (FpW.of (fp := [gT, gS]) hb1).trans hf
    subst hC
    go_wp2
    go_ret2
    exact ⟨rfl, hT, hfe⟩
  · have hCb : (C != 0) = true := by simpa using hC
    rw [if_neg hC]
    go_enter Try.func20, Try.ntmps20
    go_wp2_with fail
    refine hG.mono ?_
    rintro e w1 ⟨rfl, hb1⟩
    go_wp2_with fail
    refine (hH1 _).mono ?_
    rintro e w2 ⟨rfl, rfl⟩
    go_wp2_with fail
    refine (hH2 _).mono ?_
    rintro e w2 ⟨rfl, rfl⟩
    go_wp2_with fail
    refine (hH3 _).mono ?_
    rintro e w2 ⟨rfl, rfl⟩
    go_wp2_with fail
    refine (hPs _ (h.step hb1)).mono ?_
    rintro e w2 ⟨rfl, hT, hf⟩
    have hfe := (FpW.of (fp := [gT, gS]) hb1).trans hf
    go_wp2
    go_ret2
    exact ⟨rfl, hT, hfe⟩
theorem run_clear3 {P : Program} (w : World) (t e ty : TypeId) (z : Value) (ht : P.underlying t = some (.slice e)) (hv : ∀ w, (zeroValue e).run P w = .ok z w) (g n c : Nat) (hn : 0 < n) (cur : List Value) (hg : Bk w g e cur) (hl : cur.length = (Builtin.zeroCells z.cells n).toList.length) (h1 : ∀ u ∈ (Builtin.zeroCells z.cells n).toList, u.oneCell' = true) :
    (Builtin.clear_ #[t] ty #[.slice (some ⟨g, 0, none⟩) n c]).run P w = .ok (.tuple #[]) (w.setRow g (Builtin.zeroCells z.cells n).toList.toArray) := by
  have hst := run_storeCells_at P g 0 e (Builtin.zeroCells z.cells n).toList 0 cur.toArray w hg (by simp at hl ⊢; omega) h1
  simp only [Nat.add_zero, Nat.zero_add, List.take_zero, List.nil_append] at hst
  rw [← hl, List.drop_length, List.append_nil] at hst
  obtain ⟨m, rfl⟩ : ∃ m, n = m + 1 := ⟨n - 1, by omega⟩
  simp only [Builtin.clear_, run_underlying ht, hv, hst, Sem.run_bind, Sem.run_pure, Result.andThen_ok, List.getElem?_toArray, List.getElem?_cons_zero]
theorem FpW.row {fp : List Nat} {a b : World} (h : FpW fp a b) {g : Nat} (hp : g ∈ fp) (cur : Array Value) : FpW fp a (b.setRow g cur) :=
  h.trans ⟨rfl, rfl, rfl, by rw [setRow_size]; exact Nat.le_refl _, fun i hi hn => setRow_other b g i cur (by intro e; exact hn (e ▸ hp))⟩
theorem tb_Clear (W : World) (gT gS : Nat) (l : List TS) (m : Nat) (h : Tb W gT gS l m) :
    Calls Try.prog 23 #[.pointer (some ⟨gT, 0, none⟩)] W fun e w' => (∃ v, e = .returned v) ∧ Tb w' gT gS (List.replicate l.length tz) 0 ∧ FpW [gT, gS] W w' := by
  have hn := h.n
  have hcl := fun ty => run_clear3 (P := Try.prog) W 57 62 ty tzV Try.underlying57 slot_zero gS l.length l.length (by omega) (tsR l) h.row (by rw [zero3, tsR_length, tsR_length, List.length_replicate]) (by
    rw [zero3, tsR_zero]
    intro u hu
    rw [List.mem_flatten] at hu
    obtain ⟨y, hy, hu⟩ := hu
    rw [List.eq_of_mem_replicate hy] at hu
    simp only [tsC, List.mem_cons, List.not_mem_nil, or_false] at hu
    rcases hu with rfl | rfl | rfl <;> simp [Value.oneCell'])
  rw [zero3] at hcl
  have c0 := h.tab.cell 0
  simp at c0
  have k1 : Bk (W.setRow gS (tsR (List.replicate l.length tz)).toArray) gS 62 (tsR (List.replicate l.length tz)) := h.row.row _
  have k2 := h.tab.rowFar h.ne (tsR (List.replicate l.length tz)).toArray
  have hf := (FpW.refl [gT, gS] W).row (g := gS) (by simp) (tsR (List.replicate l.length tz)).toArray
  have hne := h.ne
  generalize hV : W.setRow gS (tsR (List.replicate l.length tz)).toArray = w1 at *
  have c1 := k2.cell 1
  have f1 := k2.frozen 1
  have lt1 := k2.lt
  simp at c1
  have hT : Tb (w1.setCell ⟨gT, 1, none⟩ (.int .i64 0)) gT gS (List.replicate l.length tz) 0 := ⟨by rw [List.length_replicate]; exact k2.set_ 1 _, k1.far (Ne.symm hne) _, hne, by rw [List.length_replicate]; exact hn, fun p => by rw [gt_rep]; decide⟩
  clear h k1 k2 hV
  go_enter Try.func23, Try.ntmps23
  go_wp2
  exact bodyPost_end (v := .tuple #[]) (by simp only [results, Try.results23]; go_simp) rfl ⟨⟨_, rfl⟩, hT, hf.set_ (by simp) _⟩
theorem str_info : (Try.prog.info? 9).map (fun i => (i.zero, i.size, i.bytes)) = some (some (.string ByteArray.empty), 1, 16) := by kernel_rfl
abbrev keyR (l : List TS) : List Value := l.map (fun x => .string x.k)
theorem tb_Slots (W : World) (gT gS : Nat) (l : List TS) (m : Nat) (h : Tb W gT gS l m) :
    Calls Try.prog 12 #[.pointer (some ⟨gT, 0, none⟩)] W fun e w' => ∃ A c, e = .returned (.slice A l.length c) ∧ Rd w' w'.heap.size A (keyR l) ∧ Below W.heap.size W w' := by
  obtain ⟨i0, hi0, hz0, hz1, hz2⟩ := info_parts str_info
  have hn := h.n
  have c0 := h.tab.cell 0
  simp at c0
  go_enter Try.func12, Try.ntmps12
  go_wp2_with fail
  go_loopw [3, 13] (fun o i wr => ∃ (k : Nat) (A : Option Addr) (c : Nat), k ≤ l.length ∧ i = .int .i64 k ∧ o = .slice A k c ∧ wr.ownsRow W.heap.size 9 1 (.slice A k c) k (keyR (l.take k)) ∧ Below W.heap.size W wr) (fun _ i _ => l.length - (intOf i).toNat)
  case atStart => exact ⟨0, none, 0, Nat.zero_le _, rfl, rfl, World.ownsRow_nil _ _ _ _, Below.refl _ _⟩
  case round =>
    obtain ⟨k, A, c, hk, rfl, rfl, own, hb⟩ := hrel
    have hT := h.step hb
    by_cases hlt : k < l.length
    · have hlt' : (k : Int) < l.length := by omega
      obtain ⟨e0, e1, e2⟩ := hT.at_ hlt
      have HS := hide (show keyR (l.take (k + 1)) = keyR (l.take k) ++ [.string (gt l k).k] by rw [take_snocL l k hlt, gt_get hlt]; exact List.map_append)
      have sz := hb.size
      have hlts := hT.row.lt
      generalize gt l k = x at *
      obtain ⟨xk, xv, xl⟩ := x
      simp only at e0 e1 e2 HS
      generalize keyR (l.take k) = D at *
      have hTT := hide hT
      clear hT
      go_wp2_with (at_builtin; refine wpList_app2 rfl (.tmp 17) (.tmp 21) 32 rfl W.heap.size 9 i0 _ 1 16 Try.underlying32 hi0 hz0 hz1 hz2 rfl (by omega) A k c D rfl ((own.alloc _).alloc _) ⟨wr.heap.size + 1, 0, none⟩ 1 1 [.string xk] rfl rfl (news_one (by simp)) (by simp [Value.oneCell']) (by unfold maxLen; omega) (by omega) (by simp; omega) (by omega) ?_; intro g2 cap w2 own2 hb2 hgr2)
      have hb3 : Below W.heap.size W w2 := ((hb.alloc sz (.cells #[.string xk, .int .i64 xv, .bool xl] 62)).alloc (by simp; omega) (.cells #[.string xk] 9)).trans hb2
      go_roundw
      case rel => exact ⟨k + 1, _, cap, by omega, by go_num, rfl, by rw [HS.out]; exact own2, hb3⟩
      case measure => simp [intOf]; omega
    · have hkn : k = l.length := by omega
      have hlt' : ¬ (k : Int) < l.length := by omega
      subst hkn
      clear hT
      go_wp2
      go_ret
      rw [List.take_length] at own
      exact ⟨A, ⟨c, rfl⟩, own_rd own, hb⟩
theorem tn_Len (w : World) : Calls Try.prog 8 #[.pointer none] w fun e w' => e = .returned (.int .i64 0) ∧ w = w' := by
  go_enter Try.func8, Try.ntmps8
  go_wp2
  go_ret
  exact ⟨rfl, rfl⟩
theorem tn_Full (w : World) : Calls Try.prog 9 #[.pointer none] w fun e w' => e = .returned (.bool true) ∧ Below w.heap.size w w' := by
  go_enter Try.func9, Try.ntmps9
  go_wp2_with fail
  (refine wp_region_qb (by kernel_rfl) (by kernel_rfl) (fun kq => ?_); (try dsimp only [List.append]); (repeat (go_big_quiet_step ((fail)))); refine wpQuiet_nil ?_; intro wq hwq; have hbq := below_of_class hwq; clear hwq kq)
  go_wp2
  go_ret
  exact ⟨rfl, hbq⟩
theorem tn_Where (w : World) (k : ByteArray) : Calls Try.prog 11 #[.pointer none, .string k] w fun e w' => e = .returned (.int .i64 (-1)) ∧ w = w' := by
  go_enter Try.func11, Try.ntmps11
  go_wp2
  go_ret
  exact ⟨rfl, rfl⟩
theorem tn_Get (w : World) (k : ByteArray) : Calls Try.prog 18 #[.pointer none, .string k] w fun e w' => e = .returned (.tuple #[.int .i64 0, .bool false]) ∧ w = w' := by
  go_enter Try.func18, Try.ntmps18
  go_wp2
  go_ret2
  exact ⟨rfl, rfl⟩
theorem tn_Put (w : World) (k : ByteArray) (v : Int) : Calls Try.prog 17 #[.pointer none, .string k, .int .i64 v] w fun e w' => e = .returned (.int .i64 1) ∧ w = w' := by
  go_enter Try.func17, Try.ntmps17
  go_wp2
  go_ret
  exact ⟨rfl, rfl⟩
theorem tn_Del (w : World) (k : ByteArray) : Calls Try.prog 19 #[.pointer none, .string k] w fun e w' => e = .returned (.bool false) ∧ w = w' := by
  go_enter Try.func19, Try.ntmps19
  go_wp2
  go_ret
  exact ⟨rfl, rfl⟩
theorem tn_Add (w : World) (k : ByteArray) (n : Int) : Calls Try.prog 20 #[.pointer none, .string k, .int .i64 n] w fun e w' => e = .returned (.tuple #[.int .i64 0, .int .i64 1]) ∧ w = w' := by
  have h1 : -1099511627776 ≤ min (max n (-1099511627776)) 1099511627776 ∧ min (max n (-1099511627776)) 1099511627776 ≤ 1099511627776 := by omega
  have hH := fun W => tb_held n W
  have hZ := fun W => tb_held 0 W
  generalize min (max n (-1099511627776)) 1099511627776 = b at *
  have hB := fun W => tb_held (0 + b) W
  go_enter Try.func20, Try.ntmps20
  go_wp2_with fail
  refine (tn_Get _ k).mono ?_
  rintro e w1 ⟨rfl, rfl⟩
  go_wp2_with fail
  refine (hZ _).mono ?_
  rintro e w1 ⟨rfl, rfl⟩
  go_wp2_with fail
  refine (hH _).mono ?_
  rintro e w1 ⟨rfl, rfl⟩
  go_wp2_with fail
  refine (tb_held _ _).mono ?_
  rintro e w1 ⟨rfl, rfl⟩
  go_wp2_with fail
  refine (tn_Put _ k _).mono ?_
  rintro e w1 ⟨rfl, rfl⟩
  go_wp2
  go_ret2
  exact ⟨rfl, rfl⟩
theorem tn_Slots (w : World) : Calls Try.prog 12 #[.pointer none] w fun e w' => e = .returned (.slice none 0 0) ∧ w = w' := by
  go_enter Try.func12, Try.ntmps12
  go_wp2
  go_ret
  exact ⟨rfl, rfl⟩
theorem tn_All (w : World) : Calls Try.prog 10 #[.pointer none] w fun e w' => e = .returned (.slice none 0 0) ∧ w = w' := by
  go_enter Try.func10, Try.ntmps10
  go_wp2
  go_ret
  exact ⟨rfl, rfl⟩
theorem tn_Clear (w : World) : Calls Try.prog 23 #[.pointer none] w fun e w' => (∃ v, e = .returned v) ∧ w = w' := by
  go_enter Try.func23, Try.ntmps23
  go_wp2
  exact bodyPost_end (v := .tuple #[]) (by simp only [results, Try.results23]; go_simp) rfl ⟨⟨_, rfl⟩, rfl⟩
end Go.Proofs.Ytpnhdbejkdoceaa
