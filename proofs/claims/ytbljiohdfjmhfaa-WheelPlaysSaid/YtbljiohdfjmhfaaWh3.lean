/- Package wheel: New. -/
import Derived.Test.YtbljiohdfjmhfaaWh2
namespace Go.Proofs.Ytbljiohdfjmhfaa
open Go.RowKit Go.Sort Go.Maps
set_option linter.unusedSimpArgs false
set_option linter.unusedVariables false

theorem OwM.isMap {W : World} {b : Nat} {l : IL} (h : OwM W b l) : ∃ es c, W.heap[b]? = some (.map es c) := by
  obtain ⟨_, ⟨a, c, h1, _⟩, _⟩ := h; exact ⟨a, c, h1⟩
theorem OwM.ne_cells {W : World} {b g : Nat} {l : IL} (h : OwM W b l) {cs : Array Value} {t : TypeId} {f : Nat × Nat} (hg : W.heap[g]? = some (.cells cs t f)) : b ≠ g := by
  rintro rfl
  obtain ⟨a, c, h1⟩ := h.isMap
  rw [h1] at hg; cases hg
theorem OwM.ne_own {W : World} {b base n c m size : Nat} {l : IL} {e : TypeId} {A : Option Addr} {xs : List Value} (h : OwM W b l) (ho : W.ownsRow base e size (.slice A n c) m xs) : some b ≠ (Value.slice A n c).ownBlock := by
  intro hb
  rcases ho.2 with ⟨h0, _⟩ | ⟨g, cap, cur, hv, _, hg, _⟩
  · injection h0 with h0; subst h0; cases hb
  · injection hv with hv
    subst hv
    injection hb with hb
    exact h.ne_cells hg hb
abbrev mpV (r : Nat) : Value := .map (some r)
theorem mp_info : (Try.prog.info? 66).map (fun i => (i.zero, i.size, i.bytes)) = some (some (.map none), 1, 8) := by kernel_rfl

theorem wh_New (w : World) (n : Nat) (hn : 1 ≤ n ∧ n ≤ 32) :
    Calls Try.prog 8 #[.int .i64 (n : Int)] w fun e w' => Below w.heap.size w w' ∧
      ∃ g wm ad rs, e = .returned (.tuple #[.pointer (some ⟨g, 0, none⟩), .int .i64 0]) ∧ Wh w' g wm ad rs ⟨n, 0, []⟩ ∧ ∀ i ∈ fpOf g wm ad rs, w.heap.size ≤ i := by
  have hmm := @run_makeMap Try.prog
  obtain ⟨i0, hi0, hz0, hz1, hz2⟩ := info_parts mp_info
  · skip
    go_enter Try.func8, Try.ntmps8
    go_wp2
    generalize hV : World.alloc (World.alloc w _) _ = w1
    have hb1 : Below w.heap.size w w1 := by subst hV; (repeat (first | with_reducible exact Below.refl _ _ | with_reducible assumption | with_reducible refine Below.drew ?_ | with_reducible refine Below.drewN ?_ _ | with_reducible refine Below.alloc1 ?_ _ | with_reducible refine Below.setCell1 ?_ (by first | omega | (simp; done) | (simp; omega)) _ | with_reducible refine Below.step ?_ (by with_reducible assumption)))
    have hsz : w1.heap.size = w.heap.size + 2 := by subst hV; simp
    have k0 : Bk w1 (w.heap.size + 1) 69 [.slice none 0 0, .map (some w.heap.size), .int .i64 0] := by subst hV; (repeat (first | with_reducible exact Bk.new' _ _ _ _ (by simp; done) | with_reducible assumption | with_reducible refine Bk.alloc ?_ _ | with_reducible refine Bk.drew ?_ | with_reducible refine Bk.drewN ?_ _ | with_reducible refine Bk.step ?_ (by with_reducible assumption) | with_reducible refine Bk.far ?_ (by first | omega | (simp; done) | (simp; omega)) _))
    have o0 : OwM w1 w.heap.size [] := by subst hV; exact (OwM.made w).step ((Below.refl _ _).alloc1 _)
    clear hV
    go_loopw [15] (fun i wr => ∃ (k : Nat) (A : Option Addr) (c : Nat) (rs : List Nat), k ≤ n ∧ i = .int .i64 k ∧ rs.length = k ∧ wr.ownsRow (w.heap.size + 2) 66 1 (.slice A k c) k (rs.map mpV) ∧
        Bk wr (w.heap.size + 1) 69 [.slice A k c, .map (some w.heap.size), .int .i64 0] ∧ OwM wr w.heap.size [] ∧ (∀ r ∈ rs, OwM wr r [] ∧ w.heap.size + 2 ≤ r) ∧ rs.Nodup ∧ Below w.heap.size w wr ∧ w.heap.size + 2 ≤ wr.heap.size)
      (fun i _ => n - (intOf i).toNat)
    case atStart => exact ⟨0, none, 0, [], Nat.zero_le _, rfl, rfl, World.ownsRow_nil _ _ _ _, k0, o0, by simp, by simp, hb1, by omega⟩
    case round =>
      obtain ⟨k, A, c, rs, hk, rfl, hl, own, j0, jo, jr, nd, hbr, hsr⟩ := hrel
      clear k0 o0 hb1 hsz
      have c0 := j0.cell 0
      simp at c0
      by_cases hlt : k < n
      · have hlt' : (k : Int) < n := by omega
        go_wp2_with (at_builtin; refine wpList_app2 rfl (.tmp 21) (.tmp 23) 67 rfl (w.heap.size + 2) 66 i0 _ 1 8 Try.underlying67 hi0 hz0 hz1 hz2 rfl (by omega) A k c (rs.map mpV) rfl ((own.alloc _).alloc _) ⟨wr.heap.size + 1, 0, none⟩ 1 1 [mpV wr.heap.size] rfl rfl (news_one (by simp)) (by simp [Value.oneCell']) (by unfold maxLen; omega) (by omega) (by simp; omega) (by omega) ?_; intro g2 cap w5 own5 hb5 hgr5; (have k5 : Bk w5 (w.heap.size + 1) 69 [.slice A k c, .map (some w.heap.size), .int .i64 0] := ((j0.alloc (.map #[] 0)).alloc (.cells #[mpV wr.heap.size] 66)).below hb5 (by omega)); have k5_0 := k5.cell 0; have k5_f0 := k5.frozen 0; have k5_1 := k5.cell 1; have k5_f1 := k5.frozen 1; have k5_2 := k5.cell 2; have k5_f2 := k5.frozen 2; simp only [List.set_cons_zero, List.set_cons_succ, List.getElem?_cons_zero, List.getElem?_cons_succ] at k5_0 k5_1 k5_2; have lt_k5 := k5.lt)
        have oo : ∀ {b : Nat} {l : IL}, OwM wr b l → OwM w5 b l := fun {b l} h => by
          have h2 : OwM ((wr.alloc (.map #[] 0)).alloc (.cells #[mpV wr.heap.size] 66)) b l := (h.step ((Below.refl _ _).alloc1 _)).step ((Below.refl _ _).alloc1 _)
          exact h2.kept hgr5 (h2.ne_own ((own.alloc _).alloc _))
        have on : OwM w5 wr.heap.size [] := by
          have h2 : OwM ((wr.alloc (.map #[] 0)).alloc (.cells #[mpV wr.heap.size] 66)) wr.heap.size [] := (OwM.made wr).step ((Below.refl _ _).alloc1 _)
          exact h2.kept hgr5 (h2.ne_own ((own.alloc _).alloc _))
        have hb5' : Below w.heap.size w w5 := (((hbr.alloc (by omega) (.map #[] 0)).alloc (by first | omega | (simp; done) | (simp; omega)) (.cells #[mpV wr.heap.size] 66))).trans (hb5.mono (by omega))
        have s5 := hb5.size
        simp at s5
        generalize hY : World.setCell w5 _ _ = w6
        have hb6 : Below w.heap.size w w6 := by subst hY; exact hb5'.setCell (by first | omega | (simp; done) | (simp; omega)) _
        have k6 : Bk w6 (w.heap.size + 1) 69 [.slice (some ⟨g2, 0, none⟩) (k + 1) cap, .map (some w.heap.size), .int .i64 0] := by subst hY; exact k5.set_ 0 _
        have own6 : w6.ownsRow (w.heap.size + 2) 66 1 (.slice (some ⟨g2, 0, none⟩) (k + 1) cap) (k + 1) (rs.map mpV ++ [mpV wr.heap.size]) := by subst hY; exact own_far own5 (by simp) _
        have o6 : ∀ {b : Nat} {l : IL}, OwM w5 b l → OwM w6 b l := fun {b l} h => by subst hY; exact h.block (Below.heap_setCell _ _ _ _ (h.ne_cells k5))
        have s6 : w6.heap.size = w5.heap.size := by subst hY; simp [World.setCell]
        clear hY
        go_roundw
        case rel => exact ⟨k + 1, _, cap, rs ++ [wr.heap.size], by omega, by go_num, by simp [hl], by simpa using own6, k6, o6 (oo jo), (by
            intro r hr
            rcases List.mem_append.1 hr with hr | hr
            · exact ⟨o6 (oo (jr r hr).1), (jr r hr).2⟩
            · simp only [List.mem_singleton] at hr; subst hr; exact ⟨o6 on, hsr⟩), (by
            rw [List.nodup_append]
            refine ⟨nd, by simp, fun a ha b hb e => ?_⟩
            simp only [List.mem_singleton] at hb
            have := (jr a ha).1.lt
            omega), hb6, by omega⟩
        case measure => simp [intOf]; omega
      · have hkn : k = n := by omega
        have hlt' : ¬ ((k : Int) < n) := by omega
        go_wp2
        go_ret2
        subst hkn
        obtain ⟨g2, cc, hv, _⟩ := own_some own (by omega)
        injection hv with hA _ hc
        subst hA
        refine ⟨hbr, _, rfl, _, _, rs, ⟨⟨c, by simpa using j0⟩, by simpa using hl, by simpa using own_rd own, by simpa [whereL] using jo, fun i hi => by simpa [slotL] using (jr _ (List.getElem_mem hi)).1, ?_, by simp; omega, by simp, by simp⟩, ?_⟩
        · have h1 := own_blk own _ rfl
          simp only at h1
          obtain ⟨cur, _, hg2, _⟩ := own_row own
          simp only [fpOf, List.nodup_cons, List.mem_cons, not_or]
          exact ⟨⟨by omega, by omega, fun hm => by have := (jr _ hm).2; omega⟩, ⟨by omega, fun hm => by have := (jr _ hm).2; omega⟩, fun hm => (jr _ hm).1.ne_cells hg2 rfl, nd⟩
        · have h1 := own_blk own _ rfl
          simp only at h1
          intro i hi
          simp only [fpOf, List.mem_cons] at hi
          rcases hi with rfl | rfl | rfl | hi
          · omega
          · omega
          · omega
          · have := (jr _ hi).2; omega
theorem wh_New_bad (w : World) (s : Int) (hr : ¬ (1 ≤ s ∧ s ≤ 32)) :
    Calls Try.prog 8 #[.int .i64 s] w fun e w' => e = .returned (.tuple #[.pointer none, .int .i64 8]) ∧ Below w.heap.size w w' := by
  have cs : s < 1 ∨ (1 ≤ s ∧ 32 < s) := by omega
  clear hr
  rcases cs with q | ⟨q1, q2⟩
  all_goals
    go_enter Try.func8, Try.ntmps8
    go_wp2
    go_ret2
    exact ⟨rfl, by (repeat (first | with_reducible exact Below.refl _ _ | with_reducible assumption | with_reducible refine Below.drew ?_ | with_reducible refine Below.drewN ?_ _ | with_reducible refine Below.alloc1 ?_ _ | with_reducible refine Below.setCell1 ?_ (by first | omega | (simp; done) | (simp; omega)) _ | with_reducible refine Below.step ?_ (by with_reducible assumption)))⟩
end Go.Proofs.Ytbljiohdfjmhfaa
