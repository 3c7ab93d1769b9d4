/- callboyref14: Clean, of. -/
import Derived.Test.YtolpiaehleefbaaRef14
import Derived.Test.YtolpiaehleefbaaA2
namespace Go.Proofs.Ytolpiaehleefbaa
open Go.RowKit Go.Sort
set_option linter.unusedSimpArgs false
set_option linter.unusedVariables false

theorem eFull_lt {b r now : Int} {l : List En} (h : eCheck b r l = 0) : ∀ x ∈ l, eFull b r now x = !decide (bLevel b r x.t x.a now < b) := by
  intro x hx
  obtain ⟨h1, h2, h3, h4⟩ := eCheck_ok h
  obtain ⟨_, hf⟩ := h3 x hx
  have := bT_bd (now := now) hf
  unfold eFull
  rw [bLevel_f hf]
  by_cases h : bT b r x.t x.a now < b
  · rw [decide_eq_true h]; simp; omega
  · rw [decide_eq_false h]; simp; omega
set_option maxRecDepth 100000 in
set_option maxHeartbeats 8000000 in
theorem r14_Clean_fr (A : Option Addr) (c : Nat) (b r : Int) (l : List En) (now : Int) (w : World) (hl : l.length ≤ 1000) (hlc : l.length ≤ c) (ha : Rd w w.heap.size A (enR l)) :
    Calls Try.prog 35 #[.agg #[.int .i64 b, .int .i64 r], .slice A l.length c, .int .i64 now] w fun e w' => ∃ B d, e = .returned (.slice B (eClean b r l now).length d) ∧ (eClean b r l now).length ≤ d ∧ Rd w' w'.heap.size B (enR (eClean b r l now)) ∧ Fr1 w A B l (eClean b r l now) ∧ Below w.heap.size w w' := by
  obtain ⟨iT, hi, hz0, hz1, hz2⟩ := info_parts ren_info
  have hC := fun (W : World) (h : Below w.heap.size w W) => r14_Check_any A c b r l W hl ((ha.below h).more h.size)
  by_cases he : eCheck b r l = 0
  · have hCl : eClean b r l now = keepN (eFull b r now) l l.length := by unfold eClean keepN; rw [if_neg (by simp [he]), List.take_length]
    have HE := hide (eFull_lt (now := now) he)
    have HCL := hide hCl
    rw [he] at hC
    clear he hCl
    go_enter Try.func35, Try.ntmps35
    go_wp2_with fail
    generalize hV : World.alloc w _ = w1
    have hb1 : Below w.heap.size w w1 := by subst hV; (repeat (first | with_reducible exact Below.refl _ _ | with_reducible assumption | with_reducible refine Below.drew ?_ | with_reducible refine Below.drewN ?_ _ | with_reducible refine Below.alloc1 ?_ _ | with_reducible refine Below.setCell1 ?_ (by first | omega | (simp; done) | (simp; omega)) _ | with_reducible refine Below.step ?_ (by with_reducible assumption)))
    have k0 : Bk w1 w.heap.size 23 [.int .i64 b, .int .i64 r] := by subst hV; (repeat (first | with_reducible exact Bk.new' _ _ _ _ (by simp; done) | with_reducible assumption | with_reducible refine Bk.alloc ?_ _ | with_reducible refine Bk.drew ?_ | with_reducible refine Bk.drewN ?_ _ | with_reducible refine Bk.step ?_ (by with_reducible assumption) | with_reducible refine Bk.far ?_ (by first | omega | (simp; done) | (simp; omega)) _))
    clear hV
    refine (hC _ hb1).mono ?_; rintro e x0 ⟨rfl, hx0⟩
    replace k0 := k0.step hx0
    replace hb1 : Below w.heap.size w x0 := hb1.step hx0
    clear hx0 hC
    have lx0 := k0.lt
    go_wp2_with fail
    go_loopw [7, 8] (fun o i wr => ∃ k : Nat, k ≤ l.length ∧ i = .int .i64 k ∧ (∃ W cW, o = .slice W (keepN (eFull b r now) l k).length cW ∧ wr.ownsRow x0.heap.size 144 3 (.slice W (keepN (eFull b r now) l k).length cW) (keepN (eFull b r now) l k).length (enR (keepN (eFull b r now) l k))) ∧ Bk wr w.heap.size 23 [.int .i64 b, .int .i64 r] ∧ x0.heap.size ≤ wr.heap.size ∧ Below w.heap.size w wr) (fun o i _ => l.length - (intOf i).toNat)
    case atStart => exact ⟨0, Nat.zero_le _, rfl, ⟨none, 0, rfl, ⟨by simp [enR, keepN], .inl ⟨rfl, by simp [keepN]⟩⟩⟩, k0, Nat.le_refl _, hb1⟩
    case round =>
      clear k0 hb1
      obtain ⟨k, hk, rfl, ⟨W, cW, rfl, own⟩, k0, hbw, hb⟩ := hrel
      have k0_0 := k0.cell 0; have k0_f0 := k0.frozen 0; have k0_1 := k0.cell 1; have k0_f1 := k0.frozen 1; simp only [List.set_cons_zero, List.set_cons_succ, List.getElem?_cons_zero, List.getElem?_cons_succ] at k0_0 k0_1; have lt_k0 := k0.lt
      have hkl := keepN_len (eFull b r now) l k
      by_cases hlt : k < l.length
      · obtain ⟨ad, rfl, hadb, c1, c2, c3⟩ := (ha.below hb).en hlt
        have HS := hide (keepN_succ (eFull b r now) l k hlt)
        have HEx := hide (HE.out l[k] (List.getElem_mem hlt))
        generalize keepN (eFull b r now) l k = m at *
        generalize l[k] = x at *
        have hL := fun W => r13_Level_any b r x.t x.a now W
        generalize bLevel b r x.t x.a now = L at *
        have cq1 : ∀ d os, (grow (redrawn wr d) os).cell? (ad.add (k * 3)) = some (.int .i64 x.s) := fun d os => ((below_regrown wr d os).cell (by rw [add_block]; omega)).trans c1
        have cq2 : ∀ d os, (grow (redrawn wr d) os).cell? ⟨(ad.add (k * 3)).block, (ad.add (k * 3)).off + 1, none⟩ = some (.int .i64 x.t) := fun d os => ((below_regrown wr d os).cell (by dsimp only; rw [add_block]; omega)).trans c2
        have cq3 : ∀ d os, (grow (redrawn wr d) os).cell? ⟨(ad.add (k * 3)).block, (ad.add (k * 3)).off + 2, none⟩ = some (.int .i64 x.a) := fun d os => ((below_regrown wr d os).cell (by dsimp only; rw [add_block]; omega)).trans c3
        have hml : m.length ≤ 1000 := by omega
        by_cases hlv : L < b
        · have hm' : Hid (keepN (eFull b r now) l (k + 1) = m ++ [x]) := by unfold Hid; rw [HS.out, if_neg (by rw [HEx.out]; simp [hlv])]
          clear HS HEx
          go_wp2_with fail
          (refine wp_region_qb (by kernel_rfl) (by kernel_rfl) (fun kq => ?_); (try dsimp only [List.append]); (repeat (go_big_quiet_step (((go_at_call 50; exact (hL _).qb))))); refine wpQuiet_nil ?_; intro wq hwq; have hbq := below_of_class hwq; clear hwq kq)
          (try clear k0_0 k0_f0 k0_1 k0_f1 lt_k0)
          replace k0 := k0.step hbq
          have own2 := own_below own hbq (Nat.le_refl _)
          have hsq := hbq.size
          replace c1 := (hbq.cell (by rw [add_block]; omega)).trans c1
          replace c2 := (hbq.cell (p := ⟨(ad.add (k * 3)).block, (ad.add (k * 3)).off + 1, none⟩) (by dsimp only; rw [add_block]; omega)).trans c2
          replace c3 := (hbq.cell (p := ⟨(ad.add (k * 3)).block, (ad.add (k * 3)).off + 2, none⟩) (by dsimp only; rw [add_block]; omega)).trans c3
          replace hb : Below w.heap.size w wq := hb.step hbq
          clear cq1 cq2 cq3 own hbq hL
          go_wp2_with (at_builtin; refine wpList_app2 rfl (.tmp 31) (.tmp 36) 34 rfl x0.heap.size 144 iT _ 3 24 Try.underlying34 hi hz0 hz1 hz2 rfl (by omega) W m.length cW (enR m) rfl (own2.alloc _) ⟨wq.heap.size, 0, none⟩ 1 1 (enC x) rfl rfl (news_at (w := wq) (cs := enC x) (e := 144)) (by simp [Value.oneCell']) (by unfold maxLen; omega) (by omega) (by simp; omega) (by omega) ?_; intro g cap w7 own7 hb7 hgr7)
          have k7 := (k0.alloc (.cells (enC x).toArray 144)).below hb7 lx0
          have hs7 := hb7.size
          simp at hs7
          replace hb : Below w.heap.size w w7 := (hb.alloc1 _).trans (hb7.mono (by omega))
          clear hi hz0 hz1 hz2 iT own2 hb7 hgr7 c1 c2 c3
          go_wp2
          go_roundw
          case rel => exact ⟨k + 1, by omega, by go_num, ⟨_, cap, by rw [hm'.out, List.length_append]; rfl, by rw [hm'.out, enR_append, List.length_append]; exact own7⟩, k7, by omega, hb⟩
          case measure => simp [intOf]; omega
        · have hm' : Hid (keepN (eFull b r now) l (k + 1) = m) := by unfold Hid; rw [HS.out, if_pos (by rw [HEx.out]; simp [hlv]), List.append_nil]
          have hlv' : b ≤ L := by omega
          clear HS HEx
          go_wp2_with fail
          (refine wp_region_qb (by kernel_rfl) (by kernel_rfl) (fun kq => ?_); (try dsimp only [List.append]); (repeat (go_big_quiet_step (((go_at_call 50; exact (hL _).qb))))); refine wpQuiet_nil ?_; intro wq hwq; have hbq := below_of_class hwq; clear hwq kq)
          (try clear k0_0 k0_f0 k0_1 k0_f1 lt_k0)
          replace k0 := k0.step hbq
          have own2 := own_below own hbq (Nat.le_refl _)
          have hsq := hbq.size
          replace hb : Below w.heap.size w wq := hb.step hbq
          clear cq1 cq2 cq3 own hbq hL
          go_wp2
          go_roundw
          case rel => exact ⟨k + 1, by omega, by go_num, ⟨W, cW, by rw [hm'.out], by rw [hm'.out]; exact own2⟩, k0, by omega, hb⟩
          case measure => simp [intOf]; omega
      · have hkl : k = l.length := by omega
        subst hkl
        rw [← HCL.out] at own
        have hcc := own_cap14 own
        go_wp2
        go_ret
        rw [HCL.out] at own ⊢
        rw [HCL.out] at hcc
        exact ⟨W, cW, rfl, hcc.1, own_rd own, .inr (fun ad e => by have := (own_blk own ad e).1; omega), hb⟩
  · have hne : (eCheck b r l != 0) = true := by simpa using he
    have hr : eClean b r l now = l := by unfold eClean; rw [if_pos he]
    rw [hr]
    generalize eCheck b r l = q at *
    clear he hr
    go_enter Try.func35, Try.ntmps35
    go_wp2_with fail
    generalize hV : World.alloc w _ = w1
    have hb1 : Below w.heap.size w w1 := by subst hV; (repeat (first | with_reducible exact Below.refl _ _ | with_reducible assumption | with_reducible refine Below.drew ?_ | with_reducible refine Below.drewN ?_ _ | with_reducible refine Below.alloc1 ?_ _ | with_reducible refine Below.setCell1 ?_ (by first | omega | (simp; done) | (simp; omega)) _ | with_reducible refine Below.step ?_ (by with_reducible assumption)))
    clear hV
    refine (hC _ hb1).mono ?_; rintro e x0 ⟨rfl, hx0⟩
    replace hb1 : Below w.heap.size w x0 := hb1.step hx0
    go_wp2
    go_ret
    exact ⟨A, c, rfl, hlc, (ha.below hb1).more hb1.size, .inl ⟨rfl, rfl⟩, hb1⟩
theorem r14_Clean_any (A : Option Addr) (c : Nat) (b r : Int) (l : List En) (now : Int) (w : World) (hl : l.length ≤ 1000) (hlc : l.length ≤ c) (ha : Rd w w.heap.size A (enR l)) :
    Calls Try.prog 35 #[.agg #[.int .i64 b, .int .i64 r], .slice A l.length c, .int .i64 now] w fun e w' => ∃ B d, e = .returned (.slice B (eClean b r l now).length d) ∧ (eClean b r l now).length ≤ d ∧ Rd w' w'.heap.size B (enR (eClean b r l now)) ∧ Below w.heap.size w w' :=
  (r14_Clean_fr A c b r l now w hl hlc ha).mono fun _ _ ⟨B, d, e, h1, h2, _, h3⟩ => ⟨B, d, e, h1, h2, h3⟩
abbrev ofV (b : Int) (l : List En) (s now : Int) : Value := .tuple #[stV (eOf b l s now), .int .i64 (lowB l s), .bool (hasB l s)]
set_option maxRecDepth 100000 in
set_option maxHeartbeats 8000000 in
theorem r14_of_any (A : Option Addr) (c : Nat) (b r : Int) (l : List En) (s now : Int) (w : World) (hl : l.length ≤ 1000) (ha : Rd w w.heap.size A (enR l)) :
    Calls Try.prog 86 #[.agg #[.int .i64 b, .int .i64 r], .slice A l.length c, .int .i64 s, .int .i64 now] w fun e w' => e = .returned (ofV b l s now) ∧ Below w.heap.size w w' := by
  have hU := fun W => r13_Full_any b r now W
  have HU := hide (fun (h : hasB l s = false) => show eOf b l s now = (b, bHeld now 0 1099511627776) from by unfold eOf; rw [h]; rfl)
  generalize bHeld now 0 1099511627776 = q at *
  unfold stV at hU
  dsimp only at hU
  go_enter Try.func86, Try.ntmps86
  go_wp2_with fail
  generalize hV : World.alloc (World.alloc w _) _ = w1
  have hb1 : Below w.heap.size w w1 := by subst hV; (repeat (first | with_reducible exact Below.refl _ _ | with_reducible assumption | with_reducible refine Below.drew ?_ | with_reducible refine Below.drewN ?_ _ | with_reducible refine Below.alloc1 ?_ _ | with_reducible refine Below.setCell1 ?_ (by first | omega | (simp; done) | (simp; omega)) _ | with_reducible refine Below.step ?_ (by with_reducible assumption)))
  have kb : Bk w1 w.heap.size 23 [.int .i64 b, .int .i64 r] := by subst hV; (repeat (first | with_reducible exact Bk.new' _ _ _ _ (by simp; done) | with_reducible assumption | with_reducible refine Bk.alloc ?_ _ | with_reducible refine Bk.drew ?_ | with_reducible refine Bk.drewN ?_ _ | with_reducible refine Bk.step ?_ (by with_reducible assumption) | with_reducible refine Bk.far ?_ (by first | omega | (simp; done) | (simp; omega)) _))
  have k0 : Bk w1 (w.heap.size + 1) 33 [.int .i64 0, .int .i64 0] := by subst hV; (repeat (first | with_reducible exact Bk.new' _ _ _ _ (by simp; done) | with_reducible assumption | with_reducible refine Bk.alloc ?_ _ | with_reducible refine Bk.drew ?_ | with_reducible refine Bk.drewN ?_ _ | with_reducible refine Bk.step ?_ (by with_reducible assumption) | with_reducible refine Bk.far ?_ (by first | omega | (simp; done) | (simp; omega)) _))
  clear hV
  go_loopw [11] (fun i wr => ∃ k : Nat, k ≤ l.length ∧ i = .int .i64 k ∧ Hid (∀ j (h : j < l.length), j < k → l[j].s < s) ∧ wr = w1) (fun i _ => l.length - (intOf i).toNat)
  case atStart => exact ⟨0, Nat.zero_le _, rfl, fun j _ hj => absurd hj (Nat.not_lt_zero _), rfl⟩
  case round =>
    obtain ⟨k, hk, rfl, HL, rfl⟩ := hrel
    have kb_0 := kb.cell 0; have kb_f0 := kb.frozen 0; have kb_1 := kb.cell 1; have kb_f1 := kb.frozen 1; simp only [List.set_cons_zero, List.set_cons_succ, List.getElem?_cons_zero, List.getElem?_cons_succ] at kb_0 kb_1; have lt_kb := kb.lt; have k0_0 := k0.cell 0; have k0_f0 := k0.frozen 0; have k0_1 := k0.cell 1; have k0_f1 := k0.frozen 1; simp only [List.set_cons_zero, List.set_cons_succ, List.getElem?_cons_zero, List.getElem?_cons_succ] at k0_0 k0_1; have lt_k0 := k0.lt
    by_cases hlt : k < l.length
    · obtain ⟨ad, rfl, hadb, c1, c2, c3⟩ := (ha.below hb1).en hlt
      have hki : (k : Int) < (l.length : Int) := by omega
      by_cases hx : l[k].s < s
      · have HN : Hid (∀ j (h : j < l.length), j < k + 1 → l[j].s < s) := fun j h hj => by
          rcases Nat.lt_or_eq_of_le (Nat.le_of_lt_succ hj) with h' | h'
          · exact HL.out j h h'
          · subst h'; exact hx
        generalize l[k] = x at *
        go_wp2
        go_roundw
        case rel => exact ⟨k + 1, by omega, by go_num, HN, by trivial⟩
        case measure => simp [intOf]; omega
      · have hlo : lowB l s = k := lowB_is hk HL.out (fun _ => by omega)
        have hx2 : s ≤ l[k].s := by omega
        have hha : hasB l s = (l[k].s == s) := by have := hasB_at (l := l) (s := s) (by omega); simp only [hlo] at this; exact this
        by_cases hxs : l[k].s = s
        · have hb2 : hasB l s = true := by rw [hha]; simpa using hxs
          have hO : eOf b l s now = (l[k].t, l[k].a) := by
            unfold eOf; rw [if_pos hb2, hlo, List.getD_eq_getElem?_getD, List.getElem?_eq_getElem hlt]; rfl
          have HO := hide hO
          have HLo := hide hlo
          have HB := hide hb2
          clear hO hha hlo hb2 HL
          generalize l[k] = x at *
          go_wp2
          exact bodyPost_ret (v := .tuple #[stV (x.t, x.a), .int .i64 k, .bool true]) (by simp only [results, Try.results86, stV]; go_simp) rfl ⟨by unfold ofV; rw [HO.out, HLo.out, HB.out], by (repeat (first | with_reducible exact Below.refl _ _ | with_reducible assumption | with_reducible refine Below.drew ?_ | with_reducible refine Below.drewN ?_ _ | with_reducible refine Below.alloc1 ?_ _ | with_reducible refine Below.setCell1 ?_ (by first | omega | (simp; done) | (simp; omega)) _ | with_reducible refine Below.step ?_ (by with_reducible assumption)))⟩
        · have hb2 : hasB l s = false := by rw [hha]; simpa using hxs
          have HO := hide (HU.out hb2)
          have HLo := hide hlo
          have HB := hide hb2
          clear hha hlo hb2 HL HU
          generalize l[k] = x at *
          go_wp2_with fail
          refine (hU _).mono ?_; rintro e x1 ⟨rfl, hx1⟩
          replace kb := kb.step hx1; (try clear kb_0 kb_f0 kb_1 kb_f1); have kb_0 := kb.cell 0; have kb_f0 := kb.frozen 0; have kb_1 := kb.cell 1; have kb_f1 := kb.frozen 1; simp only [List.set_cons_zero, List.set_cons_succ, List.getElem?_cons_zero, List.getElem?_cons_succ] at kb_0 kb_1; (try clear lt_kb); have lt_kb := kb.lt; replace k0 := k0.step hx1; (try clear k0_0 k0_f0 k0_1 k0_f1); have k0_0 := k0.cell 0; have k0_f0 := k0.frozen 0; have k0_1 := k0.cell 1; have k0_f1 := k0.frozen 1; simp only [List.set_cons_zero, List.set_cons_succ, List.getElem?_cons_zero, List.getElem?_cons_succ] at k0_0 k0_1; (try clear lt_k0); have lt_k0 := k0.lt
          replace hb1 : Below w.heap.size w x1 := hb1.step hx1
          clear hx1
          go_wp2
          exact bodyPost_ret (v := .tuple #[stV (b, q), .int .i64 k, .bool false]) (by simp only [results, Try.results86, stV]; go_simp) rfl ⟨by unfold ofV; rw [HO.out, HLo.out, HB.out], by (repeat (first | with_reducible exact Below.refl _ _ | with_reducible assumption | with_reducible refine Below.drew ?_ | with_reducible refine Below.drewN ?_ _ | with_reducible refine Below.alloc1 ?_ _ | with_reducible refine Below.setCell1 ?_ (by first | omega | (simp; done) | (simp; omega)) _ | with_reducible refine Below.step ?_ (by with_reducible assumption)))⟩
    · have hkl : k = l.length := by omega
      have hlo : lowB l s = k := lowB_is hk HL.out (fun h => absurd h hlt)
      have hb2 : hasB l s = false := hasB_end (by omega)
      have HO := hide (HU.out hb2)
      have HLo := hide hlo
      have HB := hide hb2
      have hki : ¬ (k : Int) < (l.length : Int) := by omega
      clear hlo hb2 HL HU
      subst hkl
      go_wp2_with fail
      refine (hU _).mono ?_; rintro e x1 ⟨rfl, hx1⟩
      replace kb := kb.step hx1; (try clear kb_0 kb_f0 kb_1 kb_f1); have kb_0 := kb.cell 0; have kb_f0 := kb.frozen 0; have kb_1 := kb.cell 1; have kb_f1 := kb.frozen 1; simp only [List.set_cons_zero, List.set_cons_succ, List.getElem?_cons_zero, List.getElem?_cons_succ] at kb_0 kb_1; (try clear lt_kb); have lt_kb := kb.lt; replace k0 := k0.step hx1; (try clear k0_0 k0_f0 k0_1 k0_f1); have k0_0 := k0.cell 0; have k0_f0 := k0.frozen 0; have k0_1 := k0.cell 1; have k0_f1 := k0.frozen 1; simp only [List.set_cons_zero, List.set_cons_succ, List.getElem?_cons_zero, List.getElem?_cons_succ] at k0_0 k0_1; (try clear lt_k0); have lt_k0 := k0.lt
      replace hb1 : Below w.heap.size w x1 := hb1.step hx1
      clear hx1
      go_wp2
      exact bodyPost_ret (v := .tuple #[stV (b, q), .int .i64 l.length, .bool false]) (by simp only [results, Try.results86, stV]; go_simp) rfl ⟨by unfold ofV; rw [HO.out, HLo.out, HB.out], by (repeat (first | with_reducible exact Below.refl _ _ | with_reducible assumption | with_reducible refine Below.drew ?_ | with_reducible refine Below.drewN ?_ _ | with_reducible refine Below.alloc1 ?_ _ | with_reducible refine Below.setCell1 ?_ (by first | omega | (simp; done) | (simp; omega)) _ | with_reducible refine Below.step ?_ (by with_reducible assumption)))⟩
end Go.Proofs.Ytolpiaehleefbaa
