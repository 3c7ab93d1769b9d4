/- Package wheel: Go, walked. -/
import Derived.Test.YtbljiohdfjmhfaaWh7
namespace Go.Proofs.Ytbljiohdfjmhfaa
open Go.RowKit Go.Sort Go.Maps
open Dn (ltP sorted_any)
set_option linter.unusedSimpArgs false
set_option linter.unusedVariables false

theorem own_fp {fp : List Nat} {a b : World} {base n c : Nat} {e : TypeId} {size : Nat} {A : Option Addr} {xs : List Value} (h : FpW fp a b) (ho : a.ownsRow base e size (.slice A n c) n xs) (hn : ∀ ad, A = some ad → ad.block ∉ fp) : b.ownsRow base e size (.slice A n c) n xs := by
  obtain ⟨h1, h2⟩ := ho
  refine ⟨h1, h2.imp id ?_⟩
  rintro ⟨g, cap, cur, hv, hg, hc, hr⟩
  refine ⟨g, cap, cur, hv, hg, ?_, hr⟩
  injection hv with hv
  rw [h.block g (Array.getElem?_eq_some_iff.1 hc).1 (hn _ hv)]
  exact hc
theorem FpW.low {fp : List Nat} {a b c : World} (h : FpW fp a b) (k : Below a.heap.size b c) : FpW fp a c :=
  ⟨k.os.trans h.os, k.tape.trans h.tape, k.output.trans h.output, Nat.le_trans h.size k.size, fun i hi hn => (k.block i hi).trans (h.block i hi hn)⟩
theorem Wh.low {W W' : World} {g wm : Nat} {ad : Addr} {rs : List Nat} {S : WS} {B : Nat} (h : Wh W g wm ad rs S) (hb : Below B W W') (hl : ∀ i ∈ fpOf g wm ad rs, i < B) : Wh W' g wm ad rs S :=
  h.frame (fp := (List.range W.heap.size).filter (fun i => decide (B ≤ i))) ⟨hb.os, hb.tape, hb.output, hb.size, fun i hi hn => hb.block i (by
    refine Nat.lt_of_not_le fun h => hn (List.mem_filter.2 ⟨List.mem_range.2 hi, by simpa using h⟩))⟩ fun i hi hm => by
    have := hl i hi
    have h2 := (List.mem_filter.1 hm).2
    simp at h2
    omega
theorem wh_Go_no (W : World) (g wm : Nat) (ad : Addr) (rs : List Nat) (S : WS) (now : Int) (h : Wh W g wm ad rs S) (hno : now ≤ S.now ∨ 1099511627776 < now) :
    Calls Try.prog 14 #[.pointer (some ⟨g, 0, none⟩), .int .i64 now] W fun e w' => e = .returned (.slice none 0 0) ∧ Below W.heap.size W w' := by
  obtain ⟨⟨c, hc⟩, h1, h2, h3, h4, h5, h6, h7, h8⟩ := h
  have c2 := hc.cell 2
  simp at c2
  have cs : now ≤ S.now ∨ (S.now < now ∧ 1099511627776 < now) := by omega
  clear hno
  rcases cs with q | ⟨q1, q2⟩
  all_goals
    go_enter Try.func14, Try.ntmps14
    go_wp2
    go_ret
    exact ⟨rfl, by (repeat (first | with_reducible exact Below.refl _ _ | with_reducible assumption | with_reducible refine Below.drew ?_ | with_reducible refine Below.drewN ?_ _ | with_reducible refine Below.alloc1 ?_ _ | with_reducible refine Below.setCell1 ?_ (by first | omega | (simp; done) | (simp; omega)) _ | with_reducible refine Below.step ?_ (by with_reducible assumption)))⟩
theorem wh_Go (W : World) (g wm : Nat) (ad : Addr) (rs : List Nat) (S : WS) (now : Int) (h : Wh W g wm ad rs S) (hno : S.now < now ∧ now ≤ 1099511627776) :
    Calls Try.prog 14 #[.pointer (some ⟨g, 0, none⟩), .int .i64 now] W fun e w' => ∃ A c l, e = .returned (.slice A l.length c) ∧ l.Perm (S.l.filter (fun p => decide (p.2 ≤ now))) ∧ l.Pairwise (fun p q => ¬ ltP q p) ∧ Rd w' w'.heap.size A (duR l) ∧ Fr W.heap.size A ∧
      Wh w' g wm ad rs { S with now := now, l := S.l.filter (fun p => decide (now < p.2)) } ∧ FpW (fpOf g wm ad rs) W w' := by
  obtain ⟨i0, hi0, hz0, hz1, hz2⟩ := info_parts due_info
  have few := h.few
  have hn := h.hn
  have hnow := h.hnow
  have hup := fun W' (hb : Below W.heap.size W W') i hi => wh_upto W' g wm ad rs S i hi now (h.step hb)
  have hlt := h.lt
  obtain ⟨T, hT⟩ : ∃ T : Nat, min (now - S.now) (S.n : Int) = T := ⟨(min (now - S.now) (S.n : Int)).toNat, by omega⟩
  have hTn : T ≤ S.n := by omega
  have hsaw := saw_all (n := S.n) (now := now) (was := S.now) hn.1 T hT.symm S.l (fun p hp => (h.ok p hp).2.2.1)
  have HS := hide hsaw
  have HH := hide h
  clear hsaw
  obtain ⟨c, hc⟩ := h.blk
  clear h
  have c0 := hc.cell 0
  have c2 := hc.cell 2
  simp at c0 c2
  obtain ⟨q1, q2⟩ := hno
  have hgl := hc.lt
  have HT := hide hT
  go_enter Try.func14, Try.ntmps14
  go_wp2_with fail
  (refine wp_region_qb (by kernel_rfl) (by kernel_rfl) (fun kq => ?_); (try dsimp only [List.append]); (repeat (go_big_quiet_step ((fail)))); refine wpQuiet_nil ?_; intro wq hwq; have hbq := below_of_class hwq; clear hwq kq)
  try simp only [HT.out]
  clear hT
  go_wp2_with fail
  go_loopw [6, 37] (fun o i wr => ∃ (k : Nat) (l : IL) (A : Option Addr) (c : Nat), k ≤ T ∧ i = .int .i64 k ∧ o = .slice A l.length c ∧ wr.ownsRow W.heap.size 62 2 (.slice A l.length c) l.length (duR l) ∧
      l.Perm (sawL S.n k now S.l) ∧ Below W.heap.size W wr) (fun _ i _ => T - (intOf i).toNat)
  case atStart => exact ⟨0, [], none, 0, Nat.zero_le _, rfl, rfl, World.ownsRow_nil _ _ _ _, by
    have : sawL S.n 0 now S.l = [] := List.filter_eq_nil_iff.2 fun p _ => by simp
    rw [this], hbq⟩
  case round =>
    obtain ⟨k, l, A, c', hk, rfl, rfl, own, hp, hb⟩ := hrel
    have fl : l.length ≤ 256 := by have := hp.length_eq; have := saw_few S.n k now S.l; omega
    by_cases hlt2 : k < T
    · have hlt' : (k : Int) < T := by omega
      obtain ⟨i, hi, hin⟩ := mod_nat (a := now - (k : Int)) (n := S.n) hn.1
      have hpos : 0 ≤ now - (k : Int) := by have := HT.out; omega
      have hrem : Int.tmod (now - (k : Int)) S.n = i := by rw [rem_pos hpos]; exact hi
      have hu := hup wr hb i hin
      have hstep := saw_step (n := S.n) (k := k) (i := i) (now := now) (by omega) hi S.l
      have HI := hide hi
      clear hup hi
      have kc0 : wr.cell? ⟨g, 0, none⟩ = some (.slice (some ad) S.n c) := (hb.cell (p := ⟨g, 0, none⟩) hc.lt).trans c0
      go_wp2_with fail
      refine hu.mono ?_
      rintro e w1 ⟨A1, c1, m, rfl, own1, hp1, hb1⟩
      have fm : m.length ≤ 256 := by have := hp1.length_eq; have := slotL_few (n := S.n) (i := i) (l := S.l); have := List.length_filter_le (fun p : Int × Int => decide (p.2 ≤ now)) (slotL S.n i S.l); unfold upL at *; omega
      have hml := duR_length m
      have sz := hb.size
      have sz1 := hb1.size
      have own' : w1.ownsRow W.heap.size 62 2 (.slice A l.length c') l.length (duR l) := own_below own hb1 (Nat.le_refl _)
      go_wp2_with (first
        | (at_builtin; refine wpList_app3 rfl (.tmp 40) (.tmp 52) 40 rfl W.heap.size 62 i0 _ 2 16 Try.underlying40 hi0 hz0 hz1 hz2 rfl (by omega) A l.length c' (duR l) rfl own' A1 m.length c1 (duR m) w1.heap.size rfl (by omega) (own_rd own1) (duR_one _) (by unfold maxLen; omega) (by omega) (by omega) ?_; intro A2 cap w2 own2 hb2 hgr2)
        | go_in)
      have hb3 : Below W.heap.size W w2 := (hb.then_ hb1 sz).trans hb2
      go_roundw
      case rel => exact ⟨k + 1, l ++ m, A2, cap, by omega, by go_num, by rw [List.length_append], by rw [List.length_append]; simpa [duR] using own2, (hp.append hp1).trans hstep, hb3⟩
      case measure => simp [intOf]; omega
    · have hkn : k = T := by omega
      have hlt' : ¬ ((k : Int) < T) := by omega
      clear hup
      subst hkn
      rw [HS.out] at hp
      have hh := HH.out.step hb
      have hfr := own_fr own
      have hoff : ∀ ad', A = some ad' → ad'.block ∉ fpOf g wm ad rs := fun ad' e hm => by
        have := hlt _ hm
        have := hfr ad' e
        omega
      clear hbq
      go_wp2_with fail
      obtain ⟨wo, hwo⟩ : ∃ x, x = wr := ⟨_, rfl⟩
      subst hwo
      go_loopw [57] (fun i wr' => ∃ j : Nat, j ≤ l.length ∧ i = .int .i64 j ∧ Wh wr' g wm ad rs { S with l := dropAll (l.take j) S.l } ∧ FpW (fpOf g wm ad rs) wo wr') (fun i _ => l.length - (intOf i).toNat)
      case atStart => exact ⟨0, Nat.zero_le _, rfl, by
        have : dropAll (l.take 0) S.l = S.l := List.filter_eq_self.2 fun p _ => by simp
        rw [this]; exact hh, FpW.refl _ _⟩
      case round =>
        obtain ⟨j, hj, rfl, hw, f⟩ := hrel
        have own3 := own_fp f own hoff
        have sz3 := f.size
        have szb := hb.size
        by_cases hjl : j < l.length
        · have hjl' : (j : Int) < l.length := by omega
          obtain ⟨a, rfl, hab, q0, q1'⟩ := (own_rd own3).du hjl
          have hm : l[j] ∈ S.l := (List.mem_filter.1 (hp.mem_iff.1 (List.getElem_mem hjl))).1
          have hok := HH.out.ok _ hm
          have hwf : (Lit.int .i64 l[j].1).wf = true := wfi (by omega)
          have hds := drop_step (l.take j) l[j] S.l
          rw [← take_snocL l j hjl] at hds
          have HD := hide hds
          clear hds hm hok
          generalize l[j] = x at *
          obtain ⟨x1, x2⟩ := x
          simp only at q0 q1' hwf HD
          go_wp2_with fail
          refine (wh_Stop _ g wm ad rs { S with l := dropAll (l.take j) S.l } x1 hwf (hw.step ?_)).mono ?_
          · (repeat (first | with_reducible exact Below.refl _ _ | with_reducible assumption | with_reducible refine Below.drew ?_ | with_reducible refine Below.drewN ?_ _ | with_reducible refine Below.alloc1 ?_ _ | with_reducible refine Below.setCell1 ?_ (by first | omega | (simp; done) | (simp; omega)) _ | with_reducible refine Below.step ?_ (by with_reducible assumption)))
          · rintro e w2 ⟨rfl, h2, f2⟩
            have f3 : FpW (fpOf g wm ad rs) wo w2 := (f.below (by (repeat (first | with_reducible exact Below.refl _ _ | with_reducible assumption | with_reducible refine Below.drew ?_ | with_reducible refine Below.drewN ?_ _ | with_reducible refine Below.alloc1 ?_ _ | with_reducible refine Below.setCell1 ?_ (by first | omega | (simp; done) | (simp; omega)) _ | with_reducible refine Below.step ?_ (by with_reducible assumption))))).trans f2
            go_wp2
            go_roundw
            case rel => exact ⟨j + 1, by omega, by go_num, by rw [← HD.out]; exact h2, f3⟩
            case measure => simp [intOf]; omega
        · have hjn : j = l.length := by omega
          have hjl' : ¬ ((j : Int) < l.length) := by omega
          subst hjn
          rw [List.take_length] at hw
          have hdd := drop_due HH.out.nodup hp
          rw [hdd] at hw
          have hgt : ∀ p ∈ S.l.filter (fun p => decide (now < p.2)), now < p.2 := fun p hp => by simpa using (List.mem_filter.1 hp).2
          have hlat := hw.later now (by omega) hgt
          obtain ⟨cc, kk⟩ := hw.blk
          have hbnd : ∀ p ∈ l, 0 ≤ p.1 ∧ p.1 ≤ 255 := fun p hpm => by
            have := HH.out.ok p (List.mem_filter.1 (hp.mem_iff.1 hpm)).1
            omega
          have own4 : (wr.setCell ⟨g, 2, none⟩ (.int .i64 now)).ownsRow W.heap.size 62 2 (.slice A l.length c') l.length (duR l) := own_far own3 hgl _
          have sz4 : (wr.setCell ⟨g, 2, none⟩ (.int .i64 now)).heap.size = wr.heap.size := by simp [World.setCell]
          have hst := sorted_any (wr.setCell ⟨g, 2, none⟩ (.int .i64 now)) W.heap.size A c' l hbnd (by omega) (by omega) own4
          have f4 : FpW (fpOf g wm ad rs) W (wr.setCell ⟨g, 2, none⟩ (.int .i64 now)) := ((FpW.of hb).trans f).trans
            ⟨rfl, rfl, rfl, by rw [sz4]; exact Nat.le_refl _, fun i hi hn => Below.heap_setCell _ _ _ _ (by intro e; exact hn (by simp only at e; rw [e]; simp [fpOf]))⟩
          simp only at kk
          have kk_0 := kk.cell 0; have kk_f0 := kk.frozen 0; have kk_1 := kk.cell 1; have kk_f1 := kk.frozen 1; have kk_2 := kk.cell 2; have kk_f2 := kk.frozen 2; simp only [List.set_cons_zero, List.set_cons_succ, List.getElem?_cons_zero, List.getElem?_cons_succ] at kk_0 kk_1 kk_2; have lt_kk := kk.lt
          clear hw own own3 own4 hdd hgt
          go_wp2_with fail
          refine hst.mono ?_
          rintro e w1 ⟨l', rfl, p1, p2, p3, p4⟩
          have hlow := hlat.low p4 hlt
          go_wp2
          go_ret
          exact ⟨A, c', l', by rw [p1.length_eq]; rfl, p1.trans hp, p2, p3, hfr, hlow, f4.low p4⟩
end Go.Proofs.Ytbljiohdfjmhfaa
