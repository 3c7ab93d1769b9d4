/- The reference's wheel (callboyref15): Go, Set. -/
import Derived.Test.YtbljiohdfjmhfaaRf15
namespace Go.Proofs.Ytbljiohdfjmhfaa
open Go.RowKit Go.Sort Go.Maps
set_option linter.unusedSimpArgs false
set_option linter.unusedVariables false

theorem rw_Go_no (n : Nat) (now t : Int) (A : Option Addr) (k c : Nat) (hno : t ≤ now ∨ 1099511627776 < t) (w : World) :
    Calls Try.prog 15 #[rwV n now A k c, .int .i64 t] w fun e w' => e = .returned (.tuple #[rwV n now A k c, .slice none 0 0]) ∧ Below w.heap.size w w' := by
  have cs : t ≤ now ∨ (now < t ∧ 1099511627776 < t) := by omega
  clear hno
  rcases cs with q | ⟨q1, q2⟩
  all_goals
    go_enter Try.func15, Try.ntmps15
    go_wp2
    exact bodyPost_ret (v := .tuple #[rwV n now A k c, .slice none 0 0]) (by simp only [results, Try.results15]; go_simp) rfl ⟨rfl, by (repeat (first | with_reducible exact Below.refl _ _ | with_reducible assumption | with_reducible refine Below.drew ?_ | with_reducible refine Below.drewN ?_ _ | with_reducible refine Below.alloc1 ?_ _ | with_reducible refine Below.setCell1 ?_ (by first | omega | (simp; done) | (simp; omega)) _ | with_reducible refine Below.step ?_ (by with_reducible assumption)))⟩
theorem rw_Go (n : Nat) (now t : Int) (A : Option Addr) (c : Nat) (l : IL) (hs : SoR l) (hl : l.length ≤ 1000) (hlc : l.length ≤ c) (ht : now < t ∧ t ≤ 1099511627776) (w : World) (hA : Rd w w.heap.size A (duR l)) :
    Calls Try.prog 15 #[rwV n now A l.length c, .int .i64 t] w fun e w' => ∃ k B, k ≤ l.length ∧ l.take k = l.filter (fun p => decide (p.2 ≤ t)) ∧ l.drop k = l.filter (fun p => decide (t < p.2)) ∧
      e = .returned (.tuple #[rwV n t B (l.length - k) (c - k), .slice A k c]) ∧ Rd w' w'.heap.size B (duR (l.drop k)) ∧ SameB A B ∧ Below w.heap.size w w' := by
  obtain ⟨q1, q2⟩ := ht
  have hsz : ∀ W, (sizeOf 65).run Try.prog W = .ok 2 W := fun W => by kernel_rfl
  have hel : Try.prog.elem 28 = 65 := by kernel_rfl
  have HO := hide hs
  clear hs
  go_enter Try.func15, Try.ntmps15
  go_wp2_with fail
  generalize hV : World.alloc (World.alloc w _) _ = w1
  have hb1 : Below w.heap.size w w1 := by subst hV; (repeat (first | with_reducible exact Below.refl _ _ | with_reducible assumption | with_reducible refine Below.drew ?_ | with_reducible refine Below.drewN ?_ _ | with_reducible refine Below.alloc1 ?_ _ | with_reducible refine Below.setCell1 ?_ (by first | omega | (simp; done) | (simp; omega)) _ | with_reducible refine Below.step ?_ (by with_reducible assumption)))
  have k0 : Bk w1 w.heap.size 30 [.int .i64 n, .int .i64 t, .slice A l.length c] := by subst hV; (repeat (first | with_reducible exact Bk.new' _ _ _ _ (by simp; done) | with_reducible assumption | with_reducible refine Bk.alloc ?_ _ | with_reducible refine Bk.drew ?_ | with_reducible refine Bk.drewN ?_ _ | with_reducible refine Bk.step ?_ (by with_reducible assumption) | with_reducible refine Bk.far ?_ (by first | omega | (simp; done) | (simp; omega)) _))
  have k1 : Bk w1 (w.heap.size + 1) 30 [.int .i64 0, .int .i64 0, .slice none 0 0] := by subst hV; (repeat (first | with_reducible exact Bk.new' _ _ _ _ (by simp; done) | with_reducible assumption | with_reducible refine Bk.alloc ?_ _ | with_reducible refine Bk.drew ?_ | with_reducible refine Bk.drewN ?_ _ | with_reducible refine Bk.step ?_ (by with_reducible assumption) | with_reducible refine Bk.far ?_ (by first | omega | (simp; done) | (simp; omega)) _))
  have r1 := hA.step hb1
  have r0 := hA.below hb1
  have hs1 := hb1.size
  clear hV hA
  have k0_0 := k0.cell 0; have k0_f0 := k0.frozen 0; have k0_1 := k0.cell 1; have k0_f1 := k0.frozen 1; have k0_2 := k0.cell 2; have k0_f2 := k0.frozen 2; simp only [List.set_cons_zero, List.set_cons_succ, List.getElem?_cons_zero, List.getElem?_cons_succ] at k0_0 k0_1 k0_2; have lt_k0 := k0.lt; have k1_0 := k1.cell 0; have k1_f0 := k1.frozen 0; have k1_1 := k1.cell 1; have k1_f1 := k1.frozen 1; have k1_2 := k1.cell 2; have k1_f2 := k1.frozen 2; simp only [List.set_cons_zero, List.set_cons_succ, List.getElem?_cons_zero, List.getElem?_cons_succ] at k1_0 k1_1 k1_2; have lt_k1 := k1.lt
  go_loopw [6] (fun i wr => ∃ k : Nat, k ≤ l.length ∧ i = .int .i64 k ∧ (∀ p ∈ l.take k, p.2 ≤ t) ∧ wr = w1) (fun i _ => l.length - (intOf i).toNat)
  case atStart => exact ⟨0, Nat.zero_le _, rfl, by simp, rfl⟩
  case round =>
    obtain ⟨k, hk, rfl, hno, rfl⟩ := hrel
    have HN := hide hno
    clear hno
    by_cases hlt : k < l.length ∧ l[k]!.2 ≤ t
    · obtain ⟨hlt, hle⟩ := hlt
      obtain ⟨ad, rfl, hab, x0, x1⟩ := r1.du hlt
      have HS := hide (take_snocL l k hlt)
      rw [getElem!_pos l k hlt] at hle
      generalize l[k] = x at *
      obtain ⟨x1, x2⟩ := x
      simp only at x0 x1 hle
      go_wp2
      go_roundw
      case rel => exact ⟨k + 1, by omega, by go_num, by
        rw [HS.out]
        intro p hp
        rcases List.mem_append.1 hp with hp | hp
        · exact HN.out p hp
        · simp only [List.mem_singleton] at hp; subst hp; exact hle, by first | rfl | trivial⟩
      case measure => simp [intOf]; omega
    · have HK : Hid (k = l.length ∨ ∃ h : k < l.length, t < l[k].2) := by
        unfold Hid
        by_cases h : k < l.length
        · refine .inr ⟨h, ?_⟩
          have : ¬ l[k]!.2 ≤ t := fun c => hlt ⟨h, c⟩
          rw [getElem!_pos l k h] at this
          omega
        · exact .inl (by omega)
      have HP := hide (part_at (fun p => decide (p.2 ≤ t)) l k (fun p hp => by simpa using HN.out p hp) (fun p hp => by have := so_late HO.out t HK.out p hp; simp; omega))
      obtain ⟨st1, st2⟩ := to_runA Try.underlying28 hel hsz A k l.length c (k : Int) rfl (by omega)
      obtain ⟨A2, hA2, hF2, sf1, sf2⟩ := from_runF Try.underlying28 hel hsz A k l.length c hk hlc
      have rB := hA2 _ _ _ r0 (by rw [duR_length]; omega)
      rw [duR_drop] at rB
      clear hA2 hsz hel
      have HQ := hide (show l.drop k = l.filter (fun p => decide (t < p.2)) by
        rw [HP.out.2]
        refine List.filter_congr fun p _ => ?_
        by_cases h : p.2 ≤ t <;> simp [h] <;> omega)
      by_cases hkl : k < l.length
      · obtain ⟨ad, rfl, hab, x0, x1⟩ := r1.du hkl
        have hgt : t < l[k].2 := by rcases HK.out with e | ⟨_, e⟩; omega; exact e
        clear hlt
        generalize l[k] = x at *
        go_wp2
        refine bodyPost_ret (v := .tuple #[rwV n t A2 (l.length - k) (c - k), .slice (some ad) k c]) (by simp only [results, Try.results15]; go_simp) rfl ?_
        have hbW := fun {W' : World} (h : Below w.heap.size wr W') => (rB.below h).more (show w.heap.size ≤ W'.heap.size from Nat.le_trans hs1 h.size)
        exact ⟨k, A2, hk, HP.out.1, HQ.out, rfl, hbW (by (repeat (first | with_reducible exact Below.refl _ _ | with_reducible assumption | with_reducible refine Below.drew ?_ | with_reducible refine Below.drewN ?_ _ | with_reducible refine Below.alloc ?_ (by first | omega | (simp; done) | (simp; omega)) _ | with_reducible refine Below.setCell ?_ (by first | omega | (simp; done) | (simp; omega)) _ | with_reducible refine Below.then_ ?_ (by with_reducible assumption) (by first | omega | (simp; done) | (simp; omega))))), hF2, by (repeat (first | with_reducible exact Below.refl _ _ | with_reducible assumption | with_reducible refine Below.drew ?_ | with_reducible refine Below.drewN ?_ _ | with_reducible refine Below.alloc1 ?_ _ | with_reducible refine Below.setCell1 ?_ (by first | omega | (simp; done) | (simp; omega)) _ | with_reducible refine Below.step ?_ (by with_reducible assumption)))⟩
      · go_wp2
        refine bodyPost_ret (v := .tuple #[rwV n t A2 (l.length - k) (c - k), .slice A k c]) (by simp only [results, Try.results15]; go_simp) rfl ?_
        have hbW := fun {W' : World} (h : Below w.heap.size wr W') => (rB.below h).more (show w.heap.size ≤ W'.heap.size from Nat.le_trans hs1 h.size)
        exact ⟨k, A2, hk, HP.out.1, HQ.out, rfl, hbW (by (repeat (first | with_reducible exact Below.refl _ _ | with_reducible assumption | with_reducible refine Below.drew ?_ | with_reducible refine Below.drewN ?_ _ | with_reducible refine Below.alloc ?_ (by first | omega | (simp; done) | (simp; omega)) _ | with_reducible refine Below.setCell ?_ (by first | omega | (simp; done) | (simp; omega)) _ | with_reducible refine Below.then_ ?_ (by with_reducible assumption) (by first | omega | (simp; done) | (simp; omega))))), hF2, by (repeat (first | with_reducible exact Below.refl _ _ | with_reducible assumption | with_reducible refine Below.drew ?_ | with_reducible refine Below.drewN ?_ _ | with_reducible refine Below.alloc1 ?_ _ | with_reducible refine Below.setCell1 ?_ (by first | omega | (simp; done) | (simp; omega)) _ | with_reducible refine Below.step ?_ (by with_reducible assumption)))⟩
end Go.Proofs.Ytbljiohdfjmhfaa
