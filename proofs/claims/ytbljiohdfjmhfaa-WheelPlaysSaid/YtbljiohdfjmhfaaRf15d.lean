/- The reference's wheel (callboyref15): Next, When, Load. -/
import Derived.Test.YtbljiohdfjmhfaaRf15
import Derived.Test.YtbljiohdfjmhfaaWh9
import Derived.StillTailTactics
import Derived.Deep.DeepCutAuto
namespace Go.Proofs.Ytbljiohdfjmhfaa
open Go.RowKit Go.Maps
set_option linter.unusedSimpArgs false
set_option linter.unusedVariables false
theorem rw_Next (n : Nat) (now : Int) (A : Option Addr) (c : Nat) (l : IL) (w : World) (hA : Rd w w.heap.size A (duR l)) :
    Calls Try.prog 20 #[rwV n now A l.length c] w fun e w' => e = .returned (.tuple #[.int .i64 (l.headD (0, 0)).2, .bool (!l.isEmpty)]) ∧ Below w.heap.size w w' := by
  cases l with
  | nil =>
    go_enter Try.func20, Try.ntmps20
    go_wp2
    go_ret2
    exact ⟨rfl, by (repeat (first | with_reducible exact Below.refl _ _ | with_reducible assumption | with_reducible refine Below.drew ?_ | with_reducible refine Below.drewN ?_ _ | with_reducible refine Below.alloc1 ?_ _ | with_reducible refine Below.setCell1 ?_ (by first | omega | (simp; done) | (simp; omega)) _ | with_reducible refine Below.step ?_ (by with_reducible assumption)))⟩
  | cons p l =>
    obtain ⟨a, rfl, hab, q0, q1⟩ := hA.du (k := 0) (by simp)
    have ea : a.add 0 = a := by simp [Addr.add]
    simp only [Nat.zero_mul, List.getElem_cons_zero] at q0 q1
    rw [ea] at q0 q1
    have hpos : 0 < (p :: l).length := by simp
    have hne : ((((p :: l).length : Nat) : Int) == 0) = false := by simp; omega
    clear hA
    generalize (p :: l).length = m at *
    have hpos' : (0 : Int) < m := by omega
    go_enter Try.func20, Try.ntmps20
    go_wp2
    go_ret2
    exact ⟨rfl, by (repeat (first | with_reducible exact Below.refl _ _ | with_reducible assumption | with_reducible refine Below.drew ?_ | with_reducible refine Below.drewN ?_ _ | with_reducible refine Below.alloc1 ?_ _ | with_reducible refine Below.setCell1 ?_ (by first | omega | (simp; done) | (simp; omega)) _ | with_reducible refine Below.step ?_ (by with_reducible assumption)))⟩
theorem rw_When (n : Nat) (now id : Int) (A : Option Addr) (c : Nat) (l : IL) (hl : l.length ≤ 1000) (w : World) (hA : Rd w w.heap.size A (duR l)) :
    Calls Try.prog 22 #[rwV n now A l.length c, .int .i64 id] w fun e w' => e = .returned (.tuple #[.int .i64 ((lookK id l).getD 0), .bool (lookK id l).isSome]) ∧ Below w.heap.size w w' := by
  go_enter Try.func22, Try.ntmps22
  go_wp2_with fail
  generalize hV : World.alloc w _ = w1
  have hb1 : Below w.heap.size w w1 := by subst hV; (repeat (first | with_reducible exact Below.refl _ _ | with_reducible assumption | with_reducible refine Below.drew ?_ | with_reducible refine Below.drewN ?_ _ | with_reducible refine Below.alloc1 ?_ _ | with_reducible refine Below.setCell1 ?_ (by first | omega | (simp; done) | (simp; omega)) _ | with_reducible refine Below.step ?_ (by with_reducible assumption)))
  have k0 : Bk w1 w.heap.size 30 [.int .i64 n, .int .i64 now, .slice A l.length c] := by subst hV; (repeat (first | with_reducible exact Bk.new' _ _ _ _ (by simp; done) | with_reducible assumption | with_reducible refine Bk.alloc ?_ _ | with_reducible refine Bk.drew ?_ | with_reducible refine Bk.drewN ?_ _ | with_reducible refine Bk.step ?_ (by with_reducible assumption) | with_reducible refine Bk.far ?_ (by first | omega | (simp; done) | (simp; omega)) _))
  have r1 := hA.step hb1
  clear hV hA
  have k0_0 := k0.cell 0; have k0_f0 := k0.frozen 0; have k0_1 := k0.cell 1; have k0_f1 := k0.frozen 1; have k0_2 := k0.cell 2; have k0_f2 := k0.frozen 2; simp only [List.set_cons_zero, List.set_cons_succ, List.getElem?_cons_zero, List.getElem?_cons_succ] at k0_0 k0_1 k0_2; have lt_k0 := k0.lt
  go_loopw [6] (fun i wr => ∃ k : Nat, k ≤ l.length ∧ i = .int .i64 k ∧ (∀ p ∈ l.take k, p.1 ≠ id) ∧ wr = w1) (fun i _ => l.length - (intOf i).toNat)
  case atStart => exact ⟨0, Nat.zero_le _, rfl, by simp, rfl⟩
  case round =>
    obtain ⟨k, hk, rfl, hno, rfl⟩ := hrel
    have HN := hide hno
    clear hno
    by_cases hlt : k < l.length
    · obtain ⟨ad, rfl, hab, q0, q1⟩ := r1.du hlt
      have HS := hide (take_snocL l k hlt)
      have HF : Hid (l[k].1 = id → lookK id l = some l[k].2) := by
        unfold Hid
        intro e
        have hd : l.find? (fun p => p.1 == id) = (l.take k ++ l[k] :: l.drop (k + 1)).find? (fun p => p.1 == id) := by rw [← List.drop_eq_getElem_cons hlt, List.take_append_drop]
        unfold lookK
        rw [hd, List.find?_append, List.find?_eq_none.2 (fun p hp => by simpa using HN.out p hp), Option.none_or, List.find?_cons_of_pos (by simpa using e)]
        rfl
      generalize l[k] = x at *
      obtain ⟨x1, x2⟩ := x
      simp only at q0 q1 HF
      by_cases he : x1 = id
      · have hb : (x1 == id) = true := by simpa using he
        have hf := HF.out he
        go_wp2
        go_ret2
        exact ⟨by rw [hf]; rfl, hb1⟩
      · have hb : (x1 == id) = false := by simpa using he
        go_wp2
        go_roundw
        case rel => exact ⟨k + 1, by omega, by go_num, by
          rw [HS.out]
          intro p hp
          rcases List.mem_append.1 hp with hp | hp
          · exact HN.out p hp
          · simp only [List.mem_singleton] at hp; subst hp; exact he, by first | rfl | trivial⟩
        case measure => simp [intOf]; omega
    · have hn := HN.out
      rw [List.take_of_length_le (by omega)] at hn
      have hf : lookK id l = none := by
        unfold lookK
        rw [List.find?_eq_none.2 (fun p hp => by simpa using hn p hp)]; rfl
      clear hn
      go_wp2
      go_ret2
      exact ⟨by rw [hf]; rfl, hb1⟩
theorem ld_length (n : Nat) (l : IL) : (loadL n n l).length = n := by simp [loadL]
theorem ld_get (n i : Nat) (l : IL) (h : i < n) : (loadL n n l)[i]? = some ((slotL n i l).length : Int) := by
  unfold loadL
  rw [List.getElem?_map, List.getElem?_range h]; rfl
theorem ld_nil (n : Nat) : loadL n n [] = List.replicate n 0 := by
  unfold loadL
  rw [List.eq_replicate_iff]
  refine ⟨by simp, fun b hb => ?_⟩
  obtain ⟨i, _, rfl⟩ := List.mem_map.1 hb
  rfl
theorem ld_next (n : Nat) (l : IL) (p : Int × Int) (i : Nat) (hi : p.2 % (n : Int) = i) : loadL n n (l ++ [p]) = (loadL n n l).set i (((slotL n i l).length : Int) + 1) := by
  apply List.ext_getElem?
  intro j
  by_cases hj : j < n
  · rw [ld_get n j _ hj, List.getElem?_set]
    have e : slotL n j (l ++ [p]) = slotL n j l ++ (if p.2 % (n : Int) = j then [p] else []) := by
      unfold slotL
      rw [List.filter_append]
      by_cases h : p.2 % (n : Int) = j <;> simp [h]
    rw [e, hi]
    by_cases h : i = j
    · subst h; simp [ld_length, hj]
    · have : ¬ (i : Int) = j := by omega
      simp only [h, this, if_false, List.append_nil]
      rw [ld_get n j _ hj]
  · rw [List.getElem?_eq_none (by rw [ld_length]; omega), List.getElem?_eq_none (by rw [List.length_set, ld_length]; omega)]
set_option maxRecDepth 100000 in
set_option maxHeartbeats 4000000 in
theorem rw_Load (n : Nat) (hn : 1 ≤ n ∧ n ≤ 32) (now : Int) (A : Option Addr) (c : Nat) (l : IL) (hl : l.length ≤ 1000) (hv : ∀ p ∈ l, 0 ≤ p.2 ∧ p.2 ≤ 1099511627776) (w : World) (hA : Rd w w.heap.size A (duR l)) :
    Calls Try.prog 28 #[rwV n now A l.length c] w fun e w' => ∃ B, e = .returned (.slice B n n) ∧ Rd w' w'.heap.size B (ints (loadL n n l)) ∧ Below w.heap.size w w' := by
  obtain ⟨i0, hi0, hz, hsz, hby⟩ := info_parts int_info
  have hmk := fun W => run_make1 (P := Try.prog) 53 3 i0 (.int .i64 0) Try.underlying53 hi0 hz rfl hsz n (by rw [hby]; omega) (by omega) W
  go_enter Try.func28, Try.ntmps28
  go_wp2_with fail
  generalize hV : World.alloc (World.alloc w _) _ = w1
  have hb1 : Below w.heap.size w w1 := by subst hV; (repeat (first | with_reducible exact Below.refl _ _ | with_reducible assumption | with_reducible refine Below.drew ?_ | with_reducible refine Below.drewN ?_ _ | with_reducible refine Below.alloc1 ?_ _ | with_reducible refine Below.setCell1 ?_ (by first | omega | (simp; done) | (simp; omega)) _ | with_reducible refine Below.step ?_ (by with_reducible assumption)))
  have k0 : Bk w1 w.heap.size 30 [.int .i64 n, .int .i64 now, .slice A l.length c] := by subst hV; (repeat (first | with_reducible exact Bk.new' _ _ _ _ (by simp; done) | with_reducible assumption | with_reducible refine Bk.alloc ?_ _ | with_reducible refine Bk.drew ?_ | with_reducible refine Bk.drewN ?_ _ | with_reducible refine Bk.step ?_ (by with_reducible assumption) | with_reducible refine Bk.far ?_ (by first | omega | (simp; done) | (simp; omega)) _))
  have k1 : Bk w1 (w.heap.size + 1) 3 (ints (loadL n n [])) := by
    subst hV
    rw [ld_nil]
    simp only [ints, List.map_replicate]
    exact Bk.new' _ _ _ _ (by simp)
  have r1 := hA.below hb1
  have hs1 := k1.lt
  clear hV hmk
  go_loopw [4] (fun i wr => ∃ k : Nat, k ≤ l.length ∧ i = .int .i64 k ∧ Bk wr (w.heap.size + 1) 3 (ints (loadL n n (l.take k))) ∧ Bk wr w.heap.size 30 [.int .i64 n, .int .i64 now, .slice A l.length c] ∧ Below w.heap.size w wr) (fun i _ => l.length - (intOf i).toNat)
  case atStart => exact ⟨0, Nat.zero_le _, rfl, k1, k0, hb1⟩
  case round =>
    obtain ⟨k, hk, rfl, k5, k6, hb⟩ := hrel
    have rr : Rd wr w.heap.size A (duR l) := hA.below hb
    clear r1
    have sz := hb.size
    clear k0 k1 hb1
    have k6_0 := k6.cell 0; have k6_f0 := k6.frozen 0; have k6_1 := k6.cell 1; have k6_f1 := k6.frozen 1; have k6_2 := k6.cell 2; have k6_f2 := k6.frozen 2; simp only [List.set_cons_zero, List.set_cons_succ, List.getElem?_cons_zero, List.getElem?_cons_succ] at k6_0 k6_1 k6_2; have lt_k6 := k6.lt
    by_cases hlt : k < l.length
    · obtain ⟨ad, rfl, hab, q0, q1⟩ := rr.du hlt
      have hp := hv l[k] (List.getElem_mem hlt)
      have HS := hide (take_snocL l k hlt)
      obtain ⟨i, hi, hin⟩ := mod_nat (a := l[k].2) (n := n) hn.1
      have hrem : Int.tmod l[k].2 n = i := by rw [rem_pos (by omega)]; exact hi
      have HX := hide (ld_next n (l.take k) l[k] i hi)
      have e0 := (k5.cell i).trans (show (ints (loadL n n (l.take k)))[i]? = some (.int .i64 ((slotL n i (l.take k)).length : Int)) by rw [ints, List.getElem?_map, ld_get n i _ hin]; rfl)
      have ef := k5.frozen i
      have el := k5.lt
      have fl : (slotL n i (l.take k)).length ≤ 1000 := by have := slotL_few (n := n) (i := i) (l := l.take k); rw [List.length_take] at this; omega
      clear hi
      generalize (slotL n i (l.take k)).length = v at *
      generalize l[k] = x at *
      obtain ⟨x1, x2⟩ := x
      simp only at q0 q1 hrem hp
      obtain ⟨hn1, hn2⟩ := hn
      have hn3 : ¬ (n : Int) = 0 := by omega
      have hn4 : ((n : Int) == 0) = false := by simp; omega
      have hw4 := IntWalk.i64_in (i : Int) (by omega)
      have hw5 := IntWalk.i64_in ((v : Int) + 1) (by omega)
      have hiI : (i : Int) < n := by omega
      go_upto_region 5 with fail
      go_region
      go_wp2
      go_roundw
      case rel => exact ⟨k + 1, by omega, by go_num, by rw [HS.out, HX.out]; simp only [ints, List.map_set]; exact (k5.drew.set_ i _), k6.drew.far (by simp) _, by (repeat (first | with_reducible exact Below.refl _ _ | with_reducible assumption | with_reducible refine Below.drew ?_ | with_reducible refine Below.drewN ?_ _ | with_reducible refine Below.alloc1 ?_ _ | with_reducible refine Below.setCell1 ?_ (by first | omega | (simp; done) | (simp; omega)) _ | with_reducible refine Below.step ?_ (by with_reducible assumption)))⟩
      case measure => simp [intOf]; omega
    · have hkn : ¬ (k : Int) < l.length := by omega
      have hke : k = l.length := by omega
      go_wp2
      go_ret
      rw [hke, List.take_length] at k5
      exact ⟨_, rfl, k5.rd, hb⟩
end Go.Proofs.Ytbljiohdfjmhfaa
