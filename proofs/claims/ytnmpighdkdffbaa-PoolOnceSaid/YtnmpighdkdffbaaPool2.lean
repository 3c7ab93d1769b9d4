/- Package pool: Check, own, handle, find. -/
import Derived.Test.YtnmpighdkdffbaaPool
import Derived.Test.YtnmpighdkdffbaaRel3
namespace Go.Proofs.Ytnmpighdkdffbaa
open Go.RowKit Go.Sort
set_option linter.unusedSimpArgs false
set_option linter.unusedVariables false

abbrev stV (A : Option Addr) (n c : Nat) (B : Option Addr) (m d : Nat) : Value := .agg #[.slice A n c, .slice B m d]
abbrev stC (A : Option Addr) (n c : Nat) (B : Option Addr) (m d : Nat) : List Value := [.slice A n c, .slice B m d]
/-- the i-th free place may be -/
def pGood (l : List Cl) (f : List Int) (i : Nat) : Bool :=
  let p := f.getD i 0
  decide (0 ≤ p) && decide (p < l.length) && pSpare (l.getD p.toNat default) && !(f.take i).any (p == ·)
def pFree (l : List Cl) (f : List Int) : Bool := (List.range f.length).all (pGood l f) && ((f.length : Int) == (l.countP pSpare : Nat))
def pCheck (l : List Cl) (f : List Int) : Int :=
  if l.length = 0 ∨ 64 < l.length then 5 else if l.any pOdd = true then 8 else if l.any pLeft = true then 4 else if pFree l f = false then 10 else 0

theorem countP_snoc (p : Cl → Bool) (l : List Cl) (k : Nat) (h : k < l.length) : (l.take (k + 1)).countP p = (l.take k).countP p + (if p l[k] then 1 else 0) := by
  rw [take_snocL l k h, List.countP_append]; simp [List.countP_cons]
theorem getD_at {α : Type} (l : List α) (k : Nat) (h : k < l.length) (d : α) : l.getD k d = l[k] := by simp [h]

theorem pFree_bad {l : List Cl} {f : List Int} {k : Nat} (hk : k < f.length) (h : pGood l f k = false) : pFree l f = false := by
  unfold pFree
  rw [Bool.and_eq_false_iff]
  left
  rw [List.all_eq_false]
  exact ⟨k, List.mem_range.2 hk, by rw [h]; simp⟩
theorem pFree_end {l : List Cl} {f : List Int} (h : ∀ j < f.length, pGood l f j = true) : pFree l f = ((f.length : Int) == (l.countP pSpare : Nat)) := by
  unfold pFree
  have : (List.range f.length).all (pGood l f) = true := List.all_eq_true.2 fun j hj => h j (List.mem_range.1 hj)
  rw [this, Bool.true_and]

set_option maxHeartbeats 2000000 in
theorem pool_free_any (A B : Option Addr) (c d : Nat) (l : List Cl) (f : List Int) (w : World) (hl : l.length ≤ 1000) (hf : f.length ≤ 1000) (hd : f.length ≤ d) (ha : Rd w w.heap.size A (cls l)) (hb : Rd w w.heap.size B (ints f)) :
    Calls Try.prog 42 #[stV A l.length c B f.length d] w fun e w' => e = .returned (.bool (pFree l f)) ∧ Below w.heap.size w w' := by
  go_enter Try.func42, Try.ntmps42
  go_wp2
  generalize hV : World.alloc w _ = w1
  have hb1 : Below w.heap.size w w1 := by subst hV; (repeat (first | with_reducible exact Below.refl _ _ | with_reducible assumption | with_reducible refine Below.drew ?_ | with_reducible refine Below.drewN ?_ _ | with_reducible refine Below.alloc1 ?_ _ | with_reducible refine Below.setCell1 ?_ (by first | omega | (simp; done) | (simp; omega)) _ | with_reducible refine Below.step ?_ (by with_reducible assumption)))
  have k0 : Bk w1 w.heap.size 30 (stC A l.length c B f.length d) := by subst hV; (repeat (first | with_reducible exact Bk.new' _ _ _ _ (by simp; done) | with_reducible assumption | with_reducible refine Bk.alloc ?_ _ | with_reducible refine Bk.drew ?_ | with_reducible refine Bk.drewN ?_ _ | with_reducible refine Bk.step ?_ (by with_reducible assumption) | with_reducible refine Bk.far ?_ (by first | omega | (simp; done) | (simp; omega)) _))
  clear hV
  have k0_0 := k0.cell 0; have k0_f0 := k0.frozen 0; have k0_1 := k0.cell 1; have k0_f1 := k0.frozen 1; simp only [List.set_cons_zero, List.set_cons_succ, List.getElem?_cons_zero, List.getElem?_cons_succ] at k0_0 k0_1
  have lt_k0 := k0.lt
  go_wp2
  clear k0_0 k0_1 k0_f0 k0_f1 lt_k0
  go_loopw [3, 11] (fun n i wr => ∃ k : Nat, k ≤ l.length ∧ i = .int .i64 k ∧ n = .int .i64 ((l.take k).countP pSpare : Nat) ∧ Bk wr w.heap.size 30 (stC A l.length c B f.length d) ∧ Below w.heap.size w wr) (fun _ i _ => l.length - (intOf i).toNat)
  case atStart => exact ⟨0, Nat.zero_le _, rfl, rfl, k0, hb1⟩
  case round =>
    obtain ⟨k, hk, rfl, rfl, j0, hbr⟩ := hrel
    clear k0 hb1
    by_cases hlt : k < l.length
    · obtain ⟨ad, rfl, hadb, c1, c2, c3⟩ := (ha.below hbr).cl hlt
      go_wp2_with fail
      refine (pool_spare_any l[k] _).mono ?_; rintro e x0 ⟨rfl, hx0⟩
      have j1 : Bk x0 w.heap.size 30 (stC (some ad) l.length c B f.length d) := by (repeat (first | with_reducible exact Bk.new' _ _ _ _ (by simp; done) | with_reducible assumption | with_reducible refine Bk.alloc ?_ _ | with_reducible refine Bk.drew ?_ | with_reducible refine Bk.drewN ?_ _ | with_reducible refine Bk.step ?_ (by with_reducible assumption) | with_reducible refine Bk.far ?_ (by first | omega | (simp; done) | (simp; omega)) _))
      have hb2 : Below w.heap.size w x0 := by (repeat (first | with_reducible exact Below.refl _ _ | with_reducible assumption | with_reducible refine Below.drew ?_ | with_reducible refine Below.drewN ?_ _ | with_reducible refine Below.alloc1 ?_ _ | with_reducible refine Below.setCell1 ?_ (by first | omega | (simp; done) | (simp; omega)) _ | with_reducible refine Below.step ?_ (by with_reducible assumption)))
      clear hx0
      have hcs := countP_snoc pSpare l k hlt
      have hcb : (l.take k).countP pSpare ≤ 1000 := Nat.le_trans List.countP_le_length (by rw [List.length_take]; omega)
      by_cases hp : pSpare l[k] = true
      · go_wp2
        go_roundw
        case rel => exact ⟨k + 1, by omega, by go_num, by rw [hcs, if_pos hp]; go_num, j1, hb2⟩
        case measure => simp [intOf]; omega
      · have hp' : pSpare l[k] = false := by simpa using hp
        go_wp2
        go_roundw
        case rel => exact ⟨k + 1, by omega, by go_num, by rw [hcs, if_neg hp, Nat.add_zero], j1, hb2⟩
        case measure => simp [intOf]; omega
    · have hkl : k = l.length := by omega
      subst hkl
      rw [List.take_length]
      obtain ⟨cn, hcn⟩ : ∃ cn, cn = l.countP pSpare := ⟨_, rfl⟩
      have hcl : cn ≤ l.length := by rw [hcn]; exact List.countP_le_length
      have HCN := hide hcn
      rw [← hcn]
      clear hcn
      obtain ⟨w1, rfl⟩ : ∃ w1 : World, w1 = wr := ⟨_, rfl⟩
      have j0_0 := j0.cell 0; have j0_f0 := j0.frozen 0; have j0_1 := j0.cell 1; have j0_f1 := j0.frozen 1; simp only [List.set_cons_zero, List.set_cons_succ, List.getElem?_cons_zero, List.getElem?_cons_succ] at j0_0 j0_1
      have lt_j0 := j0.lt
      go_wp2
      clear j0_0 j0_1 j0_f0 j0_f1 lt_j0
      go_loopw [23] (fun i wr => ∃ k : Nat, k ≤ f.length ∧ i = .int .i64 k ∧ (∀ j < k, pGood l f j = true) ∧ Bk wr w.heap.size 30 (stC A l.length c B f.length d) ∧ Below w.heap.size w wr) (fun i _ => f.length - (intOf i).toNat)
      case atStart => exact ⟨0, Nat.zero_le _, rfl, by simp, j0, hbr⟩
      case round =>
        obtain ⟨k, hk, rfl, ht, k0, hbs⟩ := hrel
        have HT := hide ht
        clear ht j0 hbr
        have k0_0 := k0.cell 0; have k0_f0 := k0.frozen 0; have k0_1 := k0.cell 1; have k0_f1 := k0.frozen 1; simp only [List.set_cons_zero, List.set_cons_succ, List.getElem?_cons_zero, List.getElem?_cons_succ] at k0_0 k0_1
        have lt_k0 := k0.lt
        by_cases hlt : k < f.length
        · obtain ⟨bd, rfl, hbdb, q1⟩ := (hb.below hbs).at_ (k := k) (by simpa using hlt)
          rw [ints_get f k hlt] at q1
          have hgd : pGood l f k = (decide (0 ≤ f[k]) && decide (f[k] < l.length) && pSpare (l.getD f[k].toNat default) && !(f.take k).any (f[k] == ·)) := by unfold pGood; rw [getD_at _ _ hlt]
          have HG := hide hgd
          clear hgd
          generalize f[k] = p at *
          by_cases h0 : p < 0
          · have hbad := pFree_bad hlt (by rw [HG.out, decide_eq_false (by omega : ¬ 0 ≤ p)]; rfl)
            go_wp2
            go_ret
            exact ⟨ret_bool hbad.symm, by (repeat (first | with_reducible exact Below.refl _ _ | with_reducible assumption | with_reducible refine Below.drew ?_ | with_reducible refine Below.drewN ?_ _ | with_reducible refine Below.alloc1 ?_ _ | with_reducible refine Below.setCell1 ?_ (by first | omega | (simp; done) | (simp; omega)) _ | with_reducible refine Below.step ?_ (by with_reducible assumption)))⟩
          · have h0' : 0 ≤ p := by omega
            clear h0
            by_cases h1 : p < l.length
            · obtain ⟨q, rfl⟩ : ∃ q : Nat, p = q := ⟨p.toNat, by omega⟩
              have hq : q < l.length := by omega
              obtain ⟨ad, rfl, hadb, c1, c2, c3⟩ := (ha.below hbs).cl hq
              have hgd := HG.out
              rw [decide_eq_true h0', decide_eq_true h1, Int.toNat_natCast, getD_at _ _ hq, Bool.true_and, Bool.true_and] at hgd
              replace HG := hide hgd
              clear hgd
              go_wp2_with fail
              refine (pool_spare_any l[q] _).mono ?_; rintro e x0 ⟨rfl, hx0⟩
              replace k0 := k0.step hx0; (try clear k0_0 k0_f0 k0_1 k0_f1); have k0_0 := k0.cell 0; have k0_f0 := k0.frozen 0; have k0_1 := k0.cell 1; have k0_f1 := k0.frozen 1; simp only [List.set_cons_zero, List.set_cons_succ, List.getElem?_cons_zero, List.getElem?_cons_succ] at k0_0 k0_1; (try clear lt_k0); have lt_k0 := k0.lt
              have hbt : Below w.heap.size w x0 := by (repeat (first | with_reducible exact Below.refl _ _ | with_reducible assumption | with_reducible refine Below.drew ?_ | with_reducible refine Below.drewN ?_ _ | with_reducible refine Below.alloc1 ?_ _ | with_reducible refine Below.setCell1 ?_ (by first | omega | (simp; done) | (simp; omega)) _ | with_reducible refine Below.step ?_ (by with_reducible assumption)))
              have d1 : decide ((q : Int) < 0) = false := by simp
              have d2 : decide (l.length ≤ q) = false := by simp; omega
              clear hx0 hbs
              by_cases hs : pSpare l[q] = true
              · have hgd := HG.out
                rw [hs, Bool.true_and] at hgd
                replace HG := hide hgd
                clear hgd
                have hC := ints_Contains (some bd) d (f.take k) q x0 (by rw [List.length_take]; unfold maxLen; omega) (by rw [show ints (f.take k) = (ints f).take k by simp [ints, List.map_take]]; exact (((hb.below hbt).more hbt.size).take k))
                rw [List.length_take, Nat.min_eq_left hk] at hC
                go_wp2_with fail
                refine hC.mono ?_; rintro e x1 ⟨rfl, n, rfl⟩
                by_cases hc : (f.take k).any ((q : Int) == ·) = true
                · have hbad := pFree_bad hlt (by rw [HG.out, hc]; rfl)
                  go_wp2
                  go_ret
                  exact ⟨ret_bool hbad.symm, by (repeat (first | with_reducible exact Below.refl _ _ | with_reducible assumption | with_reducible refine Below.drew ?_ | with_reducible refine Below.drewN ?_ _ | with_reducible refine Below.alloc1 ?_ _ | with_reducible refine Below.setCell1 ?_ (by first | omega | (simp; done) | (simp; omega)) _ | with_reducible refine Below.step ?_ (by with_reducible assumption)))⟩
                · have hc' : (f.take k).any ((q : Int) == ·) = false := eq_false_of_ne_true hc
                  have hg : pGood l f k = true := by rw [HG.out, hc']; rfl
                  have hnext : ∀ j < k + 1, pGood l f j = true := fun j hj => by
                    rcases Nat.lt_succ_iff_lt_or_eq.1 hj with h | rfl
                    · exact HT.out j h
                    · exact hg
                  clear hc HG hC
                  have HN := hide hnext
                  clear hnext hg
                  go_wp2
                  go_roundw
                  case rel => exact ⟨k + 1, by omega, by go_num, HN.out, k0.drewN _, by (repeat (first | with_reducible exact Below.refl _ _ | with_reducible assumption | with_reducible refine Below.drew ?_ | with_reducible refine Below.drewN ?_ _ | with_reducible refine Below.alloc1 ?_ _ | with_reducible refine Below.setCell1 ?_ (by first | omega | (simp; done) | (simp; omega)) _ | with_reducible refine Below.step ?_ (by with_reducible assumption)))⟩
                  case measure => simp [intOf]; omega
              · have hs' : pSpare l[q] = false := by simpa using hs
                have hbad := pFree_bad hlt (by rw [HG.out, hs']; rfl)
                clear hs
                go_wp2
                go_ret
                exact ⟨ret_bool hbad.symm, by (repeat (first | with_reducible exact Below.refl _ _ | with_reducible assumption | with_reducible refine Below.drew ?_ | with_reducible refine Below.drewN ?_ _ | with_reducible refine Below.alloc1 ?_ _ | with_reducible refine Below.setCell1 ?_ (by first | omega | (simp; done) | (simp; omega)) _ | with_reducible refine Below.step ?_ (by with_reducible assumption)))⟩
            · have hbad := pFree_bad hlt (by rw [HG.out, decide_eq_false h1]; simp)
              replace h1 : (l.length : Int) ≤ p := by omega
              go_wp2
              go_ret
              exact ⟨ret_bool hbad.symm, by (repeat (first | with_reducible exact Below.refl _ _ | with_reducible assumption | with_reducible refine Below.drew ?_ | with_reducible refine Below.drewN ?_ _ | with_reducible refine Below.alloc1 ?_ _ | with_reducible refine Below.setCell1 ?_ (by first | omega | (simp; done) | (simp; omega)) _ | with_reducible refine Below.step ?_ (by with_reducible assumption)))⟩
        · have hend := pFree_end (l := l) (f := f) (fun j hj => HT.out j (by omega))
          rw [← HCN.out] at hend
          clear HT
          go_wp2
          go_ret
          exact ⟨ret_bool hend.symm, by (repeat (first | with_reducible exact Below.refl _ _ | with_reducible assumption | with_reducible refine Below.drew ?_ | with_reducible refine Below.drewN ?_ _ | with_reducible refine Below.alloc1 ?_ _ | with_reducible refine Below.setCell1 ?_ (by first | omega | (simp; done) | (simp; omega)) _ | with_reducible refine Below.step ?_ (by with_reducible assumption)))⟩

theorem pCheck_cases (l : List Cl) (f : List Int) : pCheck l f = 0 ∨ pCheck l f = 5 ∨ pCheck l f = 8 ∨ pCheck l f = 4 ∨ pCheck l f = 10 := by
  unfold pCheck; repeat' split
  all_goals simp
theorem pool_Check_any (A B : Option Addr) (c d : Nat) (l : List Cl) (f : List Int) (w : World) (hl : l.length ≤ 1000) (hf : f.length ≤ 1000) (hd : f.length ≤ d) (ha : Rd w w.heap.size A (cls l)) (hb : Rd w w.heap.size B (ints f)) :
    Calls Try.prog 22 #[stV A l.length c B f.length d] w fun e w' => e = .returned (.int .i64 (pCheck l f)) ∧ Below w.heap.size w w' := by
  have e1 : ∀ args w, (callFunc 39 args).run Try.prog w = .ok (.enter 39 args) w := enters_of Try.func39 (by kernel_rfl) rfl
  have e2 : ∀ args w, (callFunc 40 args).run Try.prog w = .ok (.enter 40 args) w := enters_of Try.func40 (by kernel_rfl) rfl
  have hodd := fun W h => pool_ContainsFunc 39 pOdd e1 pool_odd_any A c l W (by unfold maxLen; omega) h
  have hleft := fun W h => pool_ContainsFunc 40 pLeft e2 pool_left_any A c l W (by unfold maxLen; omega) h
  clear e1 e2
  by_cases hn : l.length = 0 ∨ 64 < l.length
  · have hr : pCheck l f = 5 := by unfold pCheck; rw [if_pos hn]
    go_enter Try.func22, Try.ntmps22
    rcases hn with h0 | h0
    · have h1 : ((l.length : Int) == 0) = true := by rw [h0]; rfl
      go_wp2
      go_ret
      exact ⟨ret_int hr.symm, by (repeat (first | with_reducible exact Below.refl _ _ | with_reducible assumption | with_reducible refine Below.drew ?_ | with_reducible refine Below.drewN ?_ _ | with_reducible refine Below.alloc1 ?_ _ | with_reducible refine Below.setCell1 ?_ (by first | omega | (simp; done) | (simp; omega)) _ | with_reducible refine Below.step ?_ (by with_reducible assumption)))⟩
    · have h1 : ((l.length : Int) == 0) = false := by rw [beq_eq_false_iff_ne]; omega
      go_wp2
      go_ret
      exact ⟨ret_int hr.symm, by (repeat (first | with_reducible exact Below.refl _ _ | with_reducible assumption | with_reducible refine Below.drew ?_ | with_reducible refine Below.drewN ?_ _ | with_reducible refine Below.alloc1 ?_ _ | with_reducible refine Below.setCell1 ?_ (by first | omega | (simp; done) | (simp; omega)) _ | with_reducible refine Below.step ?_ (by with_reducible assumption)))⟩
  · have h0 : 0 < l.length ∧ l.length ≤ 64 := by omega
    have h1 : ((l.length : Int) == 0) = false := by rw [beq_eq_false_iff_ne]; omega
    have hr1 : pCheck l f = if l.any pOdd = true then 8 else if l.any pLeft = true then 4 else if pFree l f = false then 10 else 0 := by rw [pCheck, if_neg hn]
    have HR := hide hr1
    clear hr1 hn
    go_enter Try.func22, Try.ntmps22
    go_wp2_with fail
    generalize hV : World.alloc w _ = w1
    have hb1 : Below w.heap.size w w1 := by subst hV; (repeat (first | with_reducible exact Below.refl _ _ | with_reducible assumption | with_reducible refine Below.drew ?_ | with_reducible refine Below.drewN ?_ _ | with_reducible refine Below.alloc1 ?_ _ | with_reducible refine Below.setCell1 ?_ (by first | omega | (simp; done) | (simp; omega)) _ | with_reducible refine Below.step ?_ (by with_reducible assumption)))
    have k0 : Bk w1 w.heap.size 30 (stC A l.length c B f.length d) := by subst hV; (repeat (first | with_reducible exact Bk.new' _ _ _ _ (by simp; done) | with_reducible assumption | with_reducible refine Bk.alloc ?_ _ | with_reducible refine Bk.drew ?_ | with_reducible refine Bk.drewN ?_ _ | with_reducible refine Bk.step ?_ (by with_reducible assumption) | with_reducible refine Bk.far ?_ (by first | omega | (simp; done) | (simp; omega)) _))
    clear hV
    refine (hodd _ ((ha.below hb1).more hb1.size)).mono ?_; rintro e x0 ⟨rfl, hx0⟩
    replace k0 := k0.step hx0
    replace hb1 : Below w.heap.size w x0 := by (repeat (first | with_reducible exact Below.refl _ _ | with_reducible assumption | with_reducible refine Below.drew ?_ | with_reducible refine Below.drewN ?_ _ | with_reducible refine Below.alloc1 ?_ _ | with_reducible refine Below.setCell1 ?_ (by first | omega | (simp; done) | (simp; omega)) _ | with_reducible refine Below.step ?_ (by with_reducible assumption)))
    clear hx0 hodd
    have k0_0 := k0.cell 0; have k0_f0 := k0.frozen 0; have k0_1 := k0.cell 1; have k0_f1 := k0.frozen 1; simp only [List.set_cons_zero, List.set_cons_succ, List.getElem?_cons_zero, List.getElem?_cons_succ] at k0_0 k0_1
    have lt_k0 := k0.lt
    by_cases ho : l.any pOdd = true
    · have hr : pCheck l f = 8 := by rw [HR.out, if_pos ho]
      go_wp2
      go_ret
      exact ⟨ret_int hr.symm, by (repeat (first | with_reducible exact Below.refl _ _ | with_reducible assumption | with_reducible refine Below.drew ?_ | with_reducible refine Below.drewN ?_ _ | with_reducible refine Below.alloc1 ?_ _ | with_reducible refine Below.setCell1 ?_ (by first | omega | (simp; done) | (simp; omega)) _ | with_reducible refine Below.step ?_ (by with_reducible assumption)))⟩
    · have ho' : l.any pOdd = false := eq_false_of_ne_true ho
      have hr2 := HR.out
      rw [if_neg ho] at hr2
      replace HR := hide hr2
      clear hr2 ho
      go_wp2_with fail
      refine (hleft _ ((ha.below hb1).more hb1.size)).mono ?_; rintro e x1 ⟨rfl, hx1⟩
      replace k0 := k0.step hx1; (try clear k0_0 k0_f0 k0_1 k0_f1); have k0_0 := k0.cell 0; have k0_f0 := k0.frozen 0; have k0_1 := k0.cell 1; have k0_f1 := k0.frozen 1; simp only [List.set_cons_zero, List.set_cons_succ, List.getElem?_cons_zero, List.getElem?_cons_succ] at k0_0 k0_1; (try clear lt_k0); have lt_k0 := k0.lt
      replace hb1 : Below w.heap.size w x1 := by (repeat (first | with_reducible exact Below.refl _ _ | with_reducible assumption | with_reducible refine Below.drew ?_ | with_reducible refine Below.drewN ?_ _ | with_reducible refine Below.alloc1 ?_ _ | with_reducible refine Below.setCell1 ?_ (by first | omega | (simp; done) | (simp; omega)) _ | with_reducible refine Below.step ?_ (by with_reducible assumption)))
      clear hx1 hleft
      by_cases hp : l.any pLeft = true
      · have hr : pCheck l f = 4 := by rw [HR.out, if_pos hp]
        go_wp2
        go_ret
        exact ⟨ret_int hr.symm, by (repeat (first | with_reducible exact Below.refl _ _ | with_reducible assumption | with_reducible refine Below.drew ?_ | with_reducible refine Below.drewN ?_ _ | with_reducible refine Below.alloc1 ?_ _ | with_reducible refine Below.setCell1 ?_ (by first | omega | (simp; done) | (simp; omega)) _ | with_reducible refine Below.step ?_ (by with_reducible assumption)))⟩
      · have hp' : l.any pLeft = false := eq_false_of_ne_true hp
        have hr2 := HR.out
        rw [if_neg hp] at hr2
        replace HR := hide hr2
        clear hr2 hp
        go_wp2_with fail
        refine (pool_free_any A B c d l f _ hl hf hd ((ha.below hb1).more hb1.size) ((hb.below hb1).more hb1.size)).mono ?_; rintro e x2 ⟨rfl, hx2⟩
        replace hb1 : Below w.heap.size w x2 := by (repeat (first | with_reducible exact Below.refl _ _ | with_reducible assumption | with_reducible refine Below.drew ?_ | with_reducible refine Below.drewN ?_ _ | with_reducible refine Below.alloc1 ?_ _ | with_reducible refine Below.setCell1 ?_ (by first | omega | (simp; done) | (simp; omega)) _ | with_reducible refine Below.step ?_ (by with_reducible assumption)))
        clear hx2
        by_cases hq : pFree l f = false
        · have hr : pCheck l f = 10 := by rw [HR.out, if_pos hq]
          go_wp2
          go_ret
          exact ⟨ret_int hr.symm, by (repeat (first | with_reducible exact Below.refl _ _ | with_reducible assumption | with_reducible refine Below.drew ?_ | with_reducible refine Below.drewN ?_ _ | with_reducible refine Below.alloc1 ?_ _ | with_reducible refine Below.setCell1 ?_ (by first | omega | (simp; done) | (simp; omega)) _ | with_reducible refine Below.step ?_ (by with_reducible assumption)))⟩
        · have hq' : pFree l f = true := by cases h : pFree l f <;> simp_all
          have hr : pCheck l f = 0 := by rw [HR.out, if_neg hq]
          clear hq
          go_wp2
          go_ret
          exact ⟨ret_int hr.symm, by (repeat (first | with_reducible exact Below.refl _ _ | with_reducible assumption | with_reducible refine Below.drew ?_ | with_reducible refine Below.drewN ?_ _ | with_reducible refine Below.alloc1 ?_ _ | with_reducible refine Below.setCell1 ?_ (by first | omega | (simp; done) | (simp; omega)) _ | with_reducible refine Below.step ?_ (by with_reducible assumption)))⟩
theorem pool_handle_any (A B : Option Addr) (c d : Nat) (l : List Cl) (m : Nat) (k : Nat) (w : World) (hl : l.length ≤ 1000) (hk : k < l.length) (hg : 0 ≤ l[k].gen ∧ l[k].gen ≤ 1048576) (ha : Rd w w.heap.size A (cls l)) :
    Calls Try.prog 31 #[stV A l.length c B m d, .int .i64 k] w fun e w' => e = .returned (.int .i64 (l[k].gen * 64 + k)) ∧ Below w.heap.size w w' := by
  obtain ⟨ad, rfl, hadb, _⟩ := ha.cl hk
  have hb1 : Below w.heap.size w (w.alloc (.cells #[.slice (some ad) l.length c, .slice B m d] 30)) := by (repeat (first | with_reducible exact Below.refl _ _ | with_reducible assumption | with_reducible refine Below.drew ?_ | with_reducible refine Below.drewN ?_ _ | with_reducible refine Below.alloc1 ?_ _ | with_reducible refine Below.setCell1 ?_ (by first | omega | (simp; done) | (simp; omega)) _ | with_reducible refine Below.step ?_ (by with_reducible assumption)))
  obtain ⟨ad', e, _, c1, c2, c3⟩ := (ha.below hb1).cl hk
  injection e with e
  subst e
  generalize l[k] = x at *
  generalize x.gen = g at *
  go_enter Try.func31, Try.ntmps31
  go_wp2
  go_ret
  exact ⟨rfl, by (repeat (first | with_reducible exact Below.refl _ _ | with_reducible assumption | with_reducible refine Below.drew ?_ | with_reducible refine Below.drewN ?_ _ | with_reducible refine Below.alloc1 ?_ _ | with_reducible refine Below.setCell1 ?_ (by first | omega | (simp; done) | (simp; omega)) _ | with_reducible refine Below.step ?_ (by with_reducible assumption)))⟩
/-- where a live cell stands by its handle; whether it is there -/
def pFind (l : List Cl) (h : Int) : Int × Bool :=
  if h < 0 ∨ (l.length : Int) ≤ h % 64 then (0, false) else (h % 64, let x := l.getD (h % 64).toNat default; x.live && (x.gen * 64 + h % 64 == h))
theorem pool_find_any (A B : Option Addr) (c d : Nat) (l : List Cl) (m : Nat) (h : Int) (w : World) (hl : l.length ≤ 1000) (hh : -9223372036854775808 ≤ h ∧ h ≤ 9223372036854775807) (hg : ∀ x ∈ l, 0 ≤ x.gen ∧ x.gen ≤ 1048576) (ha : Rd w w.heap.size A (cls l)) :
    Calls Try.prog 38 #[stV A l.length c B m d, .int .i64 h] w fun e w' => e = .returned (.tuple #[.int .i64 (pFind l h).1, .bool (pFind l h).2]) ∧ Below w.heap.size w w' := by
  by_cases hn : h < 0 ∨ (l.length : Int) ≤ h % 64
  · have hr : pFind l h = (0, false) := if_pos hn
    rw [hr]
    go_enter Try.func38, Try.ntmps38
    by_cases h0 : h < 0
    · go_wp2
      go_ret2
      exact ⟨rfl, by (repeat (first | with_reducible exact Below.refl _ _ | with_reducible assumption | with_reducible refine Below.drew ?_ | with_reducible refine Below.drewN ?_ _ | with_reducible refine Below.alloc1 ?_ _ | with_reducible refine Below.setCell1 ?_ (by first | omega | (simp; done) | (simp; omega)) _ | with_reducible refine Below.step ?_ (by with_reducible assumption)))⟩
    · have h0' : 0 ≤ h := by omega
      have h1 : (l.length : Int) ≤ h % 64 := by omega
      clear hn
      go_wp2
      go_ret2
      exact ⟨rfl, by (repeat (first | with_reducible exact Below.refl _ _ | with_reducible assumption | with_reducible refine Below.drew ?_ | with_reducible refine Below.drewN ?_ _ | with_reducible refine Below.alloc1 ?_ _ | with_reducible refine Below.setCell1 ?_ (by first | omega | (simp; done) | (simp; omega)) _ | with_reducible refine Below.step ?_ (by with_reducible assumption)))⟩
  · have h0 : 0 ≤ h ∧ h % 64 < l.length := by omega
    obtain ⟨q, hq⟩ : ∃ q : Nat, h % 64 = q := ⟨(h % 64).toNat, by omega⟩
    have hql : q < l.length := by omega
    have hr : pFind l h = ((q : Int), (l[q].live && (l[q].gen * 64 + q == h))) := by
      unfold pFind
      rw [if_neg hn, hq, Int.toNat_natCast, getD_at _ _ hql]
    rw [hr]
    have hgq := hg _ (List.getElem_mem hql)
    clear hr hg
    obtain ⟨ad, rfl, hadb, _⟩ := ha.cl hql
    have hH := fun (W : World) (h : Below w.heap.size w W) => pool_handle_any (some ad) B c d l m q W hl hql hgq ((ha.below h).more h.size)
    have hb1 : Below w.heap.size w (w.alloc (.cells #[.slice (some ad) l.length c, .slice B m d] 30)) := by (repeat (first | with_reducible exact Below.refl _ _ | with_reducible assumption | with_reducible refine Below.drew ?_ | with_reducible refine Below.drewN ?_ _ | with_reducible refine Below.alloc1 ?_ _ | with_reducible refine Below.setCell1 ?_ (by first | omega | (simp; done) | (simp; omega)) _ | with_reducible refine Below.step ?_ (by with_reducible assumption)))
    obtain ⟨ad', e, _, c1, c2, c3⟩ := (ha.below hb1).cl hql
    injection e with e
    subst e
    generalize l[q] = x at *
    have h1 : h.tmod 64 = q := by rw [Int.tmod_eq_emod_of_nonneg h0.1, hq]
    have d1 : decide (h < 0) = false := by simp; omega
    have d2 : decide (l.length ≤ q) = false := by simp; omega
    clear hn
    obtain ⟨g, lv, v⟩ := x
    simp only at *
    cases lv with
    | false =>
      go_enter Try.func38, Try.ntmps38
      go_wp2
      go_ret2
      exact ⟨rfl, by (repeat (first | with_reducible exact Below.refl _ _ | with_reducible assumption | with_reducible refine Below.drew ?_ | with_reducible refine Below.drewN ?_ _ | with_reducible refine Below.alloc1 ?_ _ | with_reducible refine Below.setCell1 ?_ (by first | omega | (simp; done) | (simp; omega)) _ | with_reducible refine Below.step ?_ (by with_reducible assumption)))⟩
    | true =>
      go_enter Try.func38, Try.ntmps38
      go_wp2_with fail
      refine (hH _ hb1).mono ?_; rintro e x0 ⟨rfl, hx0⟩
      go_wp2
      go_ret2
      exact ⟨rfl, by (repeat (first | with_reducible exact Below.refl _ _ | with_reducible assumption | with_reducible refine Below.drew ?_ | with_reducible refine Below.drewN ?_ _ | with_reducible refine Below.alloc1 ?_ _ | with_reducible refine Below.setCell1 ?_ (by first | omega | (simp; done) | (simp; omega)) _ | with_reducible refine Below.step ?_ (by with_reducible assumption)))⟩

/-- a slice of the region's own -/
def OwnAt (base : Nat) (t : TypeId) (size n : Nat) (xs : List Value) : MSp := ⟨fun v => ∃ B d, v = .slice B n d, fun v w => ∃ B d, v = .slice B n d ∧ w.ownsRow base t size (.slice B n d) n xs⟩
theorem sts_own (base : Nat) (t : TypeId) (size n : Nat) (xs : List Value) : ∀ v, Stays ((OwnAt base t size n xs).S v) := fun v w w' ⟨B, d, e, h⟩ hb => ⟨B, d, e, own_below h hb (Nat.le_refl _)⟩
theorem own_at_of {base : Nat} {t : TypeId} {size n : Nat} {xs : List Value} {A : Option Addr} {c : Nat} {w : World} (h : (OwnAt base t size n xs).S (.slice A n c) w) : w.ownsRow base t size (.slice A n c) n xs := by
  obtain ⟨B, d, e, h⟩ := h
  rw [e]; exact h
theorem own_mono {w : World} {base base' : Nat} {t : TypeId} {size : Nat} {v : Value} {n : Nat} {xs : List Value} (h : w.ownsRow base t size v n xs) (hb : base' ≤ base) : w.ownsRow base' t size v n xs := by
  refine ⟨h.1, ?_⟩
  rcases h.2 with h2 | ⟨g, cap, cur, hv, hg, r⟩
  · exact .inl h2
  · exact .inr ⟨g, cap, cur, hv, Nat.le_trans hb hg, r⟩
theorem _root_.Go.Calls.mown {P : Program} {f : FuncId} {args : Array Value} {w : World} {base : Nat} {t : TypeId} {size n : Nat} {xs : List Value} (hb : base ≤ w.heap.size) (h : Calls P f args w fun e w' => ∃ B d, e = .returned (.slice B n d) ∧ w'.ownsRow w.heap.size t size (.slice B n d) n xs ∧ Below w.heap.size w w') : Calls P f args w (mPost (OwnAt base t size n xs) w) :=
  h.mono fun _ _ ⟨B, d, he, hr, hb'⟩ => ⟨_, he, ⟨B, d, rfl⟩, ⟨B, d, rfl, own_mono hr hb⟩, hb'⟩

theorem pool_own_any (A B : Option Addr) (c d : Nat) (l : List Cl) (f : List Int) (w : World) (hl : l.length ≤ 1000) (hf : f.length ≤ 1000) (ha : Rd w w.heap.size A (cls l)) (hb : Rd w w.heap.size B (ints f)) :
    Calls Try.prog 30 #[stV A l.length c B f.length d] w fun e w' => ∃ A' c' B' d', e = .returned (stV A' l.length c' B' f.length d') ∧ w'.ownsRow w.heap.size 63 3 (.slice A' l.length c') l.length (cls l) ∧ w'.ownsRow w.heap.size 3 1 (.slice B' f.length d') f.length (ints f) ∧ Below w.heap.size w w' := by
  go_enter Try.func30, Try.ntmps30
  go_wp2_with fail
  generalize hV : World.alloc (World.alloc w _) _ = w1
  have hb1 : Below w.heap.size w w1 := by subst hV; (repeat (first | with_reducible exact Below.refl _ _ | with_reducible assumption | with_reducible refine Below.drew ?_ | with_reducible refine Below.drewN ?_ _ | with_reducible refine Below.alloc1 ?_ _ | with_reducible refine Below.setCell1 ?_ (by first | omega | (simp; done) | (simp; omega)) _ | with_reducible refine Below.step ?_ (by with_reducible assumption)))
  have k0 : Bk w1 w.heap.size 30 (stC A l.length c B f.length d) := by subst hV; (repeat (first | with_reducible exact Bk.new' _ _ _ _ (by simp; done) | with_reducible assumption | with_reducible refine Bk.alloc ?_ _ | with_reducible refine Bk.drew ?_ | with_reducible refine Bk.drewN ?_ _ | with_reducible refine Bk.step ?_ (by with_reducible assumption) | with_reducible refine Bk.far ?_ (by first | omega | (simp; done) | (simp; omega)) _))
  have k1 : Bk w1 (w.heap.size + 1) 30 (stC none 0 0 none 0 0) := by subst hV; (repeat (first | with_reducible exact Bk.new' _ _ _ _ (by simp; done) | with_reducible assumption | with_reducible refine Bk.alloc ?_ _ | with_reducible refine Bk.drew ?_ | with_reducible refine Bk.drewN ?_ _ | with_reducible refine Bk.step ?_ (by with_reducible assumption) | with_reducible refine Bk.far ?_ (by first | omega | (simp; done) | (simp; omega)) _))
  clear hV
  have ra := (ha.below hb1).more hb1.size
  have rb := (hb.below hb1).more hb1.size
  have k0_0 := k0.cell 0; have k0_f0 := k0.frozen 0; have k0_1 := k0.cell 1; have k0_f1 := k0.frozen 1; simp only [List.set_cons_zero, List.set_cons_succ, List.getElem?_cons_zero, List.getElem?_cons_succ] at k0_0 k0_1; have lt_k0 := k0.lt; have k1_0 := k1.cell 0; have k1_f0 := k1.frozen 0; have k1_1 := k1.cell 1; have k1_f1 := k1.frozen 1; simp only [List.set_cons_zero, List.set_cons_succ, List.getElem?_cons_zero, List.getElem?_cons_succ] at k1_0 k1_1; have lt_k1 := k1.lt
  refine wp_region_mt 7 [(2, OwnAt w1.heap.size 63 3 l.length (cls l)), (5, OwnAt w1.heap.size 3 1 f.length (ints f))] (by kernel_rfl) (by kernel_rfl) (by kernel_rfl) (by kernel_rfl) (sts_cons (sts_own _ _ _ _ _) (sts_cons (sts_own _ _ _ _ _) sts_nil)) (fun kq => ?_); (try dsimp only [List.append, List.take])
  (repeat (refine wpM_via (by kernel_rfl) ?_; go_big_quiet_step (fail); refine wpQuiet_nil ?_))
  (refine wpM_spec _ (OwnAt w1.heap.size 63 3 l.length (cls l)) (by kernel_rfl) (by kernel_rfl) rfl (later_some _) ?_ ?_; (focus (intro x hx hk; obtain ⟨px, rfl⟩ := hx; go_simp; (first | with_reducible refine mUpon_enter ?_ | with_reducible refine mUpon_value ?_); go_at_call 46; exact (cells_Clone A c l _ hl (ra.step (below_regrown w1 _ _))).mown (below_regrown w1 px.d px.os).size)); intro v hv K hK; obtain ⟨A', c', rfl⟩ := hv; go_big_quiet_op; refine hK _ ?_; clear hK K)
  (repeat (refine wpM_via (by kernel_rfl) ?_; go_big_quiet_step (fail); refine wpQuiet_nil ?_))
  (refine wpM_spec _ (OwnAt w1.heap.size 3 1 f.length (ints f)) (by kernel_rfl) (by kernel_rfl) rfl (later_some _) ?_ ?_; (focus (intro x hx hk; obtain ⟨px, rfl⟩ := hx; go_simp; (first | with_reducible refine mUpon_enter ?_ | with_reducible refine mUpon_value ?_); go_at_call 47; exact (ints_Clone B d f _ hf (rb.step (below_regrown w1 _ _))).mown (below_regrown w1 px.d px.os).size)); intro v hv K hK; obtain ⟨B', d', rfl⟩ := hv; go_big_quiet_op; refine hK _ ?_; clear hK K)
  (repeat (refine wpM_via (by kernel_rfl) ?_; go_big_quiet_step (fail); refine wpQuiet_nil ?_))
  refine wpM_nil ?_; intro wq hwq hfq; have hbq := below_of_class hwq; clear hwq kq; (try dsimp only [List.drop])
  have o1 := own_at_of (base := w1.heap.size) hfq.2.1
  have o2 := own_at_of (base := w1.heap.size) hfq.1
  replace hb1 : Below w.heap.size w wq := hb1.then_ hbq hb1.size
  have hsz := hbq.size
  have hw1 : w.heap.size + 1 < w1.heap.size := lt_k1
  replace k0 := k0.step hbq; (try clear k0_0 k0_f0 k0_1 k0_f1); have k0_0 := k0.cell 0; have k0_f0 := k0.frozen 0; have k0_1 := k0.cell 1; have k0_f1 := k0.frozen 1; simp only [List.set_cons_zero, List.set_cons_succ, List.getElem?_cons_zero, List.getElem?_cons_succ] at k0_0 k0_1; (try clear lt_k0); have lt_k0 := k0.lt; replace k1 := k1.step hbq; (try clear k1_0 k1_f0 k1_1 k1_f1); have k1_0 := k1.cell 0; have k1_f0 := k1.frozen 0; have k1_1 := k1.cell 1; have k1_f1 := k1.frozen 1; simp only [List.set_cons_zero, List.set_cons_succ, List.getElem?_cons_zero, List.getElem?_cons_succ] at k1_0 k1_1; (try clear lt_k1); have lt_k1 := k1.lt
  clear hfq hbq ra rb ha hb
  go_wp2_with fail
  (try clear k1_0 k1_f0 k1_1 k1_f1 lt_k1)
  generalize hV : World.setCell (World.setCell wq _ _) _ _ = w2
  have hb2 : Below w.heap.size w w2 := by subst hV; exact (hb1.setCell (by dsimp only; omega) _).setCell (by dsimp only; omega) _
  replace o1 : w2.ownsRow w1.heap.size 63 3 (.slice A' l.length c') l.length (cls l) := by subst hV; exact own_far (own_far o1 (by dsimp only; omega) _) (by dsimp only; omega) _
  replace o2 : w2.ownsRow w1.heap.size 3 1 (.slice B' f.length d') f.length (ints f) := by subst hV; exact own_far (own_far o2 (by dsimp only; omega) _) (by dsimp only; omega) _
  have k2 : Bk w2 (w.heap.size + 1) 30 (stC A' l.length c' B' f.length d') := by subst hV; exact (k1.set_ 0 _).set_ 1 _
  clear hV k1
  have k2_0 := k2.cell 0; have k2_f0 := k2.frozen 0; have k2_1 := k2.cell 1; have k2_f1 := k2.frozen 1; simp only [List.set_cons_zero, List.set_cons_succ, List.getElem?_cons_zero, List.getElem?_cons_succ] at k2_0 k2_1; have lt_k2 := k2.lt
  exact bodyPost_ret (v := stV A' l.length c' B' f.length d') (by simp only [results, Try.results30]; go_simp) rfl ⟨A', c', B', d', rfl, own_mono o1 (by omega), own_mono o2 (by omega), hb2⟩

/-- a state's value that reads l, f -/
def StAt (w : World) (v : Value) (l : List Cl) (f : List Int) : Prop := ∃ A c B d, v = stV A l.length c B f.length d ∧ f.length ≤ d ∧ Rd w w.heap.size A (cls l) ∧ Rd w w.heap.size B (ints f)
theorem StAt.step {w w' : World} {v : Value} {l : List Cl} {f : List Int} (h : StAt w v l f) (k : Below w.heap.size w w') : StAt w' v l f := by
  obtain ⟨A, c, B, d, e, hd, ha, hb⟩ := h
  exact ⟨A, c, B, d, e, hd, ha.step k, hb.step k⟩
/-- .. whose rows are new -/
def StFr (lo : Nat) (w : World) (v : Value) (l : List Cl) (f : List Int) : Prop := ∃ A c B d, v = stV A l.length c B f.length d ∧ f.length ≤ d ∧ Rd w w.heap.size A (cls l) ∧ Rd w w.heap.size B (ints f) ∧ Fr lo A ∧ Fr lo B
theorem StFr.step {lo : Nat} {w w' : World} {v : Value} {l : List Cl} {f : List Int} (h : StFr lo w v l f) (k : Below w.heap.size w w') : StFr lo w' v l f := by
  obtain ⟨A, c, B, d, e, hd, ha, hb, fa, fb⟩ := h
  exact ⟨A, c, B, d, e, hd, ha.step k, hb.step k, fa, fb⟩
theorem StFr.at_ {lo : Nat} {w : World} {v : Value} {l : List Cl} {f : List Int} (h : StFr lo w v l f) : StAt w v l f := by
  obtain ⟨A, c, B, d, e, hd, ha, hb, fa, fb⟩ := h
  exact ⟨A, c, B, d, e, hd, ha, hb⟩
theorem StFr.mono {lo lo' : Nat} {w : World} {v : Value} {l : List Cl} {f : List Int} (h : StFr lo w v l f) (k : lo' ≤ lo) : StFr lo' w v l f := by
  obtain ⟨A, c, B, d, e, hd, ha, hb, fa, fb⟩ := h
  exact ⟨A, c, B, d, e, hd, ha, hb, fa.mono k, fb.mono k⟩
theorem StFr.set1 {lo : Nat} {w : World} {v : Value} {l : List Cl} {f : List Int} (h : StFr lo w v l f) {p : Addr} (hp : p.block < lo) (u : Value) : StFr lo (w.setCell p u) v l f := by
  obtain ⟨A, c, B, d, e, hd, ha, hb, fa, fb⟩ := h
  exact ⟨A, c, B, d, e, hd, ha.set1 fa hp u, hb.set1 fb hp u, fa, fb⟩
end Go.Proofs.Ytnmpighdkdffbaa
