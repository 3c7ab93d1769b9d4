/- Package callboyref03: free, Check. -/
import Derived.Test.YtnmpighdkdffbaaPoolP
namespace Go.Proofs.Ytnmpighdkdffbaa
open Go.RowKit Go.Sort
set_option linter.unusedSimpArgs false
set_option linter.unusedVariables false

/-! What the reference's free tells. -/
def mark (l : List Cl) : List Int → List Cl
  | [] => l
  | p :: f => mark (l.set p.toNat ⟨0, true, 0⟩) f
theorem mark_spec (f : List Int) : ∀ (l : List Cl), (∀ p ∈ f, 0 ≤ p ∧ p < l.length ∧ pSpare (l.getD p.toNat default) = true) → f.Nodup →
    (mark l f).countP pSpare + f.length = l.countP pSpare ∧ (mark l f).length = l.length ∧ ∀ i : Nat, (mark l f)[i]? = if (i : Int) ∈ f ∧ i < l.length then some ⟨0, true, 0⟩ else l[i]? := by
  induction f with
  | nil => intro l _ _; exact ⟨rfl, rfl, fun i => by simp [mark]⟩
  | cons p f ih =>
    intro l hg hn
    obtain ⟨a, b, c⟩ := hg p (by simp)
    have hn' := List.nodup_cons.1 hn
    obtain ⟨q, rfl⟩ : ∃ q : Nat, p = q := ⟨p.toNat, by omega⟩
    have hq : q < l.length := by omega
    rw [Int.toNat_natCast, getD_at _ _ hq] at c
    obtain ⟨h1, h2, h3⟩ := ih (l.set q ⟨0, true, 0⟩) (fun r hr => by
      obtain ⟨a', b', c'⟩ := hg r (by simp [hr])
      rw [List.length_set]
      refine ⟨a', b', ?_⟩
      have hne : r.toNat ≠ q := fun e => hn'.1 ((show r = (q : Int) by omega) ▸ hr)
      rw [getD_set_other _ _ _ _ hne]
      exact c') hn'.2
    have hc := countP_set1 pSpare l q hq ⟨0, true, 0⟩
    rw [if_pos c, if_neg (by simp [pSpare])] at hc
    refine ⟨by simp only [mark, Int.toNat_natCast, List.length_cons]; omega, by simp only [mark, Int.toNat_natCast]; rw [h2, List.length_set], fun i => ?_⟩
    simp only [mark, Int.toNat_natCast]
    rw [h3 i, List.length_set, List.getElem?_set]
    by_cases hi : i = q
    · subst hi; simp [hq]
    · have : ¬ (i : Int) = (q : Int) := by omega
      have hqi : ¬ q = i := fun e => hi e.symm
      simp [this, hqi]
theorem pFree_spare {l : List Cl} {f : List Int} (h : ∀ j < f.length, pGood l f j = true) : pFree l f = decide (∀ i, (hi : i < l.length) → pSpare l[i] = true → (i : Int) ∈ f) := by
  have hgood : ∀ p ∈ f, 0 ≤ p ∧ p < l.length ∧ pSpare (l.getD p.toNat default) = true := fun p hp => by
    obtain ⟨i, hi, rfl⟩ := List.mem_iff_getElem.1 hp
    have := h i hi
    unfold pGood at this
    rw [getD_at _ _ hi] at this
    simp only [Bool.and_eq_true, decide_eq_true_eq, Bool.not_eq_true'] at this
    exact ⟨this.1.1.1, this.1.1.2, by simp only [pSpare, Bool.and_eq_true, Bool.not_eq_true', decide_eq_true_eq]; exact this.1.2⟩
  have hnd : f.Nodup := by
    rw [List.Nodup, List.pairwise_iff_getElem]
    intro i j hi hj hij e
    have := h j hj
    unfold pGood at this
    rw [getD_at _ _ hj] at this
    simp only [Bool.and_eq_true, Bool.not_eq_true', List.any_eq_false, beq_iff_eq] at this
    exact this.2 f[i] (by rw [List.mem_take_iff_getElem]; exact ⟨i, by omega, rfl⟩) e.symm
  obtain ⟨h1, h2, h3⟩ := mark_spec f l hgood hnd
  rw [pFree_end h]
  rw [Bool.eq_iff_iff, decide_eq_true_eq, beq_iff_eq]
  constructor
  · intro he i hi hs
    have h0 : (mark l f).countP pSpare = 0 := by omega
    rw [List.countP_eq_zero] at h0
    refine Decidable.byContradiction fun hn => ?_
    have h4 := h3 i
    rw [if_neg (fun c => hn c.1), List.getElem?_eq_getElem hi] at h4
    exact h0 l[i] (List.mem_of_getElem? h4) hs
  · intro hall
    have h0 : (mark l f).countP pSpare = 0 := by
      rw [List.countP_eq_zero]
      intro x hx hs
      obtain ⟨i, hi, rfl⟩ := List.mem_iff_getElem.1 hx
      have hil : i < l.length := by omega
      have h4 := h3 i
      rw [List.getElem?_eq_getElem hi] at h4
      split at h4
      · injection h4 with h4
        rw [h4] at hs
        simp [pSpare] at hs
      · rename_i hn
        rw [List.getElem?_eq_getElem hil] at h4
        injection h4 with h4
        rw [h4] at hs
        exact hn ⟨hall i hil hs, hil⟩
    omega
abbrev seenL (f : List Int) (k : Nat) : List Value := (List.range 64).map fun (j : Nat) => Value.bool (decide ((j : Int) ∈ f.take k))
theorem seenL_at (f : List Int) (k q : Nat) (h : q < 64) : (seenL f k)[q]? = some (.bool (decide ((q : Int) ∈ f.take k))) := by simp [seenL, h]
theorem seenL_set (f : List Int) (k q : Nat) (h : k < f.length) (hq : f[k] = (q : Int)) (h64 : q < 64) : (seenL f k).set q (.bool true) = seenL f (k + 1) := by
  apply List.ext_getElem?
  intro i
  rw [List.getElem?_set]
  simp only [seenL, List.getElem?_map]
  by_cases hi : i < 64
  · rw [List.getElem?_range hi]
    rw [take_snocL f k h, hq]
    by_cases e : q = i
    · subst e; simp [hi]
    · have : ¬ (i : Int) = (q : Int) := by omega
      simp [e, this]
  · have : (List.range 64)[i]? = none := by rw [List.getElem?_eq_none]; simp; omega
    rw [this]
    split
    · rename_i e; subst e; omega
    · rfl

set_option maxRecDepth 100000 in
set_option maxHeartbeats 8000000 in
theorem rfree_any (A B : Option Addr) (c d : Nat) (l : List Cl) (f : List Int) (w : World) (hl : l.length ≤ 64) (hf : f.length ≤ 1000) (ha : Rd w w.heap.size A (cls l)) (hb : Rd w w.heap.size B (ints f)) :
    Calls Try.prog 43 #[stV A l.length c B f.length d] w fun e w' => e = .returned (.bool (pFree l f)) ∧ Below w.heap.size w w' := by
  go_enter Try.func43, Try.ntmps43
  go_wp2_with fail
  generalize hV : World.alloc (World.alloc w _) _ = w1
  have hb1 : Below w.heap.size w w1 := by subst hV; (repeat (first | with_reducible exact Below.refl _ _ | with_reducible assumption | with_reducible refine Below.drew ?_ | with_reducible refine Below.drewN ?_ _ | with_reducible refine Below.alloc1 ?_ _ | with_reducible refine Below.setCell1 ?_ (by first | omega | (simp; done) | (simp; omega)) _ | with_reducible refine Below.step ?_ (by with_reducible assumption)))
  have k0 : Bk w1 w.heap.size 25 (stC A l.length c B f.length d) := by subst hV; (repeat (first | with_reducible exact Bk.new' _ _ _ _ (by simp; done) | with_reducible assumption | with_reducible refine Bk.alloc ?_ _ | with_reducible refine Bk.drew ?_ | with_reducible refine Bk.drewN ?_ _ | with_reducible refine Bk.step ?_ (by with_reducible assumption) | with_reducible refine Bk.far ?_ (by first | omega | (simp; done) | (simp; omega)) _))
  have k1 : Bk w1 (w.heap.size + 1) 80 (seenL f 0) := by subst hV; exact Bk.new' _ _ _ _ (by simp)
  clear hV
  go_loopw [4] (fun i wr => ∃ k : Nat, k ≤ f.length ∧ i = .int .i64 k ∧ (∀ j < k, pGood l f j = true) ∧ Bk wr w.heap.size 25 (stC A l.length c B f.length d) ∧ Bk wr (w.heap.size + 1) 80 (seenL f k) ∧ Below w.heap.size w wr) (fun i _ => f.length - (intOf i).toNat)
  case atStart => exact ⟨0, Nat.zero_le _, rfl, by simp, k0, k1, hb1⟩
  case round =>
    clear k0 k1 hb1
    obtain ⟨k, hk, rfl, ht, j0, j1, hbr⟩ := hrel
    have HT := hide ht
    clear ht
    have j0_0 := j0.cell 0; have j0_f0 := j0.frozen 0; have j0_1 := j0.cell 1; have j0_f1 := j0.frozen 1; simp only [List.set_cons_zero, List.set_cons_succ, List.getElem?_cons_zero, List.getElem?_cons_succ] at j0_0 j0_1; have lt_j0 := j0.lt
    by_cases hlt : k < f.length
    · obtain ⟨bd, rfl, hbdb, q1⟩ := (hb.below hbr).at_ (k := k) (by simpa using hlt)
      rw [ints_get f k hlt] at q1
      have HG := hide (show pGood l f k = (decide (0 ≤ f[k]) && decide (f[k] < l.length) && pSpare (l.getD f[k].toNat default) && !(f.take k).any (f[k] == ·)) by unfold pGood; rw [getD_at _ _ hlt])
      generalize hp : f[k] = p at *
      by_cases h0 : p < 0
      · have hbad := pFree_bad hlt (by rw [HG.out, decide_eq_false (by omega : ¬ 0 ≤ p)]; rfl)
        go_wp2
        go_ret
        first | exact ⟨ret_bool hbad.symm, by (repeat (first | with_reducible exact Below.refl _ _ | with_reducible assumption | with_reducible refine Below.drew ?_ | with_reducible refine Below.drewN ?_ _ | with_reducible refine Below.alloc1 ?_ _ | with_reducible refine Below.setCell1 ?_ (by first | omega | (simp; done) | (simp; omega)) _ | with_reducible refine Below.step ?_ (by with_reducible assumption)))⟩ | exact ⟨rfl, by (repeat (first | with_reducible exact Below.refl _ _ | with_reducible assumption | with_reducible refine Below.drew ?_ | with_reducible refine Below.drewN ?_ _ | with_reducible refine Below.alloc1 ?_ _ | with_reducible refine Below.setCell1 ?_ (by first | omega | (simp; done) | (simp; omega)) _ | with_reducible refine Below.step ?_ (by with_reducible assumption)))⟩
      · have h0' : 0 ≤ p := by omega
        clear h0
        by_cases h1 : p < l.length
        · obtain ⟨q, rfl⟩ : ∃ q : Nat, p = q := ⟨p.toNat, by omega⟩
          have hq : q < l.length := by omega
          obtain ⟨ad, rfl, hadb, c1, c2, c3⟩ := (ha.below hbr).cl hq
          have s1 : wr.cell? ⟨w.heap.size + 1, q, none⟩ = some (.bool (decide ((q : Int) ∈ f.take k))) := by rw [j1.cell]; exact seenL_at f k q (by omega)
          have s2 := j1.frozen q
          have lj := j1.lt
          have hgd := HG.out
          rw [decide_eq_true h0', decide_eq_true h1, Int.toNat_natCast, getD_at _ _ hq, Bool.true_and, Bool.true_and] at hgd
          replace HG := hide hgd
          clear hgd
          have d1 : decide ((q : Int) < 0) = false := by simp
          have d2 : decide (l.length ≤ q) = false := by simp; omega
          have i64 : (q : Int) < 64 := by omega
          have hany : (f.take k).any ((q : Int) == ·) = decide ((q : Int) ∈ f.take k) := by
            rw [Bool.eq_iff_iff, decide_eq_true_eq, List.any_eq_true]
            constructor
            · rintro ⟨x, hx, e⟩; rw [beq_iff_eq] at e; rw [e]; exact hx
            · intro h; exact ⟨_, h, by simp⟩
          rw [hany] at HG
          have HSS := hide (seenL_set f k q hlt hp (by omega))
          generalize hsn : decide ((q : Int) ∈ f.take k) = sn at *
          generalize l[q] = x at *
          obtain ⟨g, lv, v⟩ := x
          simp only at c1 c2 c3
          clear hany hsn hp
          cases sn with
          | true =>
            have hbad := pFree_bad hlt (by rw [HG.out]; simp)
            go_wp2
            go_ret
            first | exact ⟨ret_bool hbad.symm, by (repeat (first | with_reducible exact Below.refl _ _ | with_reducible assumption | with_reducible refine Below.drew ?_ | with_reducible refine Below.drewN ?_ _ | with_reducible refine Below.alloc1 ?_ _ | with_reducible refine Below.setCell1 ?_ (by first | omega | (simp; done) | (simp; omega)) _ | with_reducible refine Below.step ?_ (by with_reducible assumption)))⟩ | exact ⟨rfl, by (repeat (first | with_reducible exact Below.refl _ _ | with_reducible assumption | with_reducible refine Below.drew ?_ | with_reducible refine Below.drewN ?_ _ | with_reducible refine Below.alloc1 ?_ _ | with_reducible refine Below.setCell1 ?_ (by first | omega | (simp; done) | (simp; omega)) _ | with_reducible refine Below.step ?_ (by with_reducible assumption)))⟩
          | false =>
            cases lv with
            | true =>
              have hbad := pFree_bad hlt (by rw [HG.out]; simp [pSpare])
              go_wp2
              go_ret
              first | exact ⟨ret_bool hbad.symm, by (repeat (first | with_reducible exact Below.refl _ _ | with_reducible assumption | with_reducible refine Below.drew ?_ | with_reducible refine Below.drewN ?_ _ | with_reducible refine Below.alloc1 ?_ _ | with_reducible refine Below.setCell1 ?_ (by first | omega | (simp; done) | (simp; omega)) _ | with_reducible refine Below.step ?_ (by with_reducible assumption)))⟩ | exact ⟨rfl, by (repeat (first | with_reducible exact Below.refl _ _ | with_reducible assumption | with_reducible refine Below.drew ?_ | with_reducible refine Below.drewN ?_ _ | with_reducible refine Below.alloc1 ?_ _ | with_reducible refine Below.setCell1 ?_ (by first | omega | (simp; done) | (simp; omega)) _ | with_reducible refine Below.step ?_ (by with_reducible assumption)))⟩
            | false =>
              by_cases hg : g < 1048576
              · have hgood : pGood l f k = true := by rw [HG.out]; simp [pSpare, hg]
                have d3 : decide (1048576 ≤ g) = false := by simp; omega
                have hnext : ∀ j < k + 1, pGood l f j = true := fun j hj => by
                  rcases Nat.lt_succ_iff_lt_or_eq.1 hj with h | rfl
                  · exact HT.out j h
                  · exact hgood
                have HN := hide hnext
                clear hnext hgood HT HG
                go_wp2
                go_roundw
                case rel => exact ⟨k + 1, by omega, by go_num, HN.out, j0.far (by dsimp only; omega) _, by rw [← HSS.out]; exact j1.set_ q _, by (repeat (first | with_reducible exact Below.refl _ _ | with_reducible assumption | with_reducible refine Below.drew ?_ | with_reducible refine Below.drewN ?_ _ | with_reducible refine Below.alloc1 ?_ _ | with_reducible refine Below.setCell1 ?_ (by first | omega | (simp; done) | (simp; omega)) _ | with_reducible refine Below.step ?_ (by with_reducible assumption)))⟩
                case measure => simp [intOf]; omega
              · have hbad := pFree_bad hlt (by rw [HG.out]; simp [pSpare, hg])
                have d3 : decide (1048576 ≤ g) = true := by simp; omega
                go_wp2
                go_ret
                first | exact ⟨ret_bool hbad.symm, by (repeat (first | with_reducible exact Below.refl _ _ | with_reducible assumption | with_reducible refine Below.drew ?_ | with_reducible refine Below.drewN ?_ _ | with_reducible refine Below.alloc1 ?_ _ | with_reducible refine Below.setCell1 ?_ (by first | omega | (simp; done) | (simp; omega)) _ | with_reducible refine Below.step ?_ (by with_reducible assumption)))⟩ | exact ⟨rfl, by (repeat (first | with_reducible exact Below.refl _ _ | with_reducible assumption | with_reducible refine Below.drew ?_ | with_reducible refine Below.drewN ?_ _ | with_reducible refine Below.alloc1 ?_ _ | with_reducible refine Below.setCell1 ?_ (by first | omega | (simp; done) | (simp; omega)) _ | with_reducible refine Below.step ?_ (by with_reducible assumption)))⟩
        · have hbad := pFree_bad hlt (by rw [HG.out, decide_eq_false h1]; simp)
          replace h1 : (l.length : Int) ≤ p := by omega
          go_wp2
          go_ret
          first | exact ⟨ret_bool hbad.symm, by (repeat (first | with_reducible exact Below.refl _ _ | with_reducible assumption | with_reducible refine Below.drew ?_ | with_reducible refine Below.drewN ?_ _ | with_reducible refine Below.alloc1 ?_ _ | with_reducible refine Below.setCell1 ?_ (by first | omega | (simp; done) | (simp; omega)) _ | with_reducible refine Below.step ?_ (by with_reducible assumption)))⟩ | exact ⟨rfl, by (repeat (first | with_reducible exact Below.refl _ _ | with_reducible assumption | with_reducible refine Below.drew ?_ | with_reducible refine Below.drewN ?_ _ | with_reducible refine Below.alloc1 ?_ _ | with_reducible refine Below.setCell1 ?_ (by first | omega | (simp; done) | (simp; omega)) _ | with_reducible refine Below.step ?_ (by with_reducible assumption)))⟩
    · have hkf : k = f.length := by omega
      subst hkf
      have HF := hide (pFree_spare (l := l) (f := f) HT.out)
      clear HT hlt
      obtain ⟨w1, rfl⟩ : ∃ w1 : World, w1 = wr := ⟨_, rfl⟩
      go_wp2
      (try clear j0_0 j0_f0 j0_1 j0_f1 lt_j0)
      go_loopw [6] (fun i wr => ∃ k : Nat, k ≤ l.length ∧ i = .int .i64 k ∧ (∀ i, (hi : i < l.length) → i < k → pSpare l[i] = true → (i : Int) ∈ f) ∧ Bk wr w.heap.size 25 (stC A l.length c B f.length d) ∧ Bk wr (w.heap.size + 1) 80 (seenL f f.length) ∧ Below w.heap.size w wr) (fun i _ => l.length - (intOf i).toNat)
      case atStart => exact ⟨0, Nat.zero_le _, rfl, fun i _ h => absurd h (Nat.not_lt_zero _), j0, j1, hbr⟩
      case round =>
        clear j0 j1 hbr
        obtain ⟨k, hk, rfl, ht, j0, j1, hbr⟩ := hrel
        have HT := hide ht
        clear ht
        have j0_0 := j0.cell 0; have j0_f0 := j0.frozen 0; have j0_1 := j0.cell 1; have j0_f1 := j0.frozen 1; simp only [List.set_cons_zero, List.set_cons_succ, List.getElem?_cons_zero, List.getElem?_cons_succ] at j0_0 j0_1; have lt_j0 := j0.lt
        by_cases hlt : k < l.length
        · obtain ⟨ad, rfl, hadb, c1, c2, c3⟩ := (ha.below hbr).cl hlt
          have s1 : wr.cell? ⟨w.heap.size + 1, k, none⟩ = some (.bool (decide ((k : Int) ∈ f.take f.length))) := by rw [j1.cell]; exact seenL_at f f.length k (by omega)
          rw [List.take_length] at s1
          have lj := j1.lt
          have i64 : (k : Int) < 64 := by omega
          have hone : ∀ b, decide ((k : Int) ∈ f) = b → (pSpare l[k] = true → b = true) → ∀ i, (hi : i < l.length) → i < k + 1 → pSpare l[i] = true → (i : Int) ∈ f := fun b hb' hsp i hi hik hs => by
            rcases Nat.lt_succ_iff_lt_or_eq.1 hik with h | rfl
            · exact HT.out i hi h hs
            · have := hsp hs
              rw [this, decide_eq_true_eq] at hb'
              exact hb'
          have hbad : pSpare l[k] = true → decide ((k : Int) ∈ f) = false → pFree l f = false := fun h1 h2 => by
            rw [HF.out, decide_eq_false_iff_not]
            intro h3
            rw [decide_eq_false_iff_not] at h2
            exact h2 (h3 k hlt h1)
          have HO := hide hone
          have HB := hide hbad
          clear hone hbad HT
          generalize hsn : decide ((k : Int) ∈ f) = sn at *
          generalize l[k] = x at *
          obtain ⟨g, lv, v⟩ := x
          simp only at c1 c2 c3
          clear hsn
          cases lv with
          | true =>
            have HN := hide (HO.out sn rfl (by simp [pSpare]))
            clear HO HB
            go_wp2
            go_roundw
            case rel => exact ⟨k + 1, by omega, by go_num, HN.out, j0, j1, hbr⟩
            case measure => simp [intOf]; omega
          | false =>
            by_cases hg : g < 1048576
            · have d3 : decide (g < 1048576) = true := by simp; omega
              cases sn with
              | true =>
                have HN := hide (HO.out true rfl (by simp))
                clear HO HB
                go_wp2
                go_roundw
                case rel => exact ⟨k + 1, by omega, by go_num, HN.out, j0, j1, hbr⟩
                case measure => simp [intOf]; omega
              | false =>
                have hbad := HB.out (by simp [pSpare, hg]) rfl
                clear HO HB
                go_wp2
                go_ret
                first | exact ⟨ret_bool hbad.symm, by (repeat (first | with_reducible exact Below.refl _ _ | with_reducible assumption | with_reducible refine Below.drew ?_ | with_reducible refine Below.drewN ?_ _ | with_reducible refine Below.alloc1 ?_ _ | with_reducible refine Below.setCell1 ?_ (by first | omega | (simp; done) | (simp; omega)) _ | with_reducible refine Below.step ?_ (by with_reducible assumption)))⟩ | exact ⟨rfl, by (repeat (first | with_reducible exact Below.refl _ _ | with_reducible assumption | with_reducible refine Below.drew ?_ | with_reducible refine Below.drewN ?_ _ | with_reducible refine Below.alloc1 ?_ _ | with_reducible refine Below.setCell1 ?_ (by first | omega | (simp; done) | (simp; omega)) _ | with_reducible refine Below.step ?_ (by with_reducible assumption)))⟩
            · have d3 : decide (g < 1048576) = false := by simp; omega
              have HN := hide (HO.out sn rfl (by simp [pSpare, hg]))
              clear HO HB
              go_wp2
              go_roundw
              case rel => exact ⟨k + 1, by omega, by go_num, HN.out, j0, j1, hbr⟩
              case measure => simp [intOf]; omega
        · have hend : pFree l f = true := by rw [HF.out, decide_eq_true_eq]; exact fun i hi hs => HT.out i hi (by omega) hs
          clear HT HF
          go_wp2
          go_ret
          first | exact ⟨ret_bool hend.symm, by (repeat (first | with_reducible exact Below.refl _ _ | with_reducible assumption | with_reducible refine Below.drew ?_ | with_reducible refine Below.drewN ?_ _ | with_reducible refine Below.alloc1 ?_ _ | with_reducible refine Below.setCell1 ?_ (by first | omega | (simp; done) | (simp; omega)) _ | with_reducible refine Below.step ?_ (by with_reducible assumption)))⟩ | exact ⟨rfl, by (repeat (first | with_reducible exact Below.refl _ _ | with_reducible assumption | with_reducible refine Below.drew ?_ | with_reducible refine Below.drewN ?_ _ | with_reducible refine Below.alloc1 ?_ _ | with_reducible refine Below.setCell1 ?_ (by first | omega | (simp; done) | (simp; omega)) _ | with_reducible refine Below.step ?_ (by with_reducible assumption)))⟩

set_option maxRecDepth 100000 in
set_option maxHeartbeats 8000000 in
theorem rCheck_any (A B : Option Addr) (c d : Nat) (l : List Cl) (f : List Int) (w : World) (hl : l.length ≤ 1000) (hf : f.length ≤ 1000) (ha : Rd w w.heap.size A (cls l)) (hb : Rd w w.heap.size B (ints f)) :
    Calls Try.prog 23 #[stV A l.length c B f.length d] w fun e w' => e = .returned (.int .i64 (pCheck l f)) ∧ Below w.heap.size w w' := by
  by_cases hn : l.length = 0 ∨ 64 < l.length
  · have hr : pCheck l f = 5 := by unfold pCheck; rw [if_pos hn]
    go_enter Try.func23, Try.ntmps23
    rcases hn with h0 | h0
    · have h1 : (l.length : Int) < 1 := by omega
      go_wp2
      go_ret
      exact ⟨ret_int hr.symm, by (repeat (first | with_reducible exact Below.refl _ _ | with_reducible assumption | with_reducible refine Below.drew ?_ | with_reducible refine Below.drewN ?_ _ | with_reducible refine Below.alloc1 ?_ _ | with_reducible refine Below.setCell1 ?_ (by first | omega | (simp; done) | (simp; omega)) _ | with_reducible refine Below.step ?_ (by with_reducible assumption)))⟩
    · go_wp2
      go_ret
      exact ⟨ret_int hr.symm, by (repeat (first | with_reducible exact Below.refl _ _ | with_reducible assumption | with_reducible refine Below.drew ?_ | with_reducible refine Below.drewN ?_ _ | with_reducible refine Below.alloc1 ?_ _ | with_reducible refine Below.setCell1 ?_ (by first | omega | (simp; done) | (simp; omega)) _ | with_reducible refine Below.step ?_ (by with_reducible assumption)))⟩
  · have h0 : 0 < l.length ∧ l.length ≤ 64 := by omega
    have g0 : (1 : Int) ≤ l.length := by omega
    have g1 : (l.length : Int) ≤ 64 := by omega
    have hr1 : pCheck l f = if l.any pOdd = true then 8 else if l.any pLeft = true then 4 else if pFree l f = false then 10 else 0 := by rw [pCheck, if_neg hn]
    have HR := hide hr1
    clear hr1 hn
    go_enter Try.func23, Try.ntmps23
    go_wp2_with fail
    generalize hV : World.alloc w _ = w1
    have hb1 : Below w.heap.size w w1 := by subst hV; (repeat (first | with_reducible exact Below.refl _ _ | with_reducible assumption | with_reducible refine Below.drew ?_ | with_reducible refine Below.drewN ?_ _ | with_reducible refine Below.alloc1 ?_ _ | with_reducible refine Below.setCell1 ?_ (by first | omega | (simp; done) | (simp; omega)) _ | with_reducible refine Below.step ?_ (by with_reducible assumption)))
    have k0 : Bk w1 w.heap.size 25 (stC A l.length c B f.length d) := by subst hV; (repeat (first | with_reducible exact Bk.new' _ _ _ _ (by simp; done) | with_reducible assumption | with_reducible refine Bk.alloc ?_ _ | with_reducible refine Bk.drew ?_ | with_reducible refine Bk.drewN ?_ _ | with_reducible refine Bk.step ?_ (by with_reducible assumption) | with_reducible refine Bk.far ?_ (by first | omega | (simp; done) | (simp; omega)) _))
    clear hV
    go_loopw [3] (fun i wr => ∃ k : Nat, k ≤ l.length ∧ i = .int .i64 k ∧ (∀ x ∈ l.take k, pOdd x = false) ∧ Bk wr w.heap.size 25 (stC A l.length c B f.length d) ∧ Below w.heap.size w wr) (fun i _ => l.length - (intOf i).toNat)
    case atStart => exact ⟨0, Nat.zero_le _, rfl, by simp, k0, hb1⟩
    case round =>
      clear k0 hb1
      obtain ⟨k, hk, rfl, ht, j0, hbr⟩ := hrel
      have HT := hide ht
      clear ht
      have j0_0 := j0.cell 0; have j0_f0 := j0.frozen 0; have j0_1 := j0.cell 1; have j0_f1 := j0.frozen 1; simp only [List.set_cons_zero, List.set_cons_succ, List.getElem?_cons_zero, List.getElem?_cons_succ] at j0_0 j0_1; have lt_j0 := j0.lt
      by_cases hlt : k < l.length
      · obtain ⟨ad, rfl, hadb, c1, c2, c3⟩ := (ha.below hbr).cl hlt
        have HN := hide (none_take (p := pOdd) hlt HT.out)
        have HB := hide (fun (h : pOdd l[k] = true) => show pCheck l f = 8 by rw [HR.out, if_pos (List.any_eq_true.2 ⟨_, List.getElem_mem hlt, h⟩)])
        clear HR HT
        generalize l[k] = x at *
        obtain ⟨g, lv, v⟩ := x
        simp only at c1 c2 c3
        by_cases h1 : g < 0
        · have hr := HB.out (by simp [pOdd, h1])
          have d1 : decide (g < 0) = true := by simp; omega
          clear HN HB
          go_wp2
          go_ret
          first | exact ⟨ret_int hr.symm, by (repeat (first | with_reducible exact Below.refl _ _ | with_reducible assumption | with_reducible refine Below.drew ?_ | with_reducible refine Below.drewN ?_ _ | with_reducible refine Below.alloc1 ?_ _ | with_reducible refine Below.setCell1 ?_ (by first | omega | (simp; done) | (simp; omega)) _ | with_reducible refine Below.step ?_ (by with_reducible assumption)))⟩ | exact ⟨rfl, by (repeat (first | with_reducible exact Below.refl _ _ | with_reducible assumption | with_reducible refine Below.drew ?_ | with_reducible refine Below.drewN ?_ _ | with_reducible refine Below.alloc1 ?_ _ | with_reducible refine Below.setCell1 ?_ (by first | omega | (simp; done) | (simp; omega)) _ | with_reducible refine Below.step ?_ (by with_reducible assumption)))⟩
        · have d1 : decide (g < 0) = false := by simp; omega
          by_cases h2 : 1048576 < g
          · have hr := HB.out (by simp [pOdd, h2])
            have d2 : decide (1048576 < g) = true := by simp; omega
            clear HN HB
            go_wp2
            go_ret
            first | exact ⟨ret_int hr.symm, by (repeat (first | with_reducible exact Below.refl _ _ | with_reducible assumption | with_reducible refine Below.drew ?_ | with_reducible refine Below.drewN ?_ _ | with_reducible refine Below.alloc1 ?_ _ | with_reducible refine Below.setCell1 ?_ (by first | omega | (simp; done) | (simp; omega)) _ | with_reducible refine Below.step ?_ (by with_reducible assumption)))⟩ | exact ⟨rfl, by (repeat (first | with_reducible exact Below.refl _ _ | with_reducible assumption | with_reducible refine Below.drew ?_ | with_reducible refine Below.drewN ?_ _ | with_reducible refine Below.alloc1 ?_ _ | with_reducible refine Below.setCell1 ?_ (by first | omega | (simp; done) | (simp; omega)) _ | with_reducible refine Below.step ?_ (by with_reducible assumption)))⟩
          · have d2 : decide (1048576 < g) = false := by simp; omega
            have hN := hide (HN.out (by simp [pOdd, h1, h2]))
            clear HN HB h1 h2
            go_wp2
            go_roundw
            case rel => exact ⟨k + 1, by omega, by go_num, hN.out, j0, hbr⟩
            case measure => simp [intOf]; omega
      · have hodd : ¬ l.any pOdd = true := by
          rw [List.any_eq_true]; rintro ⟨x, hx, ho⟩
          have := HT.out x (by rw [List.take_of_length_le (by omega)]; exact hx)
          rw [this] at ho; cases ho
        have hr1 := HR.out
        rw [if_neg hodd] at hr1
        replace HR := hide hr1
        clear hr1 hodd HT
        obtain ⟨w1, rfl⟩ : ∃ w1 : World, w1 = wr := ⟨_, rfl⟩
        go_wp2
        (try clear j0_0 j0_f0 j0_1 j0_f1 lt_j0)
        go_loopw [4] (fun i wr => ∃ k : Nat, k ≤ l.length ∧ i = .int .i64 k ∧ (∀ x ∈ l.take k, pLeft x = false) ∧ Bk wr w.heap.size 25 (stC A l.length c B f.length d) ∧ Below w.heap.size w wr) (fun i _ => l.length - (intOf i).toNat)
        case atStart => exact ⟨0, Nat.zero_le _, rfl, by simp, j0, hbr⟩
        case round =>
          clear j0 hbr hlt hk
          obtain ⟨k, hk, rfl, ht, j0, hbr⟩ := hrel
          have HT := hide ht
          clear ht
          have j0_0 := j0.cell 0; have j0_f0 := j0.frozen 0; have j0_1 := j0.cell 1; have j0_f1 := j0.frozen 1; simp only [List.set_cons_zero, List.set_cons_succ, List.getElem?_cons_zero, List.getElem?_cons_succ] at j0_0 j0_1; have lt_j0 := j0.lt
          by_cases hlt : k < l.length
          · obtain ⟨ad, rfl, hadb, c1, c2, c3⟩ := (ha.below hbr).cl hlt
            have HN := hide (none_take (p := pLeft) hlt HT.out)
            have HB := hide (fun (h : pLeft l[k] = true) => show pCheck l f = 4 by rw [HR.out, if_pos (List.any_eq_true.2 ⟨_, List.getElem_mem hlt, h⟩)])
            clear HR HT
            generalize l[k] = x at *
            obtain ⟨g, lv, v⟩ := x
            simp only at c1 c2 c3
            cases lv with
            | true =>
              have hN := hide (HN.out (by simp [pLeft]))
              clear HN HB
              go_wp2
              go_roundw
              case rel => exact ⟨k + 1, by omega, by go_num, hN.out, j0, hbr⟩
              case measure => simp [intOf]; omega
            | false =>
              by_cases h1 : v = 0
              · subst h1
                have hN := hide (HN.out (by simp [pLeft]))
                clear HN HB
                go_wp2
                go_roundw
                case rel => exact ⟨k + 1, by omega, by go_num, hN.out, j0, hbr⟩
                case measure => simp [intOf]; omega
              · have hr := HB.out (by simp [pLeft, h1])
                have d1 : (v != 0) = true := by simpa using h1
                clear HN HB
                go_wp2
                go_ret
                first | exact ⟨ret_int hr.symm, by (repeat (first | with_reducible exact Below.refl _ _ | with_reducible assumption | with_reducible refine Below.drew ?_ | with_reducible refine Below.drewN ?_ _ | with_reducible refine Below.alloc1 ?_ _ | with_reducible refine Below.setCell1 ?_ (by first | omega | (simp; done) | (simp; omega)) _ | with_reducible refine Below.step ?_ (by with_reducible assumption)))⟩ | exact ⟨rfl, by (repeat (first | with_reducible exact Below.refl _ _ | with_reducible assumption | with_reducible refine Below.drew ?_ | with_reducible refine Below.drewN ?_ _ | with_reducible refine Below.alloc1 ?_ _ | with_reducible refine Below.setCell1 ?_ (by first | omega | (simp; done) | (simp; omega)) _ | with_reducible refine Below.step ?_ (by with_reducible assumption)))⟩
          · have hleft : ¬ l.any pLeft = true := by
              rw [List.any_eq_true]; rintro ⟨x, hx, ho⟩
              have := HT.out x (by rw [List.take_of_length_le (by omega)]; exact hx)
              rw [this] at ho; cases ho
            have hr1 := HR.out
            rw [if_neg hleft] at hr1
            clear hleft HT HR
            go_wp2_with fail
            refine (rfree_any A B c d l f _ h0.2 hf ((ha.below hbr).more hbr.size) ((hb.below hbr).more hbr.size)).mono ?_; rintro e x2 ⟨rfl, hx2⟩
            have hbs : Below w.heap.size w x2 := hbr.step hx2
            cases hq : pFree l f with
            | false =>
              rw [if_pos hq] at hr1
              go_wp2
              go_ret
              first | exact ⟨ret_int hr1.symm, by (repeat (first | with_reducible exact Below.refl _ _ | with_reducible assumption | with_reducible refine Below.drew ?_ | with_reducible refine Below.drewN ?_ _ | with_reducible refine Below.alloc1 ?_ _ | with_reducible refine Below.setCell1 ?_ (by first | omega | (simp; done) | (simp; omega)) _ | with_reducible refine Below.step ?_ (by with_reducible assumption)))⟩ | exact ⟨rfl, by (repeat (first | with_reducible exact Below.refl _ _ | with_reducible assumption | with_reducible refine Below.drew ?_ | with_reducible refine Below.drewN ?_ _ | with_reducible refine Below.alloc1 ?_ _ | with_reducible refine Below.setCell1 ?_ (by first | omega | (simp; done) | (simp; omega)) _ | with_reducible refine Below.step ?_ (by with_reducible assumption)))⟩
            | true =>
              rw [if_neg (by rw [hq]; simp)] at hr1
              go_wp2
              go_ret
              first | exact ⟨ret_int hr1.symm, by (repeat (first | with_reducible exact Below.refl _ _ | with_reducible assumption | with_reducible refine Below.drew ?_ | with_reducible refine Below.drewN ?_ _ | with_reducible refine Below.alloc1 ?_ _ | with_reducible refine Below.setCell1 ?_ (by first | omega | (simp; done) | (simp; omega)) _ | with_reducible refine Below.step ?_ (by with_reducible assumption)))⟩ | exact ⟨rfl, by (repeat (first | with_reducible exact Below.refl _ _ | with_reducible assumption | with_reducible refine Below.drew ?_ | with_reducible refine Below.drewN ?_ _ | with_reducible refine Below.alloc1 ?_ _ | with_reducible refine Below.setCell1 ?_ (by first | omega | (simp; done) | (simp; omega)) _ | with_reducible refine Below.step ?_ (by with_reducible assumption)))⟩
end Go.Proofs.Ytnmpighdkdffbaa
