/- Package pool: Take. -/
import Derived.Test.YtnmpighdkdffbaaPool2
import Derived.BigRegion
namespace Go.Proofs.Ytnmpighdkdffbaa
open Go.RowKit Go.Sort
set_option linter.unusedSimpArgs false
set_option linter.unusedVariables false

theorem own_bk {w : World} {base : Nat} {e : TypeId} {size : Nat} {A : Option Addr} {n c : Nat} {xs : List Value} (h : w.ownsRow base e size (.slice A n c) n xs) (hn : 0 < n) :
    ∃ g pad, A = some ⟨g, 0, none⟩ ∧ base ≤ g ∧ n ≤ c ∧ Bk w g e (xs ++ pad) := by
  rcases h.2 with ⟨_, h0⟩ | ⟨g, cap, cur, hv, hg, hh, hc, _, _, ht⟩
  · omega
  · injection hv with h1 _ h3
    subst h1 h3
    refine ⟨g, cur.toList.drop (n * size), rfl, hg, hc, ?_⟩
    unfold Bk
    rw [← ht, List.take_append_drop]
    exact hh
theorem cls_set (l : List Cl) (pad : List Value) (q : Nat) (h : q < l.length) (x : Cl) : (((cls l ++ pad).set (q * 3) (.int .i64 x.gen)).set (q * 3 + 1) (.bool x.live)).set (q * 3 + 2) (.int .i64 x.val) = cls (l.set q x) ++ pad := by
  induction l generalizing q with
  | nil => simp at h
  | cons a l ih =>
    cases q with
    | zero => simp [cls]
    | succ q =>
      have := ih q (by simpa using h)
      rw [show (q + 1) * 3 = q * 3 + 3 by omega]
      simp only [cls, List.flatMap_cons, List.cons_append, List.nil_append, List.set_cons_succ, show q * 3 + 3 + 1 = (q * 3 + 1) + 3 by omega, show q * 3 + 3 + 2 = (q * 3 + 2) + 3 by omega] at this ⊢
      rw [this]
theorem cls_set2 (l : List Cl) (pad : List Value) (q : Nat) (h : q < l.length) (b : Bool) (v : Int) : ((cls l ++ pad).set (q * 3 + 1) (.bool b)).set (q * 3 + 2) (.int .i64 v) = cls (l.set q ⟨l[q].gen, b, v⟩) ++ pad := by
  have h1 := cls_set l pad q h ⟨l[q].gen, b, v⟩
  simp only at h1
  rw [← h1]
  congr 2
  have h2 : (cls l ++ pad)[q * 3]? = some (.int .i64 l[q].gen) := by
    have hl := cls_length l
    rw [List.getElem?_append_left (by omega)]; exact (cls_get l q h).1
  apply List.ext_getElem?
  intro i
  rw [List.getElem?_set]
  split
  · rename_i e; subst e
    rw [h2]
    have : q * 3 < (cls l ++ pad).length := by have hl := cls_length l; rw [List.length_append]; omega
    rw [if_pos this]
  · rfl

theorem Rd.keep1 {w : World} {B : Nat} {A : Option Addr} {xs : List Value} (h : Rd w B A xs) {p : Addr} (hne : ∀ ad, A = some ad → ad.block ≠ p.block) (u : Value) : Rd (w.setCell p u) B A xs := fun hn => by
  obtain ⟨ad, e, hb, hc⟩ := h hn
  have := hne ad e
  exact ⟨ad, e, hb, fun j v hv => (World.cell?_setCell_other _ _ _ _ (by intro e2; have := congrArg Addr.block e2; rw [add_block] at this; omega)).trans (hc j v hv)⟩
theorem Bk.rd1 {w : World} {g : Nat} {t : TypeId} {xs pad : List Value} (h : Bk w g t (xs ++ pad)) : Rd w w.heap.size (some ⟨g, 0, none⟩) xs := by
  have := (h.rd).take xs.length
  rwa [List.take_left] at this
theorem Bk.typ {w : World} {g : Nat} {t t' : TypeId} {cs cs' : List Value} (h : Bk w g t cs) (h' : Bk w g t' cs') : t = t' := by
  unfold Bk at h h'
  rw [h] at h'
  injection h' with h'
  injection h'
def pTake (l : List Cl) (f : List Int) (v : Int) : (List Cl × List Int) × Int × Int :=
  if pCheck l f ≠ 0 then ((l, f), 0, pCheck l f) else if f.length = 0 then ((l, f), 0, 7) else
    let q := (f.getD (f.length - 1) 0).toNat
    let g := (l.getD q default).gen
    ((l.set q ⟨g, true, v⟩, f.take (f.length - 1)), g * 64 + q, 0)
theorem check_ok {l : List Cl} {f : List Int} (h : pCheck l f = 0) : (0 < l.length ∧ l.length ≤ 64) ∧ (∀ x ∈ l, 0 ≤ x.gen ∧ x.gen ≤ 1048576) ∧ (∀ x ∈ l, x.live = false → x.val = 0) ∧ pFree l f = true := by
  unfold pCheck at h
  split at h
  · cases h
  · split at h
    · cases h
    · split at h
      · cases h
      · split at h
        · cases h
        · rename_i h1 h2 h3 h4
          refine ⟨by omega, fun x hx => ?_, fun x hx hl => ?_, by simpa using h4⟩
          · have : ¬ pOdd x = true := fun ho => h2 (List.any_eq_true.2 ⟨x, hx, ho⟩)
            simp [pOdd] at this; omega
          · have : ¬ pLeft x = true := fun ho => h3 (List.any_eq_true.2 ⟨x, hx, ho⟩)
            simp [pLeft] at this; exact this hl
theorem free_ok {l : List Cl} {f : List Int} (h : pFree l f = true) {i : Nat} (hi : i < f.length) : (0 ≤ f[i] ∧ f[i] < l.length) ∧ pSpare (l.getD f[i].toNat default) = true ∧ ∀ j, (hj : j < i) → f[j] ≠ f[i] := by
  unfold pFree at h
  rw [Bool.and_eq_true] at h
  have := List.all_eq_true.1 h.1 i (List.mem_range.2 hi)
  unfold pGood at this
  rw [getD_at _ _ hi] at this
  simp only [Bool.and_eq_true, decide_eq_true_eq, Bool.not_eq_true', List.any_eq_false, beq_iff_eq] at this
  refine ⟨this.1.1, by simp only [pSpare]; simpa using this.1.2, fun j hj e => ?_⟩
  exact this.2 f[j] (by rw [List.mem_take_iff_getElem]; exact ⟨j, by omega, rfl⟩) e.symm

set_option maxHeartbeats 4000000 in
theorem pool_Take_any (V : Value) (l : List Cl) (f : List Int) (v : Int) (w : World) (hl : l.length ≤ 1000) (hf : f.length ≤ 1000) (hV : StAt w V l f) :
    Calls Try.prog 10 #[V, .int .i64 v] w fun e w' => ∃ V', e = .returned (.tuple #[V', .int .i64 (pTake l f v).2.1, .int .i64 (pTake l f v).2.2]) ∧ StFr w.heap.size w' V' (pTake l f v).1.1 (pTake l f v).1.2 ∧ Below w.heap.size w w' := by
  obtain ⟨A, c, B, d, rfl, hd, ha, hb⟩ := hV
  go_enter Try.func10, Try.ntmps10
  go_wp2_with fail
  generalize hV : World.alloc (World.alloc w _) _ = w1
  have hb1 : Below w.heap.size w w1 := by subst hV; (repeat (first | with_reducible exact Below.refl _ _ | with_reducible assumption | with_reducible refine Below.drew ?_ | with_reducible refine Below.drewN ?_ _ | with_reducible refine Below.alloc1 ?_ _ | with_reducible refine Below.setCell1 ?_ (by first | omega | (simp; done) | (simp; omega)) _ | with_reducible refine Below.step ?_ (by with_reducible assumption)))
  have k0 : Bk w1 w.heap.size 30 (stC A l.length c B f.length d) := by subst hV; (repeat (first | with_reducible exact Bk.new' _ _ _ _ (by simp; done) | with_reducible assumption | with_reducible refine Bk.alloc ?_ _ | with_reducible refine Bk.drew ?_ | with_reducible refine Bk.drewN ?_ _ | with_reducible refine Bk.step ?_ (by with_reducible assumption) | with_reducible refine Bk.far ?_ (by first | omega | (simp; done) | (simp; omega)) _))
  have k1 : Bk w1 (w.heap.size + 1) 30 (stC none 0 0 none 0 0) := by subst hV; (repeat (first | with_reducible exact Bk.new' _ _ _ _ (by simp; done) | with_reducible assumption | with_reducible refine Bk.alloc ?_ _ | with_reducible refine Bk.drew ?_ | with_reducible refine Bk.drewN ?_ _ | with_reducible refine Bk.step ?_ (by with_reducible assumption) | with_reducible refine Bk.far ?_ (by first | omega | (simp; done) | (simp; omega)) _))
  clear hV
  have ra := (ha.below hb1).more hb1.size
  have rb := (hb.below hb1).more hb1.size
  have lt1 := k1.lt
  refine (pool_own_any A B c d l f _ hl hf ra rb).mono ?_; rintro e x0 ⟨A', c', B', d', rfl, o1, o2, hx0⟩
  have hAX : ∀ ad, A' = some ad → ad.block < x0.heap.size := by rintro ad rfl; exact (o1.lt _ rfl).2
  have hBX : ∀ ad, B' = some ad → ad.block < x0.heap.size := by rintro ad rfl; exact (o2.lt _ rfl).2
  replace ra := ra.step hx0
  replace rb := rb.step hx0
  replace hb1 : Below w.heap.size w x0 := by (repeat (first | with_reducible exact Below.refl _ _ | with_reducible assumption | with_reducible refine Below.drew ?_ | with_reducible refine Below.drewN ?_ _ | with_reducible refine Below.alloc1 ?_ _ | with_reducible refine Below.setCell1 ?_ (by first | omega | (simp; done) | (simp; omega)) _ | with_reducible refine Below.step ?_ (by with_reducible assumption)))
  have hsz := hx0.size
  have k0_0 := k0.cell 0; have k0_f0 := k0.frozen 0; have k0_1 := k0.cell 1; have k0_f1 := k0.frozen 1; simp only [List.set_cons_zero, List.set_cons_succ, List.getElem?_cons_zero, List.getElem?_cons_succ] at k0_0 k0_1; have lt_k0 := k0.lt
  replace k0 := k0.step hx0; (try clear k0_0 k0_f0 k0_1 k0_f1); have k0_0 := k0.cell 0; have k0_f0 := k0.frozen 0; have k0_1 := k0.cell 1; have k0_f1 := k0.frozen 1; simp only [List.set_cons_zero, List.set_cons_succ, List.getElem?_cons_zero, List.getElem?_cons_succ] at k0_0 k0_1; (try clear lt_k0); have lt_k0 := k0.lt; replace k1 := k1.step hx0; (try clear lt_k1); have lt_k1 := k1.lt
  go_wp2_with fail
  generalize hV : World.alloc x0 _ = w2
  have hb2 : Below w.heap.size w w2 := by subst hV; (repeat (first | with_reducible exact Below.refl _ _ | with_reducible assumption | with_reducible refine Below.drew ?_ | with_reducible refine Below.drewN ?_ _ | with_reducible refine Below.alloc1 ?_ _ | with_reducible refine Below.setCell1 ?_ (by first | omega | (simp; done) | (simp; omega)) _ | with_reducible refine Below.step ?_ (by with_reducible assumption)))
  have hx2 : Below x0.heap.size x0 w2 := by subst hV; (repeat (first | with_reducible exact Below.refl _ _ | with_reducible assumption | with_reducible refine Below.drew ?_ | with_reducible refine Below.drewN ?_ _ | with_reducible refine Below.alloc1 ?_ _ | with_reducible refine Below.setCell1 ?_ (by first | omega | (simp; done) | (simp; omega)) _ | with_reducible refine Below.step ?_ (by with_reducible assumption)))
  have k2 : Bk w2 x0.heap.size 30 (stC A' l.length c' B' f.length d') := by subst hV; (repeat (first | with_reducible exact Bk.new' _ _ _ _ (by simp; done) | with_reducible assumption | with_reducible refine Bk.alloc ?_ _ | with_reducible refine Bk.drew ?_ | with_reducible refine Bk.drewN ?_ _ | with_reducible refine Bk.step ?_ (by with_reducible assumption) | with_reducible refine Bk.far ?_ (by first | omega | (simp; done) | (simp; omega)) _))
  clear hV
  replace k0 := k0.step hx2; (try clear k0_0 k0_f0 k0_1 k0_f1); have k0_0 := k0.cell 0; have k0_f0 := k0.frozen 0; have k0_1 := k0.cell 1; have k0_f1 := k0.frozen 1; simp only [List.set_cons_zero, List.set_cons_succ, List.getElem?_cons_zero, List.getElem?_cons_succ] at k0_0 k0_1; (try clear lt_k0); have lt_k0 := k0.lt; replace k1 := k1.step hx2; (try clear lt_k1); have lt_k1 := k1.lt
  replace o1 := own_below o1 hx2 (Nat.le_refl _)
  replace o2 := own_below o2 hx2 (Nat.le_refl _)
  replace ra := ra.step hx2
  replace rb := rb.step hx2
  have hsz2 := hx2.size
  have lt2 := k2.lt
  generalize hx0s : x0.heap.size = X at *
  clear hx2 hb1 ha hb hx0
  refine (pool_Check_any A B c d l f _ hl hf hd ra rb).mono ?_; rintro e x3 ⟨rfl, hx3⟩
  replace hb2 : Below w.heap.size w x3 := by (repeat (first | with_reducible exact Below.refl _ _ | with_reducible assumption | with_reducible refine Below.drew ?_ | with_reducible refine Below.drewN ?_ _ | with_reducible refine Below.alloc1 ?_ _ | with_reducible refine Below.setCell1 ?_ (by first | omega | (simp; done) | (simp; omega)) _ | with_reducible refine Below.step ?_ (by with_reducible assumption)))
  replace k1 := k1.step hx3; (try clear lt_k1); have lt_k1 := k1.lt; replace k2 := k2.step hx3; (try clear lt_k2); have lt_k2 := k2.lt
  replace o1 := own_below o1 hx3 (Nat.le_refl _)
  replace o2 := own_below o2 hx3 (Nat.le_refl _)
  have hsz3 := hx3.size
  (try clear k0_0 k0_f0 k0_1 k0_f1 lt_k0)
  clear k0 ra rb hx3
  have ro1 := own_rd o1
  have ro2 := own_rd o2
  have hcap : f.length ≤ d' := by
    rcases o2.2 with ⟨e, h0⟩ | ⟨g, cap, cur, e, _, _, h0, _⟩
    · omega
    · injection e with _ _ e; omega
  by_cases he : pCheck l f = 0
  · have hr : pTake l f v = if f.length = 0 then ((l, f), 0, 7) else ((l.set ((f.getD (f.length - 1) 0).toNat) ⟨(l.getD (f.getD (f.length - 1) 0).toNat default).gen, true, v⟩, f.take (f.length - 1)), (l.getD (f.getD (f.length - 1) 0).toNat default).gen * 64 + ((f.getD (f.length - 1) 0).toNat : Nat), 0) := by
      unfold pTake; rw [if_neg (by simpa using he)]
    have hro : ∀ W : World, Below X x3 W → True := fun _ _ => trivial
    obtain ⟨⟨hl0, hl64⟩, hgen, -, hfr⟩ := check_ok he
    have HG := hide hgen
    have HF := hide hfr
    rw [he]
    clear he hgen hfr hro
    have k1_0 := k1.cell 0; have k1_f0 := k1.frozen 0; have k1_1 := k1.cell 1; have k1_f1 := k1.frozen 1; simp only [List.set_cons_zero, List.set_cons_succ, List.getElem?_cons_zero, List.getElem?_cons_succ] at k1_0 k1_1; have lt_k1 := k1.lt; have k2_0 := k2.cell 0; have k2_f0 := k2.frozen 0; have k2_1 := k2.cell 1; have k2_f1 := k2.frozen 1; simp only [List.set_cons_zero, List.set_cons_succ, List.getElem?_cons_zero, List.getElem?_cons_succ] at k2_0 k2_1; have lt_k2 := k2.lt
    by_cases hn : f.length = 0
    · have hn' : ((f.length : Nat) : Int) - 1 < 0 := by omega
      rw [if_pos hn] at hr
      obtain rfl : f = [] := List.length_eq_zero_iff.1 hn
      go_wp2_with fail
      generalize hV : World.setCell (World.setCell x3 _ _) _ _ = w4
      have hb4 : Below w.heap.size w w4 := by subst hV; exact (hb2.setCell (by dsimp only; omega) _).setCell (by dsimp only; omega) _
      replace k1 : Bk w4 (w.heap.size + 1) 30 (stC A' l.length c' B' 0 d') := by subst hV; exact (k1.set_ 0 _).set_ 1 _
      replace ro1 : Rd w4 w4.heap.size A' (cls l) := by subst hV; exact (ro1.set1 (p := ⟨w.heap.size + 1, 0, none⟩) (own_fr o1) (by show w.heap.size + 1 < w1.heap.size; omega) _).set1 (p := ⟨w.heap.size + 1, 1, none⟩) (own_fr o1) (by show w.heap.size + 1 < w1.heap.size; omega) _
      replace ro2 : Rd w4 w4.heap.size B' (ints []) := by subst hV; exact (ro2.set1 (p := ⟨w.heap.size + 1, 0, none⟩) (own_fr o2) (by show w.heap.size + 1 < w1.heap.size; omega) _).set1 (p := ⟨w.heap.size + 1, 1, none⟩) (own_fr o2) (by show w.heap.size + 1 < w1.heap.size; omega) _
      (try clear k1_0 k1_f0 k1_1 k1_f1 lt_k1) ; (try clear k2_0 k2_f0 k2_1 k2_f1 lt_k2)
      have fA : Fr w.heap.size A' := (own_fr o1).mono (by omega)
      have fB : Fr w.heap.size B' := (own_fr o2).mono (by omega)
      clear hV o1 o2 k2
      have k1_0 := k1.cell 0; have k1_f0 := k1.frozen 0; have k1_1 := k1.cell 1; have k1_f1 := k1.frozen 1; simp only [List.set_cons_zero, List.set_cons_succ, List.getElem?_cons_zero, List.getElem?_cons_succ] at k1_0 k1_1
      exact bodyPost_ret (v := .tuple #[stV A' l.length c' B' 0 d', .int .i64 0, .int .i64 7]) (by simp only [results, Try.results10]; go_simp) rfl ⟨_, by rw [hr], by rw [hr]; exact ⟨A', c', B', d', rfl, hcap, ro1, ro2, fA, fB⟩, hb4⟩
    · obtain ⟨F, hF⟩ : ∃ F, f.length = F + 1 := ⟨f.length - 1, by omega⟩
      have hsub : ((f.length : Nat) : Int) - 1 = F := by omega
      have hFl : F < f.length := by omega
      obtain ⟨⟨p0, p1⟩, p2, _⟩ := free_ok HF.out hFl
      obtain ⟨q, hq⟩ : ∃ q : Nat, f[F] = q := ⟨f[F].toNat, by omega⟩
      have hql : q < l.length := by omega
      rw [if_neg hn, show f.length - 1 = F by omega, getD_at _ _ hFl, hq, Int.toNat_natCast, getD_at _ _ hql] at hr
      obtain ⟨g, pad, rfl, hgb, hgc, kr⟩ := own_bk o1 hl0
      obtain ⟨g2, pad2, rfl, hg2b, hg2c, kf⟩ := own_bk o2 (by omega)
      have hgX : g < X := hAX _ rfl
      have hg2X : g2 < X := hBX _ rfl
      have hgg : g ≠ g2 := by rintro rfl; exact absurd (kr.typ kf) (by decide)
      have q1 : x3.cell? ⟨g2, F, none⟩ = some (.int .i64 q) := by rw [kf.cell, List.getElem?_append_left (by simpa using hFl), List.getElem?_map, List.getElem?_eq_getElem hFl, hq]; rfl
      have hlt2 := kf.lt
      clear p0 p1 p2 hn
      go_wp2_with fail
      generalize hV : World.setCell x3 _ _ = w4
      have hb4 : Below w.heap.size w w4 := by subst hV; exact hb2.setCell (by dsimp only; omega) _
      have hx4 : w4.heap.size = x3.heap.size := by subst hV; simp [World.setCell]
      replace k2 : Bk w4 X 30 (stC (some ⟨g, 0, none⟩) l.length c' (some ⟨g2, 0, none⟩) F F) := by subst hV; exact k2.set_ 1 _
      replace k1 : Bk w4 (w.heap.size + 1) 30 (stC none 0 0 none 0 0) := by subst hV; exact k1.far (by dsimp only; omega) _
      replace kr : Bk w4 g 63 (cls l ++ pad) := by subst hV; exact kr.far (by dsimp only; omega) _
      replace kf : Bk w4 g2 3 (ints f ++ pad2) := by subst hV; exact kf.far (by dsimp only; omega) _
      (try clear k1_0 k1_f0 k1_1 k1_f1 lt_k1) ; (try clear k2_0 k2_f0 k2_1 k2_f1 lt_k2)
      clear hV o1 o2
      have k2_0 := k2.cell 0; have k2_f0 := k2.frozen 0; have k2_1 := k2.cell 1; have k2_f1 := k2.frozen 1; simp only [List.set_cons_zero, List.set_cons_succ, List.getElem?_cons_zero, List.getElem?_cons_succ] at k2_0 k2_1; have lt_k2 := k2.lt
      have hlt3 := kr.lt
      obtain ⟨c1, c2, c3⟩ : w4.cell? ⟨g, q * 3, none⟩ = some (.int .i64 l[q].gen) ∧ w4.cell? ⟨g, q * 3 + 1, none⟩ = some (.bool l[q].live) ∧ w4.cell? ⟨g, q * 3 + 2, none⟩ = some (.int .i64 l[q].val) := by
        have hlen := cls_length l
        obtain ⟨a1, a2, a3⟩ := cls_get l q hql
        refine ⟨?_, ?_, ?_⟩
        · rw [kr.cell, List.getElem?_append_left (by omega)]; exact a1
        · rw [kr.cell, List.getElem?_append_left (by omega)]; exact a2
        · rw [kr.cell, List.getElem?_append_left (by omega)]; exact a3
      have f1 := kr.frozen (q * 3 + 1)
      have f2 := kr.frozen (q * 3 + 2)
      have i1 : (q : Int) < (l.length : Int) := by omega
      have i0 : (0 : Int) ≤ (q : Int) := by omega
      clear q1 ro1 ro2 hlt2
      go_region
      clear c1 c2 c3 f1 f2 i1 i0
      (try clear k2_0 k2_f0 k2_1 k2_f1 lt_k2)
      generalize hV : World.drew _ = w5
      have hb5 : Below w.heap.size w w5 := by subst hV; exact ((hb4.setCell (by dsimp only; omega) _).setCell (by dsimp only; omega) _).drew
      have hx5 : w5.heap.size = w4.heap.size := by subst hV; simp [World.setCell, World.drew]
      replace k2 : Bk w5 X 30 (stC (some ⟨g, 0, none⟩) l.length c' (some ⟨g2, 0, none⟩) F F) := by subst hV; refine Bk.drew ((k2.far ?_ _).far ?_ _) <;> (dsimp only; omega)
      replace k1 : Bk w5 (w.heap.size + 1) 30 (stC none 0 0 none 0 0) := by subst hV; refine Bk.drew ((k1.far ?_ _).far ?_ _) <;> (dsimp only; omega)
      replace kf : Bk w5 g2 3 (ints f ++ pad2) := by subst hV; refine Bk.drew ((kf.far ?_ _).far ?_ _) <;> (dsimp only; omega)
      replace kr : Bk w5 g 63 (cls (l.set q ⟨l[q].gen, true, v⟩) ++ pad) := by subst hV; rw [← cls_set2 l pad q hql true v]; exact ((kr.set_ _ _).set_ _ _).drew
      clear hV hb4
      have hq' : q < (l.set q ⟨l[q].gen, true, v⟩).length := by rw [List.length_set]; exact hql
      have hgq := HG.out _ (List.getElem_mem hql)
      have hH := fun (W : World) (h : Below w5.heap.size w5 W) => pool_handle_any (some ⟨g, 0, none⟩) (some ⟨g2, 0, none⟩) c' F (l.set q ⟨l[q].gen, true, v⟩) F q W (by rw [List.length_set]; omega) hq' (by rw [List.getElem_set_self]; exact hgq) (kr.rd1.step h)
      simp only [List.getElem_set_self, List.length_set] at hH
      have k1_0 := k1.cell 0; have k1_f0 := k1.frozen 0; have k1_1 := k1.cell 1; have k1_f1 := k1.frozen 1; simp only [List.set_cons_zero, List.set_cons_succ, List.getElem?_cons_zero, List.getElem?_cons_succ] at k1_0 k1_1; have lt_k1 := k1.lt; have k2_0 := k2.cell 0; have k2_f0 := k2.frozen 0; have k2_1 := k2.cell 1; have k2_f1 := k2.frozen 1; simp only [List.set_cons_zero, List.set_cons_succ, List.getElem?_cons_zero, List.getElem?_cons_succ] at k2_0 k2_1; have lt_k2 := k2.lt
      go_wp2_with fail
      refine wp_region_mt 4 [(3, only (.int .i64 (l[q].gen * 64 + q)))] (by kernel_rfl) (by kernel_rfl) (by kernel_rfl) (by kernel_rfl) (sts_cons (sts_only _) sts_nil) (fun kq => ?_); (try dsimp only [List.append, List.take])
      (repeat (refine wpM_via (by kernel_rfl) ?_; go_big_quiet_step (fail); refine wpQuiet_nil ?_))
      (refine wpM_only _ (.int .i64 (l[q].gen * 64 + q)) (by kernel_rfl) (by kernel_rfl) rfl (later_some _) ?_ ?_; (focus (intro x hx hk; obtain ⟨px, rfl⟩ := hx; go_simp; (first | with_reducible refine mUpon_enter ?_ | with_reducible refine mUpon_value ?_); go_at_call 31; exact (hH _ (below_regrown w5 _ _)).mo)); intro K hK; go_big_quiet_op; refine hK _ ?_; clear hK K)
      refine wpM_nil ?_; intro wq hwq hfq; have hbq := below_of_class hwq; clear hwq kq; (try dsimp only [List.drop])
      replace hb5 : Below w.heap.size w wq := by (repeat (first | with_reducible exact Below.refl _ _ | with_reducible assumption | with_reducible refine Below.drew ?_ | with_reducible refine Below.drewN ?_ _ | with_reducible refine Below.alloc1 ?_ _ | with_reducible refine Below.setCell1 ?_ (by first | omega | (simp; done) | (simp; omega)) _ | with_reducible refine Below.step ?_ (by with_reducible assumption)))
      replace kr := kr.step hbq
      replace kf := kf.step hbq
      replace k1 := k1.step hbq; (try clear k1_0 k1_f0 k1_1 k1_f1); have k1_0 := k1.cell 0; have k1_f0 := k1.frozen 0; have k1_1 := k1.cell 1; have k1_f1 := k1.frozen 1; simp only [List.set_cons_zero, List.set_cons_succ, List.getElem?_cons_zero, List.getElem?_cons_succ] at k1_0 k1_1; (try clear lt_k1); have lt_k1 := k1.lt; replace k2 := k2.step hbq; (try clear k2_0 k2_f0 k2_1 k2_f1); have k2_0 := k2.cell 0; have k2_f0 := k2.frozen 0; have k2_1 := k2.cell 1; have k2_f1 := k2.frozen 1; simp only [List.set_cons_zero, List.set_cons_succ, List.getElem?_cons_zero, List.getElem?_cons_succ] at k2_0 k2_1; (try clear lt_k2); have lt_k2 := k2.lt
      clear hfq hbq
      go_wp2_with fail
      (try clear k1_0 k1_f0 k1_1 k1_f1 lt_k1) ; (try clear k2_0 k2_f0 k2_1 k2_f1 lt_k2)
      generalize hV : World.setCell (World.setCell wq _ _) _ _ = w6
      have hb6 : Below w.heap.size w w6 := by subst hV; exact (hb5.setCell (by dsimp only; omega) _).setCell (by dsimp only; omega) _
      replace k1 : Bk w6 (w.heap.size + 1) 30 (stC (some ⟨g, 0, none⟩) l.length c' (some ⟨g2, 0, none⟩) F F) := by subst hV; exact (k1.set_ 0 _).set_ 1 _
      replace kf : Bk w6 g2 3 (ints f ++ pad2) := by subst hV; refine (kf.far ?_ _).far ?_ _ <;> (dsimp only; omega)
      replace kr : Bk w6 g 63 (cls (l.set q ⟨l[q].gen, true, v⟩) ++ pad) := by subst hV; refine (kr.far ?_ _).far ?_ _ <;> (dsimp only; omega)
      clear hV k2
      have k1_0 := k1.cell 0; have k1_f0 := k1.frozen 0; have k1_1 := k1.cell 1; have k1_f1 := k1.frozen 1; simp only [List.set_cons_zero, List.set_cons_succ, List.getElem?_cons_zero, List.getElem?_cons_succ] at k1_0 k1_1
      have rf : Rd w6 w6.heap.size (some ⟨g2, 0, none⟩) (ints (f.take F)) := by
        have := kf.rd1.take F
        rwa [show ints (f.take F) = (ints f).take F by simp [ints, List.map_take]]
      exact bodyPost_ret (v := .tuple #[stV (some ⟨g, 0, none⟩) l.length c' (some ⟨g2, 0, none⟩) F F, .int .i64 (l[q].gen * 64 + q), .int .i64 0]) (by simp only [results, Try.results10]; go_simp) rfl ⟨_, by rw [hr], by rw [hr]; exact ⟨some ⟨g, 0, none⟩, c', some ⟨g2, 0, none⟩, F, by rw [List.length_set, List.length_take, Nat.min_eq_left (by omega)], by rw [List.length_take]; omega, kr.rd1, rf, fun ad e => by (cases e; show w.heap.size ≤ g; omega), fun ad e => by (cases e; show w.heap.size ≤ g2; omega)⟩, hb6⟩
  · have hr : pTake l f v = ((l, f), 0, pCheck l f) := by unfold pTake; rw [if_pos he]
    have hne : (pCheck l f != 0) = true := by simpa using he
    generalize pCheck l f = ec at *
    clear he
    have k1_0 := k1.cell 0; have k1_f0 := k1.frozen 0; have k1_1 := k1.cell 1; have k1_f1 := k1.frozen 1; simp only [List.set_cons_zero, List.set_cons_succ, List.getElem?_cons_zero, List.getElem?_cons_succ] at k1_0 k1_1; have lt_k1 := k1.lt; have k2_0 := k2.cell 0; have k2_f0 := k2.frozen 0; have k2_1 := k2.cell 1; have k2_f1 := k2.frozen 1; simp only [List.set_cons_zero, List.set_cons_succ, List.getElem?_cons_zero, List.getElem?_cons_succ] at k2_0 k2_1; have lt_k2 := k2.lt
    go_wp2_with fail
    generalize hV : World.setCell (World.setCell x3 _ _) _ _ = w4
    have hb4 : Below w.heap.size w w4 := by subst hV; exact (hb2.setCell (by dsimp only; omega) _).setCell (by dsimp only; omega) _
    replace k1 : Bk w4 (w.heap.size + 1) 30 (stC A' l.length c' B' f.length d') := by subst hV; exact (k1.set_ 0 _).set_ 1 _
    replace ro1 : Rd w4 w4.heap.size A' (cls l) := by subst hV; exact (ro1.set1 (p := ⟨w.heap.size + 1, 0, none⟩) (own_fr o1) (by show w.heap.size + 1 < w1.heap.size; omega) _).set1 (p := ⟨w.heap.size + 1, 1, none⟩) (own_fr o1) (by show w.heap.size + 1 < w1.heap.size; omega) _
    replace ro2 : Rd w4 w4.heap.size B' (ints f) := by subst hV; exact (ro2.set1 (p := ⟨w.heap.size + 1, 0, none⟩) (own_fr o2) (by show w.heap.size + 1 < w1.heap.size; omega) _).set1 (p := ⟨w.heap.size + 1, 1, none⟩) (own_fr o2) (by show w.heap.size + 1 < w1.heap.size; omega) _
    (try clear k1_0 k1_f0 k1_1 k1_f1 lt_k1) ; (try clear k2_0 k2_f0 k2_1 k2_f1 lt_k2)
    have fA : Fr w.heap.size A' := (own_fr o1).mono (by omega)
    have fB : Fr w.heap.size B' := (own_fr o2).mono (by omega)
    clear hV o1 o2 k2
    have k1_0 := k1.cell 0; have k1_f0 := k1.frozen 0; have k1_1 := k1.cell 1; have k1_f1 := k1.frozen 1; simp only [List.set_cons_zero, List.set_cons_succ, List.getElem?_cons_zero, List.getElem?_cons_succ] at k1_0 k1_1
    exact bodyPost_ret (v := .tuple #[stV A' l.length c' B' f.length d', .int .i64 0, .int .i64 ec]) (by simp only [results, Try.results10]; go_simp) rfl ⟨_, by rw [hr], by rw [hr]; exact ⟨A', c', B', d', rfl, hcap, ro1, ro2, fA, fB⟩, hb4⟩
end Go.Proofs.Ytnmpighdkdffbaa
