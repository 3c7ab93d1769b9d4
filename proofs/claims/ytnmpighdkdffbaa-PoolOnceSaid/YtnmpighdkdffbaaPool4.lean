/- Package pool: change, Give, Set. -/
import Derived.Test.YtnmpighdkdffbaaPool3
namespace Go.Proofs.Ytnmpighdkdffbaa
open Go.RowKit Go.Sort
set_option linter.unusedSimpArgs false
set_option linter.unusedVariables false

/-- what a change does to a live cell's place -/
def DoAt (g : FuncId) (cap : Array Value) (D : List Cl → List Int → Nat → List Cl × List Int) (w : World) (l : List Cl) (f : List Int) : Prop :=
  ∀ (q : Nat) (hq : q < l.length) (W : World) (base X G : Nat) (pad : List Value) (c : Nat) (B : Option Addr) (d : Nat), Below w.heap.size w W → w.heap.size ≤ base → base ≤ X → base ≤ G →
    Bk W X 30 (stC (some ⟨G, 0, none⟩) l.length c B f.length d) → Bk W G 63 (cls l ++ pad) → W.ownsRow base 3 1 (.slice B f.length d) f.length (ints f) → f.length ≤ d →
    Calls Try.prog g (#[.pointer (some ⟨X, 0, none⟩), .int .i64 q] ++ cap) W fun e W' => e = .returned (.tuple #[]) ∧
      ∃ B' d', Bk W' X 30 (stC (some ⟨G, 0, none⟩) l.length c B' (D l f q).2.length d') ∧ Bk W' G 63 (cls (D l f q).1 ++ pad) ∧ Rd W' W'.heap.size B' (ints (D l f q).2) ∧ Fr base B' ∧ (D l f q).2.length ≤ d' ∧ Below base W W'
def pChange (D : List Cl → List Int → Nat → List Cl × List Int) (l : List Cl) (f : List Int) (h : Int) : (List Cl × List Int) × Int :=
  if pCheck l f ≠ 0 then ((l, f), pCheck l f) else if (pFind l h).2 = false then ((l, f), 6) else (D l f (pFind l h).1.toNat, 0)
theorem find_ok {l : List Cl} {h : Int} (hf : (pFind l h).2 = true) : ∃ q, ∃ hq : q < l.length, (pFind l h).1 = q ∧ l[q].live = true ∧ l[q].gen * 64 + q = h ∧ 0 ≤ h ∧ h % 64 = q := by
  unfold pFind at hf ⊢
  split at hf
  · cases hf
  · rename_i hn
    rw [if_neg hn]
    have hq : (h % 64).toNat < l.length := by omega
    rw [getD_at _ _ hq] at hf
    simp only [Bool.and_eq_true, beq_iff_eq] at hf
    exact ⟨(h % 64).toNat, hq, by simp only; omega, hf.1, by omega, by omega, by omega⟩

set_option maxHeartbeats 4000000 in
theorem pool_change_any (g : FuncId) (cap : Array Value) (eg : ∀ args w, (callFunc g args).run Try.prog w = .ok (.enter g args) w) (D : List Cl → List Int → Nat → List Cl × List Int) (V : Value) (l : List Cl) (f : List Int) (h : Int) (w : World) (hl : l.length ≤ 1000) (hf : f.length ≤ 1000) (hh : -9223372036854775808 ≤ h ∧ h ≤ 9223372036854775807) (hV : StAt w V l f) (hD : ∀ q, (D l f q).1.length = l.length) (hdo : pCheck l f = 0 → DoAt g cap D w l f) :
    Calls Try.prog 33 #[V, .int .i64 h, .func (.func g) #[] cap] w fun e w' => ∃ V', e = .returned (.tuple #[V', .int .i64 (pChange D l f h).2]) ∧ StFr w.heap.size w' V' (pChange D l f h).1.1 (pChange D l f h).1.2 ∧ Below w.heap.size w w' := by
  obtain ⟨A, c, B, d, rfl, hd, ha, hb⟩ := hV
  go_enter Try.func33, Try.ntmps33
  go_wp2_with fail
  generalize hV : World.alloc (World.alloc w _) _ = w1
  have hb1 : Below w.heap.size w w1 := by subst hV; (repeat (first | with_reducible exact Below.refl _ _ | with_reducible assumption | with_reducible refine Below.drew ?_ | with_reducible refine Below.drewN ?_ _ | with_reducible refine Below.alloc1 ?_ _ | with_reducible refine Below.setCell1 ?_ (by first | omega | (simp; done) | (simp; omega)) _ | with_reducible refine Below.step ?_ (by with_reducible assumption)))
  have k0 : Bk w1 w.heap.size 30 (stC A l.length c B f.length d) := by subst hV; (repeat (first | with_reducible exact Bk.new' _ _ _ _ (by simp; done) | with_reducible assumption | with_reducible refine Bk.alloc ?_ _ | with_reducible refine Bk.drew ?_ | with_reducible refine Bk.drewN ?_ _ | with_reducible refine Bk.step ?_ (by with_reducible assumption) | with_reducible refine Bk.far ?_ (by first | omega | (simp; done) | (simp; omega)) _))
  have k1 : Bk w1 (w.heap.size + 1) 30 (stC none 0 0 none 0 0) := by subst hV; (repeat (first | with_reducible exact Bk.new' _ _ _ _ (by simp; done) | with_reducible assumption | with_reducible refine Bk.alloc ?_ _ | with_reducible refine Bk.drew ?_ | with_reducible refine Bk.drewN ?_ _ | with_reducible refine Bk.step ?_ (by with_reducible assumption) | with_reducible refine Bk.far ?_ (by first | omega | (simp; done) | (simp; omega)) _))
  clear hV
  have ra := (ha.below hb1).more hb1.size
  have rb := (hb.below hb1).more hb1.size
  have lt1 := k1.lt
  refine (pool_own_any A B c d l f _ hl hf ra rb).mono ?_; rintro e x0 ⟨A', c', B', d', rfl, o1, o2, hx0⟩
  have hAX : ∀ ad, A' = some ad → ad.block < x0.heap.size := by rintro ad rfl; exact (o1.lt _ rfl).2
  have hBX : ∀ ad, B' = some ad → ad.block < x0.heap.size := by rintro ad rfl; exact (o2.lt _ rfl).2
  replace ra := ra.step hx0
  replace rb := rb.step hx0
  replace hb1 : Below w.heap.size w x0 := by (repeat (first | with_reducible exact Below.refl _ _ | with_reducible assumption | with_reducible refine Below.drew ?_ | with_reducible refine Below.drewN ?_ _ | with_reducible refine Below.alloc1 ?_ _ | with_reducible refine Below.setCell1 ?_ (by first | omega | (simp; done) | (simp; omega)) _ | with_reducible refine Below.step ?_ (by with_reducible assumption)))
  have hsz := hx0.size
  have k0_0 := k0.cell 0; have k0_f0 := k0.frozen 0; have k0_1 := k0.cell 1; have k0_f1 := k0.frozen 1; simp only [List.set_cons_zero, List.set_cons_succ, List.getElem?_cons_zero, List.getElem?_cons_succ] at k0_0 k0_1; have lt_k0 := k0.lt
  replace k0 := k0.step hx0; (try clear k0_0 k0_f0 k0_1 k0_f1); have k0_0 := k0.cell 0; have k0_f0 := k0.frozen 0; have k0_1 := k0.cell 1; have k0_f1 := k0.frozen 1; simp only [List.set_cons_zero, List.set_cons_succ, List.getElem?_cons_zero, List.getElem?_cons_succ] at k0_0 k0_1; (try clear lt_k0); have lt_k0 := k0.lt; replace k1 := k1.step hx0; (try clear lt_k1); have lt_k1 := k1.lt
  go_wp2_with fail
  generalize hV : World.alloc x0 _ = w2
  have hb2 : Below w.heap.size w w2 := by subst hV; (repeat (first | with_reducible exact Below.refl _ _ | with_reducible assumption | with_reducible refine Below.drew ?_ | with_reducible refine Below.drewN ?_ _ | with_reducible refine Below.alloc1 ?_ _ | with_reducible refine Below.setCell1 ?_ (by first | omega | (simp; done) | (simp; omega)) _ | with_reducible refine Below.step ?_ (by with_reducible assumption)))
  have hx2 : Below x0.heap.size x0 w2 := by subst hV; (repeat (first | with_reducible exact Below.refl _ _ | with_reducible assumption | with_reducible refine Below.drew ?_ | with_reducible refine Below.drewN ?_ _ | with_reducible refine Below.alloc1 ?_ _ | with_reducible refine Below.setCell1 ?_ (by first | omega | (simp; done) | (simp; omega)) _ | with_reducible refine Below.step ?_ (by with_reducible assumption)))
  have k2 : Bk w2 x0.heap.size 30 (stC A' l.length c' B' f.length d') := by subst hV; (repeat (first | with_reducible exact Bk.new' _ _ _ _ (by simp; done) | with_reducible assumption | with_reducible refine Bk.alloc ?_ _ | with_reducible refine Bk.drew ?_ | with_reducible refine Bk.drewN ?_ _ | with_reducible refine Bk.step ?_ (by with_reducible assumption) | with_reducible refine Bk.far ?_ (by first | omega | (simp; done) | (simp; omega)) _))
  clear hV
  replace k0 := k0.step hx2; (try clear k0_0 k0_f0 k0_1 k0_f1); have k0_0 := k0.cell 0; have k0_f0 := k0.frozen 0; have k0_1 := k0.cell 1; have k0_f1 := k0.frozen 1; simp only [List.set_cons_zero, List.set_cons_succ, List.getElem?_cons_zero, List.getElem?_cons_succ] at k0_0 k0_1; (try clear lt_k0); have lt_k0 := k0.lt; replace k1 := k1.step hx2; (try clear lt_k1); have lt_k1 := k1.lt
  replace o1 := own_below o1 hx2 (Nat.le_refl _)
  replace o2 := own_below o2 hx2 (Nat.le_refl _)
  replace ra := ra.step hx2
  replace rb := rb.step hx2
  have hsz2 := hx2.size
  have lt2 := k2.lt
  generalize hx0s : x0.heap.size = X at *
  clear hx2 hb1 ha hb hx0
  refine (pool_Check_any A B c d l f _ hl hf hd ra rb).mono ?_; rintro e x3 ⟨rfl, hx3⟩
  replace hb2 : Below w.heap.size w x3 := by (repeat (first | with_reducible exact Below.refl _ _ | with_reducible assumption | with_reducible refine Below.drew ?_ | with_reducible refine Below.drewN ?_ _ | with_reducible refine Below.alloc1 ?_ _ | with_reducible refine Below.setCell1 ?_ (by first | omega | (simp; done) | (simp; omega)) _ | with_reducible refine Below.step ?_ (by with_reducible assumption)))
  replace k0 := k0.step hx3; (try clear k0_0 k0_f0 k0_1 k0_f1); have k0_0 := k0.cell 0; have k0_f0 := k0.frozen 0; have k0_1 := k0.cell 1; have k0_f1 := k0.frozen 1; simp only [List.set_cons_zero, List.set_cons_succ, List.getElem?_cons_zero, List.getElem?_cons_succ] at k0_0 k0_1; (try clear lt_k0); have lt_k0 := k0.lt; replace k1 := k1.step hx3; (try clear lt_k1); have lt_k1 := k1.lt; replace k2 := k2.step hx3; (try clear lt_k2); have lt_k2 := k2.lt
  replace o1 := own_below o1 hx3 (Nat.le_refl _)
  replace o2 := own_below o2 hx3 (Nat.le_refl _)
  replace ra := ra.step hx3
  have hsz3 := hx3.size
  clear rb hx3
  have hcap : f.length ≤ d' := by
    rcases o2.2 with ⟨e, h0⟩ | ⟨g, cap, cur, e, _, _, h0, _⟩
    · omega
    · injection e with _ _ e; omega
  by_cases he : pCheck l f = 0
  · replace hdo := hdo he
    have hr : pChange D l f h = if (pFind l h).2 = false then ((l, f), 6) else (D l f (pFind l h).1.toNat, 0) := by unfold pChange; rw [if_neg (by simpa using he)]
    obtain ⟨⟨hl0, hl64⟩, hgen, -, hfr⟩ := check_ok he
    rw [he]
    clear he hfr
    have hF := fun (W : World) (h' : Below x3.heap.size x3 W) => pool_find_any A B c d l f.length h W hl hh hgen (ra.step h')
    have HG := hide hgen
    clear hgen
    go_wp2_with fail
    refine (hF _ (Below.refl _ _)).mono ?_; rintro e x4 ⟨rfl, hx4⟩
    clear hF
    replace hb2 : Below w.heap.size w x4 := by (repeat (first | with_reducible exact Below.refl _ _ | with_reducible assumption | with_reducible refine Below.drew ?_ | with_reducible refine Below.drewN ?_ _ | with_reducible refine Below.alloc1 ?_ _ | with_reducible refine Below.setCell1 ?_ (by first | omega | (simp; done) | (simp; omega)) _ | with_reducible refine Below.step ?_ (by with_reducible assumption)))
    (try clear k0_0 k0_f0 k0_1 k0_f1 lt_k0)
    replace k1 := k1.step hx4; (try clear lt_k1); have lt_k1 := k1.lt; replace k2 := k2.step hx4; (try clear lt_k2); have lt_k2 := k2.lt
    replace o1 := own_below o1 hx4 (Nat.le_refl _)
    replace o2 := own_below o2 hx4 (Nat.le_refl _)
    have hsz4 := hx4.size
    clear hx4 k0 ra
    have k1_0 := k1.cell 0; have k1_f0 := k1.frozen 0; have k1_1 := k1.cell 1; have k1_f1 := k1.frozen 1; simp only [List.set_cons_zero, List.set_cons_succ, List.getElem?_cons_zero, List.getElem?_cons_succ] at k1_0 k1_1; have lt_k1 := k1.lt; have k2_0 := k2.cell 0; have k2_f0 := k2.frozen 0; have k2_1 := k2.cell 1; have k2_f1 := k2.frozen 1; simp only [List.set_cons_zero, List.set_cons_succ, List.getElem?_cons_zero, List.getElem?_cons_succ] at k2_0 k2_1; have lt_k2 := k2.lt
    by_cases hfd : (pFind l h).2 = false
    · rw [if_pos hfd] at hr
      have ro1 := own_rd o1
      have ro2 := own_rd o2
      generalize hFD : pFind l h = fd at *
      obtain ⟨fd1, fd2⟩ := fd
      simp only at hfd
      subst hfd
      clear hFD
      go_wp2_with fail
      generalize hV : World.setCell (World.setCell x4 _ _) _ _ = w4
      have hb4 : Below w.heap.size w w4 := by subst hV; exact (hb2.setCell (by dsimp only; omega) _).setCell (by dsimp only; omega) _
      replace k1 : Bk w4 (w.heap.size + 1) 30 (stC A' l.length c' B' f.length d') := by subst hV; exact (k1.set_ 0 _).set_ 1 _
      replace ro1 : Rd w4 w4.heap.size A' (cls l) := by subst hV; exact (ro1.set1 (p := ⟨w.heap.size + 1, 0, none⟩) (own_fr o1) (by show w.heap.size + 1 < w1.heap.size; omega) _).set1 (p := ⟨w.heap.size + 1, 1, none⟩) (own_fr o1) (by show w.heap.size + 1 < w1.heap.size; omega) _
      replace ro2 : Rd w4 w4.heap.size B' (ints f) := by subst hV; exact (ro2.set1 (p := ⟨w.heap.size + 1, 0, none⟩) (own_fr o2) (by show w.heap.size + 1 < w1.heap.size; omega) _).set1 (p := ⟨w.heap.size + 1, 1, none⟩) (own_fr o2) (by show w.heap.size + 1 < w1.heap.size; omega) _
      (try clear k1_0 k1_f0 k1_1 k1_f1 lt_k1) ; (try clear k2_0 k2_f0 k2_1 k2_f1 lt_k2)
      have fA : Fr w.heap.size A' := (own_fr o1).mono (by omega)
      have fB : Fr w.heap.size B' := (own_fr o2).mono (by omega)
      clear hV o1 o2 k2
      have k1_0 := k1.cell 0; have k1_f0 := k1.frozen 0; have k1_1 := k1.cell 1; have k1_f1 := k1.frozen 1; simp only [List.set_cons_zero, List.set_cons_succ, List.getElem?_cons_zero, List.getElem?_cons_succ] at k1_0 k1_1
      exact bodyPost_ret (v := .tuple #[stV A' l.length c' B' f.length d', .int .i64 6]) (by simp only [results, Try.results33]; go_simp) rfl ⟨_, by rw [hr], by rw [hr]; exact ⟨A', c', B', d', rfl, hcap, ro1, ro2, fA, fB⟩, hb4⟩
    · have hfd' : (pFind l h).2 = true := by simpa using hfd
      rw [if_neg hfd] at hr
      obtain ⟨q, hq, e1, hlv, -, -, -⟩ := find_ok hfd'
      rw [e1, Int.toNat_natCast] at hr
      generalize hFD : pFind l h = fd at *
      obtain ⟨fd1, fd2⟩ := fd
      simp only at hfd' e1
      subst hfd' e1
      clear hFD hfd
      obtain ⟨G, pad, rfl, hGb, hGc, kr⟩ := own_bk o1 hl0
      have hGX : G < X := hAX _ rfl
      go_wp2_with fail
      refine (hdo q hq x4 w1.heap.size X G pad c' B' d' hb2 (by omega) (by omega) hGb k2 kr o2 hcap).mono ?_; rintro e x5 ⟨rfl, B2, d2, j2, jr, rf, hfr, hd2, hx5⟩
      have hb5 : Below w.heap.size w x5 := hb2.trans (hx5.mono (by omega))
      have j1 : Bk x5 (w.heap.size + 1) 30 (stC none 0 0 none 0 0) := k1.below hx5 lt1
      have hDq := hD q
      have lg := jr.lt
      have lx := j2.lt
      (try clear k1_0 k1_f0 k1_1 k1_f1 lt_k1) ; (try clear k2_0 k2_f0 k2_1 k2_f1 lt_k2)
      clear k1 k2 kr o1 o2 hx5 hb2 hdo
      generalize hDD : D l f q = DD at *
      obtain ⟨l', f'⟩ := DD
      simp only at j2 jr rf hd2 hDq
      have j1_0 := j1.cell 0; have j1_f0 := j1.frozen 0; have j1_1 := j1.cell 1; have j1_f1 := j1.frozen 1; simp only [List.set_cons_zero, List.set_cons_succ, List.getElem?_cons_zero, List.getElem?_cons_succ] at j1_0 j1_1; have lt_j1 := j1.lt; have j2_0 := j2.cell 0; have j2_f0 := j2.frozen 0; have j2_1 := j2.cell 1; have j2_f1 := j2.frozen 1; simp only [List.set_cons_zero, List.set_cons_succ, List.getElem?_cons_zero, List.getElem?_cons_succ] at j2_0 j2_1; have lt_j2 := j2.lt
      go_wp2_with fail
      generalize hV : World.setCell (World.setCell x5 _ _) _ _ = w6
      have hb6 : Below w.heap.size w w6 := by subst hV; exact (hb5.setCell (by dsimp only; omega) _).setCell (by dsimp only; omega) _
      replace j1 : Bk w6 (w.heap.size + 1) 30 (stC (some ⟨G, 0, none⟩) l.length c' B2 f'.length d2) := by subst hV; exact (j1.set_ 0 _).set_ 1 _
      replace jr : Bk w6 G 63 (cls l' ++ pad) := by subst hV; refine (jr.far ?_ _).far ?_ _ <;> (dsimp only; omega)
      replace rf : Rd w6 w6.heap.size B2 (ints f') := by subst hV; exact (rf.set1 (p := ⟨w.heap.size + 1, 0, none⟩) hfr (by show w.heap.size + 1 < w1.heap.size; omega) _).set1 (p := ⟨w.heap.size + 1, 1, none⟩) hfr (by show w.heap.size + 1 < w1.heap.size; omega) _
      (try clear j1_0 j1_f0 j1_1 j1_f1 lt_j1) ; (try clear j2_0 j2_f0 j2_1 j2_f1 lt_j2)
      clear hV j2
      have j1_0 := j1.cell 0; have j1_f0 := j1.frozen 0; have j1_1 := j1.cell 1; have j1_f1 := j1.frozen 1; simp only [List.set_cons_zero, List.set_cons_succ, List.getElem?_cons_zero, List.getElem?_cons_succ] at j1_0 j1_1
      exact bodyPost_ret (v := .tuple #[stV (some ⟨G, 0, none⟩) l.length c' B2 f'.length d2, .int .i64 0]) (by simp only [results, Try.results33]; go_simp) rfl ⟨_, by rw [hr], by rw [hr]; exact ⟨some ⟨G, 0, none⟩, c', B2, d2, by rw [hDq], hd2, jr.rd1, rf, fun ad e => by (cases e; show w.heap.size ≤ G; omega), hfr.mono (by omega)⟩, hb6⟩
  · have hr : pChange D l f h = ((l, f), pCheck l f) := by unfold pChange; rw [if_pos he]
    have hne : (pCheck l f != 0) = true := by simpa using he
    have ro1 := own_rd o1
    have ro2 := own_rd o2
    clear hdo
    generalize pCheck l f = ec at *
    clear he
    (try clear k0_0 k0_f0 k0_1 k0_f1 lt_k0)
    have k1_0 := k1.cell 0; have k1_f0 := k1.frozen 0; have k1_1 := k1.cell 1; have k1_f1 := k1.frozen 1; simp only [List.set_cons_zero, List.set_cons_succ, List.getElem?_cons_zero, List.getElem?_cons_succ] at k1_0 k1_1; have lt_k1 := k1.lt; have k2_0 := k2.cell 0; have k2_f0 := k2.frozen 0; have k2_1 := k2.cell 1; have k2_f1 := k2.frozen 1; simp only [List.set_cons_zero, List.set_cons_succ, List.getElem?_cons_zero, List.getElem?_cons_succ] at k2_0 k2_1; have lt_k2 := k2.lt
    go_wp2_with fail
    generalize hV : World.setCell (World.setCell x3 _ _) _ _ = w4
    have hb4 : Below w.heap.size w w4 := by subst hV; exact (hb2.setCell (by dsimp only; omega) _).setCell (by dsimp only; omega) _
    replace k1 : Bk w4 (w.heap.size + 1) 30 (stC A' l.length c' B' f.length d') := by subst hV; exact (k1.set_ 0 _).set_ 1 _
    replace ro1 : Rd w4 w4.heap.size A' (cls l) := by subst hV; exact (ro1.set1 (p := ⟨w.heap.size + 1, 0, none⟩) (own_fr o1) (by show w.heap.size + 1 < w1.heap.size; omega) _).set1 (p := ⟨w.heap.size + 1, 1, none⟩) (own_fr o1) (by show w.heap.size + 1 < w1.heap.size; omega) _
    replace ro2 : Rd w4 w4.heap.size B' (ints f) := by subst hV; exact (ro2.set1 (p := ⟨w.heap.size + 1, 0, none⟩) (own_fr o2) (by show w.heap.size + 1 < w1.heap.size; omega) _).set1 (p := ⟨w.heap.size + 1, 1, none⟩) (own_fr o2) (by show w.heap.size + 1 < w1.heap.size; omega) _
    (try clear k1_0 k1_f0 k1_1 k1_f1 lt_k1) ; (try clear k2_0 k2_f0 k2_1 k2_f1 lt_k2)
    have fA : Fr w.heap.size A' := (own_fr o1).mono (by omega)
    have fB : Fr w.heap.size B' := (own_fr o2).mono (by omega)
    clear hV o1 o2 k2
    have k1_0 := k1.cell 0; have k1_f0 := k1.frozen 0; have k1_1 := k1.cell 1; have k1_f1 := k1.frozen 1; simp only [List.set_cons_zero, List.set_cons_succ, List.getElem?_cons_zero, List.getElem?_cons_succ] at k1_0 k1_1
    exact bodyPost_ret (v := .tuple #[stV A' l.length c' B' f.length d', .int .i64 ec]) (by simp only [results, Try.results33]; go_simp) rfl ⟨_, by rw [hr], by rw [hr]; exact ⟨A', c', B', d', rfl, hcap, ro1, ro2, fA, fB⟩, hb4⟩

theorem own_ne {w : World} {base g : Nat} {e t : TypeId} {size : Nat} {v : Value} {n : Nat} {xs cs : List Value} (h : w.ownsRow base e size v n xs) (k : Bk w g t cs) (hne : e ≠ t) : ∀ j, v.ownBlock = some j → j ≠ g := by
  rintro j hj rfl
  rcases h.2 with ⟨rfl, _⟩ | ⟨g', cap, cur, rfl, _, hh, _⟩
  · cases hj
  · cases hj
    unfold Bk at k
    rw [hh] at k
    injection k with k
    injection k with _ k
    exact hne k
theorem row_cells {w : World} {g : Nat} {l : List Cl} {pad : List Value} (kr : Bk w g 63 (cls l ++ pad)) {q : Nat} (hql : q < l.length) : w.cell? ⟨g, q * 3, none⟩ = some (.int .i64 l[q].gen) ∧ w.cell? ⟨g, q * 3 + 1, none⟩ = some (.bool l[q].live) ∧ w.cell? ⟨g, q * 3 + 2, none⟩ = some (.int .i64 l[q].val) := by
  have hlen := cls_length l
  obtain ⟨a1, a2, a3⟩ := cls_get l q hql
  refine ⟨?_, ?_, ?_⟩
  · rw [kr.cell, List.getElem?_append_left (by omega)]; exact a1
  · rw [kr.cell, List.getElem?_append_left (by omega)]; exact a2
  · rw [kr.cell, List.getElem?_append_left (by omega)]; exact a3
def setD (v : Int) (l : List Cl) (f : List Int) (q : Nat) : List Cl × List Int := (l.set q ⟨(l.getD q default).gen, (l.getD q default).live, v⟩, f)
def backX (l : List Cl) (q : Nat) : Cl := ⟨(l.getD q default).gen + 1, false, 0⟩
def giveD (l : List Cl) (f : List Int) (q : Nat) : List Cl × List Int := (l.set q (backX l q), if pSpare (backX l q) then f ++ [(q : Int)] else f)

set_option maxHeartbeats 4000000 in
theorem set_do (v : Int) (b : Nat) (w : World) (l : List Cl) (f : List Int) (hl : l.length ≤ 1000) (hb : b < w.heap.size) (hv : w.cell? ⟨b, 0, none⟩ = some (.int .i64 v)) : DoAt 37 #[.pointer (some ⟨b, 0, none⟩)] (setD v) w l f := by
  intro q hq W base X G pad c B d hbw hwb hX hG k2 kr o hd
  have hv' : W.cell? ⟨b, 0, none⟩ = some (.int .i64 v) := (hbw.cell (p := ⟨b, 0, none⟩) hb).trans hv
  obtain ⟨c1, c2, c3⟩ := row_cells kr hq
  have hGd := getD_at l q hq default
  have f2 := kr.frozen (q * 3 + 2)
  have i1 : (q : Int) < (l.length : Int) := by omega
  have i0 : (0 : Int) ≤ (q : Int) := by omega
  have hXG : X ≠ G := by rintro rfl; exact absurd (k2.typ kr) (by decide)
  have hoX := own_ne o k2 (by decide)
  have hoG := own_ne o kr (by decide)
  have lx := k2.lt
  have lg := kr.lt
  have ro := own_rd o
  have hfr := own_fr o
  generalize hx : l[q] = x at *
  show Calls Try.prog 37 #[.pointer (some ⟨X, 0, none⟩), .int .i64 q, .pointer (some ⟨b, 0, none⟩)] W _
  go_enter Try.func37, Try.ntmps37
  have k2_0 := k2.cell 0; have k2_f0 := k2.frozen 0; have k2_1 := k2.cell 1; have k2_f1 := k2.frozen 1; simp only [List.set_cons_zero, List.set_cons_succ, List.getElem?_cons_zero, List.getElem?_cons_succ] at k2_0 k2_1; have lt_k2 := k2.lt
  go_region
  (try clear k2_0 k2_f0 k2_1 k2_f1 lt_k2)
  generalize hV : World.drew _ = w5
  have hb5 : Below base W w5 := by subst hV; exact ((Below.refl base W).setCell (by dsimp only; omega) _).drew
  replace k2 : Bk w5 X 30 (stC (some ⟨G, 0, none⟩) l.length c B f.length d) := by subst hV; refine Bk.drew (k2.far ?_ _); dsimp only; omega
  replace kr : Bk w5 G 63 (cls (l.set q ⟨x.gen, x.live, v⟩) ++ pad) := by
    subst hV
    have h1 := cls_set2 l pad q hq x.live v
    rw [hx] at h1
    rw [← h1]
    have h2 : (cls l ++ pad).set (q * 3 + 1) (.bool x.live) = cls l ++ pad := by
      have hlen := cls_length l
      have h3 : (cls l ++ pad)[q * 3 + 1]? = some (.bool x.live) := by rw [List.getElem?_append_left (by omega), ← hx]; exact (cls_get l q hq).2.1
      apply List.ext_getElem?
      intro i
      rw [List.getElem?_set]
      split
      · rename_i e; subst e
        rw [h3, if_pos (by rw [List.length_append]; omega)]
      · rfl
    rw [h2]
    exact (kr.set_ _ _).drew
  replace ro : Rd w5 w5.heap.size B (ints f) := by
    subst hV
    have := ro.keep1 (p := ⟨G, q * 3 + 2, none⟩) (fun ad e => hoG _ (by subst e; rfl)) (.int .i64 v)
    have hsz : ((W.setCell ⟨G, q * 3 + 2, none⟩ (.int .i64 v)).drew).heap.size = W.heap.size := by simp [World.setCell, World.drew]
    rw [hsz]
    exact this
  clear hV
  go_end0
  refine ⟨rfl, B, d, k2, ?_, ro, hfr, hd, hb5⟩
  show Bk w5 G 63 (cls (l.set q ⟨(l.getD q default).gen, (l.getD q default).live, v⟩) ++ pad)
  rw [hGd]; exact kr

set_option maxHeartbeats 4000000 in
theorem give_do (w : World) (l : List Cl) (f : List Int) (hl : l.length ≤ 1000) (hf : f.length ≤ 1000) (hg : ∀ x ∈ l, 0 ≤ x.gen ∧ x.gen ≤ 1048576) : DoAt 34 #[] giveD w l f := by
  intro q hq W base X G pad c B d hbw hwb hX hG k2 kr o hd
  obtain ⟨iT, hi, hz0, hz1, hz2⟩ := info_parts pint_info
  obtain ⟨c1, c2, c3⟩ := row_cells kr hq
  have hGd := getD_at l q hq default
  have f0 := kr.frozen (q * 3)
  have f1 := kr.frozen (q * 3 + 1)
  have f2 := kr.frozen (q * 3 + 2)
  have i1 : (q : Int) < (l.length : Int) := by omega
  have i0 : (0 : Int) ≤ (q : Int) := by omega
  have hXG : X ≠ G := by rintro rfl; exact absurd (k2.typ kr) (by decide)
  have hoX := own_ne o k2 (by decide)
  have hoG := own_ne o kr (by decide)
  have lx := k2.lt
  have lg := kr.lt
  have hgq := hg _ (List.getElem_mem hq)
  have hset := cls_set l pad q hq ⟨l[q].gen + 1, false, 0⟩
  have hbk : backX l q = ⟨l[q].gen + 1, false, 0⟩ := by unfold backX; rw [hGd]
  clear hg
  generalize hx : l[q] = x at *
  show Calls Try.prog 34 #[.pointer (some ⟨X, 0, none⟩), .int .i64 q] W _
  go_enter Try.func34, Try.ntmps34
  have k2_0 := k2.cell 0; have k2_f0 := k2.frozen 0; have k2_1 := k2.cell 1; have k2_f1 := k2.frozen 1; simp only [List.set_cons_zero, List.set_cons_succ, List.getElem?_cons_zero, List.getElem?_cons_succ] at k2_0 k2_1; have lt_k2 := k2.lt
  go_wp2_with fail
  go_region
  (try clear k2_0 k2_f0 k2_1 k2_f1 lt_k2)
  clear c1 c2 c3 f0 f1 f2 i0 i1
  generalize hV : World.drew _ = w5
  have hb5 : Below base W w5 := by subst hV; exact ((((Below.refl base W).setCell (by dsimp only; omega) _).setCell (by dsimp only; omega) _).setCell (by dsimp only; omega) _).drew
  have hs5 : w5.heap.size = W.heap.size := by subst hV; simp [World.setCell, World.drew]
  replace k2 : Bk w5 X 30 (stC (some ⟨G, 0, none⟩) l.length c B f.length d) := by subst hV; refine Bk.drew (((k2.far ?_ _).far ?_ _).far ?_ _) <;> (dsimp only; omega)
  replace kr : Bk w5 G 63 (cls (l.set q ⟨x.gen + 1, false, 0⟩) ++ pad) := by subst hV; rw [← hset]; exact (((kr.set_ _ _).set_ _ _).set_ _ _).drew
  replace o : w5.ownsRow base 3 1 (.slice B f.length d) f.length (ints f) := by
    subst hV
    have h1 : ∀ j, (Value.slice B f.length d).ownBlock ≠ some (⟨G, j, none⟩ : Addr).block := fun j e => hoG _ e rfl
    exact ownsRow_setCell_other (ownsRow_setCell_other (ownsRow_setCell_other o (h1 _) _) (h1 _) _) (h1 _) _
  clear hV
  have hq' : q < (l.set q ⟨x.gen + 1, false, 0⟩).length := by rw [List.length_set]; exact hq
  obtain ⟨c1, c2, c3⟩ := row_cells kr hq'
  simp only [List.getElem_set_self] at c1 c2 c3
  have i1 : (q : Int) < (l.length : Int) := by omega
  have i0 : (0 : Int) ≤ (q : Int) := by omega
  have k2_0 := k2.cell 0; have k2_f0 := k2.frozen 0; have k2_1 := k2.cell 1; have k2_f1 := k2.frozen 1; simp only [List.set_cons_zero, List.set_cons_succ, List.getElem?_cons_zero, List.getElem?_cons_succ] at k2_0 k2_1; have lt_k2 := k2.lt
  go_wp2_with fail
  refine (pool_spare_any ⟨x.gen + 1, false, 0⟩ _).mono ?_; rintro e x6 ⟨rfl, hx6⟩
  (try clear k2_0 k2_f0 k2_1 k2_f1 lt_k2)
  clear c1 c2 c3
  have hsz6 := hx6.size
  replace hb5 : Below base W x6 := hb5.trans (hx6.mono (by omega))
  replace k2 := k2.step hx6
  replace kr := kr.step hx6
  replace o := own_below o hx6 (Nat.le_refl _)
  clear hx6
  have k2_0 := k2.cell 0; have k2_f0 := k2.frozen 0; have k2_1 := k2.cell 1; have k2_f1 := k2.frozen 1; simp only [List.set_cons_zero, List.set_cons_succ, List.getElem?_cons_zero, List.getElem?_cons_succ] at k2_0 k2_1; have lt_k2 := k2.lt
  have hfin : ∀ b, pSpare ⟨x.gen + 1, false, 0⟩ = b → giveD l f q = (l.set q ⟨x.gen + 1, false, 0⟩, if b = true then f ++ [(q : Int)] else f) := by
    rintro b rfl
    unfold giveD
    rw [hbk]
  have HF := hide hfin
  clear hfin hset hbk
  by_cases hs : pSpare ⟨x.gen + 1, false, 0⟩ = true
  · have hfin := HF.out _ hs
    rw [if_pos rfl] at hfin
    rw [hs]
    clear hs HF
    go_wp2_with (at_builtin; refine wpList_app2 rfl (.tmp 32) (.tmp 34) 23 rfl base 3 iT _ 1 8 Try.underlying23 hi hz0 hz1 hz2 rfl (by omega) B f.length d (ints f) rfl (o.alloc _) ⟨x6.heap.size, 0, none⟩ 1 1 [.int .i64 q] rfl rfl (news_at (cs := [_])) (by simp [Value.oneCell']) (by unfold maxLen; omega) (by omega) (by simp; omega) (by omega) ?_; intro g cap w7 own7 hb7 hgr7; (have k7 := (k2.alloc (.cells #[.int .i64 q] 3)).kept hgr7 hoX); have k7_0 := k7.cell 0; have k7_f0 := k7.frozen 0; have k7_1 := k7.cell 1; have k7_f1 := k7.frozen 1; simp only [List.set_cons_zero, List.set_cons_succ, List.getElem?_cons_zero, List.getElem?_cons_succ] at k7_0 k7_1; have lt7 := k7.lt)
    (try clear k2_0 k2_f0 k2_1 k2_f1 lt_k2) ; (try clear k7_0 k7_f0 k7_1 k7_f1 lt_k7)
    have kr7 := (kr.alloc (.cells #[.int .i64 q] 3)).kept hgr7 hoG
    have lg7 := kr7.lt
    have hn7 := own_ne own7 k7 (by decide)
    have hb8 : Below base W w7 := (hb5.alloc (by omega) _).trans hb7
    have hlen7 : (f ++ [(q : Int)]).length = f.length + 1 := by simp
    have hints : ints (f ++ [(q : Int)]) = ints f ++ [.int .i64 q] := by simp [ints]
    have hcap7 : f.length + 1 ≤ cap := by
      rcases own7.2 with ⟨e, h0⟩ | ⟨g, cap, cur, e, _, _, h0, _⟩
      · omega
      · injection e with _ _ e; omega
    have hsz7 : (w7.setCell ⟨X, 1, none⟩ (.slice (some ⟨g, 0, none⟩) (f.length + 1) cap)).heap.size = w7.heap.size := by simp [World.setCell]
    go_end0
    rw [hfin]
    simp only [hlen7, hints]
    refine ⟨trivial, some ⟨g, 0, none⟩, cap, k7.set_ 1 _, kr7.far (by dsimp only; omega) _, ?_, own_fr own7, hcap7, hb8.setCell (by dsimp only; omega) _⟩
    rw [hsz7]
    exact (own_rd own7).keep1 (fun ad e => hn7 _ (by rw [e]; rfl)) _
  · have hs' : pSpare ⟨x.gen + 1, false, 0⟩ = false := by simpa using hs
    have hfin := HF.out _ hs'
    rw [if_neg (by simp)] at hfin
    rw [hs']
    clear hs hs' HF
    go_wp2
    go_end0
    rw [hfin]
    exact ⟨rfl, B, d, k2, kr, own_rd o, own_fr o, hd, hb5⟩

theorem setD_len (v : Int) (l : List Cl) (f : List Int) (q : Nat) : (setD v l f q).1.length = l.length := by simp [setD]
theorem giveD_len (l : List Cl) (f : List Int) (q : Nat) : (giveD l f q).1.length = l.length := by simp [giveD]
theorem pool_Give_any (V : Value) (l : List Cl) (f : List Int) (h : Int) (w : World) (hl : l.length ≤ 1000) (hf : f.length ≤ 1000) (hh : -9223372036854775808 ≤ h ∧ h ≤ 9223372036854775807) (hV : StAt w V l f) :
    Calls Try.prog 12 #[V, .int .i64 h] w fun e w' => ∃ V', e = .returned (.tuple #[V', .int .i64 (pChange giveD l f h).2]) ∧ StFr w.heap.size w' V' (pChange giveD l f h).1.1 (pChange giveD l f h).1.2 ∧ Below w.heap.size w w' := by
  have hc := fun (W : World) (h' : Below w.heap.size w W) => pool_change_any 34 #[] (enters_of Try.func34 (by kernel_rfl) rfl) giveD V l f h W hl hf hh (hV.step h') (giveD_len l f) (fun h0 => give_do W l f hl hf (check_ok h0).2.1)
  obtain ⟨A, c, B, d, rfl, hd, ha, hb⟩ := hV
  generalize pChange giveD l f h = r at *
  go_enter Try.func12, Try.ntmps12
  go_wp2_with fail
  generalize hV : World.alloc (World.alloc w _) _ = w1
  have hb1 : Below w.heap.size w w1 := by subst hV; (repeat (first | with_reducible exact Below.refl _ _ | with_reducible assumption | with_reducible refine Below.drew ?_ | with_reducible refine Below.drewN ?_ _ | with_reducible refine Below.alloc1 ?_ _ | with_reducible refine Below.setCell1 ?_ (by first | omega | (simp; done) | (simp; omega)) _ | with_reducible refine Below.step ?_ (by with_reducible assumption)))
  have k1 : Bk w1 (w.heap.size + 1) 30 (stC none 0 0 none 0 0) := by subst hV; (repeat (first | with_reducible exact Bk.new' _ _ _ _ (by simp; done) | with_reducible assumption | with_reducible refine Bk.alloc ?_ _ | with_reducible refine Bk.drew ?_ | with_reducible refine Bk.drewN ?_ _ | with_reducible refine Bk.step ?_ (by with_reducible assumption) | with_reducible refine Bk.far ?_ (by first | omega | (simp; done) | (simp; omega)) _))
  clear hV
  refine (hc w1 hb1).mono ?_; rintro e x0 ⟨V', rfl, hV', hx0⟩
  obtain ⟨A', c', B', d', rfl, hd', ha', hb', fa', fb'⟩ := hV'
  have hsz := hx0.size
  have lt1 := k1.lt
  replace hb1 : Below w.heap.size w x0 := by (repeat (first | with_reducible exact Below.refl _ _ | with_reducible assumption | with_reducible refine Below.drew ?_ | with_reducible refine Below.drewN ?_ _ | with_reducible refine Below.alloc1 ?_ _ | with_reducible refine Below.setCell1 ?_ (by first | omega | (simp; done) | (simp; omega)) _ | with_reducible refine Below.step ?_ (by with_reducible assumption)))
  replace k1 := k1.step hx0
  have k1_0 := k1.cell 0; have k1_f0 := k1.frozen 0; have k1_1 := k1.cell 1; have k1_f1 := k1.frozen 1; simp only [List.set_cons_zero, List.set_cons_succ, List.getElem?_cons_zero, List.getElem?_cons_succ] at k1_0 k1_1; have lt_k1 := k1.lt
  go_wp2_with fail
  (try clear k1_0 k1_f0 k1_1 k1_f1 lt_k1)
  generalize hV : World.setCell (World.setCell x0 _ _) _ _ = w2
  have hb2 : Below w.heap.size w w2 := by subst hV; exact (hb1.setCell (by dsimp only; omega) _).setCell (by dsimp only; omega) _
  replace k1 : Bk w2 (w.heap.size + 1) 30 (stC A' r.1.1.length c' B' r.1.2.length d') := by subst hV; exact (k1.set_ 0 _).set_ 1 _
  replace ha' : Rd w2 w2.heap.size A' (cls r.1.1) := by subst hV; exact (ha'.set1 (p := ⟨w.heap.size + 1, 0, none⟩) fa' lt1 _).set1 (p := ⟨w.heap.size + 1, 1, none⟩) fa' lt1 _
  replace hb' : Rd w2 w2.heap.size B' (ints r.1.2) := by subst hV; exact (hb'.set1 (p := ⟨w.heap.size + 1, 0, none⟩) fb' lt1 _).set1 (p := ⟨w.heap.size + 1, 1, none⟩) fb' lt1 _
  clear hV
  have k1_0 := k1.cell 0; have k1_f0 := k1.frozen 0; have k1_1 := k1.cell 1; have k1_f1 := k1.frozen 1; simp only [List.set_cons_zero, List.set_cons_succ, List.getElem?_cons_zero, List.getElem?_cons_succ] at k1_0 k1_1
  exact bodyPost_ret (v := .tuple #[stV A' r.1.1.length c' B' r.1.2.length d', .int .i64 r.2]) (by simp only [results, Try.results12]; go_simp) rfl ⟨_, rfl, ⟨A', c', B', d', rfl, hd', ha', hb', fa'.mono (by omega), fb'.mono (by omega)⟩, hb2⟩
theorem pool_Set_any (V : Value) (l : List Cl) (f : List Int) (h v : Int) (w : World) (hl : l.length ≤ 1000) (hf : f.length ≤ 1000) (hh : -9223372036854775808 ≤ h ∧ h ≤ 9223372036854775807) (hV : StAt w V l f) :
    Calls Try.prog 14 #[V, .int .i64 h, .int .i64 v] w fun e w' => ∃ V', e = .returned (.tuple #[V', .int .i64 (pChange (setD v) l f h).2]) ∧ StFr w.heap.size w' V' (pChange (setD v) l f h).1.1 (pChange (setD v) l f h).1.2 ∧ Below w.heap.size w w' := by
  have hc := fun (W : World) (b : Nat) (hbl : b < W.heap.size) (hbv : W.cell? ⟨b, 0, none⟩ = some (.int .i64 v)) (h' : Below w.heap.size w W) => pool_change_any 37 #[.pointer (some ⟨b, 0, none⟩)] (enters_of Try.func37 (by kernel_rfl) rfl) (setD v) V l f h W hl hf hh (hV.step h') (setD_len v l f) (fun h0 => set_do v b W l f hl hbl hbv)
  obtain ⟨A, c, B, d, rfl, hd, ha, hb⟩ := hV
  generalize pChange (setD v) l f h = r at *
  go_enter Try.func14, Try.ntmps14
  go_wp2_with fail
  generalize hV : World.alloc _ _ = w1
  have hb1 : Below w.heap.size w w1 := by subst hV; (repeat (first | with_reducible exact Below.refl _ _ | with_reducible assumption | with_reducible refine Below.drew ?_ | with_reducible refine Below.drewN ?_ _ | with_reducible refine Below.alloc1 ?_ _ | with_reducible refine Below.setCell1 ?_ (by first | omega | (simp; done) | (simp; omega)) _ | with_reducible refine Below.step ?_ (by with_reducible assumption)))
  have kv : Bk w1 (w.heap.size + 1) 3 [.int .i64 v] := by subst hV; (repeat (first | with_reducible exact Bk.new' _ _ _ _ (by simp; done) | with_reducible assumption | with_reducible refine Bk.alloc ?_ _ | with_reducible refine Bk.drew ?_ | with_reducible refine Bk.drewN ?_ _ | with_reducible refine Bk.step ?_ (by with_reducible assumption) | with_reducible refine Bk.far ?_ (by first | omega | (simp; done) | (simp; omega)) _))
  have k1 : Bk w1 (w.heap.size + 2) 30 (stC none 0 0 none 0 0) := by subst hV; (repeat (first | with_reducible exact Bk.new' _ _ _ _ (by simp; done) | with_reducible assumption | with_reducible refine Bk.alloc ?_ _ | with_reducible refine Bk.drew ?_ | with_reducible refine Bk.drewN ?_ _ | with_reducible refine Bk.step ?_ (by with_reducible assumption) | with_reducible refine Bk.far ?_ (by first | omega | (simp; done) | (simp; omega)) _))
  clear hV
  refine (hc w1 _ kv.lt (kv.cell 0) hb1).mono ?_; rintro e x0 ⟨V', rfl, hV', hx0⟩
  obtain ⟨A', c', B', d', rfl, hd', ha', hb', fa', fb'⟩ := hV'
  have hsz := hx0.size
  have lt1 := k1.lt
  replace hb1 : Below w.heap.size w x0 := by (repeat (first | with_reducible exact Below.refl _ _ | with_reducible assumption | with_reducible refine Below.drew ?_ | with_reducible refine Below.drewN ?_ _ | with_reducible refine Below.alloc1 ?_ _ | with_reducible refine Below.setCell1 ?_ (by first | omega | (simp; done) | (simp; omega)) _ | with_reducible refine Below.step ?_ (by with_reducible assumption)))
  replace k1 := k1.step hx0
  have k1_0 := k1.cell 0; have k1_f0 := k1.frozen 0; have k1_1 := k1.cell 1; have k1_f1 := k1.frozen 1; simp only [List.set_cons_zero, List.set_cons_succ, List.getElem?_cons_zero, List.getElem?_cons_succ] at k1_0 k1_1; have lt_k1 := k1.lt
  go_wp2_with fail
  (try clear k1_0 k1_f0 k1_1 k1_f1 lt_k1)
  generalize hV : World.setCell (World.setCell x0 _ _) _ _ = w2
  have hb2 : Below w.heap.size w w2 := by subst hV; exact (hb1.setCell (by dsimp only; omega) _).setCell (by dsimp only; omega) _
  replace k1 : Bk w2 (w.heap.size + 2) 30 (stC A' r.1.1.length c' B' r.1.2.length d') := by subst hV; exact (k1.set_ 0 _).set_ 1 _
  replace ha' : Rd w2 w2.heap.size A' (cls r.1.1) := by subst hV; exact (ha'.set1 (p := ⟨w.heap.size + 2, 0, none⟩) fa' lt1 _).set1 (p := ⟨w.heap.size + 2, 1, none⟩) fa' lt1 _
  replace hb' : Rd w2 w2.heap.size B' (ints r.1.2) := by subst hV; exact (hb'.set1 (p := ⟨w.heap.size + 2, 0, none⟩) fb' lt1 _).set1 (p := ⟨w.heap.size + 2, 1, none⟩) fb' lt1 _
  clear hV
  have k1_0 := k1.cell 0; have k1_f0 := k1.frozen 0; have k1_1 := k1.cell 1; have k1_f1 := k1.frozen 1; simp only [List.set_cons_zero, List.set_cons_succ, List.getElem?_cons_zero, List.getElem?_cons_succ] at k1_0 k1_1
  exact bodyPost_ret (v := .tuple #[stV A' r.1.1.length c' B' r.1.2.length d', .int .i64 r.2]) (by simp only [results, Try.results14]; go_simp) rfl ⟨_, rfl, ⟨A', c', B', d', rfl, hd', ha', hb', fa'.mono (by omega), fb'.mono (by omega)⟩, hb2⟩
end Go.Proofs.Ytnmpighdkdffbaa
