/- The walk of DrrFair. -/
import Derived.Test.YteblbleehnkcmaaRef28t
import Derived.Test.YteblbleehnkcmaaDrr14b
namespace Go.Proofs.Yteblbleehnkcmaa
open Go.RowKit Go.Sort
set_option linter.unusedSimpArgs false
set_option linter.unusedVariables false

theorem part_run {P : Program} {t e : TypeId} {size : Nat} (ht : P.underlying t = some (.slice e)) (he : P.elem t = e) (hs : ∀ W, (sizeOf e).run P W = .ok size W) (ad : Addr) (k n c : Nat) (v u : Int) (hv : v = k) (hu : u = v + 1) (hk : k + 1 ≤ c) :
    (∀ W, (Instr.slice t (.slice (some ad) n c) (some (.int .i64 v)) (some (.int .i64 u)) none).run P W = .ok (.slice (some (ad.add (k * size))) 1 (c - k)) W) ∧ (∀ W, (Instr.sliceAt t (.slice (some ad) n c) (some (.int .i64 v)) (some (.int .i64 u)) none).run P W = .ok (.slice (some (ad.add (k * size))) 1 (c - k)) W) := by
  subst hv
  subst hu
  have hu : P.underlying t = some (.slice (P.elem t)) := by rw [he]; exact ht
  have hb : ∀ W, (Instr.slice t (.slice (some ad) n c) (some (.int .i64 (k : Int))) (some (.int .i64 ((k : Int) + 1))) none).run P W = .ok (.slice (some (ad.add (k * size))) 1 (c - k)) W := fun W => by
    rw [run_slice_lh (ht := hu) (h0 := by omega) (h1 := by omega) (h2 := by omega), he, hs]
    have h1 : ¬ c = k := by omega
    simp [sliced, h1]
  exact ⟨hb, fun W => (run_sliceAt_slice W _ _ _ _ _ hu).trans (hb W)⟩
theorem own_cap2 {w : World} {base : Nat} {e : TypeId} {size n c m : Nat} {A : Option Addr} {xs : List Value} (h : w.ownsRow base e size (.slice A n c) m xs) : m ≤ c := by
  rcases h.2 with ⟨_, e⟩ | ⟨g, cap, cur, e, _, _, hc, _⟩
  · omega
  · injection e with _ _ e; omega
theorem own_base {w : World} {base b' : Nat} {e : TypeId} {size m : Nat} {v : Value} {xs : List Value} (h : w.ownsRow base e size v m xs) (hb : b' ≤ base) : w.ownsRow b' e size v m xs := by
  refine ⟨h.1, ?_⟩
  rcases h.2 with h | ⟨g, cap, cur, hv, hg, r⟩
  · exact .inl h
  · exact .inr ⟨g, cap, cur, hv, Nat.le_trans hb hg, r⟩
theorem flR_ne {l m : List Fl} (h : l.length = m.length) : flR l ≠ [] → flR m ≠ [] := fun h1 e => h1 (by
  have h2 := flR_length m
  have h3 := flR_length l
  rw [e] at h2
  apply List.eq_nil_of_length_eq_zero
  simp at h2
  omega)
theorem ints_set (l : List Int) (k : Nat) (v : Int) : (ints l).set k (.int .i64 v) = ints (l.set k v) := by unfold ints; rw [List.map_set]
theorem own_beside_t {w : World} {b1 b2 : Nat} {e1 e2 : TypeId} {s1 s2 : Nat} {v1 v2 : Value} {n1 n2 : Nat} {x1 x2 : List Value} (h1 : w.ownsRow b1 e1 s1 v1 n1 x1) (h2 : w.ownsRow b2 e2 s2 v2 n2 x2) (hne : e1 ≠ e2) : v1.ownBlock = none ∨ v1.ownBlock ≠ v2.ownBlock := by
  rcases h1.2 with ⟨e, _⟩ | ⟨g, cap, cur, e, _, hg, _⟩
  · left; rw [e]; rfl
  · right
    rcases h2.2 with ⟨e', _⟩ | ⟨g', cap', cur', e', _, hg', _⟩
    · rw [e, e']; simp [Value.ownBlock]
    · rw [e, e']
      intro hx
      have : g = g' := by simpa [Value.ownBlock] using hx
      subst this
      rw [hg] at hg'
      injection hg' with hg'
      injection hg' with _ h _
      exact hne h
/-- the rows of the loads' sizes -/
def LdOwn (w : World) (base : Nat) (ls : List Ld) : Prop := ∀ x ∈ ls, w.ownsRow base 3 1 (.slice x.A 64 x.c) 64 (ints x.xs)
theorem LdOwn.cap {w : World} {base : Nat} {ls : List Ld} (h : LdOwn w base ls) : ∀ x ∈ ls, 64 ≤ x.c := fun x hx => by
  rcases (h x hx).2 with ⟨_, e⟩ | ⟨g, cap, cur, e, _, _, hc, _⟩
  · omega
  · injection e with _ _ e; omega
/-- a row that lies in none of these blocks -/
def RdO (w : World) (A : Option Addr) (xs : List Value) (bs : List Nat) : Prop := Rd w w.heap.size A xs ∧ (xs ≠ [] → ∀ ad, A = some ad → ∀ b ∈ bs, ad.block ≠ b)
theorem RdO.nil {w : World} {A : Option Addr} {bs : List Nat} : RdO w A [] bs := ⟨Rd.nil, fun h => absurd rfl h⟩
theorem RdO.step {w w' : World} {A : Option Addr} {xs : List Value} {bs : List Nat} (h : RdO w A xs bs) (k : Below w.heap.size w w') : RdO w' A xs bs := ⟨h.1.step k, h.2⟩
theorem RdO.set {w : World} {A : Option Addr} {xs : List Value} {bs : List Nat} (h : RdO w A xs bs) {g : Nat} (hg : g ∈ bs) (i : Nat) (u : Value) : RdO (w.setCell ⟨g, i, none⟩ u) A xs bs := by
  by_cases e : xs = []
  · subst e; exact RdO.nil
  · refine ⟨?_, h.2⟩
    have hs : (w.setCell ⟨g, i, none⟩ u).heap.size = w.heap.size := by simp [World.setCell]
    rw [hs]
    exact h.1.off (fun ad ha => h.2 e ad ha g hg) i u
theorem RdO.add {w : World} {A : Option Addr} {xs : List Value} {bs : List Nat} (h : RdO w A xs bs) {g : Nat} (hg : w.heap.size ≤ g) : RdO w A xs (g :: bs) := ⟨h.1, fun e ad ha b hb => by
  rcases List.mem_cons.1 hb with rfl | hb
  · have := h.1.blk e ad ha; omega
  · exact h.2 e ad ha b hb⟩
theorem RdO.tail {w : World} {A : Option Addr} {xs : List Value} {bs : List Nat} {g : Nat} (h : RdO w A xs (g :: bs)) : RdO w A xs bs := ⟨h.1, fun e ad ha b hb => h.2 e ad ha b (List.mem_cons_of_mem _ hb)⟩
theorem RdO.of_fr {w : World} {lo : Nat} {A : Option Addr} {xs : List Value} {bs : List Nat} (h : Rd w w.heap.size A xs) (hf : Fr lo A) (hb : ∀ b ∈ bs, b < lo) : RdO w A xs bs := ⟨h, fun _ ad e b hm => by have := hf ad e; have := hb b hm; omega⟩
theorem RdO.turn {w w' : World} {lo : Nat} {A A' : Option Addr} {xs ys : List Value} {bs : List Nat} (h : RdO w A xs bs) (h5 : Rd w' w'.heap.size A' ys) (hn : ys ≠ [] → xs ≠ []) (hA : A' = A ∨ Fr lo A') (hb : ∀ b ∈ bs, b < lo) : RdO w' A' ys bs := by
  rcases hA with rfl | hf
  · exact ⟨h5, fun e => h.2 (hn e)⟩
  · exact RdO.of_fr h5 hf hb
def LdsO (w : World) (L : Option Addr) (ls : List Ld) (bs : List Nat) : Prop := RdO w L (ldR ls) bs ∧ (∀ x ∈ ls, RdO w x.A (ints x.xs) bs) ∧ ∀ x ∈ ls, x.xs.length ≤ x.c
theorem LdsO.step {w w' : World} {L : Option Addr} {ls : List Ld} {bs : List Nat} (h : LdsO w L ls bs) (k : Below w.heap.size w w') : LdsO w' L ls bs := ⟨h.1.step k, fun x hx => (h.2.1 x hx).step k, h.2.2⟩
theorem LdsO.set {w : World} {L : Option Addr} {ls : List Ld} {bs : List Nat} (h : LdsO w L ls bs) {g : Nat} (hg : g ∈ bs) (i : Nat) (u : Value) : LdsO (w.setCell ⟨g, i, none⟩ u) L ls bs := ⟨h.1.set hg i u, fun x hx => (h.2.1 x hx).set hg i u, h.2.2⟩
theorem LdsO.lds {w : World} {L : Option Addr} {ls : List Ld} {bs : List Nat} (h : LdsO w L ls bs) : Lds w w.heap.size L ls := ⟨h.1.1, fun x hx => (h.2.1 x hx).1, h.2.2⟩
theorem LdsO.of_own {w : World} {base cap : Nat} {L : Option Addr} {ls : List Ld} {bs : List Nat} (h : w.ownsRow base 64 2 (.slice L ls.length cap) ls.length (ldR ls)) (hl : LdOwn w base ls) (hx : ∀ x ∈ ls, x.xs.length = 64) (hb : ∀ b ∈ bs, b < base) : LdsO w L ls bs :=
  ⟨RdO.of_fr (own_rd h) (own_fr h) hb, fun x hm => RdO.of_fr (own_rd (hl x hm)) (own_fr (hl x hm)) hb, fun x hm => by rw [hx x hm]; exact hl.cap x hm⟩
theorem LdsO.one {w : World} {L : Option Addr} {ls : List Ld} {bs : List Nat} (h : LdsO w L ls bs) (k : Nat) (hk : k < ls.length) : ∃ ad, L = some ad ∧ ad.block < w.heap.size ∧ Lds w w.heap.size (some (ad.add (k * 2))) [ls[k]] := by
  obtain ⟨ad, e, hb, c1, c2⟩ := h.1.1.ld hk
  refine ⟨ad, e, hb, fun _ => ⟨_, rfl, by rw [add_block]; exact hb, fun j u hu => ?_⟩, fun x hx => ?_, fun x hx => ?_⟩
  · rcases j with _ | _ | j
    · simp [ldR, ldC] at hu; subst hu; rw [← c1]; simp [Addr.add]
    · simp [ldR, ldC] at hu; subst hu; rw [← c2]; simp [Addr.add]
    · simp [ldR, ldC] at hu
  · rw [List.mem_singleton.1 hx]; exact (h.2.1 _ (List.getElem_mem hk)).1
  · rw [List.mem_singleton.1 hx]; exact h.2.2 _ (List.getElem_mem hk)
theorem RdO.one {w : World} {A : Option Addr} {l : List Int} {bs : List Nat} (h : RdO w A (ints l) bs) (k : Nat) (hk : k < l.length) : ∃ ad, A = some ad ∧ ad.block < w.heap.size ∧ w.cell? (ad.add k) = some (.int .i64 l[k]) ∧ Rd w w.heap.size (some (ad.add k)) (ints [l[k]]) := by
  obtain ⟨ad, e, hb, c1⟩ := Rd.in (l := l) h.1 hk
  refine ⟨ad, e, hb, c1, fun _ => ⟨_, rfl, by rw [add_block]; exact hb, fun j u hu => ?_⟩⟩
  rcases j with _ | j
  · simp [ints] at hu; subst hu; rw [← c1]; simp [Addr.add]
  · simp [ints] at hu
theorem t_ne : (3 : TypeId) ≠ 64 := by decide
set_option maxRecDepth 100000 in
set_option maxHeartbeats 16000000 in
theorem DrrFair_walk (A T Z : Option Addr) (c d z : Nat) (wts totals sizes : List Int) (w : World) (hl : wts.length ≤ maxLen) (hm : totals.length ≤ maxLen) (hz : sizes.length ≤ maxLen) (hbw : ∀ x ∈ wts, 0 ≤ x ∧ x ≤ 255) (hbt : ∀ x ∈ totals, 0 ≤ x ∧ x ≤ 65535) (hbz : ∀ x ∈ sizes, 0 ≤ x ∧ x ≤ 255)
    (ha : Rd w w.heap.size A (wts.map (Value.int .u8))) (ht : Rd w w.heap.size T (totals.map (Value.int .u16))) (hs : Rd w w.heap.size Z (sizes.map (Value.int .u8))) :
    Calls Try.prog 5 #[.slice A wts.length c, .slice T totals.length d, .slice Z sizes.length z] w fun e w' => e = .returned (.bool true) ∧ Below w.heap.size w w' := by
  by_cases g1 : ¬(wts.length ≤ 6 ∧ totals.length ≤ 30 ∧ sizes.length ≤ 40)
  · have h3 : (6 < (wts.length : Int)) ∨ ((wts.length : Int) ≤ 6 ∧ 30 < (totals.length : Int)) ∨ ((wts.length : Int) ≤ 6 ∧ (totals.length : Int) ≤ 30 ∧ 40 < (sizes.length : Int)) := by omega
    clear g1 hbw hbt hbz
    go_enter Try.func5, Try.ntmps5
    rcases h3 with h | ⟨h, h'⟩ | ⟨h, h', h''⟩
    all_goals
      go_wp2_with fail
      refine (awake28_any _).mono ?_; rintro e y1 ⟨rfl, hx2⟩
      go_wp2
      go_ret
      exact ⟨rfl, by (repeat (first | with_reducible exact Below.refl _ _ | with_reducible assumption | with_reducible refine Below.drew ?_ | with_reducible refine Below.drewN ?_ _ | with_reducible refine Below.alloc1 ?_ _ | with_reducible refine Below.setCell1 ?_ (by first | omega | (simp; done) | (simp; omega)) _ | with_reducible refine Below.step ?_ (by with_reducible assumption)))⟩
  obtain ⟨n6, n30, n40⟩ := Decidable.not_not.1 g1
  clear g1
  have i6 : (wts.length : Int) ≤ 6 := by omega
  have i30 : (totals.length : Int) ≤ 30 := by omega
  have i40 : (sizes.length : Int) ≤ 40 := by omega
  have HBW := hide hbw
  have HBT := hide hbt
  have HBZ := hide hbz
  clear hbw hbt hbz
  go_enter Try.func5, Try.ntmps5
  go_wp2_with fail
  generalize hV : World.alloc w _ = w1
  have hb0 : Below w.heap.size w w1 := by subst hV; (repeat (first | with_reducible exact Below.refl _ _ | with_reducible assumption | with_reducible refine Below.drew ?_ | with_reducible refine Below.drewN ?_ _ | with_reducible refine Below.alloc1 ?_ _ | with_reducible refine Below.setCell1 ?_ (by first | omega | (simp; done) | (simp; omega)) _ | with_reducible refine Below.step ?_ (by with_reducible assumption)))
  have k0 : Bk w1 w.heap.size 31 (dsC none 0 0 0 false) := by subst hV; (repeat (first | with_reducible exact Bk.new' _ _ _ _ (by simp; done) | with_reducible assumption | with_reducible refine Bk.alloc ?_ _ | with_reducible refine Bk.drew ?_ | with_reducible refine Bk.drewN ?_ _ | with_reducible refine Bk.step ?_ (by with_reducible assumption) | with_reducible refine Bk.far ?_ (by first | omega | (simp; done) | (simp; omega)) _))
  clear hV
  go_loopw [8] (fun iv wr => ∃ k : Nat, k ≤ wts.length ∧ iv = .int .i64 k ∧ (∃ B b, Bk wr w.heap.size 31 (dsC B k b 0 false) ∧ Rd wr wr.heap.size B (flR (fjL wts k)) ∧ ∀ ad, B = some ad → ad.block ≠ w.heap.size) ∧ Below w.heap.size w wr) (fun iv _ => wts.length - (intOf iv).toNat)
  case atStart => exact ⟨0, Nat.zero_le _, rfl, ⟨none, 0, k0, Rd.nil, fun _ h => by cases h⟩, hb0⟩
  case round =>
    obtain ⟨k, hk, rfl, ⟨B, b, k0, rB, hB⟩, hbr⟩ := hrel

    have k0_0 := k0.cell 0; have k0_f0 := k0.frozen 0; have k0_1 := k0.cell 1; have k0_f1 := k0.frozen 1; have k0_2 := k0.cell 2; have k0_f2 := k0.frozen 2; simp only [List.set_cons_zero, List.set_cons_succ, List.getElem?_cons_zero, List.getElem?_cons_succ] at k0_0 k0_1 k0_2; have lt_k0 := k0.lt
    by_cases hlt : k < wts.length
    · obtain ⟨ad, rfl, hadb, hca⟩ := Rd.at_ ha (k := k) (by simpa using hlt)
      have hc1 : wr.cell? (ad.add k) = some (.int .u8 wts[k]) := by rw [hbr.cell (by rw [add_block]; exact hadb), hca]; simp
      have hv := HBW.out _ (List.getElem_mem hlt)
      have hJ := drr_Join_any B b (fjL wts k) 0 false (k : Int) (wtN wts k)
      rw [fj_len, fj_join wts k (by omega)] at hJ
      have hwt : wtN wts k = 1 + wts[k] % 8 := by unfold wtN; simp [hlt]
      rw [hwt] at hJ
      have hJ := fun (W : World) (h : Below wr.heap.size wr W) => hJ W (by omega) ((rB.below h).more h.size)
      have hmod : wts[k].tmod 8 = wts[k] % 8 := Int.tmod_eq_emod_of_nonneg hv.1
      have hlw := hbr.size
      clear hca hwt
      generalize wts[k] = v at *
      have hv8 := IntWalk.i64_in (v % 8) (by omega)
      have hv9 := IntWalk.i64_in (1 + v % 8) (by omega)
      -- [A
      go_upto_region 7 with fail
      go_region_with ((go_at_call 18; refine (hJ _ (by (repeat (first | with_reducible exact Below.refl _ _ | with_reducible assumption | with_reducible refine Below.drew ?_ | with_reducible refine Below.drewN ?_ _ | with_reducible refine Below.alloc1 ?_ _ | with_reducible refine Below.setCell1 ?_ (by first | omega | (simp; done) | (simp; omega)) _ | with_reducible refine Below.step ?_ (by with_reducible assumption))))).mono ?_; rintro e w5 ⟨_, rfl, ⟨B5, b5, rfl, r5, f5⟩, hy5⟩; (have k5 := Bk.step (Bk.drew k0) hy5); have k5_0 := k5.cell 0; have k5_f0 := k5.frozen 0; have k5_1 := k5.cell 1; have k5_f1 := k5.frozen 1; have k5_2 := k5.cell 2; have k5_f2 := k5.frozen 2; simp only [List.set_cons_zero, List.set_cons_succ, List.getElem?_cons_zero, List.getElem?_cons_succ] at k5_0 k5_1 k5_2; have lt_k5 := k5.lt))
      all_goals
        replace hbr : Below w.heap.size w w5 := (hbr.drew).step hy5
        have hB5 : ∀ ad, B5 = some ad → ad.block ≠ w.heap.size := fun ad e => by
          rcases f5 with h | h
          · rw [h] at e; exact hB ad e
          · have := h ad e; simp at this; omega
        go_wp2_with fail
        generalize hV : World.setCell (World.setCell (World.setCell w5 _ _) _ _) _ _ = w6
        have k6 : Bk w6 w.heap.size 31 (dsC B5 (fjL wts (k + 1)).length b5 0 false) := by subst hV; exact ((k5.set_ 0 _).set_ 1 _).set_ 2 _
        have r6 : RdO w6 B5 (flR (fjL wts (k + 1))) [w.heap.size] := by
          subst hV
          exact RdO.set (RdO.set (RdO.set ⟨r5, fun _ ad e b hb => by rw [List.mem_singleton.1 hb]; exact hB5 ad e⟩ (List.mem_singleton.2 rfl) 0 _) (List.mem_singleton.2 rfl) 1 _) (List.mem_singleton.2 rfl) 2 _
        have hb6 : Below w.heap.size w w6 := by subst hV; exact ((hbr.setCell (by dsimp only; omega) _).setCell (by dsimp only; omega) _).setCell (by dsimp only; omega) _
        rw [fj_len] at k6
        exact ⟨⟨k + 1, by omega, by go_num, ⟨B5, b5, k6, r6.1, hB5⟩, hb6⟩, by simp [intOf]; omega⟩
      -- A]
    · have hkl : k = wts.length := by omega
      subst hkl
      go_wp2_with fail
      (try clear k0_0 k0_f0 k0_1 k0_f1 k0_2 k0_f2 lt_k0)
      generalize hV : World.alloc (World.alloc wr _) _ = w2
      have hb2 : Below w.heap.size w w2 := by subst hV; (repeat (first | with_reducible exact Below.refl _ _ | with_reducible assumption | with_reducible refine Below.drew ?_ | with_reducible refine Below.drewN ?_ _ | with_reducible refine Below.alloc1 ?_ _ | with_reducible refine Below.setCell1 ?_ (by first | omega | (simp; done) | (simp; omega)) _ | with_reducible refine Below.step ?_ (by with_reducible assumption)))
      have k2 : Bk w2 w.heap.size 31 (dsC B wts.length b 0 false) := by subst hV; (repeat (first | with_reducible exact Bk.new' _ _ _ _ (by simp; done) | with_reducible assumption | with_reducible refine Bk.alloc ?_ _ | with_reducible refine Bk.drew ?_ | with_reducible refine Bk.drewN ?_ _ | with_reducible refine Bk.step ?_ (by with_reducible assumption) | with_reducible refine Bk.far ?_ (by first | omega | (simp; done) | (simp; omega)) _))
      have kP : Bk w2 wr.heap.size 61 (ints [0, 0, 0, 0, 0, 0]) := by subst hV; exact (Bk.new' wr 61 (ints [0, 0, 0, 0, 0, 0]) _ rfl).alloc _
      have kS : Bk w2 (wr.heap.size + 1) 61 (ints [0, 0, 0, 0, 0, 0]) := by subst hV; exact Bk.new' (World.alloc wr _) 61 (ints [0, 0, 0, 0, 0, 0]) _ (by simp)
      have r2 : RdO w2 B (flR (fjL wts wts.length)) [wr.heap.size + 1, wr.heap.size, w.heap.size] := by
        subst hV
        have r0 : RdO wr B (flR (fjL wts wts.length)) [w.heap.size] := ⟨rB, fun _ ad e b hb => by rw [List.mem_singleton.1 hb]; exact hB ad e⟩
        exact (RdO.add (RdO.add r0 (Nat.le_refl _)) (by omega)).step (by (repeat (first | with_reducible exact Below.refl _ _ | with_reducible assumption | with_reducible refine Below.drew ?_ | with_reducible refine Below.drewN ?_ _ | with_reducible refine Below.alloc1 ?_ _ | with_reducible refine Below.setCell1 ?_ (by first | omega | (simp; done) | (simp; omega)) _ | with_reducible refine Below.step ?_ (by with_reducible assumption))))
      have hwb : w.heap.size < wr.heap.size := k0.lt
      clear hV hB rB k0 hbr hb0
      generalize wr.heap.size = bP at *
      go_loopw [11] (fun iv wr => ∃ (i : Nat) (fl : List Fl) (at_ : Int) (mid : Bool) (P S : List Int), i ≤ totals.length ∧ iv = .int .i64 i ∧ Hid (FrS wts wts.length i fl at_ mid P S) ∧ (∃ B b, Bk wr w.heap.size 31 (dsC B wts.length b at_ mid) ∧ RdO wr B (flR fl) [bP + 1, bP, w.heap.size]) ∧ Bk wr bP 61 (ints P) ∧ Bk wr (bP + 1) 61 (ints S) ∧ Below w.heap.size w wr) (fun iv _ => totals.length - (intOf iv).toNat)
      case atStart => exact ⟨0, _, _, _, _, _, Nat.zero_le _, rfl, FrS.begin wts wts.length (by omega), ⟨B, b, k2, r2⟩, kP, kS, hb2⟩
      case round =>
        clear k2 kP kS r2 hb2
        obtain ⟨i, fl, at_, mid, P, S, hi, rfl, HF, ⟨B, b, k0, rB⟩, kP, kS, hbr⟩ := hrel
        by_cases hlt : i < totals.length
        · have htv := HBT.out _ (List.getElem_mem hlt)
          obtain ⟨td, rfl, htdb, hct⟩ := Rd.at_ ht (k := i) (by simpa using hlt)
          have hct1 : w.cell? (td.add i) = some (.int .u16 totals[i]) := by rw [hct]; simp
          have hlen := HF.out.len
          have hPl := HF.out.pl
          have HPOS := hide HF.out.pos
          obtain ⟨iT, hi0, hz0, hz1, hz2⟩ := info_parts ld_info
          have hN := fun (p : Nat) (hp : p ≤ 1000000) (X : World) (h : Below w.heap.size w X) => law_next_any Z z sizes p 64 X (by omega) hp (by omega) HBZ.out ((hs.below h).more h.size)
          obtain ⟨wl, rfl⟩ : ∃ x, x = wr := ⟨wr, rfl⟩
          have lP := kP.lt
          have lS := kS.lt
          have l0 := k0.lt
          go_wp2_with fail
          go_loopw [12, 13] (fun lv kv w3 => ∃ (k : Nat) (ls : List Ld), k ≤ wts.length ∧ kv = .int .i64 k ∧ (∃ W cW, lv = .slice W k cW ∧ w3.ownsRow wl.heap.size 64 2 (.slice W k cW) k (ldR ls)) ∧ LdOwn w3 wl.heap.size ls ∧ Hid (LdOk sizes P k ls) ∧ Below wl.heap.size wl w3) (fun _ kv _ => wts.length - (intOf kv).toNat)
          case atStart => exact ⟨0, [], Nat.zero_le _, rfl, ⟨none, 0, rfl, ⟨rfl, .inl ⟨rfl, rfl⟩⟩⟩, (fun x hx => by cases hx), ⟨rfl, fun j h => by cases h⟩, Below.refl _ _⟩
          case round =>
            obtain ⟨k, ls, hk, rfl, ⟨W, cW, rfl, own⟩, hlo, HL, hb3⟩ := hrel
            have hbw : Below w.heap.size w wr := hbr.trans (hb3.mono (by omega))
            by_cases hlk : k < wts.length
            -- [B
            · have kP3 := kP.step hb3
              have hp6 : k < P.length := by omega
              obtain ⟨p1, p2⟩ := HPOS.out k
              have hgd : P.getD k 0 = P[k] := getD_at' _ _ hp6 0
              obtain ⟨pv, hpv⟩ : ∃ pv : Nat, P[k] = (pv : Int) := ⟨P[k].toNat, by omega⟩
              have hpg : (P.getD k 0).toNat = pv := by omega
              have cP : wr.cell? ⟨bP, k, none⟩ = some (.int .i64 pv) := by rw [kP3.cell]; simp [ints, hp6, hpv]
              have hn := hN (pv + k) (by omega)
              push_cast at hn
              have hwp := IntWalk.i64_in ((pv : Int) + (k : Int)) (by omega)
              have HLS := fun A c => HL.out.snoc A c
              rw [hpg] at HLS
              have hxl := nxL_len sizes (pv + k) 64
              generalize nxL sizes (pv + k) 64 = xs at *
              replace HLS := hide HLS
              have hk6 : (k : Int) < 6 := by omega
              clear kP3 p1 p2 hgd hpv hpg HPOS HF hN
              go_wp2_with fail
              refine (hn _ hbw).mono ?_; rintro e w5 ⟨B5, d5, rfl, own5, hy5⟩
              replace own5 := own_base own5 hb3.size
              replace own := own_below own hy5 (Nat.le_refl _)
              replace hlo : LdOwn w5 wl.heap.size ls := fun x hx => own_below (hlo x hx) hy5 (Nat.le_refl _)
              replace hb3 : Below wl.heap.size wl w5 := hb3.step hy5
              clear hn hy5 cP hbw
              go_wp2_with (at_builtin; refine wpList_app2 rfl (.tmp 65) (.tmp 75) 33 rfl wl.heap.size 64 iT _ 2 32 Try.underlying33 hi0 hz0 hz1 hz2 rfl (by omega) W k cW (ldR ls) rfl (own.alloc _) ⟨w5.heap.size, 0, none⟩ 1 1 [.int .i64 (k : Int), .slice B5 64 d5] rfl rfl (news_at (cs := [_, _])) (by simp [Value.oneCell']) (by unfold maxLen; omega) (by omega) (by have := hb3.size; simp; omega) (by omega) ?_; intro g2 cap w7 own7 hb7 hgr7)
              have hlo7 : LdOwn w7 wl.heap.size (ls ++ [⟨(k : Int), B5, d5, xs⟩]) := fun x hx => by
                rcases List.mem_append.1 hx with hx | hx
                · exact ((hlo x hx).alloc _).kept hgr7 (own_beside_t (hlo x hx) own t_ne)
                · rw [List.mem_singleton.1 hx]; exact (own5.alloc _).kept hgr7 (own_beside_t own5 own t_ne)
              have hsn : ldR (ls ++ [⟨(k : Int), B5, d5, xs⟩]) = ldR ls ++ [.int .i64 (k : Int), .slice B5 64 d5] := by simp [ldR, ldC, hxl]
              replace hb3 : Below wl.heap.size wl w7 := (hb3.alloc1 _).trans hb7
              rw [← hsn] at own7
              clear hi0 hz0 hz1 hz2 iT own hlo own5 hb7 hgr7 hsn
              go_wp2
              go_roundw
              case rel => exact ⟨k + 1, _, by omega, by go_num, ⟨_, cap, rfl, own7⟩, hlo7, HLS.out B5 d5, hb3⟩
              case measure => simp [intOf]; omega
            -- B]
            · have hkn : k = wts.length := by omega
              subst hkn
              have hL : LdsO wr W ls [bP + 1, bP, w.heap.size] := LdsO.of_own (by rw [HL.out.1]; exact own) hlo (fun x hx => (HL.out.xs x hx).1) (by simp; omega)
              have hcW := own_cap2 own
              have hlx := hide (show ∀ x ∈ ls, x.xs.length ≤ 1000 from fun x hx => by have := (HL.out.xs x hx).1; omega)
              replace k0 := k0.step hb3; replace kP := kP.step hb3; replace kS := kS.step hb3; replace rB := rB.step hb3
              clear own hlo hN HPOS hi0 hz0 hz1 hz2 iT hbr hct
              have hSv := fun (X : World) (h : Below wr.heap.size wr X) => drr_Serve_fr B W b cW fl at_ mid 256 (totals[i] % 2048) ls X (by omega) (by have := HL.out.1; omega) hlx.out ((rB.1.below h).more h.size) ((hL.lds.below h).more h.size)
              rw [HL.out.1, hlen] at hSv
              have HR := hide (HF.out.serve (by omega) HL.out (t := totals[i] % 2048) ⟨by omega, by omega⟩)
              have htm : totals[i].tmod 2048 = totals[i] % 2048 := Int.tmod_eq_emod_of_nonneg htv.1
              have ht8 := IntWalk.i64_in (totals[i] % 2048) (by omega)
              have ht9 : 0 ≤ totals[i] % 2048 ∧ totals[i] % 2048 ≤ 2047 := by omega
              generalize totals[i] = tv at *
              have hbt : Below w.heap.size w wr := hbw
              have hct2 : wr.cell? (td.add i) = some (.int .u16 tv) := by rw [hbw.cell (by rw [add_block]; exact htdb), hct1]
              generalize hRR : dServe fl at_ mid 256 (tv % 2048) ls = R at *
              have htB : td.block < wr.heap.size := by have := k0.lt; omega
              clear hRR hb3 hct1
              have hRe := HR.out.e
              have hRw := HR.out.went.trans hlen
              have hRl := HR.out.fl
              have hRf := hRl.trans hlen
              rw [hRe, hRw] at hSv
              have k0_0 := k0.cell 0; have k0_f0 := k0.frozen 0; have k0_1 := k0.cell 1; have k0_f1 := k0.frozen 1; have k0_2 := k0.cell 2; have k0_f2 := k0.frozen 2; simp only [List.set_cons_zero, List.set_cons_succ, List.getElem?_cons_zero, List.getElem?_cons_succ] at k0_0 k0_1 k0_2; have lt_k0 := k0.lt; have lt_kP := kP.lt; have lt_kS := kS.lt
              go_upto_region 17 with fail
              go_cut [14, 15, 16] from 78 to 89 (fun v14 v15 v16 wx => ∃ gx A5 c5 B5 b5, v14 = .pointer (some ⟨gx, 0, none⟩) ∧ v15 = .slice B5 wts.length b5 ∧ v16 = .int .i64 0 ∧ wr.heap.size ≤ gx ∧ Bk wx gx 31 (dsC A5 wts.length c5 R.at_ R.mid) ∧ RdO wx A5 (flR R.fl) [bP + 1, bP, w.heap.size] ∧ RdO wx B5 (ints R.went) [bP + 1, bP, w.heap.size] ∧ wts.length ≤ b5 ∧ Below wr.heap.size wr wx)
              case first =>
                -- [C
                have HS : Hid (∀ w' : World, Below (wr.heap.size) wr w' → (w'.cell? ⟨w.heap.size, 0, none⟩ = some (.slice B wts.length b) ∧ w'.cell? ⟨w.heap.size, 1, none⟩ = some (.int .i64 at_) ∧ w'.cell? ⟨w.heap.size, 2, none⟩ = some (.bool mid) ∧ w'.cell? (td.add i) = some (.int .u16 tv)) ∧ wr.heap.size ≤ w'.heap.size ∧ Below (wr.heap.size) wr w') := fun w' hB => ⟨⟨(hB.cell (p := ⟨w.heap.size, 0, none⟩) (by dsimp only; omega)).trans (k0_0), (hB.cell (p := ⟨w.heap.size, 1, none⟩) (by dsimp only; omega)).trans (k0_1), (hB.cell (p := ⟨w.heap.size, 2, none⟩) (by dsimp only; omega)).trans (k0_2), (hB.cell (p := (td.add i)) (by rw [add_block]; omega)).trans (hct2)⟩, hB.size, hB⟩; go_region_held3 (fun w' => (w'.cell? ⟨w.heap.size, 0, none⟩ = some (.slice B wts.length b) ∧ w'.cell? ⟨w.heap.size, 1, none⟩ = some (.int .i64 at_) ∧ w'.cell? ⟨w.heap.size, 2, none⟩ = some (.bool mid) ∧ w'.cell? (td.add i) = some (.int .u16 tv)) ∧ wr.heap.size ≤ w'.heap.size ∧ Below (wr.heap.size) wr w') ((go_split_ands; exact HS.out _ (by (repeat (first | with_reducible exact Below.refl _ _ | with_reducible assumption | with_reducible refine Below.drew ?_ | with_reducible refine Below.drewN ?_ _ | with_reducible refine Below.alloc ?_ (by first | omega | (simp; done) | (simp; omega)) _ | with_reducible refine Below.setCell ?_ (by first | omega | (simp; done) | (simp; omega)) _ | with_reducible refine Below.then_ ?_ (by with_reducible assumption) (by first | omega | (simp; done) | (simp; omega))))))) ((go_at_call 11; refine (hSv _ (by (repeat (first | with_reducible exact Below.refl _ _ | with_reducible assumption | with_reducible refine Below.drew ?_ | with_reducible refine Below.drewN ?_ _ | with_reducible refine Below.alloc1 ?_ _ | with_reducible refine Below.setCell1 ?_ (by first | omega | (simp; done) | (simp; omega)) _ | with_reducible refine Below.step ?_ (by with_reducible assumption))))).mono ?_; rintro e w5 ⟨_, B5, b5, rfl, ⟨A5, c5, hV5, r5, f5⟩, ⟨rB5, fB5, hb5⟩, hy5⟩; (rw [hRf] at hV5); (subst hV5); obtain ⟨hc_hy5, hf_hy5⟩ := bcell hy5; have hz_hy5 := hy5.size; (try simp at hz_hy5); (try have lt_w5_wr_0 : wr.heap.size < w5.heap.size := by omega); (try have lt_w5_wr_1 : wr.heap.size + 1 < w5.heap.size := by omega); (try have lt_w5_wr_2 : wr.heap.size + 1 + 1 < w5.heap.size := by omega)))
                all_goals
                  go_wp2_with fail
                  go_meet
                  first
                    | exact ⟨_, A5, c5, B5, b5, rfl, rfl, rfl, by omega, Bk.new' w5 31 (dsC A5 wts.length c5 R.at_ R.mid) _ rfl, (RdO.turn rB r5 (flR_ne hRl) f5 (by simp; omega)).step (by (repeat (first | with_reducible exact Below.refl _ _ | with_reducible assumption | with_reducible refine Below.drew ?_ | with_reducible refine Below.drewN ?_ _ | with_reducible refine Below.alloc1 ?_ _ | with_reducible refine Below.setCell1 ?_ (by first | omega | (simp; done) | (simp; omega)) _ | with_reducible refine Below.step ?_ (by with_reducible assumption)))), (RdO.of_fr rB5 fB5 (by simp; omega)).step (by (repeat (first | with_reducible exact Below.refl _ _ | with_reducible assumption | with_reducible refine Below.drew ?_ | with_reducible refine Below.drewN ?_ _ | with_reducible refine Below.alloc1 ?_ _ | with_reducible refine Below.setCell1 ?_ (by first | omega | (simp; done) | (simp; omega)) _ | with_reducible refine Below.step ?_ (by with_reducible assumption)))), by omega, by (repeat (first | with_reducible exact Below.refl _ _ | with_reducible assumption | with_reducible refine Below.drew ?_ | with_reducible refine Below.drewN ?_ _ | with_reducible refine Below.alloc1 ?_ _ | with_reducible refine Below.setCell1 ?_ (by first | omega | (simp; done) | (simp; omega)) _ | with_reducible refine Below.step ?_ (by with_reducible assumption)))⟩
                    | (have q5 := RdO.turn (RdO.add rB (Nat.le_refl _)) r5 (flR_ne hRl) f5 (by simp; omega)
                       have qB : RdO w5 B5 (ints R.went) (wr.heap.size :: [bP + 1, bP, w.heap.size]) := RdO.of_fr rB5 fB5 (by simp; omega)
                       exact ⟨_, A5, c5, B5, b5, rfl, rfl, rfl, Nat.le_refl _, (((Bk.drew (Bk.new _ 31 (dsC none 0 0 0 false))).step hy5 |>.set_ 0 _).set_ 1 _).set_ 2 _, (((q5.set (List.mem_cons_self ..) 0 _).set (List.mem_cons_self ..) 1 _).set (List.mem_cons_self ..) 2 _).tail, (((qB.set (List.mem_cons_self ..) 0 _).set (List.mem_cons_self ..) 1 _).set (List.mem_cons_self ..) 2 _).tail, by omega, by refine Below.setCell1 (Below.setCell1 (Below.setCell1 ?_ (by dsimp only; omega) _) (by dsimp only; omega) _) (by dsimp only; omega) _; (repeat (first | with_reducible exact Below.refl _ _ | with_reducible assumption | with_reducible refine Below.drew ?_ | with_reducible refine Below.drewN ?_ _ | with_reducible refine Below.alloc1 ?_ _ | with_reducible refine Below.setCell1 ?_ (by first | omega | (simp; done) | (simp; omega)) _ | with_reducible refine Below.step ?_ (by with_reducible assumption)))⟩)
                -- C]
              case rest =>
                obtain ⟨gx, A5, c5, B5, b5, rfl, rfl, rfl, hgx, kx, rx, rg, hb5, hyc⟩ := hcut
                have hgb : bP + 1 < gx := by omega
                replace k0 := k0.step hyc; (try clear k0_0 k0_f0 k0_1 k0_f1 k0_2 k0_f2); have k0_0 := k0.cell 0; have k0_f0 := k0.frozen 0; have k0_1 := k0.cell 1; have k0_f1 := k0.frozen 1; have k0_2 := k0.cell 2; have k0_f2 := k0.frozen 2; simp only [List.set_cons_zero, List.set_cons_succ, List.getElem?_cons_zero, List.getElem?_cons_succ] at k0_0 k0_1 k0_2; (try clear lt_k0); have lt_k0 := k0.lt; replace kP := kP.step hyc; (try clear lt_kP); have lt_kP := kP.lt; replace kS := kS.step hyc; (try clear lt_kS); have lt_kS := kS.lt
                replace hL := hL.step hyc
                replace hbt : Below w.heap.size w wc := hbt.step hyc
                have hK := fun (X : World) (h : Below wc.heap.size wc X) => drr_Check_any A5 c5 R.fl R.at_ R.mid X (by omega) ((rx.1.below h).more h.size)
                rw [HR.out.check, hRf] at hK
                clear hSv hyc hct2 rB hbw
                have kx_0 := kx.cell 0; have kx_f0 := kx.frozen 0; have kx_1 := kx.cell 1; have kx_f1 := kx.frozen 1; have kx_2 := kx.cell 2; have kx_f2 := kx.frozen 2; simp only [List.set_cons_zero, List.set_cons_succ, List.getElem?_cons_zero, List.getElem?_cons_succ] at kx_0 kx_1 kx_2; have lt_kx := kx.lt
                go_wp2_with fail
                refine (hK _ (by (repeat (first | with_reducible exact Below.refl _ _ | with_reducible assumption | with_reducible refine Below.drew ?_ | with_reducible refine Below.drewN ?_ _ | with_reducible refine Below.alloc1 ?_ _ | with_reducible refine Below.setCell1 ?_ (by first | omega | (simp; done) | (simp; omega)) _ | with_reducible refine Below.step ?_ (by with_reducible assumption))))).mono ?_; rintro e y4 ⟨rfl, hx1⟩
                replace k0 := k0.step hx1; (try clear k0_0 k0_f0 k0_1 k0_f1 k0_2 k0_f2); have k0_0 := k0.cell 0; have k0_f0 := k0.frozen 0; have k0_1 := k0.cell 1; have k0_f1 := k0.frozen 1; have k0_2 := k0.cell 2; have k0_f2 := k0.frozen 2; simp only [List.set_cons_zero, List.set_cons_succ, List.getElem?_cons_zero, List.getElem?_cons_succ] at k0_0 k0_1 k0_2; (try clear lt_k0); have lt_k0 := k0.lt; replace kP := kP.step hx1; (try clear lt_kP); have lt_kP := kP.lt; replace kS := kS.step hx1; (try clear lt_kS); have lt_kS := kS.lt; replace kx := kx.step hx1; (try clear kx_0 kx_f0 kx_1 kx_f1 kx_2 kx_f2); have kx_0 := kx.cell 0; have kx_f0 := kx.frozen 0; have kx_1 := kx.cell 1; have kx_f1 := kx.frozen 1; have kx_2 := kx.cell 2; have kx_f2 := kx.frozen 2; simp only [List.set_cons_zero, List.set_cons_succ, List.getElem?_cons_zero, List.getElem?_cons_succ] at kx_0 kx_1 kx_2; (try clear lt_kx); have lt_kx := kx.lt
                replace hL := hL.step hx1; replace rx := rx.step hx1; replace rg := rg.step hx1
                replace hbt : Below w.heap.size w y4 := hbt.step hx1
                clear hK hx1
                go_wp2_with fail
                (try clear k0_0 k0_f0 k0_1 k0_f1 k0_2 k0_f2 lt_k0) ; (try clear kx_0 kx_f0 kx_1 kx_f1 kx_2 kx_f2 lt_kx) ; (try clear  lt_kP) ; (try clear  lt_kS)
                go_loopw [17] (fun kv w4 => ∃ (k : Nat) (P' S' : List Int), k ≤ wts.length ∧ kv = .int .i64 k ∧ Hid (Adds wts.length k P (fun j => R.went.getD j 0) P') ∧ Hid (Adds wts.length k S (fun j => gone ls R.fl R.went j) S') ∧ Bk w4 w.heap.size 31 (dsC B wts.length b at_ mid) ∧ Bk w4 gx 31 (dsC A5 wts.length c5 R.at_ R.mid) ∧ Bk w4 bP 61 (ints P') ∧ Bk w4 (bP + 1) 61 (ints S') ∧ RdO w4 A5 (flR R.fl) [bP + 1, bP, w.heap.size] ∧ RdO w4 B5 (ints R.went) [bP + 1, bP, w.heap.size] ∧ LdsO w4 W ls [bP + 1, bP, w.heap.size] ∧ Below w.heap.size w w4) (fun kv _ => wts.length - (intOf kv).toNat)
                case atStart => exact ⟨0, P, S, Nat.zero_le _, rfl, Adds.zero HF.out.pl, Adds.zero HF.out.sl, k0, kx, kP, kS, rx, rg, hL, hbt⟩
                case round =>
                  clear k0 kx kP kS rx rg hL hbt
                  obtain ⟨k, P', S', hk, rfl, HP, HS, k0, kx, kP, kS, rx, rg, hL, hbt⟩ := hrel
                  by_cases hlk : k < wts.length
                  -- (D
                  · have hkg : k < R.went.length := by omega
                    have hkl : k < ls.length := by have := HL.out.1; omega
                    obtain ⟨gd, rfl, hgdb, cg, rg1⟩ := rg.one k hkg
                    obtain ⟨ad, rfl, hadb, rl1⟩ := hL.one k hkl
                    obtain ⟨e1, e2⟩ := HR.out.each k hkg
                    obtain ⟨g1, g2⟩ := HR.out.sent k (by omega)
                    have hco := gone_of HL.out (HR.out.ids.trans HF.out.ids) k hkl hkg
                    have hC := fun (X : World) (h : Below wr.heap.size wr X) => drr_Cost_any (some (ad.add (k * 2))) (some (gd.add k)) (cW - k) (b5 - k) [ls[k]] [R.went[k]] X (by simp) (by simp) (fun x hx => by rw [List.mem_singleton.1 hx]; exact hlx.out _ (List.getElem_mem hkl)) ((rl1.below h).more h.size) ((rg1.below h).more h.size)
                    simp only [List.length_cons, List.length_nil, Nat.zero_add] at hC
                    rw [← hco] at hC
                    have HPn := HP.out.next (show k < 6 by omega)
                    have HSn := HS.out.next (show k < 6 by omega)
                    (try dsimp only at HPn); (try dsimp only at HSn)
                    have hp6 : k < P'.length := by have := HP.out.1; omega
                    have hs6 : k < S'.length := by have := HS.out.1; omega
                    have bp := HF.out.pos k
                    have bs := HF.out.sum k
                    have qp := HP.out.2 k
                    have qs := HS.out.2 k
                    rw [if_neg (Nat.lt_irrefl k), Int.add_zero] at qp qs
                    rw [← qp] at bp
                    rw [← qs] at bs
                    rw [getD_at' _ _ hp6 0] at bp HPn
                    rw [getD_at' _ _ hs6 0] at bs HSn
                    rw [getD_at' _ _ hkg 0] at HPn
                    have cS : wr.cell? ⟨bP + 1, k, none⟩ = some (.int .i64 S'[k]) := by rw [kS.cell]; simp [ints, hs6]
                    have cP : wr.cell? ⟨bP, k, none⟩ = some (.int .i64 P'[k]) := by rw [kP.cell]; simp [ints, hp6]
                    have cSf := kS.frozen k
                    generalize hp0 : P'[k] = p0 at *
                    generalize S'[k] = s0 at *
                    generalize gone ls R.fl R.went k = cst at *
                    have HKG := hide hkg
                    generalize hgv : R.went[k] = g at *
                    replace HPn := hide HPn
                    replace HSn := hide HSn
                    have lk6 : (k : Int) < 6 := by omega
                    have lkn : (k : Int) < (wts.length : Int) := by omega
                    have hn1 : ¬ g < 0 := by omega
                    have hn2 : ¬ 64 ≤ g := by omega
                    have hwS := IntWalk.i64_in (s0 + cst) (by omega)
                    have hwP := IntWalk.i64_in (p0 + g) (by omega)
                    have hwk := IntWalk.i64_in ((k : Int) + 1) (by omega)
                    obtain ⟨sa, sb⟩ := part_run (P := Try.prog) (t := 33) (e := 64) (size := 2) Try.underlying33 (by kernel_rfl) (fun _ => rfl) ad k wts.length cW (k : Int) ((k : Int) + 1) rfl rfl (by omega)
                    obtain ⟨ta, tb⟩ := part_run (P := Try.prog) (t := 35) (e := 3) (size := 1) Try.underlying35 (by kernel_rfl) (fun _ => rfl) gd k wts.length b5 (k : Int) ((k : Int) + 1) rfl rfl (by omega)
                    rw [Nat.mul_one] at ta tb
                    have l0 := k0.lt
                    have lP := kP.lt
                    have lS := kS.lt
                    clear hco bp bs qp qs e1 e2 rg1 rl1
                    go_upto_region 25 with fail
                    go_cut [17] from 122 to 137 (fun v17 wx => v17 = .int .i64 k ∧ Bk wx w.heap.size 31 (dsC B wts.length b at_ mid) ∧ Bk wx gx 31 (dsC A5 wts.length c5 R.at_ R.mid) ∧ Bk wx bP 61 (ints P') ∧ Bk wx (bP + 1) 61 (ints (S'.set k (s0 + cst))) ∧ RdO wx A5 (flR R.fl) [bP + 1, bP, w.heap.size] ∧ RdO wx (some gd) (ints R.went) [bP + 1, bP, w.heap.size] ∧ LdsO wx (some ad) ls [bP + 1, bP, w.heap.size] ∧ Below w.heap.size w wx)
                    case first =>
                      go_region_with ((go_at_call 16; refine (hC _ (by (repeat (first | with_reducible exact Below.refl _ _ | with_reducible assumption | with_reducible refine Below.drew ?_ | with_reducible refine Below.drewN ?_ _ | with_reducible refine Below.alloc1 ?_ _ | with_reducible refine Below.setCell1 ?_ (by first | omega | (simp; done) | (simp; omega)) _ | with_reducible refine Below.step ?_ (by with_reducible assumption))))).mono ?_; rintro e w5 ⟨rfl, hy5⟩; (have cS5 := (hy5.cell (p := ⟨bP + 1, k, none⟩) (by dsimp only; simp; omega)).trans cS); (have cSf5 := (Bk.step (Bk.drew kS) hy5).frozen k)))
                      all_goals
                        go_wp2_with fail
                        go_meet
                        have hyw : Below wr.heap.size wr w5 := by (repeat (first | with_reducible exact Below.refl _ _ | with_reducible assumption | with_reducible refine Below.drew ?_ | with_reducible refine Below.drewN ?_ _ | with_reducible refine Below.alloc1 ?_ _ | with_reducible refine Below.setCell1 ?_ (by first | omega | (simp; done) | (simp; omega)) _ | with_reducible refine Below.step ?_ (by with_reducible assumption)))
                        refine ⟨rfl, (k0.step hyw).far (by dsimp only; omega) _, (kx.step hyw).far (by dsimp only; omega) _, (kP.step hyw).far (by dsimp only; omega) _, ?_, (rx.step hyw).set (by simp) k _, (rg.step hyw).set (by simp) k _, (hL.step hyw).set (by simp) k _, (hbt.step hyw).setCell (by dsimp only; omega) _⟩
                        have q := (kS.step hyw).set_ k (.int .i64 (s0 + cst))
                        rw [ints_set] at q
                        exact q
                    case rest =>
                      clear k0 kx kP kS rx rg hL hbt cS cP cSf cg sa sb ta tb hC
                      obtain ⟨rfl, k0, kx, kP, kS, rx, rg, hL, hbt⟩ := hcut
                      have cP : wc.cell? ⟨bP, k, none⟩ = some (.int .i64 P'[k]) := by rw [kP.cell]; simp [ints, hp6]
                      have cPf := kP.frozen k
                      obtain ⟨gd', hgd, _, cg, _⟩ := rg.one k HKG.out
                      cases hgd
                      rw [hp0] at cP
                      replace cg : wc.cell? (gd.add k) = some (.int .i64 g) := cg.trans (congrArg some (congrArg (Value.int .i64) hgv))
                      have l0 := k0.lt
                      have lP := kP.lt
                      have lS := kS.lt
                      clear hgv
                      go_wp2_with fail
                      go_region
                      all_goals
                        go_wp2_with fail
                        generalize hV : World.drew (World.setCell wc _ _) = w7
                        have hb7 : Below w.heap.size w w7 := by subst hV; exact Below.drew <| hbt.setCell (by dsimp only; omega) _
                        have k07 : Bk w7 w.heap.size 31 (dsC B wts.length b at_ mid) := by subst hV; exact Bk.drew <| k0.far (by dsimp only; omega) _
                        have kx7 : Bk w7 gx 31 (dsC A5 wts.length c5 R.at_ R.mid) := by subst hV; exact Bk.drew <| kx.far (by dsimp only; omega) _
                        have kS7 : Bk w7 (bP + 1) 61 (ints (S'.set k (s0 + cst))) := by subst hV; exact Bk.drew <| kS.far (by dsimp only; omega) _
                        have kP7 : Bk w7 bP 61 (ints (P'.set k (p0 + g))) := by
                          subst hV
                          have q := kP.set_ k (.int .i64 (p0 + g))
                          rw [ints_set] at q
                          exact Bk.drew q
                        have rx7 : RdO w7 A5 (flR R.fl) [bP + 1, bP, w.heap.size] := by subst hV; exact rx.set (by simp) k _
                        have rg7 : RdO w7 (some gd) (ints R.went) [bP + 1, bP, w.heap.size] := by subst hV; exact rg.set (by simp) k _
                        have hL7 : LdsO w7 (some ad) ls [bP + 1, bP, w.heap.size] := by subst hV; exact hL.set (by simp) k _
                        exact ⟨⟨k + 1, P'.set k (p0 + g), S'.set k (s0 + cst), by omega, by go_num, HPn, HSn, k07, kx7, kP7, kS7, rx7, rg7, hL7, hb7⟩, by simp [intOf]; omega⟩
                  -- D)
                  · have hkn : k = wts.length := by omega
                    subst hkn
                    have HFN := hide (HF.out.next (sizes := sizes) n6 ht9 HR.out HP.out HS.out)
                    have hs6 := HS.out.1
                    obtain ⟨wz, rfl⟩ : ∃ x, x = wr := ⟨wr, rfl⟩
                    go_wp2_with fail
                    go_loopw [18] (fun kv w5 => ∃ k : Nat, 1 ≤ k ∧ k ≤ wts.length + 1 ∧ kv = .int .i64 k ∧ Below wz.heap.size wz w5) (fun kv _ => wts.length - (intOf kv).toNat)
                    case atStart => exact ⟨1, Nat.le_refl _, by omega, rfl, Below.refl _ _⟩
                    case round =>
                      obtain ⟨k, hk1, hk2, rfl, hy⟩ := hrel
                      have k05 := k0.step hy
                      have kx5 := kx.step hy
                      have kS5 := kS.step hy
                      have hbt5 : Below w.heap.size w wr := hbt.step hy
                      by_cases hlk : k < wts.length
                      -- (E
                      · obtain ⟨m, hkm⟩ : ∃ m, k = m + 1 := ⟨k - 1, by omega⟩
                        have hsub : (k : Int) - 1 = (m : Int) := by omega
                        have hm : m < wts.length := by omega
                        have h0 : 0 < wts.length := by omega
                        obtain ⟨ad, rfl, hadb, hc1⟩ := Rd.at_ ha (k := k) (by simpa using hlk)
                        obtain ⟨ad', e', _, hc2⟩ := Rd.at_ ha (k := m) (by simpa using hm)
                        cases e'
                        obtain ⟨ad', e', _, hc3⟩ := Rd.at_ ha (k := 0) (by simpa using h0)
                        cases e'
                        have n1 := HFN.out.near (by omega) (k) m hlk hm
                        have n2 := HFN.out.near (by omega) (k) 0 hlk h0
                        rw [getD_at' _ _ (show k < S'.length by omega) 0, getD_at' _ _ (show m < S'.length by omega) 0] at n1
                        rw [getD_at' _ _ (show k < S'.length by omega) 0, getD_at' _ _ (show 0 < S'.length by omega) 0] at n2
                        unfold wtN at n1 n2
                        rw [getD_at' _ _ hlk 0, getD_at' _ _ hm 0] at n1
                        rw [getD_at' _ _ hlk 0, getD_at' _ _ h0 0] at n2
                        have cS1 : wr.cell? ⟨bP + 1, k, none⟩ = some (.int .i64 S'[k]) := by rw [kS5.cell]; simp [ints, hs6]
                        have cS2 : wr.cell? ⟨bP + 1, m, none⟩ = some (.int .i64 S'[m]) := by rw [kS5.cell]; simp [ints, hs6]
                        have cS3 : wr.cell? ⟨bP + 1, 0, none⟩ = some (.int .i64 S'[0]) := by rw [kS5.cell]; simp [ints, hs6]
                        have cw1 : wr.cell? (ad.add (k)) = some (.int .u8 wts[k]) := by rw [hbt5.cell (by rw [add_block]; exact hadb), hc1]; simp
                        have cw2 : wr.cell? (ad.add m) = some (.int .u8 wts[m]) := by rw [hbt5.cell (by rw [add_block]; exact hadb), hc2]; simp
                        have hz0 : ad.add 0 = ad := rfl
                        have cw3 : wr.cell? (ad.add 0) = some (.int .u8 wts[0]) := by rw [hbt5.cell (by rw [add_block]; exact hadb), hc3]; simp
                        have b1 := HBW.out _ (List.getElem_mem hlk)
                        have b2 := HBW.out _ (List.getElem_mem hm)
                        have b3 := HBW.out _ (List.getElem_mem h0)
                        generalize S'[k] = s1 at *
                        generalize S'[m] = s2 at *
                        generalize S'[0] = s3 at *
                        generalize wts[k] = u1 at *
                        generalize wts[m] = u2 at *
                        generalize wts[0] = u3 at *
                        have v1 := IntWalk.i64_in (u1 % 8) (by omega)
                        have v2 := IntWalk.i64_in (u2 % 8) (by omega)
                        have v3 := IntWalk.i64_in (u3 % 8) (by omega)
                        have x1 := IntWalk.i64_in (1 + u1 % 8) (by omega)
                        have x2 := IntWalk.i64_in (1 + u2 % 8) (by omega)
                        have x3 := IntWalk.i64_in (1 + u3 % 8) (by omega)
                        have t1 : u1.tmod 8 = u1 % 8 := Int.tmod_eq_emod_of_nonneg b1.1
                        have t2 : u2.tmod 8 = u2 % 8 := Int.tmod_eq_emod_of_nonneg b2.1
                        have t3 : u3.tmod 8 = u3 % 8 := Int.tmod_eq_emod_of_nonneg b3.1
                        have lm6 : (k : Int) < 6 := by omega
                        have lm6' : (m : Int) < 6 := by omega
                        have lml : (k : Int) < (wts.length : Int) := by omega
                        have hkw := IntWalk.i64_in (m : Int) (by omega)
                        clear hkm
                        have lml' : (m : Int) < (wts.length : Int) := by omega
                        have lz : (0 : Int) < (wts.length : Int) := by omega
                        have hN1 := fun X => drr_Near_any 256 s1 (1 + u1 % 8) s2 (1 + u2 % 8) X
                        have hN2 := fun X => drr_Near_any 256 s1 (1 + u1 % 8) s3 (1 + u3 % 8) X
                        rw [n1] at hN1
                        rw [n2] at hN2
                        have l5 := kS5.lt
                        have hadb5 : ad.block < wr.heap.size := by have := hbt5.size; omega
                        clear n1 n2 hc1 hc2 hc3 b1 b2 b3
                        go_upto_region 30 with fail
                        go_cut [18, 19] from 153 to 162 (fun v18 v19 wx => ∃ ga, v18 = .int .i64 k ∧ v19 = .pointer (some ⟨ga, 0, none⟩) ∧ wr.heap.size ≤ ga ∧ Bk wx ga 25 [.int .i64 s1, .int .i64 (1 + u1 % 8)] ∧ Below wr.heap.size wr wx)
                        case first =>
                          have HS : Hid (∀ w' : World, Below (wr.heap.size) wr w' → (w'.cell? ⟨bP + 1, k, none⟩ = some (.int .i64 s1) ∧ w'.cell? (ad.add k) = some (.int .u8 u1)) ∧ wr.heap.size ≤ w'.heap.size ∧ Below (wr.heap.size) wr w') := fun w' hB => ⟨⟨(hB.cell (p := ⟨bP + 1, k, none⟩) (by dsimp only; omega)).trans (cS1), (hB.cell (p := (ad.add k)) (by rw [add_block]; omega)).trans (cw1)⟩, hB.size, hB⟩; go_region_held3 (fun w' => (w'.cell? ⟨bP + 1, k, none⟩ = some (.int .i64 s1) ∧ w'.cell? (ad.add k) = some (.int .u8 u1)) ∧ wr.heap.size ≤ w'.heap.size ∧ Below (wr.heap.size) wr w') ((go_split_ands; exact HS.out _ (by (repeat (first | with_reducible exact Below.refl _ _ | with_reducible assumption | with_reducible refine Below.drew ?_ | with_reducible refine Below.drewN ?_ _ | with_reducible refine Below.alloc ?_ (by first | omega | (simp; done) | (simp; omega)) _ | with_reducible refine Below.setCell ?_ (by first | omega | (simp; done) | (simp; omega)) _ | with_reducible refine Below.then_ ?_ (by with_reducible assumption) (by first | omega | (simp; done) | (simp; omega))))))) ((fail))
                          all_goals
                            go_wp2_with fail
                            go_meet
                            exact ⟨_, rfl, rfl, Nat.le_refl _, Bk.drew (Bk.new _ _ _), by (repeat (first | with_reducible exact Below.refl _ _ | with_reducible assumption | with_reducible refine Below.drew ?_ | with_reducible refine Below.drewN ?_ _ | with_reducible refine Below.alloc1 ?_ _ | with_reducible refine Below.setCell1 ?_ (by first | omega | (simp; done) | (simp; omega)) _ | with_reducible refine Below.step ?_ (by with_reducible assumption)))⟩
                        case rest =>
                          obtain ⟨ga, rfl, rfl, hga, ka, hyc⟩ := hcut
                          have hyz := hy.trans (hyc.mono hy.size)
                          replace cS2 := (hyc.cell (p := ⟨bP + 1, m, none⟩) (by dsimp only; omega)).trans cS2
                          replace cS3 := (hyc.cell (p := ⟨bP + 1, 0, none⟩) (by dsimp only; omega)).trans cS3
                          replace cw2 := (hyc.cell (p := ad.add m) (by rw [add_block]; omega)).trans cw2
                          replace cw3 := (hyc.cell (p := ad.add 0) (by rw [add_block]; omega)).trans cw3
                          clear cS1 cw1 k05 kx5 kS5
                          have ka_0 := ka.cell 0; have ka_f0 := ka.frozen 0; have ka_1 := ka.cell 1; have ka_f1 := ka.frozen 1; simp only [List.set_cons_zero, List.set_cons_succ, List.getElem?_cons_zero, List.getElem?_cons_succ] at ka_0 ka_1; have lt_ka := ka.lt
                          have hyl := hyc.size
                          have cq1 : ∀ d os, (grow (redrawn wc d) os).cell? ⟨ga, 0, none⟩ = some (.int .i64 s1) := fun d os => ((below_regrown wc d os).cell (by dsimp only; omega)).trans ka_0
                          have cq2 : ∀ d os, (grow (redrawn wc d) os).cell? ⟨ga, 1, none⟩ = some (.int .i64 (1 + u1 % 8)) := fun d os => ((below_regrown wc d os).cell (by dsimp only; omega)).trans ka_1
                          have cq3 : ∀ d os, (grow (redrawn wc d) os).cell? ⟨bP + 1, m, none⟩ = some (.int .i64 s2) := fun d os => ((below_regrown wc d os).cell (by dsimp only; omega)).trans cS2
                          have cq4 : ∀ d os, (grow (redrawn wc d) os).cell? ⟨bP + 1, 0, none⟩ = some (.int .i64 s3) := fun d os => ((below_regrown wc d os).cell (by dsimp only; omega)).trans cS3
                          have cq5 : ∀ d os, (grow (redrawn wc d) os).cell? (ad.add m) = some (.int .u8 u2) := fun d os => ((below_regrown wc d os).cell (by rw [add_block]; omega)).trans cw2
                          have cq6 : ∀ d os, (grow (redrawn wc d) os).cell? (ad.add 0) = some (.int .u8 u3) := fun d os => ((below_regrown wc d os).cell (by rw [add_block]; omega)).trans cw3
                          rw [hz0] at cq6
                          go_wp2_with fail
                          refine wp_region_m [(14, only (.bool true)), (27, only (.bool true))] (by kernel_rfl) (by kernel_rfl) (by kernel_rfl) (by kernel_rfl) (sts_cons (sts_only _) (sts_cons (sts_only _) sts_nil)) (fun kq => ?_); (try dsimp only [List.append])
                          (repeat (refine wpM_via (by kernel_rfl) ?_; go_big_quiet_step (fail); refine wpQuiet_nil ?_))
                          (refine wpM_only _ (.bool true) (by kernel_rfl) (by kernel_rfl) rfl (later_some _) ?_ ?_; (focus (intro x hx hk; obtain ⟨px, rfl⟩ := hx; go_simp; (first | with_reducible refine mUpon_enter ?_ | with_reducible refine mUpon_value ?_); go_at_call 25; exact (hN1 _).mo)); intro K hK; go_big_quiet_op; refine hK _ ?_; clear hK K)
                          (repeat (refine wpM_via (by kernel_rfl) ?_; go_big_quiet_step (fail); refine wpQuiet_nil ?_))
                          (refine wpM_only _ (.bool true) (by kernel_rfl) (by kernel_rfl) rfl (later_some _) ?_ ?_; (focus (intro x hx hk; obtain ⟨px, rfl⟩ := hx; go_simp; (first | with_reducible refine mUpon_enter ?_ | with_reducible refine mUpon_value ?_); go_at_call 25; exact (hN2 _).mo)); intro K hK; go_big_quiet_op; refine hK _ ?_; clear hK K)
                          (repeat (refine wpM_via (by kernel_rfl) ?_; go_big_quiet_step (fail); refine wpQuiet_nil ?_))
                          refine wpM_nil ?_; intro wq hwq hfq; have hbq := below_of_class hwq; clear hwq kq; (try dsimp only [List.drop])
                          go_wp2
                          exact ⟨⟨k + 1, by omega, by omega, by go_num, hyz.step hbq⟩, by simp [intOf]; omega⟩
                      -- E)
                      · have l0 := k05.lt
                        have k05_0 := k05.cell 0; have k05_f0 := k05.frozen 0; have k05_1 := k05.cell 1; have k05_f1 := k05.frozen 1; have k05_2 := k05.cell 2; have k05_f2 := k05.frozen 2; simp only [List.set_cons_zero, List.set_cons_succ, List.getElem?_cons_zero, List.getElem?_cons_succ] at k05_0 k05_1 k05_2; have lt_k05 := k05.lt; have kx5_0 := kx5.cell 0; have kx5_f0 := kx5.frozen 0; have kx5_1 := kx5.cell 1; have kx5_f1 := kx5.frozen 1; have kx5_2 := kx5.cell 2; have kx5_f2 := kx5.frozen 2; simp only [List.set_cons_zero, List.set_cons_succ, List.getElem?_cons_zero, List.getElem?_cons_succ] at kx5_0 kx5_1 kx5_2; have lt_kx5 := kx5.lt
                        go_wp2_with fail
                        generalize hV : World.setCell (World.setCell (World.setCell wr _ _) _ _) _ _ = w7
                        have hb7 : Below w.heap.size w w7 := by subst hV; exact ((hbt5.setCell (by dsimp only; omega) _).setCell (by dsimp only; omega) _).setCell (by dsimp only; omega) _
                        have k07 : Bk w7 w.heap.size 31 (dsC A5 wts.length c5 R.at_ R.mid) := by subst hV; exact ((k05.set_ 0 _).set_ 1 _).set_ 2 _
                        have kS7 : Bk w7 (bP + 1) 61 (ints S') := by subst hV; exact ((kS5.far (by dsimp only; omega) _).far (by dsimp only; omega) _).far (by dsimp only; omega) _
                        have kP7 : Bk w7 bP 61 (ints P') := by subst hV; exact (((kP.step hy).far (by dsimp only; omega) _).far (by dsimp only; omega) _).far (by dsimp only; omega) _
                        have rx7 : RdO w7 A5 (flR R.fl) [bP + 1, bP, w.heap.size] := by subst hV; exact (((rx.step hy).set (by simp) 0 _).set (by simp) 1 _).set (by simp) 2 _
                        exact ⟨⟨i + 1, R.fl, R.at_, R.mid, P', S', by omega, by go_num, HFN, ⟨A5, c5, k07, rx7⟩, kP7, kS7, hb7⟩, by simp [intOf]; omega⟩
        · go_wp2_with fail
          refine (awake28_any _).mono ?_; rintro e y1 ⟨rfl, hx2⟩
          go_wp2
          go_ret
          exact ⟨rfl, hbr.step hx2⟩
end Go.Proofs.Yteblbleehnkcmaa
