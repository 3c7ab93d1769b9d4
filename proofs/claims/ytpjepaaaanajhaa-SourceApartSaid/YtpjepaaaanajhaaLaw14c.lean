/- The walk of SourceApart. -/
import Derived.Test.YtpjepaaaanajhaaLaw14b
import Derived.Test.YtpjepaaaanajhaaSrcQ
namespace Go.Proofs.Ytpjepaaaanajhaa
open Go.RowKit Go.Sort
set_option linter.unusedSimpArgs false
set_option linter.unusedVariables false

def ownC (f : Nat → Int × Int) : List Value := [0, 1, 2, 3, 4, 5, 6, 7, 8, 9].flatMap fun s => [.int .i64 (f s).1, .int .i64 (f s).2]
def tkC (V : Nat → Value) : List Value := [0, 1, 2, 3, 4, 5, 6, 7, 8, 9].map V
theorem ten {s : Nat} (h : s < 10) : s = 0 ∨ s = 1 ∨ s = 2 ∨ s = 3 ∨ s = 4 ∨ s = 5 ∨ s = 6 ∨ s = 7 ∨ s = 8 ∨ s = 9 := by omega
theorem ownC_get (f : Nat → Int × Int) {s : Nat} (h : s < 10) : (ownC f)[s * 2]? = some (.int .i64 (f s).1) ∧ (ownC f)[s * 2 + 1]? = some (.int .i64 (f s).2) := by
  rcases ten h with rfl | rfl | rfl | rfl | rfl | rfl | rfl | rfl | rfl | rfl <;> exact ⟨rfl, rfl⟩
theorem ownC_set (f : Nat → Int × Int) {s : Nat} (h : s < 10) (x y : Int) : ((ownC f).set (s * 2) (.int .i64 x)).set (s * 2 + 1) (.int .i64 y) = ownC (upd f s (x, y)) := by
  rcases ten h with rfl | rfl | rfl | rfl | rfl | rfl | rfl | rfl | rfl | rfl <;> rfl
theorem tkC_get (V : Nat → Value) {s : Nat} (h : s < 10) : (tkC V)[s]? = some (V s) := by
  rcases ten h with rfl | rfl | rfl | rfl | rfl | rfl | rfl | rfl | rfl | rfl <;> rfl
theorem tkC_set (V : Nat → Value) {s : Nat} (h : s < 10) (x : Value) : (tkC V).set s x = tkC (upd V s x) := by
  rcases ten h with rfl | rfl | rfl | rfl | rfl | rfl | rfl | rfl | rfl | rfl <;> rfl
/-- ten rows of one's own, apart from each other -/
def Tkn (w : World) (base : Nat) (V : Nat → Value) (ats : Nat → List Int) : Prop :=
  (∀ s, s < 10 → ∃ A c, V s = .slice A (ats s).length c ∧ w.ownsRow base 3 1 (.slice A (ats s).length c) (ats s).length (ints (ats s))) ∧
  ∀ i j g, i < 10 → j < 10 → i ≠ j → (V i).ownBlock = some g → (V j).ownBlock ≠ some g
theorem Tkn.step {w w' : World} {base : Nat} {V : Nat → Value} {ats : Nat → List Int} (h : Tkn w base V ats) (hb : Below w.heap.size w w') : Tkn w' base V ats :=
  ⟨fun s hs => let ⟨A, c, e, o⟩ := h.1 s hs; ⟨A, c, e, own_below o hb (Nat.le_refl _)⟩, h.2⟩
theorem Tkn.far {w : World} {base : Nat} {V : Nat → Value} {ats : Nat → List Int} (h : Tkn w base V ats) {p : Addr} (hp : p.block < base) (u : Value) : Tkn (w.setCell p u) base V ats :=
  ⟨fun s hs => let ⟨A, c, e, o⟩ := h.1 s hs; ⟨A, c, e, own_far o hp u⟩, h.2⟩
theorem Tkn.put {w w' : World} {base : Nat} {V : Nat → Value} {ats : Nat → List Int} (h : Tkn w base V ats) {s g c : Nat} (hs : s < 10) {N : Int} (own : w'.ownsRow base 3 1 (.slice (some ⟨g, 0, none⟩) ((ats s).length + 1) c) ((ats s).length + 1) (ints (ats s) ++ [.int .i64 N]))
    (hg : w.grownBy w' (V s).ownBlock) (hat : (V s).ownBlock = some g ∨ w.heap.size ≤ g) : Tkn w' base (upd V s (.slice (some ⟨g, 0, none⟩) ((ats s).length + 1) c)) (upd ats s (ats s ++ [N])) := by
  have hne : ∀ j, j < 10 → j ≠ s → (V j).ownBlock ≠ some g := fun j hj hjs e => by
    rcases hat with h1 | h1
    · exact h.2 j s g hj hs hjs e h1
    · obtain ⟨A, c', e2, o⟩ := h.1 j hj
      rw [e2] at e
      have := (o.lt g e).2
      omega
  refine ⟨fun j hj => ?_, fun i j k hi hj hij hk => ?_⟩
  · by_cases e : j = s
    · subst e
      rw [upd_same, upd_same]
      refine ⟨_, c, by rw [List.length_append]; rfl, ?_⟩
      have e1 : (ats j ++ [N]).length = (ats j).length + 1 := by simp
      have e2 : ints (ats j ++ [N]) = ints (ats j) ++ [.int .i64 N] := by simp [ints]
      rw [e1, e2]
      exact own
    · rw [upd_ne _ _ e, upd_ne _ _ e]
      obtain ⟨A, c', e2, o⟩ := h.1 j hj
      refine ⟨A, c', e2, o.kept hg ?_⟩
      rw [← e2]
      cases hv : (V j).ownBlock with
      | none => exact .inl rfl
      | some q =>
        right
        intro e3
        exact h.2 j s q hj hs e hv e3.symm
  · by_cases ei : i = s
    · subst ei
      rw [upd_same] at hk
      simp [Value.ownBlock] at hk
      subst hk
      rw [upd_ne _ _ (Ne.symm hij)]
      exact hne j hj (Ne.symm hij)
    · rw [upd_ne _ _ ei] at hk
      by_cases ej : j = s
      · subst ej
        rw [upd_same]
        simp [Value.ownBlock]
        rintro rfl
        exact hne i hi ei hk
      · rw [upd_ne _ _ ej]
        exact h.2 i j k hi hj hij hk
theorem Rd.keep1 {w : World} {B : Nat} {A : Option Addr} {xs : List Value} (h : Rd w B A xs) {p : Addr} (hne : ∀ ad, A = some ad → ad.block ≠ p.block) (u : Value) : Rd (w.setCell p u) B A xs := fun hn => by
  obtain ⟨ad, e, hb, hc⟩ := h hn
  have := hne ad e
  exact ⟨ad, e, hb, fun j v hv => (World.cell?_setCell_other _ _ _ _ (by intro e2; have := congrArg Addr.block e2; rw [add_block] at this; omega)).trans (hc j v hv)⟩
theorem Rd.kept {w w' : World} {A : Option Addr} {xs : List Value} {row : Option Nat} (h : Rd w w.heap.size A xs) (hg : w.grownBy w' row) (hne : ∀ ad, A = some ad → row ≠ some ad.block) : Rd w' w'.heap.size A xs := fun hn => by
  obtain ⟨ad, e, hb, hc⟩ := h hn
  refine ⟨ad, e, Nat.lt_of_lt_of_le hb hg.size, fun j v hj => ?_⟩
  have h1 := hg.block ad.block hb (fun e2 => hne ad e (by rw [← e2]))
  have h2 := hc j v hj
  unfold World.cell? at h2 ⊢
  rw [add_block, h1]
  rwa [add_block] at h2
theorem own_blk {w : World} {base : Nat} {e : TypeId} {size n c m : Nat} {A : Option Addr} {xs : List Value} (h : w.ownsRow base e size (.slice A n c) m xs) : ∀ ad, A = some ad → base ≤ ad.block ∧ ad.block < w.heap.size := by
  rintro ad rfl
  rcases h.2 with ⟨h0, _⟩ | ⟨g, cap, cur, hv, hb, hg, _⟩
  · injection h0 with h0; cases h0
  · injection hv with hv
    injection hv with hv
    subst hv
    exact ⟨hb, (Array.getElem?_eq_some_iff.1 hg).1⟩
theorem bucket_Full_agg (b r now : Int) (w : World) : Calls Try.prog 24 #[.agg #[.int .i64 b, .int .i64 r], .int .i64 now] w fun e w' => e = .returned (.agg #[.int .i64 b, .int .i64 (bHeld now 0 1099511627776)]) ∧ Below w.heap.size w w' := bucket_Full_any b r now w
set_option maxRecDepth 100000 in
set_option maxHeartbeats 16000000 in
theorem SourceApart_walk (burst rate : Int) (A : Option Addr) (c : Nat) (l : List (Int × Int)) (w : World) (hbu : 0 ≤ burst ∧ burst ≤ 255) (hra : 0 ≤ rate ∧ rate ≤ 255) (hl : l.length ≤ maxLen) (hlb : ∀ x ∈ l, (0 ≤ x.1 ∧ x.1 ≤ 255) ∧ 0 ≤ x.2 ∧ x.2 ≤ 255) (ha : Rd w w.heap.size A (asR l)) :
    Calls Try.prog 5 #[.int .u8 burst, .int .u8 rate, .slice A l.length c] w fun e w' => e = .returned (.bool true) ∧ Below w.heap.size w w' := by
  by_cases h60 : 60 < l.length
  · have g1 : (60 : Int) < (l.length : Int) := by omega
    go_enter Try.func5, Try.ntmps5
    go_wp2_with fail
    refine (awake14_any _).mono ?_; rintro e y1 ⟨rfl, hx2⟩
    go_wp2
    go_ret
    exact ⟨rfl, by (repeat (first | with_reducible exact Below.refl _ _ | with_reducible assumption | with_reducible refine Below.drew ?_ | with_reducible refine Below.drewN ?_ _ | with_reducible refine Below.alloc1 ?_ _ | with_reducible refine Below.setCell1 ?_ (by first | omega | (simp; done) | (simp; omega)) _ | with_reducible refine Below.step ?_ (by with_reducible assumption)))⟩
  have g1 : (l.length : Int) ≤ 60 := by omega
  have hll : l.length ≤ 60 := by omega
  have m1 : burst.tmod 16 = burst % 16 := Int.tmod_eq_emod_of_nonneg hbu.1
  have m2 : rate.tmod 5 = rate % 5 := Int.tmod_eq_emod_of_nonneg hra.1
  have b1 : 0 ≤ burst % 16 ∧ burst % 16 ≤ 15 := by omega
  have b2 : 0 ≤ rate % 5 ∧ rate % 5 ≤ 4 := by omega
  clear h60
  have HLB := hide hlb
  clear hlb
  obtain ⟨iT, hi, hz0, hz1, hz2⟩ := info_parts int_info14
  go_enter Try.func5, Try.ntmps5
  go_wp2_with fail
  obtain ⟨b, hb⟩ : ∃ b, b = 1 + burst % 16 := ⟨_, rfl⟩
  obtain ⟨r, hr⟩ : ∃ r, r = rate % 5 := ⟨_, rfl⟩
  have hb16 : 1 ≤ b ∧ b ≤ 16 := by omega
  have hr4 : 0 ≤ r ∧ r ≤ 4 := by omega
  rw [← hb, ← hr]
  have HG := hide (bGood_mk' hb16 ⟨by omega, by omega⟩ : bGood b r = true)
  clear hb hr m1 m2 b1 b2
  generalize hV : World.alloc (World.alloc w _) _ = w1
  have hb1 : Below w.heap.size w w1 := by subst hV; (repeat (first | with_reducible exact Below.refl _ _ | with_reducible assumption | with_reducible refine Below.drew ?_ | with_reducible refine Below.drewN ?_ _ | with_reducible refine Below.alloc1 ?_ _ | with_reducible refine Below.setCell1 ?_ (by first | omega | (simp; done) | (simp; omega)) _ | with_reducible refine Below.step ?_ (by with_reducible assumption)))
  have k0 : Bk w1 w.heap.size 27 [.int .i64 b, .int .i64 r] := by subst hV; exact (Bk.new' w 27 [.int .i64 b, .int .i64 r] _ rfl).alloc _
  have k1 : Bk w1 (w.heap.size + 1) 56 (ownC fun _ => (0, 0)) := by subst hV; exact Bk.new' (World.alloc w _) 56 (ownC fun _ => (0, 0)) _ (by simp)
  clear hV
  go_loopw [9] (fun iv wr => ∃ (k : Nat) (f : Nat → Int × Int), k ≤ 10 ∧ iv = .int .i64 k ∧ (∀ s, s < k → f s = (b, 0)) ∧ Bk wr w.heap.size 27 [.int .i64 b, .int .i64 r] ∧ Bk wr (w.heap.size + 1) 56 (ownC f) ∧ Below w.heap.size w wr) (fun iv _ => 10 - (intOf iv).toNat)
  case atStart => exact ⟨0, _, Nat.zero_le _, rfl, by simp, k0, k1, hb1⟩
  case round =>
    clear k0 hb1 k1
    obtain ⟨k, f, hk, rfl, hfs, k0, k1, hb⟩ := hrel
    have k0_0 := k0.cell 0; have k0_f0 := k0.frozen 0; have k0_1 := k0.cell 1; have k0_f1 := k0.frozen 1; simp only [List.set_cons_zero, List.set_cons_succ, List.getElem?_cons_zero, List.getElem?_cons_succ] at k0_0 k0_1; have lt_k0 := k0.lt
    have hF := hide hfs
    clear hfs
    by_cases hlt : k < 10
    · have hki : (k : Int) < 10 := by omega
      go_wp2_with fail
      refine ((bucket_Full_agg b r 0 _).lit (v' := .agg #[.int .i64 b, .int .i64 0]) rfl).mono ?_; rintro e y1 ⟨rfl, hy⟩
      replace k0 := k0.step hy; (try clear k0_0 k0_f0 k0_1 k0_f1); have k0_0 := k0.cell 0; have k0_f0 := k0.frozen 0; have k0_1 := k0.cell 1; have k0_f1 := k0.frozen 1; simp only [List.set_cons_zero, List.set_cons_succ, List.getElem?_cons_zero, List.getElem?_cons_succ] at k0_0 k0_1; (try clear lt_k0); have lt_k0 := k0.lt; replace k1 := k1.step hy; (try clear lt_k1); have lt_k1 := k1.lt
      replace hb : Below w.heap.size w y1 := hb.step hy
      clear hy
      have d0 := (k1.cell (k * 2)).trans (ownC_get f hlt).1
      have d1 := (k1.cell (k * 2 + 1)).trans (ownC_get f hlt).2
      have f0 := k1.frozen (k * 2)
      have f1 := k1.frozen (k * 2 + 1)
      have k17 := (k1.set_ (k * 2) (.int .i64 b)).set_ (k * 2 + 1) (.int .i64 0)
      rw [ownC_set f hlt] at k17
      have k07 := (k0.far (p := ⟨w.heap.size + 1, k * 2, none⟩) (by dsimp only; omega) (.int .i64 b)).far (p := ⟨w.heap.size + 1, k * 2 + 1, none⟩) (by dsimp only; omega) (.int .i64 0)
      have hb7 := (hb.setCell (p := ⟨w.heap.size + 1, k * 2, none⟩) (by dsimp only; omega) (.int .i64 b)).setCell (p := ⟨w.heap.size + 1, k * 2 + 1, none⟩) (by dsimp only; omega) (.int .i64 0)
      have hF2 : Hid (∀ s, s < k + 1 → upd f k (b, 0) s = (b, 0)) := fun s hs => by
        by_cases e : s = k
        · subst e; exact upd_same _ _ _
        · rw [upd_ne _ _ e]; exact hF.out s (by omega)
      (try clear k0_0 k0_f0 k0_1 k0_f1 lt_k0)
      clear hF k0 k1
      go_wp2
      go_roundw
      case rel => exact ⟨k + 1, upd f k (b, 0), by omega, by go_num, hF2.out, k07, k17, hb7⟩
      case measure => simp [intOf]; omega
    · have hk10 : k = 10 := by omega
      have hki : (10 : Int) ≤ (k : Int) := by omega
      have hown : ownC f = ownC fun _ => (b, 0) := by
        have hq := fun s (h : s < 10) => hF.out s (by omega)
        simp only [ownC, List.flatMap_cons, List.flatMap_nil, hq 0 (by omega), hq 1 (by omega), hq 2 (by omega), hq 3 (by omega), hq 4 (by omega), hq 5 (by omega), hq 6 (by omega), hq 7 (by omega), hq 8 (by omega), hq 9 (by omega)]
      rw [hown] at k1
      clear hown hF hk hlt hk10
      (try clear k0_0 k0_f0 k0_1 k0_f1 lt_k0)
      go_wp2_with fail
-- MAIN
      generalize hV : World.alloc wr _ = w2
      have hy : Below wr.heap.size wr w2 := by subst hV; (repeat (first | with_reducible exact Below.refl _ _ | with_reducible assumption | with_reducible refine Below.drew ?_ | with_reducible refine Below.drewN ?_ _ | with_reducible refine Below.alloc1 ?_ _ | with_reducible refine Below.setCell1 ?_ (by first | omega | (simp; done) | (simp; omega)) _ | with_reducible refine Below.step ?_ (by with_reducible assumption)))
      obtain ⟨T, hTd⟩ : ∃ T, T = wr.heap.size := ⟨_, rfl⟩
      have kT : Bk w2 T 58 (tkC fun _ => .slice none 0 0) := by subst hV hTd; exact Bk.new' wr 58 (tkC fun _ => .slice none 0 0) _ rfl
      have lTk := k1.lt
      replace k0 := k0.step hy; replace k1 := k1.step hy
      replace hb : Below w.heap.size w w2 := hb.step hy
      have lT2 := kT.lt
      rw [← hTd] at lTk ⊢
      clear hV hy hTd
      go_loopw [10, 12, 13] (fun sv nv iv wx => ∃ (k : Nat) (N : Int) (m : List En) (X : Option Addr) (d : Nat) (f : Nat → Int × Int) (ats : Nat → List Int) (V : Nat → Value), k ≤ l.length ∧ iv = .int .i64 k ∧ nv = .int .i64 N ∧ sv = .slice X m.length d ∧ Rd wx wx.heap.size X (enR m) ∧ Hid (Jn b r N m f ats) ∧ 0 ≤ N ∧ N ≤ 255 * k ∧ Hid (∀ s, s < 10 → (ats s).length ≤ k) ∧ Bk wx w.heap.size 27 [.int .i64 b, .int .i64 r] ∧ Bk wx (w.heap.size + 1) 56 (ownC f) ∧ Bk wx T 58 (tkC V) ∧ Tkn wx (T + 1) V ats ∧ T + 1 ≤ wx.heap.size ∧ Below w.heap.size w wx) (fun _ _ iv _ => l.length - (intOf iv).toNat)
      case atStart => exact ⟨0, 0, [], none, 0, fun _ => (b, 0), fun _ => [], fun _ => .slice none 0 0, Nat.zero_le _, rfl, rfl, rfl, Rd.nil, Jn.init HG.out, by omega, by omega, fun _ _ => Nat.le_refl _, k0, k1, kT, ⟨fun s _ => ⟨none, 0, rfl, ⟨by simp, .inl ⟨rfl, rfl⟩⟩⟩, fun i j g _ _ _ h => by simp [Value.ownBlock] at h⟩, by omega, hb⟩
      case round =>
        clear k0 k1 kT hb lT2
        obtain ⟨k, N, m, X, d, f, ats, V, hk, rfl, rfl, rfl, rX, HJ, hN0, hNk, HLn, k0, k1, kT, hT, hzT, hb⟩ := hrel
        have k0_0 := k0.cell 0; have k0_f0 := k0.frozen 0; have k0_1 := k0.cell 1; have k0_f1 := k0.frozen 1; simp only [List.set_cons_zero, List.set_cons_succ, List.getElem?_cons_zero, List.getElem?_cons_succ] at k0_0 k0_1; have lt_k0 := k0.lt
        have hm8 : m.length ≤ 8 := (eCheck_ok HJ.out.hk).2.1
        have hm1 : m.length ≤ 1000 := by omega
        by_cases hlt : k < l.length
        · obtain ⟨ad, rfl, hadb, c1, c2⟩ := (ha.below hb).as hlt
          obtain ⟨⟨x1, x2⟩, x3, x4⟩ := HLB.out _ (List.getElem_mem hlt)
          generalize l[k] = x at *
          obtain ⟨src, g⟩ := x
          dsimp only at c1 c2 x1 x2 x3 x4
          have m3 : src.tmod 10 = src % 10 := Int.tmod_eq_emod_of_nonneg x1
          obtain ⟨s, hs⟩ : ∃ s : Nat, src % 10 = (s : Int) := ⟨(src % 10).toNat, by omega⟩
          have hs10 : s < 10 := by omega
          have hsi : (s : Int) < 10 := by omega
          rw [hs] at m3
          have HJ1 := hide (HJ.out.grows x3 (by omega))
          have HS := hide (HJ1.out.step (by omega) (by omega) hs10)
          have hC := fun W h => source_Clean_rd X d b r m (N + g) W hm1 h
          have hTk := fun W h => source_Take_own X d b r m s (N + g) W hm1 h
          have hcl := hide (eClean_len b r m (N + g))
          generalize eClean b r m (N + g) = z at *
          generalize eTake b r m s (N + g) = R at *
          obtain ⟨m', er⟩ := R
          dsimp only at hTk HS
          clear hs
          go_wp2_with fail
          refine (hC _ rX).mono ?_; rintro e y1 ⟨Z, dz, rfl, _, hy⟩
          replace k0 := k0.step hy; (try clear k0_0 k0_f0 k0_1 k0_f1); have k0_0 := k0.cell 0; have k0_f0 := k0.frozen 0; have k0_1 := k0.cell 1; have k0_f1 := k0.frozen 1; simp only [List.set_cons_zero, List.set_cons_succ, List.getElem?_cons_zero, List.getElem?_cons_succ] at k0_0 k0_1; (try clear lt_k0); have lt_k0 := k0.lt
          replace k1 := k1.step hy; replace kT := kT.step hy; replace hT := hT.step hy
          replace rX := rX.step hy
          have hzy1 := hy.size
          replace hb : Below w.heap.size w y1 := hb.step hy
          have hVl := hide (fun g1 (e : (V s).ownBlock = some g1) => show T + 1 ≤ g1 ∧ g1 < y1.heap.size from by obtain ⟨A1, c1, eV, o1⟩ := hT.1 s hs10; rw [eV] at e; exact o1.lt g1 e)
          clear hy hC
          go_wp2_with fail
          refine (hTk _ rX).mono ?_; rintro e y2 ⟨B2, d2, rfl, oB, hy⟩
          replace k0 := k0.step hy; (try clear k0_0 k0_f0 k0_1 k0_f1); have k0_0 := k0.cell 0; have k0_f0 := k0.frozen 0; have k0_1 := k0.cell 1; have k0_f1 := k0.frozen 1; simp only [List.set_cons_zero, List.set_cons_succ, List.getElem?_cons_zero, List.getElem?_cons_succ] at k0_0 k0_1; (try clear lt_k0); have lt_k0 := k0.lt
          replace k1 := k1.step hy; replace kT := kT.step hy; replace hT := hT.step hy
          have hzy2 := hy.size
          replace hb : Below w.heap.size w y2 := hb.step hy
          clear hy hTk rX c1 c2
          have d0 := (k1.cell (s * 2)).trans (ownC_get f hs10).1
          have d1 := (k1.cell (s * 2 + 1)).trans (ownC_get f hs10).2
          have hBt := fun W => bucket_Take_tup b r (f s).1 (f s).2 (N + g) 1 (by omega) W
          obtain ⟨P, hP⟩ : ∃ P, bTake b r (f s).1 (f s).2 (N + g) 1 = P := ⟨_, rfl⟩
          rw [hP] at hBt HS
          obtain ⟨ft, hft⟩ : ∃ x, (f s).1 = x := ⟨_, rfl⟩
          obtain ⟨fa, hfa⟩ : ∃ x, (f s).2 = x := ⟨_, rfl⟩
          rw [hft] at hBt HS d0
          rw [hfa] at hBt HS d1
          have HFT := hide hft
          have HFA := hide hfa
          clear hP hft hfa
          obtain ⟨⟨pt, pa⟩, pf⟩ := P
          dsimp only at hBt
          have hO1 : w.heap.size + 1 < y2.heap.size := k1.lt
          go_upto_region 19 with fail
          go_cut [18, 19] from 43 to 165 (fun v18 v19 wx => ∃ gx, v18 = .pointer (some ⟨gx, 0, none⟩) ∧ v19 = .bool pf ∧ y2.heap.size ≤ gx ∧ Bk wx gx 55 [.int .i64 pt, .int .i64 pa] ∧ Below y2.heap.size y2 wx)
          case first =>
            have HS : Hid (∀ w' : World, Below (y2.heap.size) y2 w' → (w'.cell? ⟨w.heap.size, 0, none⟩ = some (.int .i64 b) ∧ w'.cell? ⟨w.heap.size, 1, none⟩ = some (.int .i64 r) ∧ w'.cell? ⟨w.heap.size + 1, s * 2, none⟩ = some (.int .i64 ft) ∧ w'.cell? ⟨w.heap.size + 1, s * 2 + 1, none⟩ = some (.int .i64 fa)) ∧ y2.heap.size ≤ w'.heap.size ∧ Below (y2.heap.size) y2 w') := fun w' hB => ⟨⟨(hB.cell (p := ⟨w.heap.size, 0, none⟩) (by dsimp only; omega)).trans (k0_0), (hB.cell (p := ⟨w.heap.size, 1, none⟩) (by dsimp only; omega)).trans (k0_1), (hB.cell (p := ⟨w.heap.size + 1, s * 2, none⟩) (by dsimp only; omega)).trans (d0), (hB.cell (p := ⟨w.heap.size + 1, s * 2 + 1, none⟩) (by dsimp only; omega)).trans (d1)⟩, hB.size, hB⟩; go_region_held3 (fun w' => (w'.cell? ⟨w.heap.size, 0, none⟩ = some (.int .i64 b) ∧ w'.cell? ⟨w.heap.size, 1, none⟩ = some (.int .i64 r) ∧ w'.cell? ⟨w.heap.size + 1, s * 2, none⟩ = some (.int .i64 ft) ∧ w'.cell? ⟨w.heap.size + 1, s * 2 + 1, none⟩ = some (.int .i64 fa)) ∧ y2.heap.size ≤ w'.heap.size ∧ Below (y2.heap.size) y2 w') ((go_split_ands; exact HS.out _ (by (repeat (first | with_reducible exact Below.refl _ _ | with_reducible assumption | with_reducible refine Below.drew ?_ | with_reducible refine Below.drewN ?_ _ | with_reducible refine Below.alloc ?_ (by first | omega | (simp; done) | (simp; omega)) _ | with_reducible refine Below.setCell ?_ (by first | omega | (simp; done) | (simp; omega)) _ | with_reducible refine Below.then_ ?_ (by with_reducible assumption) (by first | omega | (simp; done) | (simp; omega))))))) ((go_at_call 25; refine (hBt _).mono ?_; rintro e w6 ⟨rfl, hy6⟩; obtain ⟨hc_hy6, hf_hy6⟩ := bcell hy6; have hz_hy6 := hy6.size; (try simp at hz_hy6); (try have lt_w6_y2_0 : y2.heap.size < w6.heap.size := by omega); (try have lt_w6_y2_1 : y2.heap.size + 1 < w6.heap.size := by omega); (try have lt_w6_y2_2 : y2.heap.size + 1 + 1 < w6.heap.size := by omega)))
            all_goals
              go_wp2_with fail
              go_meet
              have hs66 := hy6.size
              (try simp at hs66)
              first
                | exact ⟨_, rfl, rfl, by omega, Bk.new' w6 55 [.int .i64 pt, .int .i64 pa] _ rfl, by (repeat (first | with_reducible exact Below.refl _ _ | with_reducible assumption | with_reducible refine Below.drew ?_ | with_reducible refine Below.drewN ?_ _ | with_reducible refine Below.alloc1 ?_ _ | with_reducible refine Below.setCell1 ?_ (by first | omega | (simp; done) | (simp; omega)) _ | with_reducible refine Below.step ?_ (by with_reducible assumption)))⟩
                | exact ⟨_, rfl, rfl, by omega, (((Bk.drew (Bk.new _ 55 [.int .i64 0, .int .i64 0])).step hy6).set_ 0 _).set_ 1 _, by refine Below.setCell1 (Below.setCell1 ?_ (by dsimp only; omega) _) (by dsimp only; omega) _; (repeat (first | with_reducible exact Below.refl _ _ | with_reducible assumption | with_reducible refine Below.drew ?_ | with_reducible refine Below.drewN ?_ _ | with_reducible refine Below.alloc1 ?_ _ | with_reducible refine Below.setCell1 ?_ (by first | omega | (simp; done) | (simp; omega)) _ | with_reducible refine Below.step ?_ (by with_reducible assumption)))⟩
          case rest =>
            obtain ⟨gx, rfl, rfl, hgx, kx, hy⟩ := hcut
            clear d0 d1 hBt
            replace k0 := k0.step hy; (try clear k0_0 k0_f0 k0_1 k0_f1); have k0_0 := k0.cell 0; have k0_f0 := k0.frozen 0; have k0_1 := k0.cell 1; have k0_f1 := k0.frozen 1; simp only [List.set_cons_zero, List.set_cons_succ, List.getElem?_cons_zero, List.getElem?_cons_succ] at k0_0 k0_1; (try clear lt_k0); have lt_k0 := k0.lt
            replace k1 := k1.step hy; replace kT := kT.step hy; replace hT := hT.step hy
            replace oB := own_below oB hy (Nat.le_refl _)
            have hzc := hy.size
            replace hb : Below w.heap.size w wc := hb.step hy
            clear hy
            have rB := own_rd oB
            have hBge := hide (fun ad (e : B2 = some ad) => show y1.heap.size ≤ ad.block from (own_blk oB ad e).1)
            have hBne := hide (fun ad (e : B2 = some ad) => show ad.block ≠ w.heap.size + 1 from by have := (own_blk oB ad e).1; omega)
            have hBnT := hide (fun ad (e : B2 = some ad) => show ad.block ≠ T from by have := (own_blk oB ad e).1; omega)
            have hKm : Hid (∀ W (h : Rd W W.heap.size B2 (enR m')), eCheck b r m' = 0 → m'.length ≤ 1000 → Calls Try.prog 18 #[.agg #[.int .i64 b, .int .i64 r], .slice B2 m'.length d2] W fun e w' => e = .returned (.int .i64 0) ∧ Below W.heap.size W w') := fun W h h1 h2 => (source_Check_any B2 d2 b r m' W h2 h).lit (by rw [h1])
            rcases HS.out with ⟨e7, z8, J⟩ | ⟨e14, hbt, J⟩ | ⟨t, e0, hbt, J⟩
            · as_aux_lemma =>
                subst e7
                have HJ' := hide J
                have hm'1 : m'.length ≤ 1000 := by have := (eCheck_ok J.hk).2.1; omega
                have hck := fun W h => hKm.out W h J.hk hm'1
                have hz8 : (8 : Int) ≤ (z.length : Int) := by omega
                have hz8b : decide ((z.length : Int) < 8) = false := by simp; omega
                have Z8 := hide z8
                have hLn2 := hide (fun s (h : s < 10) => Nat.le_succ_of_le (HLn.out s h))
                clear J HS z8 hKm HJ HJ1 HLn kx HFT HFA oB
                go_wp2_with fail
                refine (hck _ rB).mono ?_; rintro e y3 ⟨rfl, hy⟩
                (try clear k0_0 k0_f0 k0_1 k0_f1 lt_k0)
                replace k0 := k0.step hy; replace k1 := k1.step hy; replace kT := kT.step hy; replace hT := hT.step hy; replace rB := rB.step hy
                have hzy3 := hy.size
                replace hb : Below w.heap.size w y3 := hb.step hy
                clear hy hck
                go_wp2_with fail
                go_loopw [22] (fun iv wx => ∃ (i : Nat), i ≤ 10 ∧ iv = .int .i64 i ∧ Rd wx wx.heap.size B2 (enR m') ∧ Bk wx w.heap.size 27 [.int .i64 b, .int .i64 r] ∧ Bk wx (w.heap.size + 1) 56 (ownC f) ∧ Bk wx T 58 (tkC V) ∧ Tkn wx (T + 1) V ats ∧ T + 1 ≤ wx.heap.size ∧ Below w.heap.size w wx) (fun iv _ => 10 - (intOf iv).toNat)
                case atStart => exact ⟨0, by omega, rfl, rB, k0, k1, kT, hT, by omega, hb⟩
                case round =>
                  clear rB k0 k1 kT hT hb
                  obtain ⟨i, hi10, rfl, rB, k0, k1, kT, hT, hzT, hb⟩ := hrel
                  have k0_0 := k0.cell 0; have k0_f0 := k0.frozen 0; have k0_1 := k0.cell 1; have k0_f1 := k0.frozen 1; simp only [List.set_cons_zero, List.set_cons_succ, List.getElem?_cons_zero, List.getElem?_cons_succ] at k0_0 k0_1; have lt_k0 := k0.lt
                  have lt_k1 := k1.lt
                  by_cases hit : i < 10
                  · have hii : (i : Int) < 10 := by omega
                    have d0 := (k1.cell (i * 2)).trans (ownC_get f hit).1
                    have d1 := (k1.cell (i * 2 + 1)).trans (ownC_get f hit).2
                    have hfi := (HJ'.out.hf i hit).1
                    have t1 := fun W h => source_Level_any B2 d2 b r m' i (N + g) W hm'1 h
                    have t2 := fun W => (bucket_Level_any b r (f i).1 (f i).2 (N + g) W).lit (congrArg (Value.int .i64) ((bLevel_f hfi).trans (HJ'.out.lv i hit (N + g) (Int.le_refl _))))
                    generalize eLevel b r m' i (N + g) = v1 at *
                    generalize f i = fi at *
                    clear hfi
                    go_wp2_with fail
                    (refine wp_region_qb (by kernel_rfl) (by kernel_rfl) (fun kq => ?_); (try dsimp only [List.append]); (repeat (go_big_quiet_step ((first | (go_at_call 12; exact (t1 _ (rB.step (below_regrown _ _ _))).qb) | (go_at_call 27; exact (t2 _).qb))))); refine wpQuiet_nil ?_; intro wq hwq; have hbq := below_of_class hwq; clear hwq kq)
                    (try clear k0_0 k0_f0 k0_1 k0_f1 lt_k0)
                    clear d0 d1
                    replace k0 := k0.step hbq; replace k1 := k1.step hbq; replace kT := kT.step hbq; replace hT := hT.step hbq; replace rB := rB.step hbq
                    have hzq := hbq.size
                    replace hb : Below w.heap.size w wq := hb.step hbq
                    clear hbq t1 t2
                    go_wp2
                    go_roundw
                    case rel => exact ⟨i + 1, by omega, by go_num, rB, k0, k1, kT, hT, by omega, hb⟩
                    case measure => simp [intOf]; omega
                  · have hii : (10 : Int) ≤ (i : Int) := by omega
                    (try clear k0_0 k0_f0 k0_1 k0_f1 lt_k0)
                    go_wp2
                    go_roundw
                    case rel => exact ⟨k + 1, N + g, m', B2, d2, f, ats, V, by omega, by go_num, rfl, rfl, rB, HJ', by omega, by omega, hLn2, k0, k1, kT, hT, hzT, hb⟩
                    case measure => simp [intOf]; omega
            · as_aux_lemma =>
                subst e14
                injection hbt with hb1 hb2
                injection hb1 with hb1 hb3
                subst hb2 hb1 hb3
                have HJ' := hide J
                have hm'1 : m'.length ≤ 1000 := by have := (eCheck_ok J.hk).2.1; omega
                have hck := fun W h => hKm.out W h J.hk hm'1
                have hLn2 := hide (fun s (h : s < 10) => Nat.le_succ_of_le (HLn.out s h))
                clear J HS hKm HJ HJ1 HLn oB
                go_wp2_with fail
                refine (hck _ rB).mono ?_; rintro e y3 ⟨rfl, hy⟩
                (try clear k0_0 k0_f0 k0_1 k0_f1 lt_k0)
                replace k0 := k0.step hy; replace k1 := k1.step hy; replace kT := kT.step hy; replace hT := hT.step hy; replace rB := rB.step hy; replace kx := kx.step hy
                have hzy3 := hy.size
                replace hb : Below w.heap.size w y3 := hb.step hy
                clear hy hck
                have kx_0 := kx.cell 0; have kx_f0 := kx.frozen 0; have kx_1 := kx.cell 1; have kx_f1 := kx.frozen 1; simp only [List.set_cons_zero, List.set_cons_succ, List.getElem?_cons_zero, List.getElem?_cons_succ] at kx_0 kx_1; have lt_kx := kx.lt
                have e0 := (k1.cell (s * 2)).trans (ownC_get f hs10).1
                have e1 := (k1.cell (s * 2 + 1)).trans (ownC_get f hs10).2
                have f0 := k1.frozen (s * 2)
                have f1 := k1.frozen (s * 2 + 1)
                have hupd : upd f s (pt, pa) = f := by
                  funext j
                  unfold upd
                  split
                  · rename_i e; subst e; rw [← HFT.out, ← HFA.out]
                  · rfl
                have hyk : Bk y3 (w.heap.size + 1) 56 (((ownC f).set (s * 2) (.int .i64 pt)).set (s * 2 + 1) (.int .i64 pa)) := by rw [ownC_set f hs10, hupd]; exact k1
                clear hyk
                have k17 := (k1.set_ (s * 2) (.int .i64 pt)).set_ (s * 2 + 1) (.int .i64 pa)
                rw [ownC_set f hs10, hupd] at k17
                clear hupd
                go_wp2_with fail
                (try clear kx_0 kx_f0 kx_1 kx_f1 lt_kx)
                clear e0 e1 f0 f1 kx
                generalize hV : World.setCell (World.setCell y3 _ _) _ _ = y4
                have hs4 : y4.heap.size = y3.heap.size := by subst hV; simp [World.setCell]
                replace hb : Below w.heap.size w y4 := by subst hV; exact (hb.setCell (by dsimp only; omega) _).setCell (by dsimp only; omega) _
                replace k0 : Bk y4 w.heap.size 27 [.int .i64 b, .int .i64 r] := by subst hV; exact (k0.far (by dsimp only; omega) _).far (by dsimp only; omega) _
                replace kT : Bk y4 T 58 (tkC V) := by subst hV; exact (kT.far (by dsimp only; omega) _).far (by dsimp only; omega) _
                replace hT : Tkn y4 (T + 1) V ats := by subst hV; exact (hT.far (by dsimp only; omega) _).far (by dsimp only; omega) _
                replace rB : Rd y4 y4.heap.size B2 (enR m') := by rw [hs4]; subst hV; exact (rB.keep1 (by dsimp only; exact hBne.out) _).keep1 (by dsimp only; exact hBne.out) _
                replace k1 : Bk y4 (w.heap.size + 1) 56 (ownC f) := by subst hV; exact k17
                clear k17 hV
                go_loopw [22] (fun iv wx => ∃ (i : Nat), i ≤ 10 ∧ iv = .int .i64 i ∧ Rd wx wx.heap.size B2 (enR m') ∧ Bk wx w.heap.size 27 [.int .i64 b, .int .i64 r] ∧ Bk wx (w.heap.size + 1) 56 (ownC f) ∧ Bk wx T 58 (tkC V) ∧ Tkn wx (T + 1) V ats ∧ T + 1 ≤ wx.heap.size ∧ Below w.heap.size w wx) (fun iv _ => 10 - (intOf iv).toNat)
                case atStart => exact ⟨0, by omega, rfl, rB, k0, k1, kT, hT, by omega, hb⟩
                case round =>
                  clear rB k0 k1 kT hT hb
                  obtain ⟨i, hi10, rfl, rB, k0, k1, kT, hT, hzT, hb⟩ := hrel
                  have k0_0 := k0.cell 0; have k0_f0 := k0.frozen 0; have k0_1 := k0.cell 1; have k0_f1 := k0.frozen 1; simp only [List.set_cons_zero, List.set_cons_succ, List.getElem?_cons_zero, List.getElem?_cons_succ] at k0_0 k0_1; have lt_k0 := k0.lt
                  have lt_k1 := k1.lt
                  by_cases hit : i < 10
                  · have hii : (i : Int) < 10 := by omega
                    have d0 := (k1.cell (i * 2)).trans (ownC_get f hit).1
                    have d1 := (k1.cell (i * 2 + 1)).trans (ownC_get f hit).2
                    have hfi := (HJ'.out.hf i hit).1
                    have t1 := fun W h => source_Level_any B2 d2 b r m' i (N + g) W hm'1 h
                    have t2 := fun W => (bucket_Level_any b r (f i).1 (f i).2 (N + g) W).lit (congrArg (Value.int .i64) ((bLevel_f hfi).trans (HJ'.out.lv i hit (N + g) (Int.le_refl _))))
                    generalize eLevel b r m' i (N + g) = v1 at *
                    generalize f i = fi at *
                    clear hfi
                    go_wp2_with fail
                    (refine wp_region_qb (by kernel_rfl) (by kernel_rfl) (fun kq => ?_); (try dsimp only [List.append]); (repeat (go_big_quiet_step ((first | (go_at_call 12; exact (t1 _ (rB.step (below_regrown _ _ _))).qb) | (go_at_call 27; exact (t2 _).qb))))); refine wpQuiet_nil ?_; intro wq hwq; have hbq := below_of_class hwq; clear hwq kq)
                    (try clear k0_0 k0_f0 k0_1 k0_f1 lt_k0)
                    clear d0 d1
                    replace k0 := k0.step hbq; replace k1 := k1.step hbq; replace kT := kT.step hbq; replace hT := hT.step hbq; replace rB := rB.step hbq
                    have hzq := hbq.size
                    replace hb : Below w.heap.size w wq := hb.step hbq
                    clear hbq t1 t2
                    go_wp2
                    go_roundw
                    case rel => exact ⟨i + 1, by omega, by go_num, rB, k0, k1, kT, hT, by omega, hb⟩
                    case measure => simp [intOf]; omega
                  · have hii : (10 : Int) ≤ (i : Int) := by omega
                    (try clear k0_0 k0_f0 k0_1 k0_f1 lt_k0)
                    go_wp2
                    go_roundw
                    case rel => exact ⟨k + 1, N + g, m', B2, d2, f, ats, V, by omega, by go_num, rfl, rfl, rB, HJ', by omega, by omega, hLn2, k0, k1, kT, hT, hzT, hb⟩
                    case measure => simp [intOf]; omega
            · as_aux_lemma =>
                subst e0
                injection hbt with hb1 hb2
                injection hb1 with hb1 hb3
                subst hb2 hb1 hb3
                have HJ' := hide J
                have hm'1 : m'.length ≤ 1000 := by have := (eCheck_ok J.hk).2.1; omega
                have hck := fun W h => hKm.out W h J.hk hm'1
                have hLn2 : Hid (∀ j, j < 10 → (upd ats s (ats s ++ [N + g]) j).length ≤ k + 1) := fun j hj => by
                  by_cases e : j = s
                  · subst e; rw [upd_same]; have := HLn.out j hj; simp; omega
                  · rw [upd_ne _ _ e]; have := HLn.out j hj; omega
                have hn1 := HLn.out s hs10
                clear J HS hKm HJ HJ1 HLn oB HFT HFA
                go_wp2_with fail
                refine (hck _ rB).mono ?_; rintro e y3 ⟨rfl, hy⟩
                (try clear k0_0 k0_f0 k0_1 k0_f1 lt_k0)
                replace k0 := k0.step hy; replace k1 := k1.step hy; replace kT := kT.step hy; replace hT := hT.step hy; replace rB := rB.step hy; replace kx := kx.step hy
                have hzy3 := hy.size
                replace hb : Below w.heap.size w y3 := hb.step hy
                clear hy hck
                have kx_0 := kx.cell 0; have kx_f0 := kx.frozen 0; have kx_1 := kx.cell 1; have kx_f1 := kx.frozen 1; simp only [List.set_cons_zero, List.set_cons_succ, List.getElem?_cons_zero, List.getElem?_cons_succ] at kx_0 kx_1; have lt_kx := kx.lt
                have e0 := (k1.cell (s * 2)).trans (ownC_get f hs10).1
                have e1 := (k1.cell (s * 2 + 1)).trans (ownC_get f hs10).2
                have f0 := k1.frozen (s * 2)
                have f1 := k1.frozen (s * 2 + 1)
                have k17 := (k1.set_ (s * 2) (.int .i64 pt)).set_ (s * 2 + 1) (.int .i64 (N + g))
                rw [ownC_set f hs10] at k17
                go_upto_region 26 with fail
                (try clear kx_0 kx_f0 kx_1 kx_f1 lt_kx)
                clear e0 e1 f0 f1 kx
                generalize hV : World.setCell (World.setCell y3 _ _) _ _ = y4
                have hs4 : y4.heap.size = y3.heap.size := by subst hV; simp [World.setCell]
                replace hb : Below w.heap.size w y4 := by subst hV; exact (hb.setCell (by dsimp only; omega) _).setCell (by dsimp only; omega) _
                replace k0 : Bk y4 w.heap.size 27 [.int .i64 b, .int .i64 r] := by subst hV; exact (k0.far (by dsimp only; omega) _).far (by dsimp only; omega) _
                replace kT : Bk y4 T 58 (tkC V) := by subst hV; exact (kT.far (by dsimp only; omega) _).far (by dsimp only; omega) _
                replace hT : Tkn y4 (T + 1) V ats := by subst hV; exact (hT.far (by dsimp only; omega) _).far (by dsimp only; omega) _
                replace rB : Rd y4 y4.heap.size B2 (enR m') := by rw [hs4]; subst hV; exact (rB.keep1 (by dsimp only; exact hBne.out) _).keep1 (by dsimp only; exact hBne.out) _
                replace k1 : Bk y4 (w.heap.size + 1) 56 (ownC (upd f s (pt, N + g))) := by subst hV; exact k17
                have hz4 : y3.heap.size ≤ y4.heap.size := by omega
                clear k17 hV hs4
                obtain ⟨A1, c1, eV, o1⟩ := hT.1 s hs10
                have cT := (kT.cell s).trans (tkC_get V hs10)
                rw [eV] at cT
                have fT := kT.frozen s
                have hTn := hide (fun g1 (e : (V s).ownBlock = some g1) => show g1 ≠ T from by have := (hVl.out g1 e).1; omega)
                have h0n := hide (fun g1 (e : (V s).ownBlock = some g1) => show g1 ≠ w.heap.size from by have := (hVl.out g1 e).1; omega)
                have h1n := hide (fun g1 (e : (V s).ownBlock = some g1) => show g1 ≠ w.heap.size + 1 from by have := (hVl.out g1 e).1; omega)
                have hBn := hide (fun ad (e : B2 = some ad) => show (V s).ownBlock ≠ some ad.block from fun e2 => by have := (hVl.out _ e2).2; have := hBge.out ad e; omega)
                have EV := hide eV
                rw [eV] at hTn h0n h1n hBn
                clear eV
                have lT4 := kT.lt
                go_upto_region 27 with (at_builtin; refine wpList_lies rfl (.tmp 119) (.tmp 121) 45 rfl (T + 1) 3 iT _ 1 8 Try.underlying45 hi hz0 hz1 hz2 rfl (by omega) (.slice A1 (ats s).length c1) (ats s).length (ints (ats s)) rfl (o1.alloc _) ⟨y4.heap.size, 0, none⟩ 1 1 [.int .i64 (N + g)] rfl rfl (news_at (cs := [_])) (by simp [Value.oneCell']) (by omega) (by unfold maxLen; omega) (by omega) (by simp; omega) (y4.heap.size + 1) (by simp) ?_; intro g1 cap1 u1 q1 gr1 at1 lt1; (have kT1 := Bk.kept (kT.alloc (.cells #[.int .i64 (N + g)] 3)) gr1 hTn.out); (have cT1 := (kT1.cell s).trans (tkC_get V hs10)); (have fT1 := kT1.frozen s); (have lT1 := kT1.lt))
                have hu1 := gr1.size
                simp at hu1
                have hyA : Below y4.heap.size y4 (y4.alloc (.cells #[.int .i64 (N + g)] 3)) := by (repeat (first | with_reducible exact Below.refl _ _ | with_reducible assumption | with_reducible refine Below.drew ?_ | with_reducible refine Below.drewN ?_ _ | with_reducible refine Below.alloc1 ?_ _ | with_reducible refine Below.setCell1 ?_ (by first | omega | (simp; done) | (simp; omega)) _ | with_reducible refine Below.step ?_ (by with_reducible assumption)))
                generalize hV : World.setCell u1 _ _ = y5
                have hs5 : y5.heap.size = u1.heap.size := by subst hV; simp [World.setCell]
                have hT5 : Tkn y5 (T + 1) (upd V s (.slice (some ⟨g1, 0, none⟩) ((ats s).length + 1) cap1)) (upd ats s (ats s ++ [N + g])) := by
                  subst hV
                  refine (Tkn.put (hT.step hyA) hs10 q1 (by rw [EV.out]; exact gr1) ?_).far (by dsimp only; omega) _
                  rw [EV.out]
                  rcases at1 with h | h
                  · exact .inl h
                  · right; simp; omega
                have kT5 : Bk y5 T 58 (tkC (upd V s (.slice (some ⟨g1, 0, none⟩) ((ats s).length + 1) cap1))) := by subst hV; rw [← tkC_set V hs10]; exact kT1.set_ s _
                have k05 : Bk y5 w.heap.size 27 [.int .i64 b, .int .i64 r] := by subst hV; exact ((k0.alloc _).kept gr1 h0n.out).far (by dsimp only; omega) _
                have k15 : Bk y5 (w.heap.size + 1) 56 (ownC (upd f s (pt, N + g))) := by subst hV; exact ((k1.alloc _).kept gr1 h1n.out).far (by dsimp only; omega) _
                have rB5 : Rd y5 y5.heap.size B2 (enR m') := by rw [hs5]; subst hV; exact ((rB.step hyA).kept gr1 hBn.out).keep1 (by dsimp only; exact hBnT.out) _
                have hb5 : Below w.heap.size w y5 := by
                  subst hV
                  refine Below.setCell ((hb.step hyA).grown gr1 (by simp; omega) (fun g2 h => ?_)) (by dsimp only; omega) _
                  have := (o1.lt g2 h).1; omega
                have hV' : upd V s (.slice (some ⟨g1, 0, none⟩) ((ats s).length + 1) cap1) s = .slice (some ⟨g1, 0, none⟩) ((ats s).length + 1) cap1 := upd_same _ _ _
                have hA' : upd ats s (ats s ++ [N + g]) s = ats s ++ [N + g] := upd_same _ _ _
                have hLl : (ats s ++ [N + g]).length = (ats s).length + 1 := by simp
                have hL60 : (ats s).length + 1 ≤ 60 := by omega
                clear hV kT1 cT1 fT1 lT1 q1 gr1 at1 lt1 hyA hu1 k0 k1 kT hT rB hb cT fT hTn h0n h1n hBn EV o1 hBge hBne hBnT hVl hi hz0 hz1 hz2 iT lT4 hs5
                rw [← hLl] at hV' hL60
                simp only [← hLl] at hT5 kT5 hV'
                obtain ⟨V', hVd⟩ : ∃ x, upd V s (.slice (some ⟨g1, 0, none⟩) (ats s ++ [N + g]).length cap1) = x := ⟨_, rfl⟩
                obtain ⟨ats', had⟩ : ∃ x, upd ats s (ats s ++ [N + g]) = x := ⟨_, rfl⟩
                obtain ⟨f', hfd⟩ : ∃ x, upd f s (pt, N + g) = x := ⟨_, rfl⟩
                simp only [hVd] at hT5 kT5 hV'
                simp only [had] at hT5 HJ' hA' hLn2
                simp only [hfd] at HJ' k15
                rw [← hLl]
                generalize ats s ++ [N + g] = L at *
                have HV' := hide hV'
                have HA' := hide hA'
                clear hVd had hfd hLl hV' hA'
                go_wp2_with fail
                go_loopw [21] (fun iv wx => ∃ (i : Nat), i ≤ L.length ∧ iv = .int .i64 i ∧ Rd wx wx.heap.size B2 (enR m') ∧ Bk wx w.heap.size 27 [.int .i64 b, .int .i64 r] ∧ Bk wx (w.heap.size + 1) 56 (ownC f') ∧ Bk wx T 58 (tkC V') ∧ Tkn wx (T + 1) V' ats' ∧ T + 1 ≤ wx.heap.size ∧ Below w.heap.size w wx) (fun iv _ => L.length - (intOf iv).toNat)
                case atStart => exact ⟨0, by omega, rfl, rB5, k05, k15, kT5, hT5, by have := kT5.lt; omega, hb5⟩
                case round =>
                  clear rB5 k05 k15 kT5 hT5 hb5
                  obtain ⟨i, hiL, rfl, rB, k0, k1, kT, hT, hzT, hb⟩ := hrel
                  have k0_0 := k0.cell 0; have k0_f0 := k0.frozen 0; have k0_1 := k0.cell 1; have k0_f1 := k0.frozen 1; simp only [List.set_cons_zero, List.set_cons_succ, List.getElem?_cons_zero, List.getElem?_cons_succ] at k0_0 k0_1; have lt_k0 := k0.lt
                  have cT := (kT.cell s).trans (tkC_get V' hs10)
                  rw [HV'.out] at cT
                  by_cases hil : i < L.length
                  · have hii : (i : Int) < (L.length : Int) := by omega
                    have hmo := (HJ'.out.kp s hs10).most (HJ'.out.hf s hs10).1 (by omega) i (by rw [HA'.out]; exact hil)
                    have hbd := (HJ'.out.kp s hs10) i (by rw [HA'.out]; exact hil)
                    simp only [HA'.out] at hmo hbd
                    obtain ⟨A9, c9, e9, o9⟩ := hT.1 s hs10
                    rw [HV'.out, HA'.out] at e9
                    injection e9 with e91 _ e92
                    subst e91 e92
                    rw [HA'.out] at o9
                    have cL := (o9.cellAt i (by omega)).trans (show (ints L)[i]? = some (.int .i64 L[i]) from by simp [ints, hil])
                    have lTr : T < wr.heap.size := by omega
                    have lgr : g1 < wr.heap.size := (o9.lt g1 rfl).2
                    have hbd1 := hbd.1
                    have hbd2 := hbd.2.1
                    clear hbd o9
                    generalize L[i] = a at *
                    have hM := fun W => bucket_Most_any b r (N + g - a) W
                    generalize bMost b r (N + g - a) = M at *
                    have q1 := IntWalk.i64_in (N + g - a) (by omega)
                    have q2 := IntWalk.i64_in ((L.length : Int) - i) (by omega)
                    go_wp2_with fail
                    (refine wp_region_qb (by kernel_rfl) (by kernel_rfl) (fun kq => ?_); (try dsimp only [List.append]); (repeat (go_big_quiet_step ((go_at_call 26; exact (hM _).qb)))); refine wpQuiet_nil ?_; intro wq hwq; have hbq := below_of_class hwq; clear hwq kq)
                    (try clear k0_0 k0_f0 k0_1 k0_f1 lt_k0)
                    replace k0 := k0.step hbq; replace k1 := k1.step hbq; replace kT := kT.step hbq; replace hT := hT.step hbq; replace rB := rB.step hbq
                    have hzq := hbq.size
                    replace hb : Below w.heap.size w wq := hb.step hbq
                    clear hbq hM cT cL q1 q2
                    go_wp2
                    go_roundw
                    case rel => exact ⟨i + 1, by omega, by go_num, rB, k0, k1, kT, hT, by omega, hb⟩
                    case measure => simp [intOf]; omega
                  · have hii : (L.length : Int) ≤ (i : Int) := by omega
                    (try clear k0_0 k0_f0 k0_1 k0_f1 lt_k0)
                    go_wp2_with fail
                    go_loopw [22] (fun iv wx => ∃ (i : Nat), i ≤ 10 ∧ iv = .int .i64 i ∧ Rd wx wx.heap.size B2 (enR m') ∧ Bk wx w.heap.size 27 [.int .i64 b, .int .i64 r] ∧ Bk wx (w.heap.size + 1) 56 (ownC f') ∧ Bk wx T 58 (tkC V') ∧ Tkn wx (T + 1) V' ats' ∧ T + 1 ≤ wx.heap.size ∧ Below w.heap.size w wx) (fun iv _ => 10 - (intOf iv).toNat)
                    case atStart => exact ⟨0, by omega, rfl, rB, k0, k1, kT, hT, by omega, hb⟩
                    case round =>
                      clear rB k0 k1 kT hT hb
                      obtain ⟨i, hi10, rfl, rB, k0, k1, kT, hT, hzT, hb⟩ := hrel
                      have k0_0 := k0.cell 0; have k0_f0 := k0.frozen 0; have k0_1 := k0.cell 1; have k0_f1 := k0.frozen 1; simp only [List.set_cons_zero, List.set_cons_succ, List.getElem?_cons_zero, List.getElem?_cons_succ] at k0_0 k0_1; have lt_k0 := k0.lt
                      have lt_k1 := k1.lt
                      by_cases hit : i < 10
                      · have hii : (i : Int) < 10 := by omega
                        have d0 := (k1.cell (i * 2)).trans (ownC_get f' hit).1
                        have d1 := (k1.cell (i * 2 + 1)).trans (ownC_get f' hit).2
                        have hfi := (HJ'.out.hf i hit).1
                        have t1 := fun W h => source_Level_any B2 d2 b r m' i (N + g) W hm'1 h
                        have t2 := fun W => (bucket_Level_any b r (f' i).1 (f' i).2 (N + g) W).lit (congrArg (Value.int .i64) ((bLevel_f hfi).trans (HJ'.out.lv i hit (N + g) (Int.le_refl _))))
                        generalize eLevel b r m' i (N + g) = v1 at *
                        generalize f' i = fi at *
                        clear hfi
                        go_wp2_with fail
                        (refine wp_region_qb (by kernel_rfl) (by kernel_rfl) (fun kq => ?_); (try dsimp only [List.append]); (repeat (go_big_quiet_step ((first | (go_at_call 12; exact (t1 _ (rB.step (below_regrown _ _ _))).qb) | (go_at_call 27; exact (t2 _).qb))))); refine wpQuiet_nil ?_; intro wq hwq; have hbq := below_of_class hwq; clear hwq kq)
                        (try clear k0_0 k0_f0 k0_1 k0_f1 lt_k0)
                        clear d0 d1
                        replace k0 := k0.step hbq; replace k1 := k1.step hbq; replace kT := kT.step hbq; replace hT := hT.step hbq; replace rB := rB.step hbq
                        have hzq := hbq.size
                        replace hb : Below w.heap.size w wq := hb.step hbq
                        clear hbq t1 t2
                        go_wp2
                        go_roundw
                        case rel => exact ⟨i + 1, by omega, by go_num, rB, k0, k1, kT, hT, by omega, hb⟩
                        case measure => simp [intOf]; omega
                      · have hii : (10 : Int) ≤ (i : Int) := by omega
                        (try clear k0_0 k0_f0 k0_1 k0_f1 lt_k0)
                        go_wp2
                        go_roundw
                        case rel => exact ⟨k + 1, N + g, m', B2, d2, f', ats', V', by omega, by go_num, rfl, rfl, rB, HJ', by omega, by omega, hLn2, k0, k1, kT, hT, hzT, hb⟩
                        case measure => simp [intOf]; omega
        · have hki : (l.length : Int) ≤ (k : Int) := by omega
          (try clear k0_0 k0_f0 k0_1 k0_f1 lt_k0)
          go_wp2_with fail
          refine (awake14_any _).mono ?_; rintro e y1 ⟨rfl, hx2⟩
          go_wp2
          go_ret
          exact ⟨rfl, hb.step hx2⟩
end Go.Proofs.Ytpjepaaaanajhaa
