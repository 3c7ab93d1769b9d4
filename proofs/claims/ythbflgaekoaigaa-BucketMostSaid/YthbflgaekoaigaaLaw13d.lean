/- The walk of BucketMost. -/
import Derived.Test.YthbflgaekoaigaaLaw13c
namespace Go.Proofs.Ythbflgaekoaigaa
open Go.RowKit
set_option linter.unusedSimpArgs false
set_option linter.unusedVariables false

/-! The plain law: of each take the takes behind it, and the tokens that are left, are no more than the burst and what came in. -/
def Kept (b r t a N : Int) (ats : List Int) : Prop :=
  ∀ (j : Nat) (h : j < ats.length), 0 ≤ ats[j] ∧ ats[j] ≤ N ∧ bT b r t a N + ((ats.length : Int) - j) ≤ b + (N - ats[j]) * r
theorem bT_grows {b r t a N g : Int} (hf : bFine b r t a = true) (h1 : a ≤ N) (hg : 0 ≤ g) (h2 : N + g ≤ 1099511627776) : bT b r t a (N + g) ≤ bT b r t a N + g * r := by
  obtain ⟨⟨hb, hr⟩, ht, ha⟩ := bFine_t hf
  rw [bT_at (by omega) h2, bT_at h1 (by omega)]
  have e : (N + g - a) * r = (N - a) * r + g * r := by rw [← Int.add_mul]; congr 1; omega
  have h0 : 0 ≤ g * r := Int.mul_nonneg hg hr.1
  omega
theorem Kept.grows {b r t a N g : Int} {ats : List Int} (h : Kept b r t a N ats) (hf : bFine b r t a = true) (h1 : a ≤ N) (hg : 0 ≤ g) (h2 : N + g ≤ 1099511627776) : Kept b r t a (N + g) ats := fun j hj => by
  obtain ⟨k1, k2, k3⟩ := h j hj
  have := bT_grows hf h1 hg h2
  have e : (N + g - ats[j]) * r = (N - ats[j]) * r + g * r := by rw [← Int.add_mul]; congr 1; omega
  exact ⟨k1, by omega, by omega⟩
theorem bT_same {b r t N : Int} (h : t ≤ b) (h2 : N ≤ 1099511627776) : bT b r t N N = t := by
  rw [bT_at (by omega) h2, Int.sub_self, Int.zero_mul]; omega
theorem Kept.takes {b r t a N : Int} {ats : List Int} (h : Kept b r t a N ats) (hf : bFine b r t a = true) (h0 : 0 ≤ N) (h2 : N ≤ 1099511627776) : Kept b r (bT b r t a N - 1) N N (ats ++ [N]) := fun j hj => by
  have hbd := bT_bd (now := N) hf
  rw [bT_same (by omega) h2]
  rcases Nat.lt_or_ge j ats.length with hlt | hge
  · obtain ⟨k1, k2, k3⟩ := h j hlt
    rw [List.getElem_append_left hlt]
    exact ⟨k1, k2, by simp; omega⟩
  · have hj' : j = ats.length := by simp at hj; omega
    subst hj'
    simp
    refine ⟨h0, ?_⟩
    omega
theorem Kept.most {b r t a N : Int} {ats : List Int} (h : Kept b r t a N ats) (hf : bFine b r t a = true) (h2 : N ≤ 1073741824) (j : Nat) (hj : j < ats.length) : (ats.length : Int) - j ≤ bMost b r (N - ats[j]) := by
  obtain ⟨k1, k2, k3⟩ := h j hj
  have hg : bGood b r = true := by have := hf; simp only [bFine, Bool.and_eq_true] at this; exact this.1.1
  have hbd := bT_bd (now := N) hf
  unfold bMost
  rw [hg, if_pos rfl, show bHeld (N - ats[j]) 0 1073741824 = N - ats[j] by unfold bHeld; omega]
  omega
/-- one take at tick N: what comes out -/
theorem take_one {b r t a N : Int} {ats : List Int} (h : Kept b r t a N ats) (hf : bFine b r t a = true) (h1 : a ≤ N) (h0 : 0 ≤ N) (h2 : N ≤ 1073741824) :
    (1 ≤ bT b r t a N ∧ bTake b r t a N 1 = ((bT b r t a N - 1, N), true) ∧ bFine b r (bT b r t a N - 1) N = true ∧ bT b r (bT b r t a N - 1) N N = bT b r t a N - 1 ∧ Kept b r (bT b r t a N - 1) N N (ats ++ [N])) ∨
    (bT b r t a N = 0 ∧ bTake b r t a N 1 = ((t, a), false)) := by
  have hbd := bT_bd (now := N) hf
  by_cases hl : 1 ≤ bT b r t a N
  · left
    have e := bTake_yes (n := 1) (by omega) hf hl
    have e2 := bFine_taken (n := 1) (by omega) hf hl
    rw [bA_at h1 (by omega)] at e e2
    exact ⟨hl, e, e2, bT_same (by omega) (by omega), h.takes hf h0 (by omega)⟩
  · right
    refine ⟨by omega, ?_⟩
    unfold bTake
    rw [if_pos (.inr (.inr (by omega)))]

theorem int_info13 : (Try.prog.info? 3).map (fun i => (i.zero, i.size, i.bytes)) = some (some (.int .i64 0), 1, 8) := by kernel_rfl
theorem bucket_Take_is {b r t a now n : Int} {x : (Int × Int) × Bool} (h0 : -9223372036854775808 ≤ n) (h : bTake b r t a now n = x) (w : World) :
    Calls Try.prog 7 #[.agg #[.int .i64 b, .int .i64 r], .agg #[.int .i64 t, .int .i64 a], .int .i64 now, .int .i64 n] w fun e w' =>
      e = .returned (.tuple #[.agg #[.int .i64 x.1.1, .int .i64 x.1.2], .bool x.2]) ∧ Below w.heap.size w w' := by
  subst h; exact bucket_Take_tup b r t a now n h0 w
theorem bucket_Level_eq {b r t a now v : Int} (hf : bFine b r t a = true) (h : bT b r t a now = v) (w : World) :
    Calls Try.prog 9 #[.agg #[.int .i64 b, .int .i64 r], .agg #[.int .i64 t, .int .i64 a], .int .i64 now] w fun e w' => e = .returned (.int .i64 v) ∧ Below w.heap.size w w' := by
  subst h; exact bucket_Level_is hf w
theorem map_append1 (l : List Int) (x : Int) : l.map (Value.int .i64) ++ [Value.int .i64 x] = (l ++ [x]).map (Value.int .i64) := by simp

set_option maxRecDepth 100000 in
set_option maxHeartbeats 8000000 in
theorem BucketMost_walk (burst rate : Int) (hbu : 0 ≤ burst ∧ burst ≤ 255) (hra : 0 ≤ rate ∧ rate ≤ 255) (A : Option Addr) (c : Nat) (l : List Int) (hl : l.length ≤ maxLen) (hlb : ∀ x ∈ l, 0 ≤ x ∧ x ≤ 255) (w : World) (hA : Rd w w.heap.size A (l.map (Value.int .u8))) :
    Calls Try.prog 5 #[.int .u8 burst, .int .u8 rate, .slice A l.length c] w fun e w' => e = .returned (.bool true) ∧ Below w.heap.size w w' := by
  unfold maxLen at hl
  by_cases h60 : l.length ≤ 60
  · obtain ⟨i0, hi, hz0, hz1, hz2⟩ := info_parts int_info13
    have hf0 := hide (bFine_mk (b := 1 + burst) (r := rate) (t := 1 + burst) (a := 0) (by omega) (by omega) (by omega) (by omega) (by omega) (by omega) (by omega) (by omega))
    have HLB := hide hlb
    clear hlb
    go_enter Try.func5, Try.ntmps5
    go_wp2_with fail
    refine ((bucket_Full_agg _ _ _ _).lit (v' := .agg #[.int .i64 (1 + burst), .int .i64 0]) rfl).mono ?_; rintro e x0 ⟨rfl, hx0⟩; obtain ⟨hc_hx0, hf_hx0⟩ := bcell hx0; have hz_hx0 := hx0.size; (try simp at hz_hx0)
    go_wp2_with fail
    generalize hW : World.alloc x0 _ = w1
    have hb1 : Below w.heap.size w w1 := by subst hW; (repeat (first | with_reducible exact Below.refl _ _ | with_reducible assumption | with_reducible refine Below.drew ?_ | with_reducible refine Below.drewN ?_ _ | with_reducible refine Below.alloc1 ?_ _ | with_reducible refine Below.setCell1 ?_ (by first | omega | (simp; done) | (simp; omega)) _ | with_reducible refine Below.step ?_ (by with_reducible assumption)))
    have k0 : Bk w1 w.heap.size 27 [.int .i64 (1 + burst), .int .i64 rate] := by subst hW; (repeat (first | with_reducible exact Bk.new' _ _ _ _ (by simp; done) | with_reducible assumption | with_reducible refine Bk.alloc ?_ _ | with_reducible refine Bk.drew ?_ | with_reducible refine Bk.drewN ?_ _ | with_reducible refine Bk.step ?_ (by with_reducible assumption) | with_reducible refine Bk.far ?_ (by first | omega | (simp; done) | (simp; omega)) _))
    have k1 : Bk w1 x0.heap.size 28 [.int .i64 (1 + burst), .int .i64 0] := by subst hW; (repeat (first | with_reducible exact Bk.new' _ _ _ _ (by simp; done) | with_reducible assumption | with_reducible refine Bk.alloc ?_ _ | with_reducible refine Bk.drew ?_ | with_reducible refine Bk.drewN ?_ _ | with_reducible refine Bk.step ?_ (by with_reducible assumption) | with_reducible refine Bk.far ?_ (by first | omega | (simp; done) | (simp; omega)) _))
    have hS : w.heap.size < x0.heap.size := by omega
    have hsz1 : x0.heap.size + 1 ≤ w1.heap.size := by subst hW; simp
    generalize x0.heap.size = S at *
    clear hW hx0 hc_hx0 hf_hx0 hz_hx0
    go_loopw [9, 10, 11] (fun o n i wr => ∃ (k : Nat) (N t a : Int) (ats : List Int) (A' : Option Addr) (c' : Nat), k ≤ l.length ∧ i = .int .i64 k ∧ n = .int .i64 N ∧ o = .slice A' ats.length c' ∧
      wr.ownsRow (S + 1) 3 1 (.slice A' ats.length c') ats.length (ats.map (Value.int .i64)) ∧ Bk wr w.heap.size 27 [.int .i64 (1 + burst), .int .i64 rate] ∧ Bk wr S 28 [.int .i64 t, .int .i64 a] ∧
      Hid (bFine (1 + burst) rate t a = true) ∧ a ≤ N ∧ 0 ≤ N ∧ N ≤ 255 * k ∧ ats.length ≤ k ∧ Hid (Kept (1 + burst) rate t a N ats) ∧ Below w.heap.size w wr ∧ S + 1 ≤ wr.heap.size) (fun _ _ i _ => l.length - (intOf i).toNat)
    case atStart => exact ⟨0, 0, 1 + burst, 0, [], none, 0, by omega, rfl, rfl, rfl, World.ownsRow_nil _ _ _ _, k0, k1, hf0, by omega, by omega, by omega, by simp, fun j hj => by simp at hj, hb1, hsz1⟩
    case round =>
      obtain ⟨k, N, t, a, ats, A', c', hk, rfl, rfl, rfl, hown, j0, j1, hf, haN, hN0, hNk, hak, HK, hbr, hszr⟩ := hrel
      clear k0 k1 hb1 hsz1 hf0
      by_cases hlt : k < l.length
      · obtain ⟨ad, rfl, hadb, hca⟩ := hA.at_ (k := k) (by simpa using hlt)
        have hc1 : wr.cell? (ad.add k) = some (.int .u8 l[k]) := by rw [hbr.cell (by rw [add_block]; exact hadb), hca]; simp
        have hg := HLB.out _ (List.getElem_mem hlt)
        clear hca
        generalize l[k] = gp at *
        have HK2 := hide (HK.out.grows hf.out haN hg.1 (by omega))
        have hone := take_one HK2.out hf.out (by omega) (by omega) (by omega)
        have hTb := bT_bd (now := N + gp) hf.out
        obtain ⟨T, hTd⟩ : ∃ T, bT (1 + burst) rate t a (N + gp) = T := ⟨_, rfl⟩
        rw [hTd] at hone hTb
        have HT := hide hTd
        clear hTd
        have j0_0 := j0.cell 0; have j0_f0 := j0.frozen 0; have j0_1 := j0.cell 1; have j0_f1 := j0.frozen 1; simp only [List.set_cons_zero, List.set_cons_succ, List.getElem?_cons_zero, List.getElem?_cons_succ] at j0_0 j0_1
        have j1_0 := j1.cell 0; have j1_f0 := j1.frozen 0; have j1_1 := j1.cell 1; have j1_f1 := j1.frozen 1; simp only [List.set_cons_zero, List.set_cons_succ, List.getElem?_cons_zero, List.getElem?_cons_succ] at j1_0 j1_1
        have lwr : w.heap.size < wr.heap.size ∧ S < wr.heap.size := by omega
        rcases hone with ⟨hT1, e1, e2, e3, e4⟩ | ⟨hT1, e1⟩
        · have E1 := hide e1
          have E2 := hide e2
          have E3 := hide e3
          have E4 := hide e4
          clear e1 e2 e3 e4
          go_wp2_with fail
          refine (bucket_Level_eq hf.out HT.out _).mono ?_; rintro e x1 ⟨rfl, hx1⟩; obtain ⟨hc_hx1, hf_hx1⟩ := bcell hx1; have hz_hx1 := hx1.size; (try simp at hz_hx1); (have lx1 : w.heap.size < x1.heap.size ∧ S < x1.heap.size := by omega)
          go_wp2_with fail
          refine (bucket_Take_is (by omega) E1.out _).mono ?_; rintro e x2 ⟨rfl, hx2⟩; obtain ⟨hc_hx2, hf_hx2⟩ := bcell hx2; have hz_hx2 := hx2.size; (try simp at hz_hx2); (have lx2 : w.heap.size < x2.heap.size ∧ S < x2.heap.size := by omega)
          go_wp2_with fail
          refine (bucket_Level_eq E2.out E3.out _).mono ?_; rintro e x3 ⟨rfl, hx3⟩; obtain ⟨hc_hx3, hf_hx3⟩ := bcell hx3; have hz_hx3 := hx3.size; (try simp at hz_hx3); (have lx3 : w.heap.size < x3.heap.size ∧ S < x3.heap.size ∧ x2.heap.size < x3.heap.size := by omega)
          go_wp2_with fail
          refine (bucket_Fine_is E2.out _).mono ?_; rintro e x4 ⟨rfl, hx4⟩; obtain ⟨hc_hx4, hf_hx4⟩ := bcell hx4; have hz_hx4 := hx4.size; (try simp at hz_hx4); (have lx4 : w.heap.size < x4.heap.size ∧ S < x4.heap.size ∧ x2.heap.size < x4.heap.size := by omega)
          have hbw4 : Below wr.heap.size wr x4 := by (repeat (first | with_reducible exact Below.refl _ _ | with_reducible assumption | with_reducible refine Below.drew ?_ | with_reducible refine Below.drewN ?_ _ | with_reducible refine Below.alloc1 ?_ _ | with_reducible refine Below.setCell1 ?_ (by first | omega | (simp; done) | (simp; omega)) _ | with_reducible refine Below.step ?_ (by with_reducible assumption)))
          have own4 := own_below hown hbw4 (Nat.le_refl _)
          have p0 := j0.step hbw4
          have p1 := j1.step hbw4
          have px : Bk x4 x2.heap.size 28 [.int .i64 (T - 1), .int .i64 (N + gp)] := ((Bk.new' x2 _ _ _ rfl).step hx3).step hx4
          have hbw5 : Below w.heap.size w x4 := by (repeat (first | with_reducible exact Below.refl _ _ | with_reducible assumption | with_reducible refine Below.drew ?_ | with_reducible refine Below.drewN ?_ _ | with_reducible refine Below.alloc1 ?_ _ | with_reducible refine Below.setCell1 ?_ (by first | omega | (simp; done) | (simp; omega)) _ | with_reducible refine Below.step ?_ (by with_reducible assumption)))
          have hXwr : wr.heap.size ≤ x2.heap.size := by omega
          have hX4 : S + 1 ≤ x4.heap.size := by omega
          generalize x2.heap.size = X at *
          clear hc_hx1 hf_hx1 hc_hx2 hf_hx2 hc_hx3 hf_hx3 hc_hx4 hf_hx4 hx1 hx2 hx3 hx4 j0_0 j0_1 j0_f0 j0_f1 j1_0 j1_1 j1_f0 j1_f1 lx1 lx2 lx3
          go_wp2_with (at_builtin; refine wpList_app2 rfl (.tmp 75) (.tmp 77) 47 rfl (S + 1) 3 i0 _ 1 8 Try.underlying47 hi hz0 hz1 hz2 rfl (by omega) A' ats.length c' (ats.map (Value.int .i64)) rfl (own4.alloc _) ⟨x4.heap.size, 0, none⟩ 1 1 [.int .i64 (N + gp)] rfl rfl (news_at (cs := [_])) (by simp [Value.oneCell']) (by unfold maxLen; omega) (by omega) (by simp; omega) (by omega) ?_; intro g c2 w5 own5 hb5 hgr5; rw [map_append1] at own5; generalize hA2 : (some (⟨g, 0, none⟩ : Addr)) = A2 at *; clear hA2; (have ownL : w5.ownsRow (S + 1) 3 1 (.slice A2 (ats.length + 1) c2) (ats.length + 1) ((ats ++ [N + gp]).map (Value.int .i64)) := own5); (have qc := (p0.alloc _).below hb5 (by omega)); (have qs := (p1.alloc _).below hb5 (by omega)); (have qx := (px.alloc _).kept hgr5 (fun j hj => by have := hown.lt j hj; omega)); (have nb : Below w.heap.size w w5 := (hbw5.alloc1 _).trans (hb5.mono (by omega))); clear own5 hb5 hgr5 own4 p0 p1 px hbw4 hbw5 hown)
          have hszL := nb.size
          obtain ⟨wo, rfl⟩ : ∃ wo : World, wo = wr := ⟨_, rfl⟩
          have rdL := own_rd ownL
          have llL := And.intro qc.lt (And.intro qs.lt qx.lt)
          go_wp2_with fail
          go_loopw [15] (fun i2 wr2 => ∃ j : Nat, j ≤ (ats.length + 1) ∧ i2 = .int .i64 j ∧ Below w5.heap.size w5 wr2) (fun i2 _ => (ats.length + 1) - (intOf i2).toNat)
          case atStart => exact ⟨0, Nat.zero_le _, rfl, Below.refl _ _⟩
          case round =>
            obtain ⟨j, hj, rfl, hbj⟩ := hrel
            by_cases hjlt : j < (ats.length + 1)
            · have hjl : j < (ats ++ [N + gp]).length := by simp; omega
              obtain ⟨ad2, rfl, hadb2, hca2⟩ := rdL.at_ (k := j) (by simpa using hjl)
              have hmost := E4.out.most E2.out (by omega) j hjl
              have hkj := E4.out j hjl
              have hc2 : wr.cell? (ad2.add j) = some (.int .i64 (ats ++ [N + gp])[j]) := by rw [hbj.cell (by rw [add_block]; exact hadb2), hca2, List.getElem_map]
              have zc := qc.step hbj
              have zc_0 := zc.cell 0; have zc_f0 := zc.frozen 0; have zc_1 := zc.cell 1; have zc_f1 := zc.frozen 1; simp only [List.set_cons_zero, List.set_cons_succ, List.getElem?_cons_zero, List.getElem?_cons_succ] at zc_0 zc_1
              have lzc := zc.lt
              have hvj : 0 ≤ (ats ++ [N + gp])[j] ∧ (ats ++ [N + gp])[j] ≤ N + gp := ⟨hkj.1, hkj.2.1⟩
              have hml : (((ats ++ [N + gp]).length : Nat) : Int) = ((ats.length + 1) : Nat) := by simp
              rw [hml] at hmost
              have hadj : (ad2.add j).block < wr.heap.size := by rw [add_block]; have := hbj.size; omega
              clear hca2 hkj hml
              generalize (ats ++ [N + gp])[j] = v at *
              have hcg : ∀ (d : Nat) (os : Array Obj), (Go.Sort.grow (redrawn wr d) os).cell? (ad2.add j) = some (.int .i64 v) := fun d os => ((below_regrown wr d os).cell hadj).trans hc2
              go_wp2_with fail
              (refine wp_region_qb (by kernel_rfl) (by kernel_rfl) (fun kq => ?_); (try dsimp only [List.append]); (repeat (go_big_quiet_step (((go_at_call 23; exact (bucket_Most_any _ _ _ _).qb))))); refine wpQuiet_nil ?_; intro wq hwq; have hbq := below_of_class hwq; clear hwq kq)
              go_wp2_with fail
              go_roundw
              case rel => exact ⟨j + 1, by omega, by go_num, hbj.step hbq⟩
              case measure => simp [intOf]; omega
            · have zc := qc.step hbj
              have zs := qs.step hbj
              have zx := qx.step hbj
              have ownZ := own_below ownL hbj (Nat.le_refl _)
              have hbz : Below w.heap.size w wr := by (repeat (first | with_reducible exact Below.refl _ _ | with_reducible assumption | with_reducible refine Below.drew ?_ | with_reducible refine Below.drewN ?_ _ | with_reducible refine Below.alloc1 ?_ _ | with_reducible refine Below.setCell1 ?_ (by first | omega | (simp; done) | (simp; omega)) _ | with_reducible refine Below.step ?_ (by with_reducible assumption)))
              have lz := And.intro zc.lt (And.intro zs.lt zx.lt)
              have zs_0 := zs.cell 0; have zs_f0 := zs.frozen 0; have zs_1 := zs.cell 1; have zs_f1 := zs.frozen 1; simp only [List.set_cons_zero, List.set_cons_succ, List.getElem?_cons_zero, List.getElem?_cons_succ] at zs_0 zs_1
              have zx_0 := zx.cell 0; have zx_f0 := zx.frozen 0; have zx_1 := zx.cell 1; have zx_f1 := zx.frozen 1; simp only [List.set_cons_zero, List.set_cons_succ, List.getElem?_cons_zero, List.getElem?_cons_succ] at zx_0 zx_1
              go_wp2_with fail
              have ys := (zs.set_ 0 (.int .i64 (T - 1))).set_ 1 (.int .i64 (N + gp))
              simp only [List.set_cons_zero, List.set_cons_succ] at ys
              go_roundw
              case rel =>
                refine ⟨k + 1, N + gp, (T - 1), (N + gp), ats ++ [N + gp], A2, c2, by omega, by go_num, rfl, by simp, ?_, (zc.far (p := ⟨S, 0, none⟩) (by dsimp only; omega) _).far (p := ⟨S, 1, none⟩) (by dsimp only; omega) _, ys, E2, by omega, by omega, by omega, by simp; omega, E4, by (repeat (first | with_reducible exact Below.refl _ _ | with_reducible assumption | with_reducible refine Below.drew ?_ | with_reducible refine Below.drewN ?_ _ | with_reducible refine Below.alloc1 ?_ _ | with_reducible refine Below.setCell1 ?_ (by first | omega | (simp; done) | (simp; omega)) _ | with_reducible refine Below.step ?_ (by with_reducible assumption))), by simp [World.setCell]; omega⟩
                have := own_far (p := ⟨S, 1, none⟩) (own_far (p := ⟨S, 0, none⟩) ownZ (by dsimp only; omega) (.int .i64 (T - 1))) (by dsimp only; omega) (.int .i64 (N + gp))
                simpa using this
              case measure => simp [intOf]; omega
        · have E1 := hide e1
          subst hT1
          clear e1
          go_wp2_with fail
          refine (bucket_Level_eq hf.out HT.out _).mono ?_; rintro e x1 ⟨rfl, hx1⟩; obtain ⟨hc_hx1, hf_hx1⟩ := bcell hx1; have hz_hx1 := hx1.size; (try simp at hz_hx1); (have lx1 : w.heap.size < x1.heap.size ∧ S < x1.heap.size := by omega)
          go_wp2_with fail
          refine (bucket_Take_is (by omega) E1.out _).mono ?_; rintro e x2 ⟨rfl, hx2⟩; obtain ⟨hc_hx2, hf_hx2⟩ := bcell hx2; have hz_hx2 := hx2.size; (try simp at hz_hx2); (have lx2 : w.heap.size < x2.heap.size ∧ S < x2.heap.size := by omega)
          go_wp2_with fail
          refine (bucket_Fine_is hf.out _).mono ?_; rintro e x4 ⟨rfl, hx4⟩; obtain ⟨hc_hx4, hf_hx4⟩ := bcell hx4; have hz_hx4 := hx4.size; (try simp at hz_hx4); (have lx4 : w.heap.size < x4.heap.size ∧ S < x4.heap.size ∧ x2.heap.size < x4.heap.size := by omega)
          have hbw4 : Below wr.heap.size wr x4 := by (repeat (first | with_reducible exact Below.refl _ _ | with_reducible assumption | with_reducible refine Below.drew ?_ | with_reducible refine Below.drewN ?_ _ | with_reducible refine Below.alloc1 ?_ _ | with_reducible refine Below.setCell1 ?_ (by first | omega | (simp; done) | (simp; omega)) _ | with_reducible refine Below.step ?_ (by with_reducible assumption)))
          have ownL := own_below hown hbw4 (Nat.le_refl _)
          have qc := j0.step hbw4
          have qs := j1.step hbw4
          have qx : Bk x4 x2.heap.size 28 [.int .i64 t, .int .i64 a] := (Bk.new' x2 _ _ _ rfl).step hx4
          have nb : Below w.heap.size w x4 := by (repeat (first | with_reducible exact Below.refl _ _ | with_reducible assumption | with_reducible refine Below.drew ?_ | with_reducible refine Below.drewN ?_ _ | with_reducible refine Below.alloc1 ?_ _ | with_reducible refine Below.setCell1 ?_ (by first | omega | (simp; done) | (simp; omega)) _ | with_reducible refine Below.step ?_ (by with_reducible assumption)))
          have hXwr : wr.heap.size ≤ x2.heap.size := by omega
          have hX4 : S + 1 ≤ x4.heap.size := by omega
          generalize x2.heap.size = X at *
          clear hc_hx1 hf_hx1 hc_hx2 hf_hx2 hc_hx4 hf_hx4 hx1 hx2 hx4 j0_0 j0_1 j0_f0 j0_f1 j1_0 j1_1 j1_f0 j1_f1 lx1 lx2 hbw4
          have hszL := nb.size
          obtain ⟨wo, rfl⟩ : ∃ wo : World, wo = wr := ⟨_, rfl⟩
          have rdL := own_rd ownL
          have llL := And.intro qc.lt (And.intro qs.lt qx.lt)
          go_wp2_with fail
          go_loopw [15] (fun i2 wr2 => ∃ j : Nat, j ≤ ats.length ∧ i2 = .int .i64 j ∧ Below x4.heap.size x4 wr2) (fun i2 _ => ats.length - (intOf i2).toNat)
          case atStart => exact ⟨0, Nat.zero_le _, rfl, Below.refl _ _⟩
          case round =>
            obtain ⟨j, hj, rfl, hbj⟩ := hrel
            by_cases hjlt : j < ats.length
            · obtain ⟨ad2, rfl, hadb2, hca2⟩ := rdL.at_ (k := j) (by simpa using hjlt)
              have hmost := HK2.out.most hf.out (by omega) j hjlt
              have hkj := HK2.out j hjlt
              have hc2 : wr.cell? (ad2.add j) = some (.int .i64 ats[j]) := by rw [hbj.cell (by rw [add_block]; exact hadb2), hca2, List.getElem_map]
              have zc := qc.step hbj
              have zc_0 := zc.cell 0; have zc_f0 := zc.frozen 0; have zc_1 := zc.cell 1; have zc_f1 := zc.frozen 1; simp only [List.set_cons_zero, List.set_cons_succ, List.getElem?_cons_zero, List.getElem?_cons_succ] at zc_0 zc_1
              have lzc := zc.lt
              have hvj : 0 ≤ ats[j] ∧ ats[j] ≤ N + gp := ⟨hkj.1, hkj.2.1⟩
              have hadj : (ad2.add j).block < wr.heap.size := by rw [add_block]; have := hbj.size; omega
              clear hca2 hkj
              generalize ats[j] = v at *
              have hcg : ∀ (d : Nat) (os : Array Obj), (Go.Sort.grow (redrawn wr d) os).cell? (ad2.add j) = some (.int .i64 v) := fun d os => ((below_regrown wr d os).cell hadj).trans hc2
              go_wp2_with fail
              (refine wp_region_qb (by kernel_rfl) (by kernel_rfl) (fun kq => ?_); (try dsimp only [List.append]); (repeat (go_big_quiet_step (((go_at_call 23; exact (bucket_Most_any _ _ _ _).qb))))); refine wpQuiet_nil ?_; intro wq hwq; have hbq := below_of_class hwq; clear hwq kq)
              go_wp2_with fail
              go_roundw
              case rel => exact ⟨j + 1, by omega, by go_num, hbj.step hbq⟩
              case measure => simp [intOf]; omega
            · have zc := qc.step hbj
              have zs := qs.step hbj
              have zx := qx.step hbj
              have ownZ := own_below ownL hbj (Nat.le_refl _)
              have hbz : Below w.heap.size w wr := by (repeat (first | with_reducible exact Below.refl _ _ | with_reducible assumption | with_reducible refine Below.drew ?_ | with_reducible refine Below.drewN ?_ _ | with_reducible refine Below.alloc1 ?_ _ | with_reducible refine Below.setCell1 ?_ (by first | omega | (simp; done) | (simp; omega)) _ | with_reducible refine Below.step ?_ (by with_reducible assumption)))
              have lz := And.intro zc.lt (And.intro zs.lt zx.lt)
              have zs_0 := zs.cell 0; have zs_f0 := zs.frozen 0; have zs_1 := zs.cell 1; have zs_f1 := zs.frozen 1; simp only [List.set_cons_zero, List.set_cons_succ, List.getElem?_cons_zero, List.getElem?_cons_succ] at zs_0 zs_1
              have zx_0 := zx.cell 0; have zx_f0 := zx.frozen 0; have zx_1 := zx.cell 1; have zx_f1 := zx.frozen 1; simp only [List.set_cons_zero, List.set_cons_succ, List.getElem?_cons_zero, List.getElem?_cons_succ] at zx_0 zx_1
              go_wp2_with fail
              have ys := (zs.set_ 0 (.int .i64 t)).set_ 1 (.int .i64 a)
              simp only [List.set_cons_zero, List.set_cons_succ] at ys
              go_roundw
              case rel =>
                refine ⟨k + 1, N + gp, t, a, ats, A', c', by omega, by go_num, rfl, rfl, ?_, (zc.far (p := ⟨S, 0, none⟩) (by dsimp only; omega) _).far (p := ⟨S, 1, none⟩) (by dsimp only; omega) _, ys, hf, by omega, by omega, by omega, by omega, HK2, by (repeat (first | with_reducible exact Below.refl _ _ | with_reducible assumption | with_reducible refine Below.drew ?_ | with_reducible refine Below.drewN ?_ _ | with_reducible refine Below.alloc1 ?_ _ | with_reducible refine Below.setCell1 ?_ (by first | omega | (simp; done) | (simp; omega)) _ | with_reducible refine Below.step ?_ (by with_reducible assumption))), by simp [World.setCell]; omega⟩
                exact own_far (p := ⟨S, 1, none⟩) (own_far (p := ⟨S, 0, none⟩) ownZ (by dsimp only; omega) (.int .i64 t)) (by dsimp only; omega) (.int .i64 a)
              case measure => simp [intOf]; omega
      · go_wp2_with fail
        refine (awake13 _).mono ?_; rintro e x20 ⟨rfl, hx20⟩
        go_wp2
        go_ret
        exact ⟨rfl, by (repeat (first | with_reducible exact Below.refl _ _ | with_reducible assumption | with_reducible refine Below.drew ?_ | with_reducible refine Below.drewN ?_ _ | with_reducible refine Below.alloc1 ?_ _ | with_reducible refine Below.setCell1 ?_ (by first | omega | (simp; done) | (simp; omega)) _ | with_reducible refine Below.step ?_ (by with_reducible assumption)))⟩
  · go_enter Try.func5, Try.ntmps5
    go_wp2_with fail
    refine (awake13 _).mono ?_; rintro e x20 ⟨rfl, hbx⟩
    go_wp2
    go_ret
    exact ⟨rfl, by (repeat (first | with_reducible exact Below.refl _ _ | with_reducible assumption | with_reducible refine Below.drew ?_ | with_reducible refine Below.drewN ?_ _ | with_reducible refine Below.alloc1 ?_ _ | with_reducible refine Below.setCell1 ?_ (by first | omega | (simp; done) | (simp; omega)) _ | with_reducible refine Below.step ?_ (by with_reducible assumption)))⟩
end Go.Proofs.Ythbflgaekoaigaa
