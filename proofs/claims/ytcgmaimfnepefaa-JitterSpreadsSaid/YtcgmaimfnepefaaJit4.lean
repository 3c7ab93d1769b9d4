/- jitter.Usual, jitter.Hints. -/
import Derived.Test.YtcgmaimfnepefaaJit2
import Derived.Test.YtcgmaimfnepefaaJit3
namespace Go.Proofs.Ytcgmaimfnepefaa
open Go.RowKit
set_option linter.unusedSimpArgs false
set_option linter.unusedVariables false

def uLo : Nat → Int
  | 0 => 1
  | 1 => 5
  | 2 => 20
  | _ => 60
def uHi : Nat → Int
  | 0 => 4
  | 1 => 20
  | 2 => 60
  | _ => 240
theorem jitter_Usual_any (w : World) :
    Calls Try.prog 13 #[] w fun e w' => e = .returned (confV uLo uHi) ∧ Below w.heap.size w w' := by
  go_enter Try.func13, Try.ntmps13
  go_wp2
  exact bodyPost_ret (v := confV uLo uHi) (by simp only [confV, uLo, uHi]; simp only [results, Try.results13]; go_simp) rfl ⟨rfl, by (repeat (first | with_reducible exact Below.refl _ _ | with_reducible assumption | with_reducible refine Below.drew ?_ | with_reducible refine Below.drewN ?_ _ | with_reducible refine Below.alloc1 ?_ _ | with_reducible refine Below.setCell1 ?_ (by first | omega | (simp; done) | (simp; omega)) _ | with_reducible refine Below.step ?_ (by with_reducible assumption)))⟩

/-- the seed behind n draws, and the hints -/
def jHints (lo hi : Nat → Int) (level seed : Int) : Nat → Int × List Int
  | 0 => (seed, [])
  | n + 1 => (hSeed (jHints lo hi level seed n).1, (jHints lo hi level seed n).2 ++ [jHint lo hi level (hMix (hSeed (jHints lo hi level seed n).1))])
theorem jHints_length (lo hi : Nat → Int) (level seed : Int) (n : Nat) : (jHints lo hi level seed n).2.length = n := by
  induction n with
  | zero => rfl
  | succ n ih => simp [jHints, ih]
theorem jHints_bd (lo hi : Nat → Int) (level seed : Int) (n : Nat) (h0 : 0 ≤ seed ∧ seed ≤ 18446744073709551615) : 0 ≤ (jHints lo hi level seed n).1 ∧ (jHints lo hi level seed n).1 ≤ 18446744073709551615 := by
  cases n with
  | zero => exact h0
  | succ n => exact hSeed_bd _
theorem xor_bd {a b : Int} : 0 ≤ bits .xor .u64 a b ∧ bits .xor .u64 a b ≤ 18446744073709551615 := by
  unfold bits; rw [IntKind.wrap_u64]; omega
theorem hMix_bd (n : Int) : 0 ≤ hMix n ∧ hMix n ≤ 18446744073709551615 := by unfold hMix hMix3; exact xor_bd

set_option maxHeartbeats 1000000 in
theorem jitter_Hints_any (lo hi : Nat → Int) (level seed : Int) (m : Nat) (hm1 : 1 ≤ m) (hm : m < 200) (h0 : 0 ≤ seed ∧ seed ≤ 18446744073709551615) (hmay : jMay lo hi level = true) (w : World) :
    Calls Try.prog 14 #[confV lo hi, .int .i64 level, .int .u64 seed, .int .i64 m] w fun e w' => ∃ A c, e = .returned (.slice A m c) ∧ Rd w' w'.heap.size A ((jHints lo hi level seed m).2.map (Value.int .i64)) ∧ Fr w.heap.size A ∧ Below w.heap.size w w' := by
  obtain ⟨i0, hi0, hz0, hz1, hz2⟩ := info_parts int_info
  obtain ⟨k, rfl, hk, hc⟩ := jMay_k hmay
  have HM := hide hmay
  have HC := hide hc
  clear hmay hc
  go_enter Try.func14, Try.ntmps14
  go_wp2_with fail
  generalize hV : World.alloc w _ = w1
  have hb1 : Below w.heap.size w w1 := by subst hV; (repeat (first | with_reducible exact Below.refl _ _ | with_reducible assumption | with_reducible refine Below.drew ?_ | with_reducible refine Below.drewN ?_ _ | with_reducible refine Below.alloc1 ?_ _ | with_reducible refine Below.setCell1 ?_ (by first | omega | (simp; done) | (simp; omega)) _ | with_reducible refine Below.step ?_ (by with_reducible assumption)))
  have k0 : Bk w1 w.heap.size 29 (confC lo hi) := by subst hV; (repeat (first | with_reducible exact Bk.new' _ _ _ _ (by simp; done) | with_reducible assumption | with_reducible refine Bk.alloc ?_ _ | with_reducible refine Bk.drew ?_ | with_reducible refine Bk.drewN ?_ _ | with_reducible refine Bk.step ?_ (by with_reducible assumption) | with_reducible refine Bk.far ?_ (by first | omega | (simp; done) | (simp; omega)) _))
  clear hV
  refine (jitter_ends_yes HC.out hk rfl _).mono ?_; rintro e w2 ⟨rfl, hb2⟩
  have k2 := k0.step hb2
  have hbel : Below w.heap.size w w2 := by (repeat (first | with_reducible exact Below.refl _ _ | with_reducible assumption | with_reducible refine Below.drew ?_ | with_reducible refine Below.drewN ?_ _ | with_reducible refine Below.alloc1 ?_ _ | with_reducible refine Below.setCell1 ?_ (by first | omega | (simp; done) | (simp; omega)) _ | with_reducible refine Below.step ?_ (by with_reducible assumption)))
  have lk2 := k2.lt
  go_wp2_with fail
  clear k0 hb1 hb2
  go_loopw [2, 12, 27] (fun s o i wr => ∃ j : Nat, j ≤ m ∧ i = .int .i64 j ∧ s = .int .u64 (jHints lo hi k seed j).1 ∧ (∃ A' c', o = .slice A' j c' ∧ wr.ownsRow (w.heap.size + 1) 3 1 (.slice A' j c') j ((jHints lo hi k seed j).2.map (Value.int .i64))) ∧ Bk wr w.heap.size 29 (confC lo hi) ∧ Below w.heap.size w wr) (fun _ _ i _ => m - (intOf i).toNat)
  case atStart => exact ⟨0, Nat.zero_le _, rfl, rfl, ⟨none, 0, rfl, World.ownsRow_nil _ _ _ _⟩, k2, hbel⟩
  case round =>
    obtain ⟨j, hj, rfl, rfl, ⟨A', c', rfl, hown⟩, p0, hbr⟩ := hrel
    clear k2 hbel lk2
    have lp0 := p0.lt
    by_cases hlt : j < m
    · have hs := jHints_bd lo hi k seed j h0
      have HX : Hid (jHints lo hi k seed (j + 1) = (hSeed (jHints lo hi k seed j).1, (jHints lo hi k seed j).2 ++ [jHint lo hi k (hMix (hSeed (jHints lo hi k seed j).1))])) := rfl
      generalize jHints lo hi k seed j = x at *
      have hxm := hMix_bd (hSeed x.1)
      have p0_0 := p0.cell 0; have p0_f0 := p0.frozen 0; have p0_1 := p0.cell 1; have p0_f1 := p0.frozen 1; have p0_2 := p0.cell 2; have p0_f2 := p0.frozen 2; have p0_3 := p0.cell 3; have p0_f3 := p0.frozen 3; have p0_4 := p0.cell 4; have p0_f4 := p0.frozen 4; have p0_5 := p0.cell 5; have p0_f5 := p0.frozen 5; have p0_6 := p0.cell 6; have p0_f6 := p0.frozen 6; have p0_7 := p0.cell 7; have p0_f7 := p0.frozen 7; simp only [List.set_cons_zero, List.set_cons_succ, List.getElem?_cons_zero, List.getElem?_cons_succ] at p0_0 p0_1 p0_2 p0_3 p0_4 p0_5 p0_6 p0_7
      go_wp2_with fail
      refine (hash_Draw_any _ hs.1 hs.2 _).mono ?_; rintro e w3 ⟨rfl, hb3⟩
      have p3 := p0.step hb3
      have lp3 := p3.lt
      clear p0_0 p0_1 p0_2 p0_3 p0_4 p0_5 p0_6 p0_7 p0_f0 p0_f1 p0_f2 p0_f3 p0_f4 p0_f5 p0_f6 p0_f7
      have p3_0 := p3.cell 0; have p3_f0 := p3.frozen 0; have p3_1 := p3.cell 1; have p3_f1 := p3.frozen 1; have p3_2 := p3.cell 2; have p3_f2 := p3.frozen 2; have p3_3 := p3.cell 3; have p3_f3 := p3.frozen 3; have p3_4 := p3.cell 4; have p3_f4 := p3.frozen 4; have p3_5 := p3.cell 5; have p3_f5 := p3.frozen 5; have p3_6 := p3.cell 6; have p3_f6 := p3.frozen 6; have p3_7 := p3.cell 7; have p3_f7 := p3.frozen 7; simp only [List.set_cons_zero, List.set_cons_succ, List.getElem?_cons_zero, List.getElem?_cons_succ] at p3_0 p3_1 p3_2 p3_3 p3_4 p3_5 p3_6 p3_7
      go_wp2_with fail
      refine (jitter_Hint_any _ _ _ _ hxm.1 hxm.2 _).mono ?_; rintro e w4 ⟨rfl, hb4⟩
      have p4 := p3.step hb4
      have own4 := own_below (own_below hown hb3 (Nat.le_refl _)) hb4 (by have := hb3.size; omega)
      have hb5 : Below w.heap.size w w4 := by (repeat (first | with_reducible exact Below.refl _ _ | with_reducible assumption | with_reducible refine Below.drew ?_ | with_reducible refine Below.drewN ?_ _ | with_reducible refine Below.alloc1 ?_ _ | with_reducible refine Below.setCell1 ?_ (by first | omega | (simp; done) | (simp; omega)) _ | with_reducible refine Below.step ?_ (by with_reducible assumption)))
      have hs4 := p4.lt
      clear p3_0 p3_1 p3_2 p3_3 p3_4 p3_5 p3_6 p3_7 p3_f0 p3_f1 p3_f2 p3_f3 p3_f4 p3_f5 p3_f6 p3_f7 hown p0 p3 hb3 hb4 hbr
      go_wp2_with (at_builtin; refine wpList_app rfl (.tmp 35) (.tmp 40) 25 rfl (w.heap.size + 1) 3 i0 _ 1 8 Try.underlying25 hi0 hz0 hz1 hz2 rfl (by omega) A' j c' (x.2.map (Value.int .i64)) rfl (own4.alloc _) ⟨w4.heap.size, 0, none⟩ 1 1 [.int .i64 (jHint lo hi k (hMix (hSeed x.1)))] rfl rfl (news_at (cs := [_])) (by simp [Value.oneCell']) (by unfold maxLen; omega) (by omega) (by simp; omega) (by omega) ?_; intro g cap w5 hown5 hb6)
      go_roundw
      case rel =>
        have e : jHints lo hi k seed (j + 1) = (hSeed x.1, x.2 ++ [jHint lo hi k (hMix (hSeed x.1))]) := HX.out
        refine ⟨j + 1, by omega, by go_num, by rw [e], ⟨_, _, rfl, ?_⟩, (p4.alloc _).below hb6 (by omega), (hb5.alloc1 _).trans (hb6.mono (by omega))⟩
        rw [e]
        simpa using hown5
      case measure => simp [intOf]; omega
    · obtain rfl : j = m := by omega
      go_wp2_with fail
      go_ret
      exact ⟨A', c', rfl, own_rd hown, (own_fr hown).mono (by omega), hbr⟩
end Go.Proofs.Ytcgmaimfnepefaa
