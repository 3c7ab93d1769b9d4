/- Package callboyref04: New. -/
import Derived.Test.YthicpjfdljgfpaaLw4
namespace Go.Proofs.Ythicpjfdljgfpaa
open Go.RowKit Go.Sort
set_option linter.unusedSimpArgs false
set_option linter.unusedVariables false

theorem islice_info : (Try.prog.info? 23).map (fun i => (i.zero, i.size, i.bytes)) = some (some (.slice none 0 0), 1, 24) := by kernel_rfl
set_option maxRecDepth 100000 in
set_option maxHeartbeats 8000000 in
theorem r04_New_any (n k : Int) (w : World) :
    Calls Try.prog 21 #[.int .i64 n, .int .i64 k] w fun e w' => ∃ V', e = .returned (.tuple #[V', .int .i64 (dNew n k).2]) ∧ CsAt w' V' (dNew n k).1 ∧ Below w.heap.size w w' := by
  have hN := fun W => r04_in_any n 1 64 W
  have hK := fun W => r04_in_any k 1 8 W
  have HR := hide (show dNew n k = if cIn n 1 64 = false then (⟨[], [], []⟩, 8) else if cIn k 1 8 = false then (⟨[], [], []⟩, 8) else (laid n.toNat (List.replicate k.toNat []), 0) from rfl)
  generalize dNew n k = R at *
  have hbad : ∀ W : World, Below w.heap.size w W → R = (⟨[], [], []⟩, 8) → ∃ V', (Ending.returned (.tuple #[csV none none none 0 0 0 0 0 0, .int .i64 8])) = .returned (.tuple #[V', .int .i64 R.2]) ∧ CsAt W V' R.1 ∧ Below w.heap.size w W := fun W hb hR => by
    subst hR
    exact ⟨_, rfl, ⟨none, none, none, 0, 0, 0, rfl, Rd.nil, Rd.nil, Rd.nil⟩, hb⟩
  have HBad := hide hbad
  clear hbad
  cases hv : cIn n 1 64
  · have hR := hide (show R = (⟨[], [], []⟩, 8) by rw [HR.out, if_pos hv])
    rw [hv] at hN
    clear HR hv hK
    go_enter Try.func21, Try.ntmps21
    go_wp2_with fail
    generalize hV : World.alloc w _ = w1
    have hb1 : Below w.heap.size w w1 := by subst hV; (repeat (first | with_reducible exact Below.refl _ _ | with_reducible assumption | with_reducible refine Below.drew ?_ | with_reducible refine Below.drewN ?_ _ | with_reducible refine Below.alloc1 ?_ _ | with_reducible refine Below.setCell1 ?_ (by first | omega | (simp; done) | (simp; omega)) _ | with_reducible refine Below.step ?_ (by with_reducible assumption)))
    have k1 : Bk w1 w.heap.size 25 (csC none none none 0 0 0 0 0 0) := by subst hV; (repeat (first | with_reducible exact Bk.new' _ _ _ _ (by simp; done) | with_reducible assumption | with_reducible refine Bk.alloc ?_ _ | with_reducible refine Bk.drew ?_ | with_reducible refine Bk.drewN ?_ _ | with_reducible refine Bk.step ?_ (by with_reducible assumption) | with_reducible refine Bk.far ?_ (by first | omega | (simp; done) | (simp; omega)) _))
    clear hV
    refine (hN _).mono ?_; rintro e w2 ⟨rfl, rfl⟩
    have lt1 := k1.lt
    go_wp2_with ((refine wpList_store_row rfl 25 _ _ rfl _ (csC none none none 0 0 0 0 0 0).toArray rfl rfl _ _ k1 (by kernel_rfl) (by kernel_rfl) (by kernel_rfl) ?_))
    have r1 := k1.row (csC none none none 0 0 0 0 0 0)
    refine bodyPost_ret (results_row_tmp rfl _ _ (w.heap.size) _ _ _ rfl r1 Try.underlying25 rfl (by kernel_rfl)) rfl ?_
    exact HBad.out _ (setRow_below hb1 (Nat.le_refl _) _) hR.out
  · have hb := cIn_t hv
    have HR1 := hide (show R = if cIn k 1 8 = false then (⟨[], [], []⟩, 8) else (laid n.toNat (List.replicate k.toNat []), 0) by rw [HR.out, if_neg (by simp [hv])])
    rw [hv] at hN
    obtain ⟨n', rfl⟩ : ∃ n' : Nat, n = (n' : Int) := ⟨n.toNat, by omega⟩
    have hn : 1 ≤ n' ∧ n' ≤ 64 := by omega
    clear HR hv hb
    cases hv : cIn k 1 8
    · have hR := hide (show R = (⟨[], [], []⟩, 8) by rw [HR1.out, if_pos hv])
      rw [hv] at hK
      clear HR1 hv
      go_enter Try.func21, Try.ntmps21
      go_wp2_with fail
      generalize hV : World.alloc w _ = w1
      have hb1 : Below w.heap.size w w1 := by subst hV; (repeat (first | with_reducible exact Below.refl _ _ | with_reducible assumption | with_reducible refine Below.drew ?_ | with_reducible refine Below.drewN ?_ _ | with_reducible refine Below.alloc1 ?_ _ | with_reducible refine Below.setCell1 ?_ (by first | omega | (simp; done) | (simp; omega)) _ | with_reducible refine Below.step ?_ (by with_reducible assumption)))
      have k1 : Bk w1 w.heap.size 25 (csC none none none 0 0 0 0 0 0) := by subst hV; (repeat (first | with_reducible exact Bk.new' _ _ _ _ (by simp; done) | with_reducible assumption | with_reducible refine Bk.alloc ?_ _ | with_reducible refine Bk.drew ?_ | with_reducible refine Bk.drewN ?_ _ | with_reducible refine Bk.step ?_ (by with_reducible assumption) | with_reducible refine Bk.far ?_ (by first | omega | (simp; done) | (simp; omega)) _))
      clear hV
      refine (hN _).mono ?_; rintro e w2 ⟨rfl, rfl⟩
      go_wp2_with fail
      refine (hK _).mono ?_; rintro e w3 ⟨rfl, rfl⟩
      have lt1 := k1.lt
      go_wp2_with ((refine wpList_store_row rfl 25 _ _ rfl _ (csC none none none 0 0 0 0 0 0).toArray rfl rfl _ _ k1 (by kernel_rfl) (by kernel_rfl) (by kernel_rfl) ?_))
      have r1 := k1.row (csC none none none 0 0 0 0 0 0)
      refine bodyPost_ret (results_row_tmp rfl _ _ (w.heap.size) _ _ _ rfl r1 Try.underlying25 rfl (by kernel_rfl)) rfl ?_
      exact HBad.out _ (setRow_below hb1 (Nat.le_refl _) _) hR.out
    · have hb := cIn_t hv
      obtain ⟨k', rfl⟩ : ∃ k' : Nat, k = (k' : Int) := ⟨k.toNat, by omega⟩
      have hk : 1 ≤ k' ∧ k' ≤ 8 := by omega
      have hR := hide (show R = (laid n' (List.replicate k' []), 0) by rw [HR1.out, if_neg (by simp [hv])]; simp)
      rw [hv] at hK
      clear HR1 hv hb HBad
      obtain ⟨iT, hiT, hz0, hz1, hz2⟩ := info_parts islice_info
      have hmk := fun W => run_make1 (P := Try.prog) 70 23 iT (.slice none 0 0) Try.underlying70 hiT hz0 rfl hz1 k' (by rw [hz2]; omega) (by omega) W
      clear hiT hz0 hz1 hz2
      have hL := fun (AL : Option Addr) (cl : Nat) (W : World) h => r04_laid_any n' AL cl (List.replicate k' []) W hn.1 hn.2 (by simp; omega) (good_new hn hk).1.vl h
      rw [List.length_replicate] at hL
      go_enter Try.func21, Try.ntmps21
      go_wp2_with fail
      generalize hV : World.alloc w _ = w1
      have hb1 : Below w.heap.size w w1 := by subst hV; (repeat (first | with_reducible exact Below.refl _ _ | with_reducible assumption | with_reducible refine Below.drew ?_ | with_reducible refine Below.drewN ?_ _ | with_reducible refine Below.alloc1 ?_ _ | with_reducible refine Below.setCell1 ?_ (by first | omega | (simp; done) | (simp; omega)) _ | with_reducible refine Below.step ?_ (by with_reducible assumption)))
      have k1 : Bk w1 w.heap.size 25 (csC none none none 0 0 0 0 0 0) := by subst hV; (repeat (first | with_reducible exact Bk.new' _ _ _ _ (by simp; done) | with_reducible assumption | with_reducible refine Bk.alloc ?_ _ | with_reducible refine Bk.drew ?_ | with_reducible refine Bk.drewN ?_ _ | with_reducible refine Bk.step ?_ (by with_reducible assumption) | with_reducible refine Bk.far ?_ (by first | omega | (simp; done) | (simp; omega)) _))
      clear hV
      refine (hN _).mono ?_; rintro e w2 ⟨rfl, rfl⟩
      go_wp2_with fail
      refine (hK _).mono ?_; rintro e w3 ⟨rfl, rfl⟩
      have lt1 := k1.lt
      go_wp2_with fail
      have hrow : Lss (w1.alloc (.cells (List.replicate k' (.slice none 0 0)).toArray 23)) (some ⟨w1.heap.size, 0, none⟩) (List.replicate k' []) := by
        refine ⟨List.replicate k' (.slice none 0 0), by simp, (Bk.new w1 23 (List.replicate k' (.slice none 0 0))).rd, fun i hi => ?_⟩
        have hik : i < k' := by simpa using hi
        exact ⟨none, 0, by simp [hik], by simp only [List.getElem_replicate]; exact Rd.nil⟩
      refine (hL _ _ _ hrow).mono ?_; rintro e w4 ⟨V, rfl, hV, hx⟩
      have hx2 : Below w1.heap.size w1 w4 := ((Below.refl w1.heap.size w1).alloc1 _).step hx
      replace k1 := k1.step hx2
      replace hb1 : Below w.heap.size w w4 := hb1.step hx2
      obtain ⟨A, B, C, a, b, c, rfl, rA, rB, rC⟩ := hV
      clear hx hx2 hrow hL hmk
      have lt2 := k1.lt
      go_wp2_with ((refine wpList_store_row rfl 25 _ _ rfl _ (csC A B C a b c (laid n' (List.replicate k' [])).ns.length (laid n' (List.replicate k' [])).hs.length (laid n' (List.replicate k' [])).ts.length).toArray rfl rfl _ _ k1 (by kernel_rfl) (by kernel_rfl) (by kernel_rfl) ?_))
      have r1 := k1.row (csC A B C a b c (laid n' (List.replicate k' [])).ns.length (laid n' (List.replicate k' [])).hs.length (laid n' (List.replicate k' [])).ts.length)
      refine bodyPost_ret (results_row_tmp rfl _ _ (w.heap.size) _ _ _ rfl r1 Try.underlying25 rfl (by kernel_rfl)) rfl ⟨csV A B C a b c (laid n' (List.replicate k' [])).ns.length (laid n' (List.replicate k' [])).hs.length (laid n' (List.replicate k' [])).ts.length, ?_, ?_, setRow_below hb1 (Nat.le_refl _) _⟩
      · rw [hR.out]; rfl
      · rw [hR.out]
        exact ⟨A, B, C, a, b, c, rfl, (rA.row k1 (by decide) _).rd, (rB.row k1 (by decide) _).rd, (rC.row k1 (by decide) _).rd⟩
end Go.Proofs.Ythicpjfdljgfpaa
