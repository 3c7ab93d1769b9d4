/- The reference of package addr: Print, Less. -/
import Derived.Test.YtfgfkiifekeeaaaAdr3
namespace Go.Proofs.Ytfgfkiifekeeaaa
open Go.RowKit Go.Shelf
set_option linter.unusedSimpArgs false
set_option linter.unusedVariables false

set_option maxRecDepth 100000 in
set_option maxHeartbeats 4000000 in
theorem ref09_Print_any (n h r : ByteArray) (hn : n.size ≤ 1000000) (hh : h.size ≤ 1000000) (hr : r.size ≤ 1000000) (w : World) : Calls Try.prog 58 #[aV n h r] w fun e w' =>
    e = .returned (.tuple #[.string (strOf (aPrint (n.data.toList, h.data.toList, r.data.toList)).1), .int .i64 (aPrint (n.data.toList, h.data.toList, r.data.toList)).2]) ∧ Below w.heap.size w w' := by
  have k0 := fun W => ref09_Check_any n h r hn hh hr W
  have hrE := isE2 r
  have e1 : (⟨#[64]⟩ : ByteArray).size = 1 := rfl
  have e2 : (⟨#[47]⟩ : ByteArray).size = 1 := rfl
  have s1 : n.size + (⟨#[64]⟩ : ByteArray).size ≤ 9223372036854775807 := by omega
  have s2 : (n ++ (⟨#[64]⟩ : ByteArray)).size + h.size ≤ 9223372036854775807 := by rw [ba_len]; omega
  have s3 : (n ++ (⟨#[64]⟩ : ByteArray) ++ h).size + (⟨#[47]⟩ : ByteArray).size ≤ 9223372036854775807 := by rw [ba_len, ba_len]; omega
  have s4 : (n ++ (⟨#[64]⟩ : ByteArray) ++ h ++ (⟨#[47]⟩ : ByteArray)).size + r.size ≤ 9223372036854775807 := by rw [ba_len, ba_len, ba_len]; omega
  have t1 : n ++ (⟨#[64]⟩ : ByteArray) ++ h = strOf (n.data.toList ++ 64 :: h.data.toList) := by
    apply ba_ext
    rw [bytes_append, bytes_append, strOf_list]
    simp
  have t2 : n ++ (⟨#[64]⟩ : ByteArray) ++ h ++ (⟨#[47]⟩ : ByteArray) ++ r = strOf (n.data.toList ++ 64 :: h.data.toList ++ 47 :: r.data.toList) := by
    apply ba_ext
    rw [bytes_append, bytes_append, bytes_append, bytes_append, strOf_list]
    simp
  obtain ⟨R, hR⟩ : ∃ R, R = aPrint (n.data.toList, h.data.toList, r.data.toList) := ⟨_, rfl⟩
  rw [← hR]
  unfold aPrint aText at hR
  dsimp only at hR
  generalize aCheck n.data.toList h.data.toList r.data.toList = c at *
  unfold aV at *
  by_cases h0 : c = 0
  · replace hR := hR.trans (if_neg (by simp [h0]))
    subst h0
    by_cases er : r.data.toList = []
    · rw [decide_eq_true er] at hrE
      rw [if_pos er, List.append_nil] at hR
      have hR2 : strOf R.1 = n ++ (⟨#[64]⟩ : ByteArray) ++ h ∧ R.2 = 0 := by rw [hR, t1]; exact ⟨rfl, rfl⟩
      clear t1 t2 e1 e2 er hR
      replace hR2 := hide hR2
      go_enter Try.func58, Try.ntmps58
      go_wp2_with fail
      generalize hV : World.alloc w _ = w1
      have hb : Below w.heap.size w w1 := by subst hV; (repeat (first | with_reducible exact Below.refl _ _ | with_reducible assumption | with_reducible refine Below.drew ?_ | with_reducible refine Below.drewN ?_ _ | with_reducible refine Below.alloc1 ?_ _ | with_reducible refine Below.setCell1 ?_ (by first | omega | (simp; done) | (simp; omega)) _ | with_reducible refine Below.step ?_ (by with_reducible assumption)))
      have q0 : Bk w1 w.heap.size 98 (aC n h r) := by subst hV; exact Bk.new w _ (aC n h r)
      clear hV
      unfold aC at q0
      refine (k0 _).mono ?_; rintro e w3 ⟨rfl, hb2⟩
      replace hb := hb.step hb2
      replace q0 := q0.step hb2
      have q0_0 := q0.cell 0; have q0_f0 := q0.frozen 0; have q0_1 := q0.cell 1; have q0_f1 := q0.frozen 1; have q0_2 := q0.cell 2; have q0_f2 := q0.frozen 2; simp only [List.set_cons_zero, List.set_cons_succ, List.getElem?_cons_zero, List.getElem?_cons_succ] at q0_0 q0_1 q0_2; have lt_q0 := q0.lt
      go_wp2_with fail
      go_ret2
      exact ⟨by rw [hR2.out.1, hR2.out.2]; rfl, hb⟩
    · rw [decide_eq_false er] at hrE
      rw [if_neg er] at hR
      have hR2 : strOf R.1 = n ++ (⟨#[64]⟩ : ByteArray) ++ h ++ (⟨#[47]⟩ : ByteArray) ++ r ∧ R.2 = 0 := by rw [hR, t2]; exact ⟨rfl, rfl⟩
      clear t1 t2 e1 e2 er hR
      replace hR2 := hide hR2
      go_enter Try.func58, Try.ntmps58
      go_wp2_with fail
      generalize hV : World.alloc w _ = w1
      have hb : Below w.heap.size w w1 := by subst hV; (repeat (first | with_reducible exact Below.refl _ _ | with_reducible assumption | with_reducible refine Below.drew ?_ | with_reducible refine Below.drewN ?_ _ | with_reducible refine Below.alloc1 ?_ _ | with_reducible refine Below.setCell1 ?_ (by first | omega | (simp; done) | (simp; omega)) _ | with_reducible refine Below.step ?_ (by with_reducible assumption)))
      have q0 : Bk w1 w.heap.size 98 (aC n h r) := by subst hV; exact Bk.new w _ (aC n h r)
      clear hV
      unfold aC at q0
      refine (k0 _).mono ?_; rintro e w3 ⟨rfl, hb2⟩
      replace hb := hb.step hb2
      replace q0 := q0.step hb2
      have q0_0 := q0.cell 0; have q0_f0 := q0.frozen 0; have q0_1 := q0.cell 1; have q0_f1 := q0.frozen 1; have q0_2 := q0.cell 2; have q0_f2 := q0.frozen 2; simp only [List.set_cons_zero, List.set_cons_succ, List.getElem?_cons_zero, List.getElem?_cons_succ] at q0_0 q0_1 q0_2; have lt_q0 := q0.lt
      go_wp2_with fail
      go_ret2
      exact ⟨by rw [hR2.out.1, hR2.out.2]; rfl, hb⟩
  · have h0B : (c != 0) = true := by rw [bne_iff_ne]; exact h0
    replace hR := hide (hR.trans (if_pos h0))
    clear t1 t2 e1 e2 h0 hrE
    go_enter Try.func58, Try.ntmps58
    go_wp2_with fail
    generalize hV : World.alloc w _ = w1
    have hb : Below w.heap.size w w1 := by subst hV; (repeat (first | with_reducible exact Below.refl _ _ | with_reducible assumption | with_reducible refine Below.drew ?_ | with_reducible refine Below.drewN ?_ _ | with_reducible refine Below.alloc1 ?_ _ | with_reducible refine Below.setCell1 ?_ (by first | omega | (simp; done) | (simp; omega)) _ | with_reducible refine Below.step ?_ (by with_reducible assumption)))
    have q0 : Bk w1 w.heap.size 98 (aC n h r) := by subst hV; exact Bk.new w _ (aC n h r)
    clear hV
    unfold aC at q0
    refine (k0 _).mono ?_; rintro e w3 ⟨rfl, hb2⟩
    replace hb := hb.step hb2
    replace q0 := q0.step hb2
    have q0_0 := q0.cell 0; have q0_f0 := q0.frozen 0; have q0_1 := q0.cell 1; have q0_f1 := q0.frozen 1; have q0_2 := q0.cell 2; have q0_f2 := q0.frozen 2; simp only [List.set_cons_zero, List.set_cons_succ, List.getElem?_cons_zero, List.getElem?_cons_succ] at q0_0 q0_1 q0_2; have lt_q0 := q0.lt
    go_wp2_with fail
    refine (k0 _).mono ?_; rintro e w4 ⟨rfl, hb3⟩
    go_wp2_with fail
    go_ret2
    exact ⟨by rw [hR.out]; rfl, hb.step hb3⟩
end Go.Proofs.Ytfgfkiifekeeaaa
