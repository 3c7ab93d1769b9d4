/- Package addr: text, Print, Parse. -/
import Derived.Test.YtmncjoihhdefcaaAd3
namespace Go.Proofs.Ytmncjoihhdefcaa
open Go.RowKit Go.Shelf
set_option linter.unusedSimpArgs false
set_option linter.unusedVariables false

theorem results_row_tmp {P : Program} {fn : Func} {p u : Tmp} {ty : TypeId} (h : fn.results = #[.cell p ty, .tmp u]) (tmps : Array Value) (w : World) (g : Nat) (t : TypeId) (cs : List Value) (d : TypeDesc)
    (hp : tmps.getD p undef = .pointer (some ⟨g, 0, none⟩)) (hg : Bk w g t cs)
    (hu : P.underlying ty = some d) (hd : (match d with | .struct _ | .array _ _ => true | _ => false) = true) (hi : (P.info? ty).map (·.size) = some cs.toArray.size) :
    (results fn tmps).run P w = .ok (.tuple #[.agg cs.toArray, tmps.getD u undef]) w := by
  have hp' : tmps[p]?.getD undef = .pointer (some ⟨g, 0, none⟩) := by simpa using hp
  simp [results, h, hp', asAddr, run_loadVar_row w g t ty cs.toArray (0, 0) d hg hu hd hi]
theorem ba_append (a b : ByteArray) : a ++ b = strOf (a.data.toList ++ b.data.toList) := by
  apply ba_ext
  rw [bytes_append, strOf_list]
theorem cut_len (s sep : List UInt8) : (Lib.cut s sep).1.length ≤ s.length ∧ (Lib.cut s sep).2.1.length ≤ s.length := by
  unfold Lib.cut
  split
  · exact ⟨by dsimp only; rw [List.length_take]; omega, by dsimp only; rw [List.length_drop]; omega⟩
  · exact ⟨Nat.le_refl _, by simp⟩
theorem ba_len (a b : ByteArray) : (a ++ b).size = a.size + b.size := by rw [← list_size, bytes_append, List.length_append, list_size, list_size]
set_option maxRecDepth 100000 in
set_option maxHeartbeats 4000000 in
theorem addr_text_any (n h r : ByteArray) (hn : n.size ≤ 1000000) (hh : h.size ≤ 1000000) (hr : r.size ≤ 1000000) (w : World) : Calls Try.prog 29 #[aV n h r] w fun e w' =>
    e = .returned (.string (strOf (aText (n.data.toList, h.data.toList, r.data.toList)))) ∧ Below w.heap.size w w' := by
  have hrE := isE2 r
  have e1 : (⟨#[64]⟩ : ByteArray).size = 1 := rfl
  have e2 : (⟨#[47]⟩ : ByteArray).size = 1 := rfl
  have s1 : n.size + (⟨#[64]⟩ : ByteArray).size ≤ 9223372036854775807 := by omega
  have s2 : (n ++ (⟨#[64]⟩ : ByteArray)).size + h.size ≤ 9223372036854775807 := by rw [ba_len]; omega
  have s3 : (⟨#[47]⟩ : ByteArray).size + r.size ≤ 9223372036854775807 := by omega
  have s4 : (n ++ (⟨#[64]⟩ : ByteArray) ++ h).size + ((⟨#[47]⟩ : ByteArray) ++ r).size ≤ 9223372036854775807 := by rw [ba_len, ba_len, ba_len]; omega
  have t1 : n ++ (⟨#[64]⟩ : ByteArray) ++ h = strOf (n.data.toList ++ 64 :: h.data.toList) := by
    apply ba_ext
    rw [bytes_append, bytes_append, strOf_list]
    simp
  have t2 : n ++ (⟨#[64]⟩ : ByteArray) ++ h ++ ((⟨#[47]⟩ : ByteArray) ++ r) = strOf (n.data.toList ++ 64 :: h.data.toList ++ 47 :: r.data.toList) := by
    apply ba_ext
    rw [bytes_append, bytes_append, bytes_append, bytes_append, strOf_list]
    simp
  obtain ⟨R, hR⟩ : ∃ R, R = strOf (aText (n.data.toList, h.data.toList, r.data.toList)) := ⟨_, rfl⟩
  rw [← hR]
  unfold aText at hR
  dsimp only at hR
  by_cases er : r.data.toList = []
  · rw [decide_eq_true er] at hrE
    rw [if_pos er, List.append_nil, ← t1] at hR
    subst hR
    clear t1 t2 e1 e2 er
    unfold aV
    go_enter Try.func29, Try.ntmps29
    go_wp2_with fail
    go_ret
    exact ⟨rfl, by (repeat (first | with_reducible exact Below.refl _ _ | with_reducible assumption | with_reducible refine Below.drew ?_ | with_reducible refine Below.drewN ?_ _ | with_reducible refine Below.alloc1 ?_ _ | with_reducible refine Below.setCell1 ?_ (by first | omega | (simp; done) | (simp; omega)) _ | with_reducible refine Below.step ?_ (by with_reducible assumption)))⟩
  · rw [decide_eq_false er] at hrE
    rw [if_neg er, ← t2] at hR
    subst hR
    clear t1 t2 e1 e2 er
    unfold aV
    go_enter Try.func29, Try.ntmps29
    go_wp2_with fail
    go_ret
    exact ⟨rfl, by (repeat (first | with_reducible exact Below.refl _ _ | with_reducible assumption | with_reducible refine Below.drew ?_ | with_reducible refine Below.drewN ?_ _ | with_reducible refine Below.alloc1 ?_ _ | with_reducible refine Below.setCell1 ?_ (by first | omega | (simp; done) | (simp; omega)) _ | with_reducible refine Below.step ?_ (by with_reducible assumption)))⟩
set_option maxRecDepth 100000 in
set_option maxHeartbeats 4000000 in
theorem addr_Print_any (n h r : ByteArray) (hn : n.size ≤ 1000000) (hh : h.size ≤ 1000000) (hr : r.size ≤ 1000000) (w : World) (hm : MW w) : Calls Try.prog 18 #[aV n h r] w fun e w' =>
    e = .returned (.tuple #[.string (strOf (aPrint (n.data.toList, h.data.toList, r.data.toList)).1), .int .i64 (aPrint (n.data.toList, h.data.toList, r.data.toList)).2]) ∧ Below w.heap.size w w' := by
  have k0 := fun W hW => addr_Check_any n h r hn hh hr W hW
  have k1 := fun W => addr_text_any n h r hn hh hr W
  unfold aPrint
  dsimp only
  generalize aCheck n.data.toList h.data.toList r.data.toList = c at *
  generalize aText (n.data.toList, h.data.toList, r.data.toList) = t at *
  unfold aV at *
  by_cases h0 : c = 0
  · subst h0
    rw [if_neg (by simp)]
    go_enter Try.func18, Try.ntmps18
    go_wp2_with fail
    generalize hV : World.alloc w _ = w1
    have hb : Below w.heap.size w w1 := by subst hV; (repeat (first | with_reducible exact Below.refl _ _ | with_reducible assumption | with_reducible refine Below.drew ?_ | with_reducible refine Below.drewN ?_ _ | with_reducible refine Below.alloc1 ?_ _ | with_reducible refine Below.setCell1 ?_ (by first | omega | (simp; done) | (simp; omega)) _ | with_reducible refine Below.step ?_ (by with_reducible assumption)))
    have q0 : Bk w1 w.heap.size 24 (aC n h r) := by subst hV; exact Bk.new w _ (aC n h r)
    clear hV
    unfold aC at q0
    refine (k0 _ (hm.step hb)).mono ?_; rintro e w2 ⟨rfl, hb2⟩
    replace hb := hb.step hb2
    replace q0 := q0.step hb2
    have q0_0 := q0.cell 0; have q0_f0 := q0.frozen 0; have q0_1 := q0.cell 1; have q0_f1 := q0.frozen 1; have q0_2 := q0.cell 2; have q0_f2 := q0.frozen 2; simp only [List.set_cons_zero, List.set_cons_succ, List.getElem?_cons_zero, List.getElem?_cons_succ] at q0_0 q0_1 q0_2; have lt_q0 := q0.lt
    go_wp2_with fail
    refine (k1 _).mono ?_; rintro e w3 ⟨rfl, hb3⟩
    go_wp2_with fail
    go_ret2
    exact ⟨rfl, hb.step hb3⟩
  · have h0B : (c != 0) = true := by rw [bne_iff_ne]; exact h0
    rw [if_pos h0]
    go_enter Try.func18, Try.ntmps18
    go_wp2_with fail
    generalize hV : World.alloc w _ = w1
    have hb : Below w.heap.size w w1 := by subst hV; (repeat (first | with_reducible exact Below.refl _ _ | with_reducible assumption | with_reducible refine Below.drew ?_ | with_reducible refine Below.drewN ?_ _ | with_reducible refine Below.alloc1 ?_ _ | with_reducible refine Below.setCell1 ?_ (by first | omega | (simp; done) | (simp; omega)) _ | with_reducible refine Below.step ?_ (by with_reducible assumption)))
    clear hV
    refine (k0 _ (hm.step hb)).mono ?_; rintro e w2 ⟨rfl, hb2⟩
    go_wp2_with fail
    go_ret2
    exact ⟨rfl, hb.step hb2⟩
end Go.Proofs.Ytmncjoihhdefcaa
