/- Package addr: text, Print, Parse. -/
import Derived.Test.YtfgfkiifekeeaaaAd3
namespace Go.Proofs.Ytfgfkiifekeeaaa
open Go.RowKit Go.Shelf
set_option linter.unusedSimpArgs false
set_option linter.unusedVariables false

theorem results_row_tmp {P : Program} {fn : Func} {p u : Tmp} {ty : TypeId} (h : fn.results = #[.cell p ty, .tmp u]) (tmps : Array Value) (w : World) (g : Nat) (t : TypeId) (cs : List Value) (d : TypeDesc)
    (hp : tmps.getD p undef = .pointer (some ⟨g, 0, none⟩)) (hg : Bk w g t cs)
    (hu : P.underlying ty = some d) (hd : (match d with | .struct _ | .array _ _ => true | _ => false) = true) (hi : (P.info? ty).map (·.size) = some cs.toArray.size) :
    (results fn tmps).run P w = .ok (.tuple #[.agg cs.toArray, tmps.getD u undef]) w := by
  have hp' : tmps[p]?.getD undef = .pointer (some ⟨g, 0, none⟩) := by simpa using hp
  simp [results, h, hp', asAddr, run_loadVar_row w g t ty cs.toArray (0, 0) d hg hu hd hi]
theorem ba_append (a b : ByteArray) : a ++ b = strOf (a.data.toList ++ b.data.toList) := by
  apply ba_ext
  rw [bytes_append, strOf_list]
theorem cut_len (s sep : List UInt8) : (Lib.cut s sep).1.length ≤ s.length ∧ (Lib.cut s sep).2.1.length ≤ s.length := by
  unfold Lib.cut
  split
  · exact ⟨by dsimp only; rw [List.length_take]; omega, by dsimp only; rw [List.length_drop]; omega⟩
  · exact ⟨Nat.le_refl _, by simp⟩
theorem ba_len (a b : ByteArray) : (a ++ b).size = a.size + b.size := by rw [← list_size, bytes_append, List.length_append, list_size, list_size]
set_option maxRecDepth 100000 in
set_option maxHeartbeats 4000000 in
theorem addr_text_any (n h r : ByteArray) (hn : n.size ≤ 1000000) (hh : h.size ≤ 1000000) (hr : r.size ≤ 1000000) (w : World) : Calls Try.prog 55 #[aV n h r] w fun e w' =>
    e = .returned (.string (strOf (aText (n.data.toList, h.data.toList, r.data.toList)))) ∧ Below w.heap.size w w' := by
  have hrE := isE2 r
  have e1 : (⟨#[64]⟩ : ByteArray).size = 1 := rfl
  have e2 : (⟨#[47]⟩ : ByteArray).size = 1 := rfl
  have s1 : n.size + (⟨#[64]⟩ : ByteArray).size ≤ 9223372036854775807 := by omega
  have s2 : (n ++ (⟨#[64]⟩ : ByteArray)).size + h.size ≤ 9223372036854775807 := by rw [ba_len]; omega
  have s3 : (⟨#[47]⟩ : ByteArray).size + r.size ≤ 9223372036854775807 := by omega
  have s4 : (n ++ (⟨#[64]⟩ : ByteArray) ++ h).size + ((⟨#[47]⟩ : ByteArray) ++ r).size ≤ 9223372036854775807 := by rw [ba_len, ba_len, ba_len]; omega
  have t1 : n ++ (⟨#[64]⟩ : ByteArray) ++ h = strOf (n.data.toList ++ 64 :: h.data.toList) := by
    apply ba_ext
    rw [bytes_append, bytes_append, strOf_list]
    simp
  have t2 : n ++ (⟨#[64]⟩ : ByteArray) ++ h ++ ((⟨#[47]⟩ : ByteArray) ++ r) = strOf (n.data.toList ++ 64 :: h.data.toList ++ 47 :: r.data.toList) := by
    apply ba_ext
    rw [bytes_append, bytes_append, bytes_append, bytes_append, strOf_list]
    simp
  obtain ⟨R, hR⟩ : ∃ R, R = strOf (aText (n.data.toList, h.data.toList, r.data.toList)) := ⟨_, rfl⟩
  rw [← hR]
  unfold aText at hR
  dsimp only at hR
  by_cases er : r.data.toList = []
  · rw [decide_eq_true er] at hrE
    rw [if_pos er, List.append_nil, ← t1] at hR
    subst hR
    clear t1 t2 e1 e2 er
    unfold aV
    go_enter Try.func55, Try.ntmps55
    go_wp2_with fail
    go_ret
    exact ⟨rfl, by (repeat (first | with_reducible exact Below.refl _ _ | with_reducible assumption | with_reducible refine Below.drew ?_ | with_reducible refine Below.drewN ?_ _ | with_reducible refine Below.alloc1 ?_ _ | with_reducible refine Below.setCell1 ?_ (by first | omega | (simp; done) | (simp; omega)) _ | with_reducible refine Below.step ?_ (by with_reducible assumption)))⟩
  · rw [decide_eq_false er] at hrE
    rw [if_neg er, ← t2] at hR
    subst hR
    clear t1 t2 e1 e2 er
    unfold aV
    go_enter Try.func55, Try.ntmps55
    go_wp2_with fail
    go_ret
    exact ⟨rfl, by (repeat (first | with_reducible exact Below.refl _ _ | with_reducible assumption | with_reducible refine Below.drew ?_ | with_reducible refine Below.drewN ?_ _ | with_reducible refine Below.alloc1 ?_ _ | with_reducible refine Below.setCell1 ?_ (by first | omega | (simp; done) | (simp; omega)) _ | with_reducible refine Below.step ?_ (by with_reducible assumption)))⟩
end Go.Proofs.Ytfgfkiifekeeaaa
