/- Package utf: the iterator over a text's characters. -/
import Derived.Test.YtfgfkiifekeeaaaUtf2
import Derived.Test.YtfgfkiifekeeaaaUtfP
import Derived.Test.YtfgfkiifekeeaaaRng
namespace Go.Proofs.Ytfgfkiifekeeaaa
open Go.RowKit Go.Shelf
attribute [local go_sem] Oper.semAt_some
set_option linter.unusedSimpArgs false
set_option linter.unusedVariables false

def nx (s : ByteArray) : ByteArray := s.extract (uNext s.data.toList).2 s.size
theorem nx_list (s : ByteArray) : (nx s).data.toList = s.data.toList.drop (uNext s.data.toList).2 := by
  rw [nx, ext_list, List.take_of_length_le]
  show s.data.toList.length ≤ s.data.size
  rw [Array.length_toList]; exact Nat.le_refl _
theorem list_size (s : ByteArray) : s.data.toList.length = s.size := by rw [Array.length_toList]; rfl
theorem nx_size (s : ByteArray) : (nx s).size = s.size - (uNext s.data.toList).2 := by
  rw [← list_size, nx_list, List.length_drop, list_size]
theorem list_ne (s : ByteArray) (h : s.size ≠ 0) : s.data.toList ≠ [] := fun e => h (by rw [← list_size, e]; rfl)
def strIn (B : Nat) (w : World) : Nat := match w.cell? ⟨B, 0, none⟩ with | some (.string s) => s.size | _ => 0
theorem strIn_eq {B : Nat} {w : World} {s : ByteArray} (h : Bk w B 9 [.string s]) : strIn B w = s.size := by
  unfold strIn
  rw [h.cell 0]; rfl
set_option maxRecDepth 100000 in
set_option maxHeartbeats 4000000 in
theorem all1_seq (n B : Nat) : SeqC Fence.wide n Try.prog 71 #[.pointer (some ⟨B, 0, none⟩)] ⟨B, 0, none⟩ (fun s : ByteArray => s.size ≤ maxLen) (fun s => decide (s.size ≠ 0))
    (fun s => #[.int .i64 (uNext s.data.toList).1, .int .i64 ((uNext s.data.toList).2 : Nat)]) nx (fun s W => Bk W B 9 [.string s]) := fun l J Jx s0 W hok hJ hJc hY h0 hh0 => by
  refine callsIn_of_wp Try.func71 rfl trivial ?_ rfl
  simp only [Try.ntmps71, List.size_toArray, List.length_cons, List.length_nil, Nat.reduceAdd, Nat.reduceSub, Array.replicate_succ, Array.replicate_zero, List.push_toArray, List.append_toArray, List.nil_append, List.cons_append]
  gi_wp2
  gi_loopw [3] (fun _ wr => ∃ s : ByteArray, s.size ≤ maxLen ∧ J s wr ∧ Bk wr B 9 [.string s]) (fun _ wr => strIn B wr)
  case atStart => exact ⟨s0, hok, h0, hh0⟩
  case round =>
    obtain ⟨s, hs, hJs, k⟩ := hrel
    have k_0 := k.cell 0; have k_f0 := k.frozen 0; simp only [List.set_cons_zero, List.set_cons_succ, List.getElem?_cons_zero, List.getElem?_cons_succ] at k_0; have lt_k := k.lt
    by_cases hz : s.size = 0
    · have bE : s.toList.isEmpty = true := by rw [isE]; simp [hz]
      gi_wp2
      go_end0
      exact ⟨⟨_, rfl⟩, .inl ⟨s, by simp [hz], hJs⟩⟩
    have bE : s.toList.isEmpty = false := by rw [isE]; simp [hz]
    have hsz := uNext_size s.data.toList
    rw [list_size] at hsz
    have hn1 := hsz.2.1 (list_ne s hz)
    have hY2 := fun w1 => hY s w1 hs (by simp [hz])
    (try dsimp only at hY2)
    have HN := hide (show (nx s).size = s.size - (uNext s.data.toList).2 ∧ nx s = s.extract (uNext s.data.toList).2 s.size from ⟨nx_size s, rfl⟩)
    have hnext := fun w => utf_Next_any s hs w
    generalize uNext s.data.toList = cn at *
    obtain ⟨c, m⟩ := cn
    (try dsimp only at *)
    have hst := hide (strIn_eq k)
    gi_wp2_with fail
    refine ⟨trivial, (fun h => by cases h), ?_⟩
    refine (callsIn_wide.2 (hnext _)).mono ?_; rintro e w1 ⟨rfl, hb1⟩
    have hJ1 := hJ s _ _ hJs hb1
    replace k := k.step hb1; (try clear k_0 k_f0); have k_0 := k.cell 0; have k_f0 := k.frozen 0; simp only [List.set_cons_zero, List.set_cons_succ, List.getElem?_cons_zero, List.getElem?_cons_succ] at k_0; (try clear lt_k); have lt_k := k.lt
    obtain ⟨fn, tmps, assign, body, hy, hR⟩ := hY2 w1 hJ1 k
    clear hY hY2 hJs hb1
    gi_wp2
    refine ⟨(fun h => by cases h), hR.mono ?_⟩
    rintro e W3 (⟨rfl, hJ3, k3⟩ | ⟨rfl, hJx3⟩)
    · clear k_0 k_f0 k lt_k
      have k3_0 := k3.cell 0; have k3_f0 := k3.frozen 0; simp only [List.set_cons_zero, List.set_cons_succ, List.getElem?_cons_zero, List.getElem?_cons_succ] at k3_0; have lt_k3 := k3.lt
      gi_wp2
      go_roundw
      case rel =>
        refine ⟨nx s, by rw [HN.out.1]; omega, hJc _ _ _ hJ3, ?_⟩
        rw [HN.out.2]
        exact k3.set_ 0 _
      case measure =>
        rw [strIn_eq (k3.set_ 0 _), hst.out, ← HN.out.2, HN.out.1]
        omega
    · gi_wp2
      refine bodyPost_ret (results_none rfl _ _ _) rfl ?_
      exact ⟨⟨_, rfl⟩, .inr hJx3⟩
theorem utf_all_any (s : ByteArray) (w : World) : Calls Try.prog 60 #[.string s] w fun e w' => e = .returned (.func (.func 71) #[] #[.pointer (some ⟨w.heap.size, 0, none⟩)]) ∧ Below w.heap.size w w' ∧ Bk w' w.heap.size 9 [.string s] := by
  go_enter Try.func60, Try.ntmps60
  go_wp2
  go_ret
  exact ⟨rfl, by (repeat (first | with_reducible exact Below.refl _ _ | with_reducible assumption | with_reducible refine Below.drew ?_ | with_reducible refine Below.drewN ?_ _ | with_reducible refine Below.alloc1 ?_ _ | with_reducible refine Below.setCell1 ?_ (by first | omega | (simp; done) | (simp; omega)) _ | with_reducible refine Below.step ?_ (by with_reducible assumption))), Bk.new w 9 [.string s]⟩
/-- a loop over a text's characters -/
theorem wpIn_all {g : Operand} {ps : Array Tmp} {assign body : Code} {Q : Exit → Act → World → Prop} {a : Act} {w : World} {B : Nat}
    (hg : a.eval g = .func (.func 71) #[] #[.pointer (some ⟨B, 0, none⟩)]) (hps : ps.size = 2) (s0 : ByteArray) (hs0 : s0.size ≤ maxLen) (k : Bk w B 9 [.string s0])
    (I : ByteArray → World → Prop) (Ix : Code → World → Prop)
    (hI : ∀ s W1 W2, I s W1 → Below W1.heap.size W1 W2 → I s W2) (hIc : ∀ s W1 v, I s W1 → I s (W1.setCell ⟨B, 0, none⟩ v))
    (hIo : ∀ s W l o o', I s W → w.heap.size ≤ l → W.heap[l]? = some o → o.isCells = false → I s (W.putObj l o'))
    (hIxo : ∀ c W l o o', Ix c W → w.heap.size ≤ l → W.heap[l]? = some o → o.isCells = false → Ix c (W.putObj l o'))
    (h0 : I s0 w) (a₁ : Int → Nat → Act)
    (hassign : ∀ (l : Nat) (c : Int) (m : Nat) (W : World) (K : Act → World → Prop), K (a₁ c m) W →
      assign.wpIn (Fence.wide.inRound l) (3 - 1 - 1) Try.prog (Exit.then K (fun _ _ _ => False)) { tmps := (ps.zip #[.int .i64 c, .int .i64 (m : Nat)]).foldl (fun t (p, v) => t.setIfInBounds p v) a.tmps, defers := [] } W)
    (hbody : ∀ (l : Nat) (s : ByteArray) (c : Int) (m : Nat) (W : World), s.size ≤ maxLen → s.size ≠ 0 → uNext s.data.toList = (c, m) → I s W → Bk W B 9 [.string s] →
      body.wpIn (Fence.wide.inRound l) (3 - 1 - 1) Try.prog (cPost (fun s W => Bk W B 9 [.string s]) I Ix s (nx s) W) (a₁ c m) W)
    (hdone : ∀ (D : Nat) (s : ByteArray) (W : World), w.heap.size ≤ D → s.size = 0 → I s W → W.heap[D]? = some (.deferred (some [])) → Q .normal { a with defers := { target := .collected D, args := #[] } :: a.defers } W)
    (hstop : ∀ (D : Nat) (c : Code) (W : World), w.heap.size ≤ D → Ix c W → W.heap[D]? = some (.deferred (some [])) → c.wpIn Fence.wide 3 Try.prog Q { a with defers := { target := .collected D, args := #[] } :: a.defers } W) :
    (Code.rangeFunc g ps assign body).wpIn Fence.wide 3 Try.prog Q a w :=
  wpIn_rangeC rfl (by omega) hg trivial (enters_of Try.func71 (by kernel_rfl) rfl) (all1_seq (3 - 1) B)
    (fun s W l o o' h _ hl ho => h.put o' hl ho) (fun s W o h => h.alloc o) (fun s => hps.symm) I Ix hI hIc hIo hIxo s0 hs0 h0 k
    (fun s => a₁ (uNext s.data.toList).1 (uNext s.data.toList).2) (fun l s W K hK => hassign l _ _ W K hK)
    (fun l s W h1 h2 h3 h4 => hbody l s _ _ W h1 (by simpa using h2) rfl h3 h4)
    (fun D s W h1 h2 h3 h4 => hdone D s W h1 (by simpa using h2) h3 h4) hstop
end Go.Proofs.Ytfgfkiifekeeaaa
