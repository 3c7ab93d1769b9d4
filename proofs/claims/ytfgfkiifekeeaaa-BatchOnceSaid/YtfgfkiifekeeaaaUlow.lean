/- Package utf: Low. -/
import Derived.Test.YtfgfkiifekeeaaaUcnt
import Derived.RangeFuncBox
import Derived.Maps.AppendAt
import Derived.Laws.BytesArg
namespace Go.Proofs.Ytfgfkiifekeeaaa
open Go.RowKit Go.Shelf
set_option linter.unusedSimpArgs false
set_option linter.unusedVariables false

def strOf (l : List UInt8) : ByteArray := ⟨l.toArray⟩
theorem strOf_list (l : List UInt8) : (strOf l).data.toList = l := rfl
theorem strOf_size (l : List UInt8) : (strOf l).size = l.length := rfl
theorem strOf_of (s : ByteArray) : strOf s.data.toList = s := rfl
def lowS (s : ByteArray) : ByteArray := strOf (s.data.toList.map uLow)
theorem b_or32 (n : Nat) (h : n < 256) (h1 : 65 ≤ n ∧ n ≤ 90) : bits .or .u8 (n : Int) 32 = ((n + 32 : Nat) : Int) := by
  revert n
  decide +kernel
theorem uLow_toNat (b : UInt8) : (uLow b).toNat = if 65 ≤ b.toNat ∧ b.toNat ≤ 90 then b.toNat + 32 else b.toNat := by
  unfold uLow
  split
  · exact u8_of _ (by omega)
  · rfl
theorem bytes_frozen (w : World) (s : ByteArray) (cap j : Nat) (h : j < s.size) (e : TypeId) : (World.alloc w (.cells (bytesRow s cap) e ((bytesRow s cap).size, (bytesRow s cap).size + 1))).frozen? ⟨w.heap.size, j, none⟩ = false := by
  have hh : (World.alloc w (.cells (bytesRow s cap) e ((bytesRow s cap).size, (bytesRow s cap).size + 1))).heap[w.heap.size]? = some (.cells (bytesRow s cap) e ((bytesRow s cap).size, (bytesRow s cap).size + 1)) := heap_alloc_new w _
  have hz : s.size ≤ (bytesRow s cap).size := by
    unfold bytesRow
    rw [Array.size_append, Array.size_map]
    exact Nat.le_add_right _ _
  unfold World.frozen?
  rw [hh]
  simp
  omega
set_option maxRecDepth 100000 in
set_option maxHeartbeats 4000000 in
theorem utf_Low_any (s : ByteArray) (hs : s.size ≤ maxLen) (w : World) : Calls Try.prog 61 #[.string s] w fun e w' => e = .returned (.string (lowS s)) ∧ Below w.heap.size w w' := by
  unfold maxLen at hs
  have hcv := fun w s => run_bytes_of_string (P := Try.prog) w 9 76 5 s Try.underlying9 Try.underlying76 Try.underlying5
  have hback := fun w (l : List UInt8) cap g h => run_convert_bytes_back (P := Try.prog) w 76 9 5 ⟨g, 0, none⟩ cap l Try.underlying76 Try.underlying5 Try.underlying9 h
  go_enter Try.func61, Try.ntmps61
  go_wp2_with fail
  generalize grownCap w s.size 0 5 = cap at *
  generalize hV : (World.alloc w _).drew = w1
  have hb : Below w.heap.size w w1 := by subst hV; (repeat (first | with_reducible exact Below.refl _ _ | with_reducible assumption | with_reducible refine Below.drew ?_ | with_reducible refine Below.drewN ?_ _ | with_reducible refine Below.alloc1 ?_ _ | with_reducible refine Below.setCell1 ?_ (by first | omega | (simp; done) | (simp; omega)) _ | with_reducible refine Below.step ?_ (by with_reducible assumption)))
  have hc0 : ∀ j x, s.data.toList[j]? = some x → w1.cell? ⟨w.heap.size, j, none⟩ = some (.int .u8 x.toNat) := by
    intro j x hj
    subst hV
    obtain ⟨hlt, rfl⟩ := List.getElem?_eq_some_iff.1 hj
    rw [list_size] at hlt
    show (World.alloc w _).cell? ⟨w.heap.size, j, none⟩ = _
    rw [World.cell?_alloc_mark, bytesRow_at _ _ j hlt]
    simp [ByteArray.getElem_eq_getElem_data]
  have hf0 : ∀ j, j < s.size → w1.frozen? ⟨w.heap.size, j, none⟩ = false := by
    intro j hj
    subst hV
    exact bytes_frozen w s cap j hj 5
  clear hV hcv
  go_loopw [10] (fun i wr => ∃ k : Nat, k ≤ s.size ∧ i = .int .i64 k ∧ (∀ j x, s.data.toList[j]? = some x → wr.cell? ⟨w.heap.size, j, none⟩ = some (.int .u8 (if j < k then uLow x else x).toNat)) ∧ (∀ j, j < s.size → wr.frozen? ⟨w.heap.size, j, none⟩ = false) ∧ Below w.heap.size w wr) (fun i _ => s.size - (intOf i).toNat)
  case atStart => exact ⟨0, by omega, rfl, fun j x h => by rw [hc0 j x h, if_neg (by omega)], hf0, hb⟩
  case round =>
    clear hc0 hf0 hb
    obtain ⟨k, hk, rfl, hc, hf, hb⟩ := hrel
    by_cases hlt : k < s.size
    · have hltI : (k : Int) < (s.size : Int) := by omega
      obtain ⟨x, hx⟩ : ∃ x, s.data.toList[k]? = some x := ⟨_, List.getElem?_eq_getElem (by rw [list_size]; exact hlt)⟩
      have hck := hc k x hx
      rw [if_neg (by omega)] at hck
      have hfk := hf k hlt
      have HC := hide hc
      have HF := hide hf
      have hx2 := hide hx
      have hxb := x.toNat_lt
      have hlx := hide (uLow_toNat x)
      clear hc hf hx
      by_cases h1 : 65 ≤ x.toNat
      · have h1I : (65 : Int) ≤ (x.toNat : Int) := by omega
        by_cases h2 : x.toNat ≤ 90
        · have h2I : (x.toNat : Int) ≤ 90 := by omega
          have ho := b_or32 x.toNat hxb ⟨h1, h2⟩
          go_wp2
          go_roundw
          case rel =>
            refine ⟨k + 1, by omega, by simp, ?_, ?_, hb.setCell (Nat.le_refl _) _⟩
            · intro j y hj
              by_cases hjk : j = k
              · subst hjk
                have e : x = y := by have := hx2.out; rw [hj] at this; exact (Option.some.inj this).symm
                subst e
                rw [World.cell?_setCell_same' _ _ _ (by rw [hck]; rfl), if_pos (by omega), hlx.out, if_pos ⟨h1, h2⟩]; rfl
              · have hne : (⟨w.heap.size, k, none⟩ : Addr) ≠ ⟨w.heap.size, j, none⟩ := by intro e; injection e with e1 e2; omega
                rw [World.cell?_setCell_other (h := hne), HC.out j y hj]
                congr 2
                by_cases h : j < k
                · rw [if_pos h, if_pos (by omega)]
                · rw [if_neg h, if_neg (by omega)]
            · intro j hj
              rw [World.frozen?_setCell]; exact HF.out j hj
          case measure => simp [intOf]; omega
        · have h2I : (90 : Int) < (x.toNat : Int) := by omega
          go_wp2
          go_roundw
          case rel =>
            refine ⟨k + 1, by omega, by simp, ?_, HF.out, hb⟩
            intro j y hj
            rw [HC.out j y hj]
            by_cases hjk : j = k
            · subst hjk
              have e : x = y := by have := hx2.out; rw [hj] at this; exact (Option.some.inj this).symm
              subst e
              rw [if_neg (by omega), if_pos (by omega), hlx.out, if_neg (by omega)]
            · by_cases h : j < k
              · rw [if_pos h, if_pos (by omega)]
              · rw [if_neg h, if_neg (by omega)]
          case measure => simp [intOf]; omega
      · have h1I : (x.toNat : Int) < 65 := by omega
        go_wp2
        go_roundw
        case rel =>
          refine ⟨k + 1, by omega, by simp, ?_, HF.out, hb⟩
          intro j y hj
          rw [HC.out j y hj]
          by_cases hjk : j = k
          · subst hjk
            have e : x = y := by have := hx2.out; rw [hj] at this; exact (Option.some.inj this).symm
            subst e
            rw [if_neg (by omega), if_pos (by omega), hlx.out, if_neg (by omega)]
          · by_cases h : j < k
            · rw [if_pos h, if_pos (by omega)]
            · rw [if_neg h, if_neg (by omega)]
        case measure => simp [intOf]; omega
    · obtain rfl : k = s.size := by omega
      have hcb := hback wr (s.data.toList.map uLow) cap w.heap.size (by
        intro j hj
        rw [List.length_map, list_size] at hj
        have hx : s.data.toList[j]? = some (s.data.toList[j]'(by rw [list_size]; exact hj)) := List.getElem?_eq_getElem _
        have e : (⟨w.heap.size, 0, none⟩ : Addr).add j = ⟨w.heap.size, j, none⟩ := by unfold Addr.add; split <;> simp_all
        rw [e, hc j _ hx, if_pos hj, List.getElem_map])
      rw [List.length_map, list_size] at hcb
      clear hback hc hf
      go_wp2
      go_ret
      exact ⟨rfl, hb⟩
end Go.Proofs.Ytfgfkiifekeeaaa
