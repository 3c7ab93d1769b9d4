/- The document's answers of layer 2: character, Put. -/
import Derived.Test.YtfgfkiifekeeaaaUlow
namespace Go.Proofs.Ytfgfkiifekeeaaa
open Go.RowKit Go.Shelf
set_option linter.unusedSimpArgs false
set_option linter.unusedVariables false

theorem ref02_character_any (c : Int) (w : World) : Calls Try.prog 97 #[.int .i64 c] w fun e w' => e = .returned (.bool (uChar c)) ∧ w = w' := by
  unfold uChar
  by_cases h1 : 0 ≤ c <;> by_cases h2 : c ≤ 1114111 <;> by_cases h3 : c < 55296 <;> by_cases h4 : 57343 < c <;>
    first | omega | (go_enter Try.func97, Try.ntmps97; go_wp2; go_ret; exact ⟨by simp [h1, h2, h3, h4], rfl⟩)
set_option maxRecDepth 1000000 in
set_option maxHeartbeats 4000000 in
theorem ref02_Put_any (c : Int) (w : World) : Calls Try.prog 92 #[.int .i64 c] w fun e w' => e = .returned (if uChar c then .tuple #[.string (strOf (uPut c)), .int .i64 0] else .tuple #[.string ByteArray.empty, .int .i64 8]) ∧ Below w.heap.size w w' := by
  have hch := fun W => ref02_character_any c W
  by_cases hcc : uChar c = true
  case neg =>
    have hcf : uChar c = false := by simpa using hcc
    rw [hcf] at hch ⊢
    go_enter Try.func92, Try.ntmps92
    go_wp2_with fail
    refine (hch _).mono ?_; rintro e w1 ⟨rfl, rfl⟩
    go_wp2_with fail
    go_ret2
    exact ⟨rfl, Below.refl _ _⟩
  rw [if_pos hcc]
  rw [hcc] at hch
  have hb := (uChar_iff c).1 hcc
  clear hcc
  obtain ⟨q, rfl⟩ : ∃ q : Nat, c = (q : Int) := ⟨c.toNat, by omega⟩
  have hq : q ≤ 1114111 := by omega
  clear hb
  obtain ⟨R, hR⟩ : ∃ R, R = strOf (uPut (q : Int)) := ⟨_, rfl⟩
  rw [← hR]
  replace hR := hide hR
  have hback := fun w (l : List UInt8) cap g h => run_convert_bytes_back (P := Try.prog) w 76 9 5 ⟨g, 0, none⟩ cap l Try.underlying76 Try.underlying5 Try.underlying9 h
  have HB := hide hback
  clear hback
  have fin : ∀ (w1 : World) (cs : List Value) (n : Nat), Bk w1 w.heap.size 5 cs → cs = (uPut (q : Int)).map (fun b => Value.int .u8 (b.toNat : Int)) → cs.length = n →
      (convert 76 9 (.slice (some ⟨w.heap.size, 0, none⟩) n n)).run Try.prog w1 = .ok (.string R) w1 := by
    intro w1 cs n k6 hcs hn
    have hcb := HB.out w1 (uPut q) n w.heap.size (by
      intro j hj
      have e : (⟨w.heap.size, 0, none⟩ : Addr).add j = ⟨w.heap.size, j, none⟩ := by unfold Addr.add; split <;> simp_all
      rw [e, k6.cell, hcs, List.getElem?_map, List.getElem?_eq_getElem hj]; rfl)
    have : n = (uPut (q : Int)).length := by rw [← hn, hcs, List.length_map]
    rw [← this] at hcb
    rw [hcb, hR.out]; rfl
  replace fin := hide fin
  by_cases h1 : q < 128
  case pos =>
    go_enter Try.func92, Try.ntmps92
    go_wp2_with fail
    refine (hch _).mono ?_; rintro e w1 ⟨rfl, rfl⟩
    go_wp2_with fail
    rw [fin.out _ _ 1 (Bk.new w 5 _) (by
      unfold uPut uPutN
      rw [Int.toNat_natCast, if_pos h1]
      simp only [List.map_cons, List.map_nil]
      rw [u8_of _ (by omega)]
      (try simp)) rfl]
    simp only [Result.andThen]
    rw [Oper.upon_value]
    clear fin HB hch
    go_wp2_with fail
    go_ret2
    exact ⟨rfl, by (repeat (first | with_reducible exact Below.refl _ _ | with_reducible assumption | with_reducible refine Below.drew ?_ | with_reducible refine Below.drewN ?_ _ | with_reducible refine Below.alloc1 ?_ _ | with_reducible refine Below.setCell1 ?_ (by first | omega | (simp; done) | (simp; omega)) _ | with_reducible refine Below.step ?_ (by with_reducible assumption)))⟩
  by_cases h2 : q < 2048
  case pos =>
    go_enter Try.func92, Try.ntmps92
    go_wp2_with fail
    refine (hch _).mono ?_; rintro e w1 ⟨rfl, rfl⟩
    go_wp2_with fail
    rw [fin.out _ _ 2 (Bk.new w 5 _) (by
      unfold uPut uPutN
      rw [Int.toNat_natCast, if_neg h1, if_pos h2]
      simp only [List.map_cons, List.map_nil]
      rw [u8_of _ (by omega), u8_of _ (by omega)]
      (try simp)) rfl]
    simp only [Result.andThen]
    rw [Oper.upon_value]
    clear fin HB hch
    go_wp2_with fail
    go_ret2
    exact ⟨rfl, by (repeat (first | with_reducible exact Below.refl _ _ | with_reducible assumption | with_reducible refine Below.drew ?_ | with_reducible refine Below.drewN ?_ _ | with_reducible refine Below.alloc1 ?_ _ | with_reducible refine Below.setCell1 ?_ (by first | omega | (simp; done) | (simp; omega)) _ | with_reducible refine Below.step ?_ (by with_reducible assumption)))⟩
  by_cases h3 : q < 65536
  case pos =>
    go_enter Try.func92, Try.ntmps92
    go_wp2_with fail
    refine (hch _).mono ?_; rintro e w1 ⟨rfl, rfl⟩
    go_wp2_with fail
    rw [fin.out _ _ 3 (Bk.new w 5 _) (by
      unfold uPut uPutN
      rw [Int.toNat_natCast, if_neg h1, if_neg h2, if_pos h3]
      simp only [List.map_cons, List.map_nil]
      rw [u8_of _ (by omega), u8_of _ (by omega), u8_of _ (by omega)]
      (try simp)) rfl]
    simp only [Result.andThen]
    rw [Oper.upon_value]
    clear fin HB hch
    go_wp2_with fail
    go_ret2
    exact ⟨rfl, by (repeat (first | with_reducible exact Below.refl _ _ | with_reducible assumption | with_reducible refine Below.drew ?_ | with_reducible refine Below.drewN ?_ _ | with_reducible refine Below.alloc1 ?_ _ | with_reducible refine Below.setCell1 ?_ (by first | omega | (simp; done) | (simp; omega)) _ | with_reducible refine Below.step ?_ (by with_reducible assumption)))⟩
  case neg =>
    go_enter Try.func92, Try.ntmps92
    go_wp2_with fail
    refine (hch _).mono ?_; rintro e w1 ⟨rfl, rfl⟩
    go_wp2_with fail
    rw [fin.out _ _ 4 (Bk.new w 5 _) (by
      unfold uPut uPutN
      rw [Int.toNat_natCast, if_neg h1, if_neg h2, if_neg h3]
      simp only [List.map_cons, List.map_nil]
      rw [u8_of _ (by omega), u8_of _ (by omega), u8_of _ (by omega), u8_of _ (by omega)]
      (try simp)) rfl]
    simp only [Result.andThen]
    rw [Oper.upon_value]
    clear fin HB hch
    go_wp2_with fail
    go_ret2
    exact ⟨rfl, by (repeat (first | with_reducible exact Below.refl _ _ | with_reducible assumption | with_reducible refine Below.drew ?_ | with_reducible refine Below.drewN ?_ _ | with_reducible refine Below.alloc1 ?_ _ | with_reducible refine Below.setCell1 ?_ (by first | omega | (simp; done) | (simp; omega)) _ | with_reducible refine Below.step ?_ (by with_reducible assumption)))⟩
end Go.Proofs.Ytfgfkiifekeeaaa
