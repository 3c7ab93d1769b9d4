/- Package chain: math/bits.Mul, slices.Repeat. -/
import Derived.Test.YthicpjfdljgfpaaChx
import Derived.Shelf.Spec.SlicesInsert
namespace Go.Proofs.Ythicpjfdljgfpaa
open Go.RowKit Go.Sort
set_option linter.unusedSimpArgs false
set_option linter.unusedVariables false

theorem and_small : ∀ n : Fin 65, bits BinOp.and IntKind.u64 ((n.val : Nat) : Int) 4294967295 = ((n.val : Nat) : Int) := by decide
set_option maxRecDepth 100000 in
set_option maxHeartbeats 4000000 in
theorem mul64_one (n : Nat) (hn : n ≤ 64) (w : World) :
    Calls Try.prog 65 #[.int .u64 1, .int .u64 n] w fun e w' => e = .returned (.tuple #[.int .u64 0, .int .u64 n]) ∧ Below w.heap.size w w' := by
  have a0 : bits BinOp.and IntKind.u64 0 4294967295 = 0 := and_small ⟨0, by omega⟩
  have a1 : bits BinOp.and IntKind.u64 1 4294967295 = 1 := and_small ⟨1, by omega⟩
  have an : bits BinOp.and IntKind.u64 (n : Int) 4294967295 = n := and_small ⟨n, by omega⟩
  have d0 : (n : Int) / 4294967296 = 0 := by omega
  have wn : IntKind.u64.wrap (n : Int) = n := IntWalk.u64_in _ (by omega)
  go_enter Try.func65, Try.ntmps65
  go_wp2
  go_ret2
  exact ⟨rfl, by (repeat (first | with_reducible exact Below.refl _ _ | with_reducible assumption | with_reducible refine Below.drew ?_ | with_reducible refine Below.drewN ?_ _ | with_reducible refine Below.alloc1 ?_ _ | with_reducible refine Below.setCell1 ?_ (by first | omega | (simp; done) | (simp; omega)) _ | with_reducible refine Below.step ?_ (by with_reducible assumption)))⟩
set_option maxRecDepth 100000 in
set_option maxHeartbeats 4000000 in
theorem mul_one_ (n : Nat) (hn : n ≤ 64) (w : World) :
    Calls Try.prog 58 #[.int .u64 1, .int .u64 n] w fun e w' => e = .returned (.tuple #[.int .u64 0, .int .u64 n]) ∧ Below w.heap.size w w' := by
  have hM := fun W => mul64_one n hn W
  go_enter Try.func58, Try.ntmps58
  go_wp2_with fail
  refine (hM _).mono ?_; rintro e w2 ⟨rfl, hx⟩
  go_wp2
  go_ret2
  exact ⟨rfl, by (repeat (first | with_reducible exact Below.refl _ _ | with_reducible assumption | with_reducible refine Below.drew ?_ | with_reducible refine Below.drewN ?_ _ | with_reducible refine Below.alloc1 ?_ _ | with_reducible refine Below.setCell1 ?_ (by first | omega | (simp; done) | (simp; omega)) _ | with_reducible refine Below.step ?_ (by with_reducible assumption)))⟩
/-- n times the same -/
def rep (xs : List Value) (n : Nat) : List Value := (List.replicate n xs).flatten
theorem rep_length (xs : List Value) (n : Nat) : (rep xs n).length = n * xs.length := by simp [rep]
theorem rep_add (xs : List Value) (a b : Nat) : rep xs (a + b) = rep xs a ++ rep xs b := by simp [rep, ← List.flatten_append, ← List.replicate_append_replicate]
theorem rep_take (xs : List Value) (a b : Nat) (h : b ≤ a) : (rep xs a).take (b * xs.length) = rep xs b := by
  obtain ⟨c, rfl⟩ : ∃ c, a = b + c := ⟨a - b, by omega⟩
  rw [rep_add, List.take_left' (rep_length _ _)]
theorem rep_one (xs : List Value) (h : ∀ u ∈ xs, u.oneCell' = true) (n : Nat) : ∀ u ∈ rep xs n, u.oneCell' = true := by
  intro u hu
  simp only [rep, List.mem_flatten, List.mem_replicate] at hu
  obtain ⟨l, ⟨_, rfl⟩, hu⟩ := hu
  exact h u hu
set_option maxRecDepth 100000 in
set_option maxHeartbeats 8000000 in
theorem nodes_Repeat (v n : Nat) (w : World) (hn : 1 ≤ n ∧ n ≤ 64) (kv : Bk w v 63 [.int .i64 (-1), .int .i64 (-1), .int .i64 (-1)]) :
    Calls Try.prog 44 #[.slice (some ⟨v, 0, none⟩) 1 1, .int .i64 n] w fun e w' => ∃ g, e = .returned (.slice (some ⟨g, 0, none⟩) n n) ∧ w'.ownsRow w.heap.size 63 3 (.slice (some ⟨g, 0, none⟩) n n) n (rep [.int .i64 (-1), .int .i64 (-1), .int .i64 (-1)] n) ∧ Below w.heap.size w w' := by
  obtain ⟨i0, hi0, hz, hsz, hby⟩ := info_parts node_info
  have hM := fun W => mul_one_ n hn.2 W
  have hs1 : (Try.prog.info? 63).map (·.size) = some 3 := by rw [hi0]; simp [hsz]
  have hmk : ∀ W : World, ∃ Z : List Value, Z.length = n * 3 ∧ (Instr.makeSlice 28 (.int .i64 (n : Int)) (.int .i64 (n : Int))).run Try.prog W = .ok (.slice (some ⟨W.heap.size, 0, none⟩) n n) (W.alloc (.cells Z.toArray 63)) := fun W => by
    have h := run_make (P := Try.prog) W 28 63 i0 _ Try.underlying28 hi0 hz .i64 .i64 (n : Int) (n : Int) (by omega) (by omega) (by rw [hby]; omega) (by omega)
    refine ⟨(madeCells (ndV ⟨0, 0, 0⟩).cells (n * 3)).toList, by rw [Array.length_toList, size_madeCells], ?_⟩
    rw [h]; simp only [Int.toNat_natCast, hsz]
  have h1c : ∀ u ∈ ([.int .i64 (-1), .int .i64 (-1), .int .i64 (-1)] : List Value), u.oneCell' = true := by intro u hu; simp at hu; rcases hu with rfl | rfl | rfl <;> simp [Value.oneCell']
  have hxl : ([.int .i64 (-1), .int .i64 (-1), .int .i64 (-1)] : List Value).length = 3 := rfl
  have n0 : ¬ (n : Int) < 0 := by omega
  have wn : IntKind.u64.wrap (n : Int) = n := IntWalk.u64_in _ (by omega)
  have wn2 : IntKind.i64.wrap (n : Int) = n := IntWalk.i64_in _ (by omega)
  have n1 : ¬ (9223372036854775807 : Int) < (n : Int) := by omega
  clear hi0 hz hsz hby
  go_enter Try.func44, Try.ntmps44
  go_wp2_with fail
  refine (hM _).mono ?_; rintro e w2 ⟨rfl, hx⟩
  obtain ⟨Z, hZl, hmk2⟩ := hmk w2
  clear hmk hM
  replace kv := kv.step hx
  go_upto_region 7 with fail
  have hb1 : Below w.heap.size w (w2.alloc (.cells Z.toArray 63)) := by (repeat (first | with_reducible exact Below.refl _ _ | with_reducible assumption | with_reducible refine Below.drew ?_ | with_reducible refine Below.drewN ?_ _ | with_reducible refine Below.alloc1 ?_ _ | with_reducible refine Below.setCell1 ?_ (by first | omega | (simp; done) | (simp; omega)) _ | with_reducible refine Below.step ?_ (by with_reducible assumption)))
  have kG : Bk (w2.alloc (.cells Z.toArray 63)) w2.heap.size 63 Z := Bk.new _ _ _
  replace kv := kv.alloc (.cells Z.toArray 63)
  have hg0 : w.heap.size ≤ w2.heap.size := hx.size
  clear hmk2 hx
  generalize w2.alloc (.cells Z.toArray 63) = w3 at *
  generalize w2.heap.size = g at *
  have hr1 := run_copy_sz (P := Try.prog) w3 28 28 3 63 3 g 0 n n ⟨v, 0, none⟩ 1 1 1 Z.toArray 63 [.int .i64 (-1), .int .i64 (-1), .int .i64 (-1)] Try.underlying28 hs1 kG (by simp only [Nat.min_def]; split <;> omega) rfl
      (fun j u hu => by rw [Addr.add_lit, Nat.zero_add, kv.cell]; exact hu) (by simp only [List.size_toArray, hZl, hxl]; omega) h1c
  obtain ⟨R1, hR1⟩ : ∃ R1 : List Value, R1 = Z.take 0 ++ [.int .i64 (-1), .int .i64 (-1), .int .i64 (-1)] ++ Z.drop (0 + ([.int .i64 (-1), .int .i64 (-1), .int .i64 (-1)] : List Value).length) := ⟨_, rfl⟩
  have hr2 : (Builtin.copy_ #[28, 28] 3 #[.slice (some ⟨g, 0, none⟩) n n, .slice (some ⟨v, 0, none⟩) 1 1]).run Try.prog w3 = .ok (goInt 1) (w3.setRow g R1.toArray) := by rw [hR1]; exact hr1
  have kR : Bk (w3.setRow g R1.toArray) g 63 R1 := kG.row R1
  have HRl := hide (show R1 = rep [.int .i64 (-1), .int .i64 (-1), .int .i64 (-1)] 1 ++ Z.drop 3 ∧ (Z.drop 3).length = (n - 1) * 3 from ⟨by rw [hR1]; simp [rep], by rw [List.length_drop, hZl]; omega⟩)
  have hb2 : Below w.heap.size w (w3.setRow g R1.toArray) := setRow_below hb1 hg0 _
  clear hr1 hR1 kG kv hb1
  go_wp2_with (at_builtin; refine wpList_copy_runI _ rfl _ _ 28 28 rfl _ _ rfl rfl hr2 ?_)
  clear hr2
  generalize w3.setRow g R1.toArray = w4 at *
  go_loopw [8] (fun kv wr => ∃ (k : Nat) (rest : List Value), kv = .int .i64 k ∧ (1 ≤ k ∧ k ≤ n) ∧ Hid (rest.length = (n - k) * 3) ∧ Bk wr g 63 (rep [.int .i64 (-1), .int .i64 (-1), .int .i64 (-1)] k ++ rest) ∧ Below w.heap.size w wr) (fun kv _ => match kv with | .int _ k => n - k.toNat | _ => 0)
  case atStart => exact ⟨1, Z.drop 3, rfl, by omega, hide HRl.out.2, by rw [← HRl.out.1]; exact kR, hb2⟩
  case round =>
    clear kR HRl hZl hb2
    obtain ⟨k, rest, rfl, hk, hrl, kR, hb⟩ := hrel
    by_cases he : k = n
    · subst he
      go_wp2
      go_ret
      refine ⟨g, rfl, own_of_row (rest := rest) kR hg0 rfl (by rw [rep_length, hxl]) (Nat.le_refl _) (by unfold maxLen; omega) ?_, hb⟩
      have := hrl.out
      rw [List.length_append, rep_length, this, hxl]; omega
    · have i1 : (k : Int) < (n : Int) := by omega
      have i2 : (0 : Int) ≤ (k : Int) := by omega
      have i3 : (k : Int) ≤ (n : Int) := by omega
      have hnk : ¬ n = k := by omega
      have hn0 : ¬ n = 0 := by omega
      obtain ⟨m, hm⟩ : ∃ m, Nat.min k (n - k) = m := ⟨_, rfl⟩
      have hmk : m ≤ k ∧ m ≤ n - k ∧ 1 ≤ m := by rw [← hm]; simp only [Nat.min_def]; split <;> omega
      have wkm : IntKind.i64.wrap ((k : Int) + (m : Int)) = (k : Int) + m := IntWalk.i64_in _ (by omega)
      have hcp : ∀ W, W.heap = wr.heap → (Builtin.copy_ #[28, 28] 3 #[.slice (some ⟨g, k * 3, none⟩) (n - k) (n - k), .slice (some ⟨g, 0, none⟩) k n]).run Try.prog W = .ok (goInt (m : Int)) (W.setRow g (rep [.int .i64 (-1), .int .i64 (-1), .int .i64 (-1)] (k + m) ++ rest.drop (m * 3)).toArray) := fun W hW => by
        have hkW : Bk W g 63 (rep [.int .i64 (-1), .int .i64 (-1), .int .i64 (-1)] k ++ rest) := by unfold Bk at kR ⊢; rw [hW]; exact kR
        have hrl' := hrl.out
        have h := run_copy_sz (P := Try.prog) W 28 28 3 63 3 g (k * 3) (n - k) (n - k) ⟨g, 0, none⟩ k n m (rep [.int .i64 (-1), .int .i64 (-1), .int .i64 (-1)] k ++ rest).toArray 63 (rep [.int .i64 (-1), .int .i64 (-1), .int .i64 (-1)] m) Try.underlying28 hs1 hkW hm (by rw [rep_length, hxl])
          (row_cells hkW (by
            have e := rep_take [.int .i64 (-1), .int .i64 (-1), .int .i64 (-1)] k m hmk.1
            rw [hxl] at e
            rw [List.drop_zero, rep_length, hxl, List.take_append_of_le_length (by rw [rep_length, hxl]; exact Nat.mul_le_mul_right _ hmk.1), e]))
          (by simp only [List.size_toArray, List.length_append, rep_length, hxl, hrl']; have := hmk.2.1; omega) (rep_one _ h1c m)
        rw [h]
        congr 2
        rw [rep_add, List.take_left' (by rw [rep_length, hxl]), rep_length, hxl, ← Nat.add_mul]
        rw [show (k + m) * 3 = (rep [.int .i64 (-1), .int .i64 (-1), .int .i64 (-1)] k).length + m * 3 by rw [rep_length, hxl, Nat.add_mul], List.toList_toArray, ← List.drop_drop, List.drop_left' rfl]
      have mixed : Try.prog.follows Departure.mixedOrders = true := by kernel_rfl
      have hr3 := hcp wr.drew rfl
      obtain ⟨w6, hw6⟩ : ∃ w6, w6 = wr.drew.setRow g (rep [.int .i64 (-1), .int .i64 (-1), .int .i64 (-1)] (k + m) ++ rest.drop (m * 3)).toArray := ⟨_, rfl⟩
      rw [← hw6] at hr3
      have kN : Bk w6 g 63 (rep [.int .i64 (-1), .int .i64 (-1), .int .i64 (-1)] (k + m) ++ rest.drop (m * 3)) := by rw [hw6]; exact kR.drew.row _
      have hbN : Below w.heap.size w w6 := by rw [hw6]; exact setRow_below hb.drew hg0 _
      clear hw6
      go_upto_region 9 with fail
      go_region_law_o (refine step_copy_runI rfl _ _ 28 28 rfl (.slice (some ⟨g, k * 3, none⟩) (n - k) (n - k)) (.slice (some ⟨g, 0, none⟩) k n) (by simp [Act.eval, Act.put]) (by simp [Act.eval, Act.put]) hr3 ?_)
      clear hr3 hcp hm
      go_simp
      go_wp2
      go_roundw
      case rel => exact ⟨k + m, rest.drop (m * 3), rfl, by omega, hide (by rw [List.length_drop, hrl.out]; omega), kN, hbN⟩
      case measure => simp; omega
set_option maxRecDepth 100000 in
set_option maxHeartbeats 8000000 in
theorem ints_Repeat (v n : Nat) (w : World) (hn : 1 ≤ n ∧ n ≤ 64) (kv : Bk w v 3 [.int .i64 (-1)]) :
    Calls Try.prog 45 #[.slice (some ⟨v, 0, none⟩) 1 1, .int .i64 n] w fun e w' => ∃ g, e = .returned (.slice (some ⟨g, 0, none⟩) n n) ∧ w'.ownsRow w.heap.size 3 1 (.slice (some ⟨g, 0, none⟩) n n) n (rep [.int .i64 (-1)] n) ∧ Below w.heap.size w w' := by
  obtain ⟨i0, hi0, hz, hsz, hby⟩ := info_parts cint_info
  have hM := fun W => mul_one_ n hn.2 W
  have hs1 : (Try.prog.info? 3).map (·.size) = some 1 := by rw [hi0]; simp [hsz]
  have hmk : ∀ W : World, ∃ Z : List Value, Z.length = n * 1 ∧ (Instr.makeSlice 23 (.int .i64 (n : Int)) (.int .i64 (n : Int))).run Try.prog W = .ok (.slice (some ⟨W.heap.size, 0, none⟩) n n) (W.alloc (.cells Z.toArray 3)) := fun W => by
    have h := run_make (P := Try.prog) W 23 3 i0 _ Try.underlying23 hi0 hz .i64 .i64 (n : Int) (n : Int) (by omega) (by omega) (by rw [hby]; omega) (by omega)
    refine ⟨(madeCells (Value.int .i64 0).cells (n * 1)).toList, by rw [Array.length_toList, size_madeCells], ?_⟩
    rw [h]; simp only [Int.toNat_natCast, hsz]
  have h1c : ∀ u ∈ ([.int .i64 (-1)] : List Value), u.oneCell' = true := by intro u hu; simp at hu; subst hu; simp [Value.oneCell']
  have hxl : ([.int .i64 (-1)] : List Value).length = 1 := rfl
  have n0 : ¬ (n : Int) < 0 := by omega
  have wn : IntKind.u64.wrap (n : Int) = n := IntWalk.u64_in _ (by omega)
  have wn2 : IntKind.i64.wrap (n : Int) = n := IntWalk.i64_in _ (by omega)
  have n1 : ¬ (9223372036854775807 : Int) < (n : Int) := by omega
  clear hi0 hz hsz hby
  go_enter Try.func45, Try.ntmps45
  go_wp2_with fail
  refine (hM _).mono ?_; rintro e w2 ⟨rfl, hx⟩
  obtain ⟨Z, hZl, hmk2⟩ := hmk w2
  clear hmk hM
  replace kv := kv.step hx
  go_upto_region 7 with fail
  have hb1 : Below w.heap.size w (w2.alloc (.cells Z.toArray 3)) := by (repeat (first | with_reducible exact Below.refl _ _ | with_reducible assumption | with_reducible refine Below.drew ?_ | with_reducible refine Below.drewN ?_ _ | with_reducible refine Below.alloc1 ?_ _ | with_reducible refine Below.setCell1 ?_ (by first | omega | (simp; done) | (simp; omega)) _ | with_reducible refine Below.step ?_ (by with_reducible assumption)))
  have kG : Bk (w2.alloc (.cells Z.toArray 3)) w2.heap.size 3 Z := Bk.new _ _ _
  replace kv := kv.alloc (.cells Z.toArray 3)
  have hg0 : w.heap.size ≤ w2.heap.size := hx.size
  clear hmk2 hx
  generalize w2.alloc (.cells Z.toArray 3) = w3 at *
  generalize w2.heap.size = g at *
  have hr1 := run_copy_sz (P := Try.prog) w3 23 23 3 3 1 g 0 n n ⟨v, 0, none⟩ 1 1 1 Z.toArray 3 [.int .i64 (-1)] Try.underlying23 hs1 kG (by simp only [Nat.min_def]; split <;> omega) rfl
      (fun j u hu => by rw [Addr.add_lit, Nat.zero_add, kv.cell]; exact hu) (by simp only [List.size_toArray, hZl, hxl]; omega) h1c
  obtain ⟨R1, hR1⟩ : ∃ R1 : List Value, R1 = Z.take 0 ++ [.int .i64 (-1)] ++ Z.drop (0 + ([.int .i64 (-1)] : List Value).length) := ⟨_, rfl⟩
  have hr2 : (Builtin.copy_ #[23, 23] 3 #[.slice (some ⟨g, 0, none⟩) n n, .slice (some ⟨v, 0, none⟩) 1 1]).run Try.prog w3 = .ok (goInt 1) (w3.setRow g R1.toArray) := by rw [hR1]; exact hr1
  have kR : Bk (w3.setRow g R1.toArray) g 3 R1 := kG.row R1
  have HRl := hide (show R1 = rep [.int .i64 (-1)] 1 ++ Z.drop 1 ∧ (Z.drop 1).length = (n - 1) * 1 from ⟨by rw [hR1]; simp [rep], by rw [List.length_drop, hZl]; omega⟩)
  have hb2 : Below w.heap.size w (w3.setRow g R1.toArray) := setRow_below hb1 hg0 _
  clear hr1 hR1 kG kv hb1
  go_wp2_with (at_builtin; refine wpList_copy_runI _ rfl _ _ 23 23 rfl _ _ rfl rfl hr2 ?_)
  clear hr2
  generalize w3.setRow g R1.toArray = w4 at *
  go_loopw [8] (fun kv wr => ∃ (k : Nat) (rest : List Value), kv = .int .i64 k ∧ (1 ≤ k ∧ k ≤ n) ∧ Hid (rest.length = (n - k) * 1) ∧ Bk wr g 3 (rep [.int .i64 (-1)] k ++ rest) ∧ Below w.heap.size w wr) (fun kv _ => match kv with | .int _ k => n - k.toNat | _ => 0)
  case atStart => exact ⟨1, Z.drop 1, rfl, by omega, hide HRl.out.2, by rw [← HRl.out.1]; exact kR, hb2⟩
  case round =>
    clear kR HRl hZl hb2
    obtain ⟨k, rest, rfl, hk, hrl, kR, hb⟩ := hrel
    by_cases he : k = n
    · subst he
      go_wp2
      go_ret
      refine ⟨g, rfl, own_of_row (rest := rest) kR hg0 rfl (by rw [rep_length, hxl]) (Nat.le_refl _) (by unfold maxLen; omega) ?_, hb⟩
      have := hrl.out
      rw [List.length_append, rep_length, this, hxl]; omega
    · have i1 : (k : Int) < (n : Int) := by omega
      have i2 : (0 : Int) ≤ (k : Int) := by omega
      have i3 : (k : Int) ≤ (n : Int) := by omega
      have hnk : ¬ n = k := by omega
      have hn0 : ¬ n = 0 := by omega
      obtain ⟨m, hm⟩ : ∃ m, Nat.min k (n - k) = m := ⟨_, rfl⟩
      have hmk : m ≤ k ∧ m ≤ n - k ∧ 1 ≤ m := by rw [← hm]; simp only [Nat.min_def]; split <;> omega
      have wkm : IntKind.i64.wrap ((k : Int) + (m : Int)) = (k : Int) + m := IntWalk.i64_in _ (by omega)
      have hcp : ∀ W, W.heap = wr.heap → (Builtin.copy_ #[23, 23] 3 #[.slice (some ⟨g, k * 1, none⟩) (n - k) (n - k), .slice (some ⟨g, 0, none⟩) k n]).run Try.prog W = .ok (goInt (m : Int)) (W.setRow g (rep [.int .i64 (-1)] (k + m) ++ rest.drop (m * 1)).toArray) := fun W hW => by
        have hkW : Bk W g 3 (rep [.int .i64 (-1)] k ++ rest) := by unfold Bk at kR ⊢; rw [hW]; exact kR
        have hrl' := hrl.out
        have h := run_copy_sz (P := Try.prog) W 23 23 3 3 1 g (k * 1) (n - k) (n - k) ⟨g, 0, none⟩ k n m (rep [.int .i64 (-1)] k ++ rest).toArray 3 (rep [.int .i64 (-1)] m) Try.underlying23 hs1 hkW hm (by rw [rep_length, hxl])
          (row_cells hkW (by
            have e := rep_take [.int .i64 (-1)] k m hmk.1
            rw [hxl] at e
            rw [List.drop_zero, rep_length, hxl, List.take_append_of_le_length (by rw [rep_length, hxl]; exact Nat.mul_le_mul_right _ hmk.1), e]))
          (by simp only [List.size_toArray, List.length_append, rep_length, hxl, hrl']; have := hmk.2.1; omega) (rep_one _ h1c m)
        rw [h]
        congr 2
        rw [rep_add, List.take_left' (by rw [rep_length, hxl]), rep_length, hxl, ← Nat.add_mul]
        rw [show (k + m) * 1 = (rep [.int .i64 (-1)] k).length + m * 1 by rw [rep_length, hxl, Nat.add_mul], List.toList_toArray, ← List.drop_drop, List.drop_left' rfl]
      have mixed : Try.prog.follows Departure.mixedOrders = true := by kernel_rfl
      have hr3 := hcp wr.drew rfl
      obtain ⟨w6, hw6⟩ : ∃ w6, w6 = wr.drew.setRow g (rep [.int .i64 (-1)] (k + m) ++ rest.drop (m * 1)).toArray := ⟨_, rfl⟩
      rw [← hw6] at hr3
      have kN : Bk w6 g 3 (rep [.int .i64 (-1)] (k + m) ++ rest.drop (m * 1)) := by rw [hw6]; exact kR.drew.row _
      have hbN : Below w.heap.size w w6 := by rw [hw6]; exact setRow_below hb.drew hg0 _
      clear hw6
      go_upto_region 9 with fail
      go_region_law_o (refine step_copy_runI rfl _ _ 23 23 rfl (.slice (some ⟨g, k * 1, none⟩) (n - k) (n - k)) (.slice (some ⟨g, 0, none⟩) k n) (by simp [Act.eval, Act.put]) (by simp [Act.eval, Act.put]) hr3 ?_)
      clear hr3 hcp hm
      go_simp
      go_wp2
      go_roundw
      case rel => exact ⟨k + m, rest.drop (m * 1), rfl, by omega, hide (by rw [List.length_drop, hrl.out]; omega), kN, hbN⟩
      case measure => simp; omega
end Go.Proofs.Ythicpjfdljgfpaa
