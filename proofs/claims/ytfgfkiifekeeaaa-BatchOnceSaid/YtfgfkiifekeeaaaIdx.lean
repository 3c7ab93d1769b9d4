/- strings.ContainsAny at any text, for the three bytes that no name has. -/
import Derived.Test.YtfgfkiifekeeaaaShelf
import Derived.Test.YtfgfkiifekeeaaaUw
import Derived.Lib.OthersKept
import Derived.Laws.RangeAny
import Derived.Scope
namespace Go.Proofs.Ytfgfkiifekeeaaa
open Go.RowKit Go.Shelf
set_option linter.unusedSimpArgs false
set_option linter.unusedVariables false

def C3 : ByteArray := ⟨#[32, 64, 47]⟩
theorem get_at (s : ByteArray) (k : Nat) (h : k < s.size) : s.get! k = s[k] := by
  show s.data[k]! = _
  rw [getElem!_pos s.data k h]; rfl
theorem dec_high (s : ByteArray) (pos : Nat) (h : pos < s.size) (hb : 128 ≤ s[pos].toNat) :
    128 ≤ (Utf8.decode s pos).1 ∧ 1 ≤ (Utf8.decode s pos).2 ∧ (Utf8.decode s pos).1 ≤ 1114111 ∧ ((Utf8.decode s pos).1 < 55296 ∨ 57343 < (Utf8.decode s pos).1) ∧ pos + (Utf8.decode s pos).2 ≤ s.size ∧
    ∀ j (hj : j < s.size), pos ≤ j → j < pos + (Utf8.decode s pos).2 → 128 ≤ s[j].toNat := by
  have g0 := get_at s pos h
  unfold Utf8.decode
  simp only [Nat.add_zero, g0]
  have hlt := s[pos].toNat_lt
  have one : ∀ j (hj : j < s.size), pos ≤ j → j < pos + 1 → 128 ≤ s[j].toNat := fun j hj h1 h2 => by
    obtain rfl : j = pos := by omega
    exact hb
  have cont : ∀ k, (decide (pos + k < s.size) && (s.get! (pos + k)).toNat / 64 == 2) = true → ∃ h : pos + k < s.size, 128 ≤ s[pos + k].toNat ∧ s[pos + k].toNat < 192 := by
    intro k hk
    simp only [Bool.and_eq_true, decide_eq_true_eq, beq_iff_eq] at hk
    obtain ⟨h1, h2⟩ := hk
    rw [get_at s _ h1] at h2
    exact ⟨h1, by omega, by omega⟩
  rw [if_neg (by omega)]
  split
  · rename_i h2
    rw [Bool.and_eq_true] at h2
    obtain ⟨q1, c1, d1⟩ := cont 1 h2.2
    have h6 : s[pos].toNat / 32 = 6 := by simpa using h2.1
    split
    · rename_i hc
      refine ⟨hc, by omega, ?_, ?_, by omega, ?_⟩
      · show (s[pos].toNat % 32) * 64 + _ % 64 ≤ _; omega
      · left; show (s[pos].toNat % 32) * 64 + _ % 64 < _; omega
      · intro j hj p1 p2
        obtain rfl | rfl : j = pos ∨ j = pos + 1 := by (have : j < pos + 2 := p2); omega
        · exact hb
        · exact c1
    · exact ⟨by decide, by decide, by decide, by decide, by (show pos + 1 ≤ s.size); omega, one⟩
  split
  · rename_i h2
    rw [Bool.and_eq_true, Bool.and_eq_true] at h2
    obtain ⟨q1, c1, d1⟩ := cont 1 h2.1.2
    obtain ⟨q2, c2, d2⟩ := cont 2 h2.2
    split
    · rename_i hc
      rw [Bool.and_eq_true] at hc
      obtain ⟨hc, hv⟩ := hc
      simp only [decide_eq_true_eq] at hc
      unfold Utf8.valid at hv
      simp only [Bool.or_eq_true, Bool.and_eq_true, decide_eq_true_eq] at hv
      refine ⟨by dsimp only; omega, by dsimp only; omega, ?_, ?_, by (show pos + 3 ≤ s.size); omega, ?_⟩
      · dsimp only; omega
      · dsimp only; omega
      · intro j hj p1 p2
        obtain rfl | rfl | rfl : j = pos ∨ j = pos + 1 ∨ j = pos + 2 := by (have : j < pos + 3 := p2); omega
        · exact hb
        · exact c1
        · exact c2
    · exact ⟨by decide, by decide, by decide, by decide, by (show pos + 1 ≤ s.size); omega, one⟩
  split
  · rename_i h2
    rw [Bool.and_eq_true, Bool.and_eq_true, Bool.and_eq_true] at h2
    obtain ⟨q1, c1, d1⟩ := cont 1 h2.1.1.2
    obtain ⟨q2, c2, d2⟩ := cont 2 h2.1.2
    obtain ⟨q3, c3, d3⟩ := cont 3 h2.2
    split
    · rename_i hc
      rw [Bool.and_eq_true] at hc
      obtain ⟨hc, hv⟩ := hc
      simp only [decide_eq_true_eq] at hc
      unfold Utf8.valid at hv
      simp only [Bool.or_eq_true, Bool.and_eq_true, decide_eq_true_eq] at hv
      refine ⟨by dsimp only; omega, by dsimp only; omega, ?_, ?_, by (show pos + 4 ≤ s.size); omega, ?_⟩
      · dsimp only; omega
      · dsimp only; omega
      · intro j hj p1 p2
        obtain rfl | rfl | rfl | rfl : j = pos ∨ j = pos + 1 ∨ j = pos + 2 ∨ j = pos + 3 := by (have : j < pos + 4 := p2); omega
        · exact hb
        · exact c1
        · exact c2
        · exact c3
    · exact ⟨by decide, by decide, by decide, by decide, by (show pos + 1 ≤ s.size); omega, one⟩
  · exact ⟨by decide, by decide, by decide, by decide, by (show pos + 1 ≤ s.size); omega, one⟩
set_option maxRecDepth 100000 in
theorem enc_high (r : Nat) (h1 : 128 ≤ r) (h2 : r ≤ 1114111) (h3 : r < 55296 ∨ 57343 < r) : ∃ R n, ∃ hn : R.size = n + 1, R = Utf8.encode r ∧ 1 ≤ n ∧ n ≤ 3 ∧ 128 ≤ (R[n]'(by omega)).toNat := by
  have hv : Utf8.valid (r : Int) = true := by unfold Utf8.valid; simp; omega
  by_cases c1 : r < 2048
  · have e : Utf8.encode r = ⟨#[UInt8.ofNat (192 + r / 64), UInt8.ofNat (128 + r % 64)]⟩ := by
      unfold Utf8.encode
      simp only [hv, if_true, Int.toNat_natCast]
      rw [if_neg (by omega), if_pos c1]
    exact ⟨_, 1, rfl, e.symm, by omega, by omega, by (show 128 ≤ (UInt8.ofNat (128 + r % 64)).toNat); rw [u8_of _ (by omega)]; omega⟩
  by_cases c2 : r < 65536
  · have e : Utf8.encode r = ⟨#[UInt8.ofNat (224 + r / 4096), UInt8.ofNat (128 + r / 64 % 64), UInt8.ofNat (128 + r % 64)]⟩ := by
      unfold Utf8.encode
      simp only [hv, if_true, Int.toNat_natCast]
      rw [if_neg (by omega), if_neg c1, if_pos c2]
    exact ⟨_, 2, rfl, e.symm, by omega, by omega, by (show 128 ≤ (UInt8.ofNat (128 + r % 64)).toNat); rw [u8_of _ (by omega)]; omega⟩
  · have e : Utf8.encode r = ⟨#[UInt8.ofNat (240 + r / 262144), UInt8.ofNat (128 + r / 4096 % 64), UInt8.ofNat (128 + r / 64 % 64), UInt8.ofNat (128 + r % 64)]⟩ := by
      unfold Utf8.encode
      simp only [hv, if_true, Int.toNat_natCast]
      rw [if_neg (by omega), if_neg c1, if_neg c2]
    exact ⟨_, 3, rfl, e.symm, by omega, by omega, by (show 128 ≤ (UInt8.ofNat (128 + r % 64)).toNat); rw [u8_of _ (by omega)]; omega⟩
set_option maxRecDepth 1000000 in
set_option maxHeartbeats 4000000 in
theorem indexRune_high (r : Nat) (h1 : 128 ≤ r) (h2 : r ≤ 1114111) (h3 : r < 55296 ∨ 57343 < r) (w : World) :
    Calls Try.prog 93 #[.string C3, .int .i32 r] w fun e w' => e = .returned (.int .i64 (-1)) ∧ Below w.heap.size w w' := by
  have h1I : (128 : Int) ≤ (r : Int) := by omega
  by_cases hE : r = 65533
  · subst hE
    go_enter Try.func93, Try.ntmps93
    go_wp2_with fail
    go_loopw [5] (fun _ wr => ∃ p : Nat, p ≤ 3 ∧ wr = w.iter C3 p) (fun _ wr => 3 - wr.iterPos w.heap.size)
    case atStart => exact ⟨0, by omega, rfl⟩
    case round =>
      obtain ⟨p, hp, rfl⟩ := hrel
      by_cases h3' : p = 3
      · subst h3'
        have hnx := run_next_end (P := Try.prog) w C3 3
        have hsz : ¬ (3 < C3.size) := by decide
        go_wp2_with fail
        go_ret
        exact ⟨rfl, (Below.refl _ _).alloc1 _⟩
      · have hlt : p < C3.size := by (show p < 3); omega
        have hv : (C3[p]'hlt).toNat < 65 := by
          obtain rfl | rfl | rfl : p = 0 ∨ p = 1 ∨ p = 2 := by omega
          all_goals first | exact (by decide : (32 : Nat) < 65) | exact (by decide : (64 : Nat) < 65) | exact (by decide : (47 : Nat) < 65)
        have hnx := fun ty => run_next_ascii (P := Try.prog) w C3 p ty hlt (by omega)
        generalize (C3[p]'hlt).toNat = x at *
        have hxI : ((x : Int) == 65533) = false := by simp; omega
        go_wp2_with fail
        go_roundw
        case rel => exact ⟨p + 1, by omega, rfl⟩
        case measure => simp; omega
  have hEB : ((r : Int) == 65533) = false := by simp; omega
  have hvr : Lib.validRune (r : Int) = true := by unfold Lib.validRune; simp; omega
  obtain ⟨R, n, hn, hRe, hn1, hn3, hnb⟩ := enc_high r h1 h2 h3
  have hcv : ∀ W, (convert 21 9 (.int .i32 r)).run Try.prog W = .ok (.string (Utf8.encode r)) W := fun W => by
    simp [convert, run_underlying Try.underlying21, run_underlying Try.underlying9, Conv.intToString]
  rw [← hRe] at hcv
  clear hRe
  have hz : (R.size : Int) = (n : Int) + 1 := by omega
  have hr3 : n < R.size := by omega
  replace hn := hide hn
  go_enter Try.func93, Try.ntmps93
  go_wp2_with fail
  refine (Try.utf8_ValidRune _ _).mono ?_; rintro e w1 ⟨rfl, rfl⟩
  rw [hvr]
  go_wp2_with fail
  go_wp2_with fail
  refine wp_scope_straight ?_
  go_wp2_with fail
  go_loopw [9] (fun i wr => i = .int .i64 n ∧ wr = w1) (fun _ _ => 0)
  case atStart => exact ⟨rfl, rfl⟩
  case round =>
    obtain ⟨rfl, rfl⟩ := hrel
    have hz3 : (C3.size : Int) = 3 := rfl
    by_cases hn4 : n = 3
    · subst hn4
      go_wp2_with fail
      simp only [Exit.noGoto, Exit.inBlock]
      go_ret
      exact ⟨rfl, Below.refl _ _⟩
    have hc3 : n < C3.size := by (show n < 3); omega
    have hnI : (n : Int) < 3 := by omega
    have hrI : (n : Int) < (R.size : Int) := by omega
    have hn1I : (n : Int) + 1 ≤ 3 := by omega
    have he1 : ((n : Int) + 1).toNat = n + 1 := by omega
    have hnn : (n : Int) < (n : Int) + 1 := by omega
    clear hz
    have hxl : (C3[n]'hc3).toNat < 128 := by
      obtain rfl | rfl : n = 1 ∨ n = 2 := by omega
      all_goals first | exact (by decide : (64 : Nat) < 128) | exact (by decide : (47 : Nat) < 128)
    have hne : (((C3[n]'hc3).toNat : Int) != ((R[n]'hr3).toNat : Int)) = true := by rw [bne_iff_ne]; omega
    have hIB : ∀ W, Calls Try.prog 98 #[.string (C3.extract (n + 1) C3.size), .int .u8 ((R[n]'hr3).toNat : Int)] W fun e w' => e = .returned (.int .i64 (-1)) ∧ W = w' := fun W => by
      refine (Try.strings_IndexByte _ _ W).mono ?_
      rintro e w' ⟨rfl, rfl⟩
      refine ⟨?_, rfl⟩
      have hb : ((R[n]'hr3).toNat : Int).toNat.toUInt8 = R[n]'hr3 := by simp
      rw [hb]
      have hR : ∀ c : UInt8, c.toNat < 128 → (c == R[n]'hr3) = false := fun c hc => by
        rw [beq_eq_false_iff_ne]; rintro rfl; omega
      obtain rfl | rfl : n = 1 ∨ n = 2 := by omega
      · have e : (C3.extract (1 + 1) C3.size).data.toList = [47] := rfl
        rw [e]
        simp [Lib.indexByte, hR 47 (by decide)]
      · have e : (C3.extract (2 + 1) C3.size).data.toList = [] := rfl
        rw [e]; rfl
    go_wp2_with fail
    refine wp_scope_straight ?_
    go_wp2_with fail
    (refine wp_region_qb (by kernel_rfl) (by kernel_rfl) (fun kq => ?_); (try dsimp only [List.append]); (repeat (go_big_quiet_step ((fail)))); refine wpQuiet_nil ?_; intro wq hwq; have hbq := below_of_class hwq; clear hwq kq)
    have hb1 := hbq
    clear hbq
    go_wp2_with fail
    (refine wp_region_qb (by kernel_rfl) (by kernel_rfl) (fun kq => ?_); (try dsimp only [List.append]); (repeat (go_big_quiet_step (((go_at_call 98; exact (hIB _).qs))))); refine wpQuiet_nil ?_; intro wq hwq; have hbq := below_of_class hwq; clear hwq kq)
    go_wp2_with fail
    (try simp only [Exit.noGoto, Exit.inBlock, Exit.then])
    go_wp2_with fail
    (try simp only [Exit.noGoto, Exit.inBlock, Exit.then])
    go_ret
    exact ⟨rfl, hb1.step hbq⟩
def bad3 (b : UInt8) : Bool := decide (b.toNat = 32 ∨ b.toNat = 64 ∨ b.toNat = 47)
theorem bad3_index (x : UInt8) : (decide (0 ≤ Lib.indexByte C3.data.toList x)) = bad3 x := by
  have e : C3.data.toList = [32, 64, 47] := rfl
  rw [e]
  unfold bad3
  simp only [Lib.indexByte]
  by_cases h1 : x.toNat = 32
  · obtain rfl : x = 32 := u8_ext _ _ h1
    rfl
  by_cases h2 : x.toNat = 64
  · obtain rfl : x = 64 := u8_ext _ _ h2
    rfl
  by_cases h3 : x.toNat = 47
  · obtain rfl : x = 47 := u8_ext _ _ h3
    rfl
  have n1 : ((32 : UInt8) == x) = false := by rw [beq_eq_false_iff_ne]; rintro rfl; exact h1 rfl
  have n2 : ((64 : UInt8) == x) = false := by rw [beq_eq_false_iff_ne]; rintro rfl; exact h2 rfl
  have n3 : ((47 : UInt8) == x) = false := by rw [beq_eq_false_iff_ne]; rintro rfl; exact h3 rfl
  simp [n1, n2, n3, h1, h2, h3]
theorem bad3_any (l : List UInt8) : decide (0 ≤ Lib.indexAny l C3.data.toList) = l.any bad3 := by
  induction l with
  | nil => rfl
  | cons b l ih =>
    have hc : C3.data.toList.contains b = bad3 b := by
      rw [← bad3_index, ← Lib.contains_iff_indexByte]
    rw [List.any_cons, ← ih]
    simp only [Lib.indexAny, hc]
    have := Lib.indexAny_ge C3.data.toList l
    cases bad3 b with
    | true => simp
    | false =>
      by_cases h : Lib.indexAny l C3.data.toList = -1
      · simp [h]
      · simp only [Bool.false_eq_true, if_false, beq_iff_eq, h, Bool.false_or]
        rw [decide_eq_decide]
        omega
theorem any_take_more (s : ByteArray) (i m : Nat) (h : (s.data.toList.take i).any bad3 = false) (hm : i + m ≤ s.size) (hx : ∀ j (hj : j < s.size), i ≤ j → j < i + m → bad3 s[j] = false) : (s.data.toList.take (i + m)).any bad3 = false := by
  induction m with
  | zero => exact h
  | succ m ih =>
    rw [show i + (m + 1) = i + m + 1 by omega, take_snoc s (i + m) (by omega), List.any_append, ih (by omega) (fun j hj h1 h2 => hx j hj h1 (by omega))]
    simp [hx (i + m) (by omega) (by omega) (by omega)]
theorem bad3_high (b : UInt8) (h : 128 ≤ b.toNat) : bad3 b = false := by unfold bad3; rw [decide_eq_false]; omega
set_option maxRecDepth 1000000 in
set_option maxHeartbeats 4000000 in
theorem indexAny_short (s : ByteArray) (h8 : s.size ≤ 8) (w : World) : Calls Try.prog 89 #[.string s, .string C3] w fun e w' =>
    ∃ x : Int, e = .returned (.int .i64 x) ∧ decide (0 ≤ x) = s.data.toList.any bad3 ∧ Below w.heap.size w w' := by
  have hemp : C3.toList.isEmpty = false := by rw [isE]; rfl
  have hz3 : (C3.size : Int) = 3 := rfl
  have h8z : decide ((8 : Int) < (s.size : Int)) = false := decide_eq_false (by omega)
  go_enter Try.func89, Try.ntmps89
  go_wp2_with fail
  refine (Try.strings_shouldUseASCIISet _ _).mono ?_; rintro e w1 ⟨rfl, rfl⟩
  rw [h8z]
  go_wp2_with fail
  go_loopw [9, 10] (fun _ _ wr => ∃ i : Nat, i ≤ s.size ∧ wr.heap[w1.heap.size]? = some (.stringIter s i) ∧ (s.data.toList.take i).any bad3 = false ∧ Below w1.heap.size w1 wr) (fun _ _ wr => s.size - wr.iterPos w1.heap.size)
  case atStart => exact ⟨0, by omega, heap_alloc_new w1 _, rfl, (Below.refl _ _).alloc1 _⟩
  case round =>
    obtain ⟨i, hi, hit, hany, hb⟩ := hrel
    have hpos : wr.iterPos w1.heap.size = i := by unfold World.iterPos; rw [hit]
    replace hpos := hide hpos
    by_cases hlt : i < s.size
    · have hts := hide (any_take_more s i)
      have HA := hide hany
      have HT := hide (take_snoc s i hlt)
      have hbd := hide (bad3_index (s[i]'hlt))
      by_cases hx : (s[i]'hlt).toNat < 128
      · have hnx := fun ty => Lib.run_next_ascii_at (P := Try.prog) wr w1.heap.size s i ty hit hlt hx
        have hit2 := Lib.iterAt_heap wr w1.heap.size s i (i + 1) hit
        have hb2 := Lib.below_iterAt hb (Nat.le_refl _) s (i + 1)
        generalize wr.iterAt w1.heap.size s (i + 1) = w2 at *
        have hix : ∀ W, Calls Try.prog 93 #[.string C3, .int .i32 ((s[i]'hlt).toNat : Int)] W fun e w' => e = .returned (.int .i64 (Lib.indexByte C3.data.toList (s[i]'hlt))) ∧ w' = W := fun W => by
          have := Try.strings_IndexRune_ascii C3 ((s[i]'hlt).toNat : Int) W (by omega) (by omega)
          have hbk : ((s[i]'hlt).toNat : Int).toNat.toUInt8 = s[i]'hlt := by simp
          rw [hbk] at this
          exact this
        clear hit hany
        cases h3 : bad3 (s[i]'hlt) with
        | true =>
          have hge : (0 : Int) ≤ Lib.indexByte C3.data.toList (s[i]'hlt) := of_decide_eq_true (by rw [hbd.out, h3])
          have hfin := hide (show s.data.toList.any bad3 = true by
            rw [List.any_eq_true]
            refine ⟨s[i]'hlt, ?_, h3⟩
            rw [ByteArray.getElem_eq_getElem_data, ← Array.getElem_toList]
            exact List.getElem_mem _)
          clear h3
          generalize Lib.indexByte C3.data.toList (s[i]'hlt) = q at *
          go_wp2_with fail
          refine (hix _).mono ?_; rintro e w3 ⟨rfl, rfl⟩
          go_wp2_with fail
          go_ret
          exact ⟨_, rfl, by rw [hfin.out]; simp, hb2⟩
        | false =>
          have hlt0 : Lib.indexByte C3.data.toList (s[i]'hlt) < 0 := by
            have := hbd.out
            rw [h3] at this
            have := of_decide_eq_false this
            omega
          have hn2 := hide (show (s.data.toList.take (i + 1)).any bad3 = false by rw [HT.out, List.any_append, HA.out]; simp [h3])
          clear h3
          generalize Lib.indexByte C3.data.toList (s[i]'hlt) = q at *
          go_wp2_with fail
          refine (hix _).mono ?_; rintro e w3 ⟨rfl, rfl⟩
          go_wp2_with fail
          go_roundw
          case rel => exact ⟨i + 1, by omega, hit2, hn2.out, hb2⟩
          case measure =>
            have hp2 : w3.iterPos w1.heap.size = i + 1 := by unfold World.iterPos; rw [hit2]
            rw [hp2, hpos.out]; omega
      · have hx' : 128 ≤ (s[i]'hlt).toNat := by omega
        have hdec := dec_high s i hlt hx'
        have hnx := fun ty => Lib.run_next_any_at (P := Try.prog) wr w1.heap.size s i ty hit hlt
        generalize Utf8.decode s i = d at *
        obtain ⟨r, m⟩ := d
        dsimp only at hdec hnx
        have hix := fun W => indexRune_high r hdec.1 hdec.2.2.1 hdec.2.2.2.1 W
        have hit2 := Lib.iterAt_heap wr w1.heap.size s i (i + m) hit
        have hb2 := Lib.below_iterAt hb (Nat.le_refl _) s (i + m)
        generalize wr.iterAt w1.heap.size s (i + m) = w2 at *
        have hn2 := hide (hts.out m HA.out hdec.2.2.2.2.1 (fun j hj p1 p2 => bad3_high _ (hdec.2.2.2.2.2 j hj p1 p2)))
        have hm1 := hdec.2.1
        have hm2 := hdec.2.2.2.2.1
        clear hit hany hdec
        go_wp2_with fail
        refine (hix _).mono ?_; rintro e w3 ⟨rfl, hb3⟩
        go_wp2_with fail
        have hlt2 : w1.heap.size < w2.heap.size := (Array.getElem?_eq_some_iff.1 hit2).1
        have hit3 := (hb3.block _ hlt2).trans hit2
        go_roundw
        case rel => exact ⟨i + m, hm2, hit3, hn2.out, hb2.step hb3⟩
        case measure =>
          have hp2 : w3.iterPos w1.heap.size = i + m := by unfold World.iterPos; rw [hit3]
          rw [hp2, hpos.out]; omega
    · have hnx := fun ty => Lib.run_next_end_at (P := Try.prog) wr w1.heap.size s i ty hit hlt
      obtain rfl : i = s.size := by omega
      rw [List.take_of_length_le (by rw [list_size]; exact Nat.le_refl _)] at hany
      have HA := hide hany
      clear hany
      go_wp2_with fail
      go_ret
      exact ⟨_, rfl, by rw [HA.out]; rfl, hb⟩
theorem indexAny_any (s : ByteArray) (hs : s.size ≤ 1000000) (w : World) : Calls Try.prog 89 #[.string s, .string C3] w fun e w' =>
    ∃ x : Int, e = .returned (.int .i64 x) ∧ decide (0 ≤ x) = s.data.toList.any bad3 ∧ Below w.heap.size w w' := by
  by_cases h8 : s.size ≤ 8
  · exact indexAny_short s h8 w
  · have h116 : (Try.prog.info? 134).map (fun i => (i.zero, i.size)) = some (some (.agg (Array.replicate 256 (.bool false))), 256) := by kernel_rfl
    refine (Try.strings_IndexAny_long (zero_of_info h116).1 s C3 w (by decide) (by omega) (by omega) (by decide) ?_).mono ?_
    · intro j b hj
      have e : C3.data.toList = [32, 64, 47] := rfl
      rw [e] at hj
      have := List.mem_of_getElem? hj
      simp at this
      rcases this with rfl | rfl | rfl <;> decide
    · rintro e w' ⟨rfl, rfl⟩
      exact ⟨_, rfl, bad3_any _, ((Below.refl _ _).alloc1 _).alloc1 _⟩
theorem containsAny_any (s : ByteArray) (hs : s.size ≤ 1000000) (w : World) : Calls Try.prog 84 #[.string s, .string C3] w fun e w' =>
    e = .returned (.bool (s.data.toList.any bad3)) ∧ Below w.heap.size w w' := by
  have hix := fun W => indexAny_any s hs W
  go_enter Try.func84, Try.ntmps84
  go_wp2_with fail
  refine (hix _).mono ?_; rintro e w2 ⟨x, rfl, hx, hb⟩
  replace hx := hide hx
  go_wp2_with fail
  go_ret
  exact ⟨by rw [← hx.out]; rfl, hb⟩
end Go.Proofs.Ytfgfkiifekeeaaa
