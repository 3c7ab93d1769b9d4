/- Package utf: Put. -/
import Derived.Test.YtonokkcnbbljoaaUlow
namespace Go.Proofs.Ytonokkcnbbljoaa
open Go.RowKit Go.Shelf
set_option linter.unusedSimpArgs false
set_option linter.unusedVariables false

theorem info_u8 : (Try.prog.info? 5).map (fun i => (i.zero, i.size, i.bytes)) = some (some (.int .u8 0), 1, 1) := by kernel_rfl
def uN (c : Int) : Nat → Nat
  | 0 => 0
  | i + 1 => if uFrom i ≤ c then i else uN c i
theorem uN_lt (c : Int) (i : Nat) : uN c i ≤ i := by
  induction i with
  | zero => exact Nat.le_refl _
  | succ i ih => unfold uN; split <;> omega
theorem uN_four (c : Nat) : uN (c : Int) 4 = if c < 128 then 0 else if c < 2048 then 1 else if c < 65536 then 2 else 3 := by
  have h0 : (0 : Int) ≤ c := by omega
  simp only [uN, uFrom, if_pos h0]
  by_cases h1 : c < 128
  · rw [if_pos h1, if_neg (by omega), if_neg (by omega), if_neg (by omega)]
  rw [if_neg h1]
  by_cases h2 : c < 2048
  · rw [if_pos h2, if_neg (by omega), if_neg (by omega), if_pos (by omega)]
  rw [if_neg h2]
  by_cases h3 : c < 65536
  · rw [if_pos h3, if_neg (by omega), if_pos (by omega)]
  · rw [if_neg h3, if_pos (by omega)]
/-- the bytes behind number k are laid -/
def uCl (q n k : Nat) : List Value := (List.range (n + 1)).map fun j => .int .u8 (if k < j then ((128 + q / 64 ^ (n - j) % 64 : Nat) : Int) else 0)
theorem uCl_start (q n : Nat) : uCl q n n = List.replicate (n + 1) (.int .u8 0) := by
  unfold uCl
  apply List.ext_getElem
  · simp
  · intro j h1 h2
    simp at h1
    simp
    omega
theorem uCl_at (q n k j : Nat) (h : j ≤ n) : (uCl q n k)[j]? = some (.int .u8 (if k < j then ((128 + q / 64 ^ (n - j) % 64 : Nat) : Int) else 0)) := by
  unfold uCl
  rw [List.getElem?_map, List.getElem?_range (by omega)]; rfl
theorem uCl_set (q n k : Nat) (h : k + 1 ≤ n) : (uCl q n (k + 1)).set (k + 1) (.int .u8 ((128 + q / 64 ^ (n - (k + 1)) % 64 : Nat) : Int)) = uCl q n k := by
  apply List.ext_getElem
  · simp [uCl]
  · intro j h1 h2
    have hj : j < n + 1 := by simpa [uCl] using h2
    rw [List.getElem_set]
    by_cases e : k + 1 = j
    · subst e
      rw [if_pos rfl]
      simp [uCl]
    · rw [if_neg e]
      simp only [uCl, List.getElem_map, List.getElem_range]
      congr 1
      by_cases h3 : k + 1 < j
      · rw [if_pos h3, if_pos (by omega)]
      · rw [if_neg h3, if_neg (by omega)]
theorem b_cont (x : Nat) (h : x < 256) : bits .or .u8 128 (bits .and .u8 (x : Int) 63) = ((128 + x % 64 : Nat) : Int) := by
  revert x
  decide +kernel
theorem b_mark0 (x : Nat) (h : x < 128) : bits .or .u8 0 (x : Int) = (x : Int) := by
  revert x
  decide +kernel
theorem b_mark1 (x : Nat) (h : x < 32) : bits .or .u8 192 (x : Int) = ((192 + x : Nat) : Int) := by
  revert x
  decide +kernel
theorem b_mark2 (x : Nat) (h : x < 16) : bits .or .u8 224 (x : Int) = ((224 + x : Nat) : Int) := by
  revert x
  decide +kernel
theorem b_mark3 (x : Nat) (h : x < 8) : bits .or .u8 240 (x : Int) = ((240 + x : Nat) : Int) := by
  revert x
  decide +kernel
theorem uCl_done (q n : Nat) (hq : q ≤ 1114111) (hN : n = if q < 128 then 0 else if q < 2048 then 1 else if q < 65536 then 2 else 3) :
    (uCl q n 0).set 0 (.int .u8 (bits .or .u8 (uMark n) ((q : Int) / 64 ^ n % 256))) = (uPut (q : Int)).map fun b => Value.int .u8 (b.toNat : Int) := by
  have hc : ((q : Int) / 64 ^ n % 256) = ((q / 64 ^ n % 256 : Nat) : Int) := by simp
  rw [hc]
  unfold uPut uPutN
  simp only [Int.toNat_natCast]
  by_cases h1 : q < 128
  · rw [if_pos h1] at hN ⊢
    subst hN
    simp only [uCl, List.range_succ_eq_map, List.range_zero, List.map_cons, List.map_nil, List.set_cons_zero, uMark]
    rw [show q / 64 ^ 0 % 256 = q by simp; omega, b_mark0 q h1, u8_of q (by omega)]
  rw [if_neg h1] at hN ⊢
  by_cases h2 : q < 2048
  · rw [if_pos h2] at hN ⊢
    subst hN
    have e0 : q / 64 ^ 1 % 256 = q / 64 := by simp; omega
    rw [e0]
    simp only [uCl, List.range_succ_eq_map, List.range_zero, List.map_cons, List.map_nil, List.set_cons_zero, uMark]
    rw [b_mark1 _ (by omega), u8_of _ (by omega), u8_of _ (by omega)]
    simp
  rw [if_neg h2] at hN ⊢
  by_cases h3 : q < 65536
  · rw [if_pos h3] at hN ⊢
    subst hN
    have e0 : q / 64 ^ 2 % 256 = q / 4096 := by simp; omega
    rw [e0]
    simp only [uCl, List.range_succ_eq_map, List.range_zero, List.map_cons, List.map_nil, List.set_cons_zero, uMark]
    rw [b_mark2 _ (by omega), u8_of _ (by omega), u8_of _ (by omega), u8_of _ (by omega)]
    simp
  · rw [if_neg h3] at hN ⊢
    subst hN
    have e0 : q / 64 ^ 3 % 256 = q / 262144 := by simp; omega
    rw [e0]
    simp only [uCl, List.range_succ_eq_map, List.range_zero, List.map_cons, List.map_nil, List.set_cons_zero, uMark]
    rw [b_mark3 _ (by omega), u8_of _ (by omega), u8_of _ (by omega), u8_of _ (by omega), u8_of _ (by omega)]
    simp
set_option maxRecDepth 100000 in
set_option maxHeartbeats 4000000 in
theorem utf_Put_any (c : Int) (w : World) : Calls Try.prog 23 #[.int .i64 c] w fun e w' => e = .returned (if uChar c then .tuple #[.string (strOf (uPut c)), .int .i64 0] else .tuple #[.string ByteArray.empty, .int .i64 8]) ∧ Below w.heap.size w w' := by
  have hch := fun W => utf_character_any c W
  by_cases hcc : uChar c = true
  case neg =>
    have hcf : uChar c = false := by simpa using hcc
    rw [hcf] at hch ⊢
    go_enter Try.func23, Try.ntmps23
    go_wp2_with fail
    refine (hch _).mono ?_; rintro e w1 ⟨rfl, rfl⟩
    go_wp2_with fail
    go_ret2
    exact ⟨rfl, Below.refl _ _⟩
  rw [if_pos hcc]
  rw [hcc] at hch
  have hb := (uChar_iff c).1 hcc
  clear hcc
  obtain ⟨q, rfl⟩ : ∃ q : Nat, c = (q : Int) := ⟨c.toNat, by omega⟩
  have hq : q ≤ 1114111 := by omega
  clear hb
  obtain ⟨R, hR⟩ : ∃ R, R = strOf (uPut (q : Int)) := ⟨_, rfl⟩
  rw [← hR]
  replace hR := hide hR
  go_enter Try.func23, Try.ntmps23
  go_wp2_with fail
  refine (hch _).mono ?_; rintro e w1 ⟨rfl, rfl⟩
  go_wp2_with fail
  refine (utf_forms_any _).mono ?_; rintro e w1 ⟨rfl, hb1⟩
  have hF : uCells.toArray = #[.int .i64 0, .int .u8 0, .int .u8 127, .int .i64 128, .int .u8 192, .int .u8 31, .int .i64 2048, .int .u8 224, .int .u8 15, .int .i64 65536, .int .u8 240, .int .u8 7] := rfl
  rw [hF]
  clear hF hch
  go_wp2_with fail
  go_loopw [4, 13] (fun a i wr => ∃ n : Nat, n ≤ 4 ∧ i = .int .i64 n ∧ a = .int .i64 (uN q n) ∧ Below w.heap.size w wr) (fun _ i _ => 4 - (intOf i).toNat)
  case atStart => exact ⟨0, by omega, rfl, rfl, hb1⟩
  case round =>
    clear hb1
    obtain ⟨n, hn, rfl, rfl, hb⟩ := hrel
    by_cases hlt : n < 4
    case pos =>
      have hix := u_ix n hlt
      have wf := u_wf n
      have hun : uN q (n + 1) = if uFrom n ≤ q then n else uN q n := rfl
      have HU := hide hun
      clear hun
      by_cases hf : uFrom n ≤ (q : Int)
      · have hu1 := HU.out
        rw [if_pos hf] at hu1
        clear HU
        go_wp2
        go_roundw
        case rel => exact ⟨n + 1, by omega, by simp, by rw [hu1], by (repeat (first | with_reducible exact Below.refl _ _ | with_reducible assumption | with_reducible refine Below.drew ?_ | with_reducible refine Below.drewN ?_ _ | with_reducible refine Below.alloc1 ?_ _ | with_reducible refine Below.setCell1 ?_ (by first | omega | (simp; done) | (simp; omega)) _ | with_reducible refine Below.step ?_ (by with_reducible assumption)))⟩
        case measure => simp [intOf]; omega
      · have hu1 := HU.out
        rw [if_neg hf] at hu1
        have hf2 : (q : Int) < uFrom n := by omega
        clear HU
        go_wp2
        go_roundw
        case rel => exact ⟨n + 1, by omega, by simp, by rw [hu1], by (repeat (first | with_reducible exact Below.refl _ _ | with_reducible assumption | with_reducible refine Below.drew ?_ | with_reducible refine Below.drewN ?_ _ | with_reducible refine Below.alloc1 ?_ _ | with_reducible refine Below.setCell1 ?_ (by first | omega | (simp; done) | (simp; omega)) _ | with_reducible refine Below.step ?_ (by with_reducible assumption)))⟩
        case measure => simp [intOf]; omega
    obtain rfl : n = 4 := by omega
    have hn3 : uN (q : Int) 4 ≤ 3 := by rw [uN_four]; repeat (first | split | omega)
    have hN := hide (uN_four q)
    generalize uN (q : Int) 4 = n at *
    obtain ⟨i0, hi0, hz, hsz, hby⟩ := info_parts info_u8
    have hmk := fun (m : Nat) (hm : m ≤ 4) W => run_make1 (P := Try.prog) 53 5 i0 (.int .u8 0) Try.underlying53 hi0 hz rfl hsz m (by rw [hby]; omega) (by omega) W
    have hmk2 : ∀ W : World, (Instr.makeSlice 53 (.int .i64 ((n : Int) + 1)) (.int .i64 ((n : Int) + 1))).run Try.prog W = .ok (.slice (some ⟨W.heap.size, 0, none⟩) (n + 1) (n + 1)) (W.alloc (.cells (List.replicate (n + 1) (.int .u8 0)).toArray 5)) := fun W => by
      have := hmk (n + 1) (by omega) W
      simpa using this
    clear hmk hi0 hz hsz hby hlt hn
    have hback := fun w (l : List UInt8) cap g h => run_convert_bytes_back (P := Try.prog) w 53 9 5 ⟨g, 0, none⟩ cap l Try.underlying53 Try.underlying5 Try.underlying9 h
    have HB := hide hback
    clear hback
    go_wp2_with fail
    generalize hV : World.alloc wr _ = w3
    have hy : Below wr.heap.size wr w3 := by subst hV; (repeat (first | with_reducible exact Below.refl _ _ | with_reducible assumption | with_reducible refine Below.drew ?_ | with_reducible refine Below.drewN ?_ _ | with_reducible refine Below.alloc1 ?_ _ | with_reducible refine Below.setCell1 ?_ (by first | omega | (simp; done) | (simp; omega)) _ | with_reducible refine Below.step ?_ (by with_reducible assumption)))
    have k3 : Bk w3 wr.heap.size 5 (uCl q n n) := by
      subst hV
      rw [uCl_start]
      exact Bk.new wr 5 _
    clear hV hmk2
    have hgw : w.heap.size ≤ wr.heap.size := hb.size
    replace hb := hb.step hy
    clear hy
    generalize wr.heap.size = g at *
    go_loopw [0, 8] (fun c i wr => ∃ k : Nat, k ≤ n ∧ i = .int .i64 k ∧ c = .int .i64 (q / 64 ^ (n - k) : Nat) ∧ Bk wr g 5 (uCl q n k) ∧ Below w.heap.size w wr) (fun _ i _ => (intOf i).toNat)
    case atStart => exact ⟨n, Nat.le_refl _, rfl, by simp, k3, hb⟩
    case round =>
      clear k3 hb
      obtain ⟨k, hk, rfl, rfl, k3, hb⟩ := hrel
      by_cases hk0 : 0 < k
      · have hk0I : (0 : Int) < (k : Int) := by omega
        have hck := k3.cell k
        have hfk := k3.frozen k
        rw [uCl_at q n k k hk, if_neg (by omega)] at hck
        obtain ⟨m, rfl⟩ : ∃ m, k = m + 1 := ⟨k - 1, by omega⟩
        have e1 : ((q : Int) / 64 ^ (n - (m + 1)) / 64) = ((q / 64 ^ (n - m) : Nat) : Int) := by
          rw [show n - m = (n - (m + 1)) + 1 by omega, Nat.pow_succ, ← Nat.div_div_eq_div_mul]; simp
        have e2 : (128 + (q : Int) / 64 ^ (n - (m + 1)) % 64) = ((128 + q / 64 ^ (n - (m + 1)) % 64 : Nat) : Int) := by simp
        replace e1 := hide e1
        replace e2 := hide e2
        go_wp2
        go_roundw
        case rel =>
          refine ⟨m, by omega, by simp, by rw [e1.out], ?_, hb.setCell hgw _⟩
          rw [e2.out, ← uCl_set q n m hk]
          exact k3.set_ (m + 1) _
        case measure => simp [intOf]
      · obtain rfl : k = 0 := by omega
        have hck := k3.cell 0
        have hfk := k3.frozen 0
        have hn4 : n < 4 := by omega
        have hix := u_ix n hn4
        have wf := u_wf n
        have hfd : ∀ W, (Instr.field 50 (.agg #[.int .i64 (uFrom n), .int .u8 (uMark n), .int .u8 (uBits n)]) 1).run Try.prog W = .ok (.int .u8 (uMark n)) W := fun _ => rfl
        go_wp2_with fail
        refine (utf_forms_any _).mono ?_; rintro e w5 ⟨rfl, hb5⟩
        have hF : uCells.toArray = #[.int .i64 0, .int .u8 0, .int .u8 127, .int .i64 128, .int .u8 192, .int .u8 31, .int .i64 2048, .int .u8 224, .int .u8 15, .int .i64 65536, .int .u8 240, .int .u8 7] := rfl
        rw [hF]
        clear hF hck hfk
        replace k3 := k3.step hb5
        replace hb := hb.step hb5
        clear hb5
        have hck := k3.cell 0
        have hfk := k3.frozen 0
        rw [uCl_at q n 0 0 (by omega), if_neg (by omega)] at hck
        go_wp2_with fail
        generalize hV : World.setCell w5 _ _ = w6
        replace hb : Below w.heap.size w w6 := by subst hV; exact hb.setCell hgw _
        have k6 : Bk w6 g 5 ((uPut q).map fun b => Value.int .u8 (b.toNat : Int)) := by
          rw [← uCl_done q n hq hN.out]
          subst hV
          exact k3.set_ 0 _
        have hlen : (uPut (q : Int)).length = n + 1 := by rw [uPut_len, hN.out]; simp only [Int.toNat_natCast]; repeat (first | rfl | split)
        have hcb := HB.out w6 (uPut q) (n + 1) g (by
          intro j hj
          have e : (⟨g, 0, none⟩ : Addr).add j = ⟨g, j, none⟩ := by unfold Addr.add; split <;> simp_all
          rw [e, k6.cell, List.getElem?_map, List.getElem?_eq_getElem hj]; rfl)
        rw [hlen] at hcb
        have hR2 : (ByteArray.mk (uPut (q : Int)).toArray) = R := by rw [hR.out]; rfl
        rw [hR2] at hcb
        clear hlen hV hck hfk k3 HB hR2
        rw [hcb]
        go_wp2
        go_ret2
        exact ⟨rfl, hb⟩
end Go.Proofs.Ytonokkcnbbljoaa
