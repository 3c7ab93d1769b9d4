/- Package config: fill: a field's numbers, read into their places. -/
import Derived.Test.YtfbllioegeadfaaDoorCf1
import Derived.Test.YtfbllioegeadfaaDoorCfT
import Derived.Test.YtfbllioegeadfaaDoorKeep
import Derived.Test.YtfbllioegeadfaaDoorShelf
import Derived.Lib.LaidTab
namespace Go.Proofs.YtfbllioegeadfaaDoor
open Go.RowKit
set_option linter.unusedSimpArgs false
set_option linter.unusedVariables false

/-- what Go's library wants of the world: bytealg.MaxLen is a number; strconv's powers of ten lie as laid -/
def GW (w : World) : Prop := (∃ m : Int, w.cell? ⟨1, 0, none⟩ = some (.int .i64 m)) ∧ Lib.TabIs Tryd.prog w "internal/strconv.uint64pow10" .u64 Lib.pow10Tab ∧ 2 ≤ w.heap.size
theorem pow_at : Tryd.prog.globalNamed "internal/strconv.uint64pow10" = some 0 := by kernel_rfl
section
variable {w w' : World}
theorem GW.blk (h : GW w) (h0 : w'.heap[0]? = w.heap[0]?) (h1 : w'.heap[1]? = w.heap[1]?) (hs : w.heap.size ≤ w'.heap.size) : GW w' := by
  obtain ⟨⟨m, hm⟩, ht, hz⟩ := h
  refine ⟨⟨m, ?_⟩, ?_, Nat.le_trans hz hs⟩
  · unfold World.cell? at hm ⊢
    dsimp only at hm ⊢
    rw [h1]; exact hm
  · unfold Lib.TabIs World.var? at ht ⊢
    rw [pow_at] at ht ⊢
    simp only [Option.bind_some] at ht ⊢
    rw [h0]; exact ht
theorem GW.below {B : Nat} (h : GW w) (hb : Below B w w') (hB : 2 ≤ B) : GW w' := h.blk (hb.block 0 (by omega)) (hb.block 1 (by omega)) hb.size
theorem GW.step (h : GW w) (hb : Below w.heap.size w w') : GW w' := h.below hb h.2.2
theorem GW.gr {B : Nat} (h : GW w) (hb : w.grownBy w' (some B)) (hB : 2 ≤ B) : GW w' := by
  have h2 := h.2.2
  exact h.blk (hb.block 0 (by omega) (by intro e; injection e with e; omega)) (hb.block 1 (by omega) (by intro e; injection e with e; omega)) hb.size
end
/-- numbers laid from a place on -/
def layN : List Value → Nat → List Int → List Value
  | cs, _, [] => cs
  | cs, o, n :: l => layN (cs.set o (.int .i64 n)) (o + 1) l
theorem layN_snoc : ∀ (l : List Int) (cs : List Value) (o : Nat) (n : Int), layN cs o (l ++ [n]) = (layN cs o l).set (o + l.length) (.int .i64 n)
  | [], _, _, _ => rfl
  | x :: l, cs, o, n => by
    rw [List.cons_append, layN, layN, layN_snoc l, List.length_cons, show o + (l.length + 1) = o + 1 + l.length by omega]
theorem layN_len : ∀ (l : List Int) (cs : List Value) (o : Nat), (layN cs o l).length = cs.length
  | [], _, _ => rfl
  | x :: l, cs, o => by rw [layN, layN_len l, List.length_set]
def ptrs (B off k : Nat) : List Value := (List.range k).map fun j => .pointer (some ⟨B, off + j, none⟩)
theorem ptrs_at (B off k j : Nat) (hj : j < k) : (ptrs B off k)[j]? = some (.pointer (some ⟨B, off + j, none⟩)) := by
  unfold ptrs; rw [List.getElem?_map, List.getElem?_range hj]; rfl
theorem ptrs_len (B off k : Nat) : (ptrs B off k).length = k := by simp [ptrs]
theorem nums_snoc {l : List Tx} {a : List Int} {t : Tx} {n : Int} (h : nums l = some a) (ht : numS t = some n) : nums (l ++ [t]) = some (a ++ [n]) :=
  nums_app _ _ _ _ h (by simp [nums, ht])
theorem nums_none : ∀ {l : List Tx} {t : Tx}, t ∈ l → numS t = none → nums l = none
  | [], t, h, _ => by simp at h
  | x :: r, t, h, hn => by
    rcases List.mem_cons.1 h with rfl | h
    · simp [nums, hn]
    · cases hx : numS x with
      | none => simp [nums, hx]
      | some n => simp [nums, hx, nums_none h hn]
theorem spl_part_len : ∀ (c : UInt8) (t : Tx) (x : Tx), x ∈ spl c t → x.length ≤ t.length
  | c, [], x, h => by simp [spl] at h; subst h; simp
  | c, b :: t, x, h => by
    have ih := fun y hy => spl_part_len c t y hy
    rw [spl] at h
    split at h
    · rcases List.mem_cons.1 h with rfl | h
      · simp
      · have := ih x h; simp; omega
    · cases hs : spl c t with
      | nil => exact absurd hs (spl_ne c t)
      | cons y r =>
        rw [hs] at h ih
        simp only [List.mem_cons] at h
        rcases h with rfl | h
        · have := ih y (by simp); simp; omega
        · have := ih x (by simp [h]); simp; omega
theorem spl_len (c : UInt8) : ∀ (t : Tx), (spl c t).length ≤ t.length + 1
  | [] => by simp [spl]
  | b :: t => by
    have ih := spl_len c t
    rw [spl]
    split
    · simp; omega
    · cases hs : spl c t with
      | nil => exact absurd hs (spl_ne c t)
      | cons y r => rw [hs] at ih; simp at ih ⊢; omega
theorem strs_at (W : World) (gp : Nat) (L : List ByteArray) (t : TypeId) (h : Bk W gp t (L.map Value.string)) (j : Nat) (hj : j < L.length) : W.cell? ⟨gp, j, none⟩ = some (.string L[j]) := by
  rw [h.cell j, List.getElem?_map, List.getElem?_eq_getElem hj]; rfl
theorem int_at : ∀ (cs : List Value) (j : Nat), (∀ v ∈ cs, ∃ n : Int, v = .int .i64 n) → j < cs.length → ∃ n : Int, cs[j]? = some (.int .i64 n) := fun cs j h hj => by
  obtain ⟨n, hn⟩ := h cs[j] (List.getElem_mem hj)
  exact ⟨n, by rw [List.getElem?_eq_getElem hj, hn]⟩
theorem layN_ints : ∀ (l : List Int) (cs : List Value) (o : Nat), (∀ v ∈ cs, ∃ n : Int, v = .int .i64 n) → ∀ v ∈ layN cs o l, ∃ n : Int, v = .int .i64 n
  | [], _, _, h => h
  | x :: l, cs, o, h => by
    rw [layN]
    refine layN_ints l _ _ ?_
    intro v hv
    rcases List.mem_or_eq_of_mem_set hv with hv | rfl
    · exact h v hv
    · exact ⟨x, rfl⟩
/-- what fill leaves -/
def FillP (B off : Nat) (T : TypeId) (cs : List Value) (w : World) (o : Option (List Int)) (e : Ending) (w' : World) : Prop := w.grownBy w' (some B) ∧ match o with
  | some ns => e = .returned (.bool true) ∧ Bk w' B T (layN cs off ns)
  | none => e = .returned (.bool false)
set_option maxRecDepth 100000 in
set_option maxHeartbeats 4000000 in
theorem config_fill_any (B off k : Nat) (T : TypeId) (cs : List Value) (hci : ∀ v ∈ cs, ∃ n : Int, v = .int .i64 n) (s : ByteArray) (hs : s.size ≤ 1000) (A : Option Addr) (c : Nat) (hc : k ≤ c) (h1k : 1 ≤ k) (w : World) (hg : GW w) (hl : Rd w w.heap.size A (ptrs B off k))
    (hA : ∀ ad, A = some ad → ad.block ≠ B) (hk : Bk w B T cs) (hoff : off + k ≤ cs.length) (hB : 2 ≤ B) :
    Calls Tryd.prog 30 #[.slice A k c, .string s] w (FillP B off T cs w (oFill k s.data.toList)) := by
  obtain ⟨⟨m, hm⟩, _, h2⟩ := hg
  have hsp := Tryd.strings_Split s ⟨#[44]⟩ m w (by omega) hm (Nat.le_refl 1)
  have hsl := split_len s 44
  have hss := split_spl s 44
  have hlen : (Lib.splitB ⟨#[44]⟩ 0 (Lib.countB s ⟨#[44]⟩) s).length = (spl 44 s.data.toList).length := by rw [← hss, List.length_map]
  have hpl : ∀ x ∈ spl 44 s.data.toList, x.length ≤ 1000 := fun x hx => by have := spl_part_len 44 _ x hx; have := list_size s; omega
  have hcnt := spl_len 44 s.data.toList
  rw [list_size] at hcnt
  rw [hsl] at hsp
  generalize Lib.splitB ⟨#[44]⟩ 0 (Lib.countB s ⟨#[44]⟩) s = L at *
  have hO : oFill k s.data.toList = if (spl 44 s.data.toList).length = k then nums (spl 44 s.data.toList) else none := rfl
  rw [hO]
  clear hO hsl
  generalize spl 44 s.data.toList = PL at *
  by_cases hn : PL.length = k
  case neg =>
    rw [if_neg hn]
    have hn1 : ((PL.length : Int) == (k : Int)) = false := by simp; omega
    have hn2 : (PL.length : Int) ≠ (k : Int) := by omega
    go_enter Tryd.func30, Tryd.ntmps30
    go_wp2_with fail
    refine hsp.mono ?_; rintro e w1 ⟨rfl, rfl⟩
    go_wp2
    go_ret
    exact ⟨Gr.alloc (Gr.refl _ _) _, rfl⟩
  rw [if_pos hn]
  subst hn
  go_enter Tryd.func30, Tryd.ntmps30
  go_wp2_with fail
  refine hsp.mono ?_; rintro e w1 ⟨rfl, hw1⟩
  have k1 : Bk w1 w.heap.size 9 (L.map Value.string) := by rw [hw1]; exact Bk.new w 9 _
  have hb1 : Below w.heap.size w w1 := by rw [hw1]; (repeat (first | with_reducible exact Below.refl _ _ | with_reducible assumption | with_reducible refine Below.drew ?_ | with_reducible refine Below.drewN ?_ _ | with_reducible refine Below.alloc1 ?_ _ | with_reducible refine Below.setCell1 ?_ (by first | omega | (simp; done) | (simp; omega)) _ | with_reducible refine Below.step ?_ (by with_reducible assumption)))
  clear hw1 hsp
  have hgB : w.heap.size ≠ B := by have := hk.lt; omega
  have hPl : ∀ j (h : j < L.length), PL[j]? = some (L[j]).data.toList := by
    intro j h
    rw [← hss, List.getElem?_map, List.getElem?_eq_getElem h]; rfl
  have hsz : ∀ j (h : j < L.length), (L[j]).size ≤ 1000 := by
    intro j h
    rw [← list_size]; exact hpl _ (List.mem_of_getElem? (hPl j h))
  clear hss hpl
  have hneq : ((PL.length : Int) != (PL.length : Int)) = false := by simp
  go_wp2_with fail
  go_loopw [19] (fun i wr => ∃ (j : Nat) (ns : List Int), j ≤ PL.length ∧ i = .int .i64 j ∧ ns.length = j ∧ nums (PL.take j) = some ns ∧ Bk wr B T (layN cs off ns) ∧ w.grownBy wr (some B) ∧ Bk wr w.heap.size 9 (L.map Value.string)) (fun i _ => PL.length - (intOf i).toNat)
  case atStart => exact ⟨0, [], Nat.zero_le _, rfl, rfl, rfl, hk.step hb1, Gr.step (Gr.refl _ _) hb1, k1⟩
  case round =>
    obtain ⟨j, ns, hj, rfl, hns, hnu, kB, hgr, kp⟩ := hrel
    by_cases hlt : j < PL.length
    · have hltL : j < L.length := by omega
      have hji : (j : Int) < (PL.length : Int) := by omega
      have g1 := strs_at wr w.heap.size L _ kp j hltL
      have hnum := fun W => config_number_any L[j] (by have := hsz j hltL; unfold maxLen; omega) W
      have hcase : cNum (L[j]).data.toList = match numS (L[j]).data.toList with | some n => (n, true) | none => (0, false) := rfl
      cases hn : numS (L[j]).data.toList with
      | none =>
        rw [hn] at hcase
        rw [hcase] at hnum
        have hno := hide (nums_none (List.mem_of_getElem? (hPl j hltL)) hn)
        clear hPl hsz hcase hn
        go_wp2_with fail
        refine (hnum _).mono ?_; rintro e w3 ⟨rfl, hb3⟩
        go_wp2_with fail
        go_ret
        rw [hno.out]
        exact ⟨Gr.step hgr hb3, rfl⟩
      | some n =>
        rw [hn] at hcase
        rw [hcase] at hnum
        have hnu2 := hide (nums_snoc hnu hn)
        have htk : PL.take (j + 1) = PL.take j ++ [(L[j]).data.toList] := by
          rw [List.take_add_one, hPl j hltL]; rfl
        rw [← htk] at hnu2
        obtain ⟨ad, rfl, hadb, hadc⟩ := hl.at_ (k := j) (by rw [ptrs_len]; exact hlt)
        have hpv : (ptrs B off PL.length)[j]'(by rw [ptrs_len]; exact hlt) = .pointer (some ⟨B, off + j, none⟩) := by
          have := ptrs_at B off PL.length j hlt
          rw [List.getElem?_eq_getElem (by rw [ptrs_len]; exact hlt)] at this
          injection this
        rw [hpv] at hadc
        obtain ⟨v0, hv0⟩ := int_at (layN cs off ns) (off + j) (layN_ints ns cs off hci) (by rw [layN_len]; omega)
        have hadne := hA ad rfl
        clear hPl hsz hcase hn hpv
        go_wp2_with fail
        refine (hnum _).mono ?_; rintro e w3 ⟨rfl, hb3⟩
        clear hnum
        have hgr3 := Gr.step hgr hb3
        have kB3 := kB.step hb3
        have kp3 := kp.step hb3
        have ga : w3.cell? (ad.add j) = some (.pointer (some ⟨B, off + j, none⟩)) := by
          refine Eq.trans (World.cell?_of_block ?_) hadc
          rw [add_block]
          exact hgr3.block _ hadb (by intro e; injection e with e; exact hadne e)
        have gb := kB3.cell (off + j)
        rw [hv0] at gb
        have gf := kB3.frozen (off + j)
        clear hb3 kB kp hgr hadc hl
        go_wp2_with fail
        generalize hV : World.setCell w3 _ _ = w4
        have kB4 : Bk w4 B T (layN cs off (ns ++ [n])) := by
          subst hV
          rw [layN_snoc, hns]; exact kB3.set_ (off + j) _
        have hgr4 : w.grownBy w4 (some B) := by subst hV; exact Gr.set_ hgr3 (.inl rfl) _
        have kp4 : Bk w4 w.heap.size 9 (L.map Value.string) := by subst hV; exact kp3.far hgB _
        clear hV
        go_roundw
        case rel => exact ⟨j + 1, ns ++ [n], by omega, by go_num, by simp [hns], hnu2.out, kB4, hgr4, kp4⟩
        case measure => simp [intOf]; omega
    · obtain rfl : j = PL.length := by omega
      rw [List.take_length] at hnu
      have hnu2 := hide hnu
      clear hnu hPl hsz
      go_wp2
      go_ret
      rw [hnu2.out]
      exact ⟨hgr, rfl, kB⟩
end Go.Proofs.YtfbllioegeadfaaDoor
