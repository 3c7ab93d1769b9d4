/- Package wheel: sorted. -/
import Derived.Test.YtbljiohdfjmhfaaSrt
namespace Go.Proofs.Ytbljiohdfjmhfaa.Dn
open Go.RowKit Go.Sort
set_option linter.unusedSimpArgs false
set_option linter.unusedVariables false

def ltP (p q : Int × Int) : Prop := p.2 < q.2 ∨ (p.2 = q.2 ∧ p.1 < q.1)
instance (p q : Int × Int) : Decidable (ltP p q) := by unfold ltP; infer_instance
def toD (p : Int × Int) : DK := (Fin.ofNat 256 p.1.toNat, p.2)
def frD (x : DK) : Int × Int := ((x.1.val : Int), x.2)
theorem fr_to {p : Int × Int} (h : 0 ≤ p.1 ∧ p.1 ≤ 255) : frD (toD p) = p := by
  unfold frD toD
  have : p.1.toNat % 256 = p.1.toNat := Nat.mod_eq_of_lt (by omega)
  apply Prod.ext
  · simp only [Fin.ofNat, this]; omega
  · rfl
theorem ltD (x y : DK) : ltOf cfD x y = decide (ltP (frD x) (frD y)) := by
  obtain ⟨⟨a, ha⟩, s⟩ := x
  obtain ⟨⟨b, hb⟩, t⟩ := y
  unfold ltOf
  refine decide_eq_decide.2 ?_
  unfold cfD orI Lib.compareInt ltP frD
  simp only
  by_cases h1 : s < t
  · simp [h1]
  · by_cases h2 : t < s
    · have : ¬ (s = t) := by omega
      simp [h1, h2, this]
    · have : s = t := by omega
      subst this
      simp; omega
theorem lt_t {x y : DK} (h : ltOf cfD x y = true) : ltP (frD x) (frD y) := by rw [ltD] at h; exact of_decide_eq_true h
theorem lt_f {x y : DK} (h : ltOf cfD x y = false) : ¬ ltP (frD x) (frD y) := by rw [ltD] at h; exact of_decide_eq_false h
theorem swoD : SWO (ltOf cfD) where
  irrefl x := by rw [ltD]; exact decide_eq_false (by unfold ltP; omega)
  trans x y z h1 h2 := by
    have h1 := lt_t h1
    have h2 := lt_t h2
    rw [ltD]; refine decide_eq_true ?_
    unfold ltP at *; omega
  ntrans x y z h1 h2 := by
    have h1 := lt_f h1
    have h2 := lt_f h2
    rw [ltD]; refine decide_eq_false ?_
    unfold ltP at *; omega
theorem enD_at (x : DK) : enD x = duC (frD x) := rfl
theorem holds_own {w : World} {base g c : Nat} {l : IL} (hb : ∀ p ∈ l, 0 ≤ p.1 ∧ p.1 ≤ 255) (own : w.ownsRow base 62 2 (.slice (some ⟨g, 0, none⟩) l.length c) l.length (duR l)) :
    HoldsK enD 2 w g 0 (l.map toD).toArray := by
  obtain ⟨cur, hg, hc, _⟩ := own_row own
  have hrd := own.cells (g := g) rfl
  intro j hj
  rw [size_flatK] at hj
  have hj' : j < l.length * 2 := by simpa using hj
  refine ⟨?_, ?_⟩
  · have hq : j / 2 < l.length := by omega
    obtain ⟨q0, q1⟩ := duR_get l (j / 2) hq
    have e : (flatK enD 2 (l.map toD).toArray)[j]! = (duC l[j / 2])[j % 2]! := by
      rw [get_flatK _ _ _ _ hj, enD_at]
      have : (l.map toD).toArray[j / 2]! = toD l[j / 2] := by simp [hq]
      rw [this, fr_to (hb _ (List.getElem_mem hq))]
    have h2 : (duR l)[j]? = some ((duC l[j / 2])[j % 2]!) := by
      have key : ∀ r, r < 2 → (duR l)[j / 2 * 2 + r]? = some ((duC l[j / 2])[r]!) := fun r hr => by
        match r, hr with
        | 0, _ => exact q0
        | 1, _ => exact q1
      have := key (j % 2) (by omega)
      rwa [show j / 2 * 2 + j % 2 = j by omega] at this
    have := hrd j _ h2
    rw [e]
    have ea : (⟨g, 0, none⟩ : Addr).add j = ⟨g, 0 + j, none⟩ := by unfold Addr.add; split <;> simp_all
    rw [ea] at this
    exact this
  · simp [World.frozen?, hc]
theorem rd_holds {w : World} {g : Nat} {d : Array DK} (hg : g < w.heap.size) (h : HoldsK enD 2 w g 0 d) : Rd w w.heap.size (some ⟨g, 0, none⟩) (duR (d.toList.map frD)) := fun _ => ⟨_, rfl, hg, fun j v hj => by
  have hlt : j < (duR (d.toList.map frD)).length := (List.getElem?_eq_some_iff.1 hj).1
  rw [duR_length] at hlt
  have hq : j / 2 < (d.toList.map frD).length := by omega
  have hq' : j / 2 < d.size := by simpa using hq
  have hc := h.cell hq' (c := j % 2) (by omega)
  obtain ⟨q0, q1⟩ := duR_get _ _ hq
  have e1 : (d.toList.map frD)[j / 2] = frD d[j / 2]! := by simp [hq']
  rw [e1] at q0 q1
  have ea : (⟨g, 0, none⟩ : Addr).add j = ⟨g, 0 + j / 2 * 2 + j % 2, none⟩ := by
    rw [show 0 + j / 2 * 2 + j % 2 = j by omega]; unfold Addr.add; split <;> simp_all
  have key : ∀ r, r < 2 → (duR (d.toList.map frD))[j / 2 * 2 + r]? = some ((duC (frD d[j / 2]!))[r]!) := fun r hr => by
    match r, hr with
    | 0, _ => exact q0
    | 1, _ => exact q1
  have h2 := key (j % 2) (by omega)
  rw [show j / 2 * 2 + j % 2 = j by omega, hj] at h2
  rw [ea, hc.1, enD_at, h2]⟩
theorem below_sort {w : World} {base g n : Nat} {d : Array DK} {os : Array Obj} (hb : base ≤ g) (hs : base ≤ w.heap.size) : Go.RowKit.Below base w (sortWorldK enD 2 w g 0 n d os) := by
  refine ⟨rfl, rfl, rfl, size_sortWorldK_c enD 2 w g 0 n d os, fun k hk => ?_⟩
  have hkw : k < w.heap.size := by omega
  unfold sortWorldK grow putRowK putRow mapBlock
  simp only [ahead]
  rw [Array.getElem?_append_left (by simpa using hkw)]
  simp [Array.getElem?_modify]
  omega

theorem ins_none (p : Option Addr) (cap : Nat) (fv : Value) (w : World) :
    Calls Try.prog 38 #[.slice p 0 cap, .int .i64 0, .int .i64 0, fv] w fun e w' => e = .returned (.tuple #[]) ∧ w' = w := by
  go_enter Try.func38, Try.ntmps38
  go_wp2
  refine wp_loop_rounds 1 ?_
  rw [rounds_succ]
  go_wp2
  go_end0
  exact ⟨rfl, rfl⟩
theorem pdq_none (p : Option Addr) (cap : Nat) (lim : Int) (fv : Value) (w : World) :
    Calls Try.prog 35 #[.slice p 0 cap, .int .i64 0, .int .i64 0, .int .i64 lim, fv] w fun e w' => e = .returned (.tuple #[]) ∧ w' = w := by
  go_enter Try.func35, Try.ntmps35
  go_wp2
  refine wp_loop_rounds 1 ?_
  rw [rounds_succ]
  go_wp2_with (go_at_call 38; refine (ins_none _ _ _ _).mono ?_; rintro e w' ⟨rfl, rfl⟩)
  (try simp only [Exit.inBlock, Exit.then]); refine bodyPost_ret (results_none rfl _ _ _) rfl ?_
  exact ⟨rfl, rfl⟩
theorem sortFunc_none (p : Option Addr) (cap : Nat) (fv : Value) (w : World) :
    Calls Try.prog 31 #[.slice p 0 cap, fv] w fun e w' => e = .returned (.tuple #[]) ∧ w' = w := by
  have hl : Calls Try.prog 36 #[.int .u64 0] w fun e w' => e = .returned (.int .i64 (Lib.bitLen 0 : Nat)) ∧ w' = w := Any.bits_Len (SlLaysF0.n15.bits (P := Try.prog) (ρ := Try.sortL_ren) { Try.sortL with }) 0 w (by omega) (by omega)
  generalize (Lib.bitLen 0 : Nat) = q at hl
  go_enter Try.func31, Try.ntmps31
  go_wp2_with (first | (go_at_call 36; refine hl.mono ?_; rintro e w' ⟨rfl, rfl⟩) | (go_at_call 35; refine (pdq_none _ _ _ _ _).mono ?_; rintro e w' ⟨rfl, rfl⟩))
  go_end0
  exact ⟨rfl, rfl⟩
theorem sorted_any (w : World) (base : Nat) (A : Option Addr) (c : Nat) (l : IL) (hb : ∀ p ∈ l, 0 ≤ p.1 ∧ p.1 ≤ 255) (hl : l.length ≤ 10000) (hbase : base ≤ w.heap.size) (own : w.ownsRow base 62 2 (.slice A l.length c) l.length (duR l)) :
    Calls Try.prog 30 #[.slice A l.length c] w fun e w' => ∃ l', e = .returned (.slice A l.length c) ∧ l'.Perm l ∧ l'.Pairwise (fun p q => ¬ ltP q p) ∧ Rd w' w'.heap.size A (duR l') ∧ Go.RowKit.Below base w w' := by
  cases A with
  | none =>
    have hl0 : l = [] := by
      rcases l with _ | ⟨a, l⟩
      · rfl
      · obtain ⟨g, cc, hv, _⟩ := own_some own (by simp)
        injection hv with h1; cases h1
    subst hl0
    have hcon := fun fv W => sortFunc_none none c fv W
    go_enter Try.func30, Try.ntmps30
    go_wp2_with (go_at_call 31; refine (hcon _ _).mono ?_; rintro e w' ⟨rfl, rfl⟩)
    go_ret
    exact ⟨[], rfl, .refl _, .nil, Rd.nil, Go.RowKit.Below.refl _ _⟩
  | some ad =>
    obtain ⟨g, rfl, hgb, hgs⟩ : ∃ g, ad = ⟨g, 0, none⟩ ∧ base ≤ g ∧ g < w.heap.size := by
      have h1 := own_blk own ad rfl
      rcases own.2 with ⟨h0, _⟩ | ⟨g, cap, cur, hv, hb, hg, _⟩
      · injection h0 with h0; cases h0
      · injection hv with hv; injection hv with hv; exact ⟨g, hv, by rw [hv] at h1; exact h1.1, by rw [hv] at h1; exact h1.2⟩
    have hH := holds_own hb own
    have eg : ∀ args w, (callFunc 32 args).run Try.prog w = .ok (.enter 32 args) w := enters_of Try.func32 (by kernel_rfl) rfl
    have hcon := AnyQ.slices_SortFunc Try.sortL 2 Try.isAgg62 Try.sizeOf62 enD (fun _ => rfl) (fun x v hv => by simp [enD] at hv; rcases hv with rfl | rfl <;> rfl) cfD swoD 32 #[] g 0 c (l.map toD).toArray w eg (fun _ _ _ _ x y => cmp_any x y _) hH hgs (by simp; omega)
    change Calls Try.prog 31 _ _ _ at hcon
    have hsz : (l.map toD).toArray.size = l.length := by simp
    have hpost : ∀ w' d' n os, PermIn 0 (l.map toD).toArray.size (l.map toD).toArray d' → SortedIn (ltOf cfD) 0 (l.map toD).toArray.size d' → w' = sortWorldK enD 2 w g 0 n d' os →
        ∃ l', l'.Perm l ∧ l'.Pairwise (fun p q => ¬ ltP q p) ∧ Rd w' w'.heap.size (some ⟨g, 0, none⟩) (duR l') ∧ Go.RowKit.Below base w w' := by
      rintro w' d' n os hp hs rfl
      obtain ⟨p1, _, p3⟩ := hp
      have e1 : d'.extract 0 (l.map toD).toArray.size = d' := by rw [← p1]; simp
      have e2 : (l.map toD).toArray.extract 0 (l.map toD).toArray.size = (l.map toD).toArray := by simp [List.take_of_length_le]
      rw [e1, e2] at p3
      have p4 := p3.map frD
      have e3 : ((l.map toD).toArray.toList.map frD) = l := by
        simp only [List.map_map]
        conv => rhs; rw [← List.map_id l]
        exact List.map_congr_left fun p hp => fr_to (hb p hp)
      rw [e3] at p4
      refine ⟨d'.toList.map frD, p4, ?_, rd_holds (Nat.lt_of_lt_of_le hgs (size_sortWorldK_c enD 2 w g 0 n d' os)) (holdsK_sortWorldK_c enD 2 w g 0 _ d' n os hH hgs p1), below_sort hgb hbase⟩
      rw [List.pairwise_map, List.pairwise_iff_getElem]
      intro i j hi hj hij
      have hi' : i < d'.size := by simpa using hi
      have hj' : j < d'.size := by simpa using hj
      have := hs i j (Nat.zero_le _) hij (by rw [← p1]; exact hj')
      rw [ltD] at this
      have h3 : ¬ ltP (frD d'[j]!) (frD d'[i]!) := by simpa using this
      simpa [hi', hj'] using h3
    have hpost := hide hpost
    clear hH eg own
    rw [hsz] at hcon
    go_enter Try.func30, Try.ntmps30
    go_wp2_with (go_at_call 31; refine hcon.mono ?_; rintro e w' ⟨rfl, d', n, os, hp, hs, rfl⟩)
    obtain ⟨l', r1, r2, r3, r4⟩ := hpost.out _ d' n os (by rw [hsz]; exact hp) (by rw [hsz]; exact hs) rfl
    go_wp2
    go_ret
    exact ⟨l', rfl, r1, r2, r3, r4⟩
end Go.Proofs.Ytbljiohdfjmhfaa.Dn
