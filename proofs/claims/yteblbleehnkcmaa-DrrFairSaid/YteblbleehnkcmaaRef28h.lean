/- callboyref28: may. -/
import Derived.Test.YteblbleehnkcmaaRef28g
namespace Go.Proofs.Yteblbleehnkcmaa
open Go.RowKit Go.Sort
set_option linter.unusedSimpArgs false
set_option linter.unusedVariables false

def okIn (xs : List Int) : Bool := xs.all fun n => dIn n 1 128
def okAll (l : List Ld) : Bool := l.all fun x => okIn x.xs
theorem okIn_snoc (xs : List Int) (k : Nat) (h : k < xs.length) : okIn (xs.take (k + 1)) = (okIn (xs.take k) && dIn xs[k] 1 128) := by
  unfold okIn; rw [take_snocL xs k h, List.all_append]; simp
theorem okAll_snoc (l : List Ld) (k : Nat) (h : k < l.length) : okAll (l.take (k + 1)) = (okAll (l.take k) && okIn l[k].xs) := by
  unfold okAll; rw [take_snocL l k h, List.all_append]; simp
theorem okIn_any (xs : List Int) : (xs.any fun n => !dIn n 1 128) = !okIn xs := by
  unfold okIn; induction xs with
  | nil => rfl
  | cons a r ih => simp only [List.any_cons, List.all_cons, ih, Bool.not_and]
theorem dBad_ok (l : List Ld) : dBad l = !okAll l := by
  unfold dBad okAll; induction l with
  | nil => rfl
  | cons a r ih => rw [List.any_cons, List.all_cons, ih, okIn_any, Bool.not_and]
set_option maxRecDepth 100000 in
set_option maxHeartbeats 8000000 in
theorem ref_may_any (q t : Int) (A : Option Addr) (c : Nat) (l : List Ld) (w : World) (hl : l.length ≤ 1000) (hx : ∀ x ∈ l, x.xs.length ≤ 1000) (ha : Lds w w.heap.size A l) :
    Calls Try.prog 32 #[.int .i64 q, .int .i64 t, .slice A l.length c] w fun e w' => e = .returned (.int .i64 (dMay q t l)) ∧ Below w.heap.size w w' := by
  have hq := fun W => ref_in_any q 128 4096 W
  have ht := fun W => ref_in_any t 0 1048576 W
  have HX := hide hx
  have HM : Hid (dMay q t l = if (dIn q 128 4096 && dIn t 0 1048576 && okAll l) = true then (if (decide (64 < l.length) || dBig l) = true then 5 else 0) else 8) := by
    unfold Hid dMay
    rw [dBad_ok]
    cases dIn q 128 4096 <;> cases dIn t 0 1048576 <;> cases okAll l <;> simp
  clear hx
  generalize dIn q 128 4096 = bq at *
  generalize dIn t 0 1048576 = bt at *
  generalize dMay q t l = R at *
  have key : ∀ (b0 : Bool), Hid (R = if (b0 && okAll l) = true then (if (decide (64 < l.length) || dBig l) = true then 5 else 0) else 8) → True := fun _ _ => trivial
  clear key
  go_enter Try.func32, Try.ntmps32
  go_wp2_with fail
  refine (hq _).mono ?_; rintro e w1 ⟨rfl, rfl⟩
  have HB : Hid (R = if ((bq && bt) && okAll l) = true then (if (decide (64 < l.length) || dBig l) = true then 5 else 0) else 8) := HM
  clear HM
  cases bq with
  | true =>
    go_wp2_with fail
    refine (ht _).mono ?_; rintro e w1 ⟨rfl, rfl⟩
    clear hq ht
    cases bt with
    | true =>
      go_wp2
      go_loopw [7, 8] (fun o i wr => ∃ k : Nat, k ≤ l.length ∧ i = .int .i64 k ∧ (∃ b, o = .bool b ∧ Hid (b = (true && okAll (l.take k)))) ∧ Below w.heap.size w wr) (fun _ i _ => l.length - (intOf i).toNat)
      case atStart => exact ⟨0, Nat.zero_le _, rfl, ⟨_, rfl, by unfold Hid okAll; simp⟩, by (repeat (first | with_reducible exact Below.refl _ _ | with_reducible assumption | with_reducible refine Below.drew ?_ | with_reducible refine Below.drewN ?_ _ | with_reducible refine Below.alloc1 ?_ _ | with_reducible refine Below.setCell1 ?_ (by first | omega | (simp; done) | (simp; omega)) _ | with_reducible refine Below.step ?_ (by with_reducible assumption)))⟩
      case round =>
        obtain ⟨k, hk, rfl, ⟨b, rfl, HV⟩, hb⟩ := hrel
        by_cases hlt : k < l.length
        · obtain ⟨ad, rfl, hadb, c1, c2⟩ := ha.1.ld hlt
          have c2w := (hb.cell (p := ⟨(ad.add (k * 2)).block, (ad.add (k * 2)).off + 1, none⟩) (by dsimp only; rw [add_block]; exact hadb)).trans c2
          have hr0 := ha.2.1 _ (List.getElem_mem hlt)
          have hxl := HX.out _ (List.getElem_mem hlt)
          have HSN := hide (okAll_snoc l k hlt)
          generalize l[k] = x at *
          clear HB
          go_wp2
          go_loopw [7, 9] (fun o j wr2 => ∃ m : Nat, m ≤ x.xs.length ∧ j = .int .i64 m ∧ (∃ b2, o = .bool b2 ∧ Hid (b2 = (b && okIn (x.xs.take m)))) ∧ Below w.heap.size w wr2) (fun _ j _ => x.xs.length - (intOf j).toNat)
          case atStart => exact ⟨0, Nat.zero_le _, rfl, ⟨_, rfl, by unfold Hid okIn; simp⟩, by (repeat (first | with_reducible exact Below.refl _ _ | with_reducible assumption | with_reducible refine Below.drew ?_ | with_reducible refine Below.drewN ?_ _ | with_reducible refine Below.alloc1 ?_ _ | with_reducible refine Below.setCell1 ?_ (by first | omega | (simp; done) | (simp; omega)) _ | with_reducible refine Below.step ?_ (by with_reducible assumption)))⟩
          case round =>
            obtain ⟨m, hm, rfl, ⟨b2, rfl, HV2⟩, hb2⟩ := hrel
            have c2v := (hb2.cell (p := ⟨(ad.add (k * 2)).block, (ad.add (k * 2)).off + 1, none⟩) (by dsimp only; rw [add_block]; exact hadb)).trans c2
            by_cases hlm : m < x.xs.length
            · obtain ⟨xd, hxd, hxb, c4⟩ := Rd.in (hr0.below hb2) hlm
              have HSI := hide (okIn_snoc x.xs m hlm)
              have h1 := fun W => ref_in_any x.xs[m] 1 128 W
              generalize x.xs[m] = z at *
              generalize dIn z 1 128 = bz at *
              rw [hxd] at c2v
              cases b2 with
              | true =>
                go_wp2_with fail
                refine (h1 _).mono ?_; rintro e w3 ⟨rfl, rfl⟩
                clear h1
                go_wp2
                go_roundw
                case rel => exact ⟨m + 1, by omega, by go_num, ⟨_, rfl, by unfold Hid; rw [HSI.out, ← Bool.and_assoc, ← HV2.out]; simp⟩, hb2⟩
                case measure => simp [intOf]; omega
              | false =>
                clear h1
                go_wp2
                go_roundw
                case rel => exact ⟨m + 1, by omega, by go_num, ⟨_, rfl, by unfold Hid; rw [HSI.out, ← Bool.and_assoc, ← HV2.out]; simp⟩, hb2⟩
                case measure => simp [intOf]; omega
            · have hmx : m = x.xs.length := by omega
              subst hmx
              go_wp2
              exact ⟨⟨k + 1, by omega, by go_num, ⟨b2, rfl, by unfold Hid; have := HV2.out; rw [List.take_length] at this; rw [this, HSN.out, ← Bool.and_assoc, ← HV.out]⟩, by (repeat (first | with_reducible exact Below.refl _ _ | with_reducible assumption | with_reducible refine Below.drew ?_ | with_reducible refine Below.drewN ?_ _ | with_reducible refine Below.alloc1 ?_ _ | with_reducible refine Below.setCell1 ?_ (by first | omega | (simp; done) | (simp; omega)) _ | with_reducible refine Below.step ?_ (by with_reducible assumption)))⟩, by simp [intOf]; omega⟩
        · have hkl : k = l.length := by omega
          subst hkl
          have hv := HV.out
          rw [List.take_length] at hv
          have hr := HB.out
          rw [show (true && true) = true from rfl, ← hv] at hr
          cases b with
          | false =>
            have hr2 : R = 8 := by rw [hr]; simp
            clear hr HB hv HV
            replace HB := hide hr2
            clear hr2
            go_wp2
            go_ret
            exact ⟨ret_int HB.out.symm, by (repeat (first | with_reducible exact Below.refl _ _ | with_reducible assumption | with_reducible refine Below.drew ?_ | with_reducible refine Below.drewN ?_ _ | with_reducible refine Below.alloc1 ?_ _ | with_reducible refine Below.setCell1 ?_ (by first | omega | (simp; done) | (simp; omega)) _ | with_reducible refine Below.step ?_ (by with_reducible assumption)))⟩
          | true =>
            have hr2 : R = if (decide (64 < l.length) || dBig l) = true then 5 else 0 := by rw [hr]; simp
            clear hr HB hv HV
            have HB := hide hr2
            clear hr2
            by_cases h64 : 64 < l.length
            · have hr3 : R = 5 := by rw [HB.out, decide_eq_true h64]; simp
              have g64 : (64 : Int) < (l.length : Int) := by omega
              replace HB := hide hr3
              clear hr3 h64
              go_wp2
              go_ret
              exact ⟨ret_int HB.out.symm, by (repeat (first | with_reducible exact Below.refl _ _ | with_reducible assumption | with_reducible refine Below.drew ?_ | with_reducible refine Below.drewN ?_ _ | with_reducible refine Below.alloc1 ?_ _ | with_reducible refine Below.setCell1 ?_ (by first | omega | (simp; done) | (simp; omega)) _ | with_reducible refine Below.step ?_ (by with_reducible assumption)))⟩
            · have hr3 : R = if dBig l = true then 5 else 0 := by rw [HB.out, decide_eq_false h64]; simp
              have g64 : (l.length : Int) ≤ 64 := by omega
              replace HB := hide hr3
              clear hr3 h64
              go_wp2
              go_loopw [10] (fun i wr => ∃ k : Nat, k ≤ l.length ∧ i = .int .i64 k ∧ Hid (dBig (l.take k) = false) ∧ Below w.heap.size w wr) (fun i _ => l.length - (intOf i).toNat)
              case atStart => exact ⟨0, Nat.zero_le _, rfl, by unfold Hid dBig; simp, by (repeat (first | with_reducible exact Below.refl _ _ | with_reducible assumption | with_reducible refine Below.drew ?_ | with_reducible refine Below.drewN ?_ _ | with_reducible refine Below.alloc1 ?_ _ | with_reducible refine Below.setCell1 ?_ (by first | omega | (simp; done) | (simp; omega)) _ | with_reducible refine Below.step ?_ (by with_reducible assumption)))⟩
              case round =>
                clear hb
                obtain ⟨k, hk, rfl, HT, hb⟩ := hrel
                by_cases hlt : k < l.length
                · obtain ⟨ad, rfl, hadb, c1, c2⟩ := (ha.1.below hb).ld hlt
                  have HSB := hide (dBig_snoc hlt)
                  have HBB := hide (fun (h : 64 < l[k].xs.length) => show dBig l = true from List.any_eq_true.2 ⟨_, List.getElem_mem hlt, by simpa using h⟩)
                  have hxl := HX.out _ (List.getElem_mem hlt)
                  generalize l[k] = x at *
                  by_cases h2 : 64 < x.xs.length
                  · have hr3 : R = 5 := by rw [HB.out, HBB.out h2]; simp
                    have g2 : (64 : Int) < (x.xs.length : Int) := by omega
                    replace HB := hide hr3
                    clear hr3 h2
                    go_wp2
                    go_ret
                    exact ⟨ret_int HB.out.symm, by (repeat (first | with_reducible exact Below.refl _ _ | with_reducible assumption | with_reducible refine Below.drew ?_ | with_reducible refine Below.drewN ?_ _ | with_reducible refine Below.alloc1 ?_ _ | with_reducible refine Below.setCell1 ?_ (by first | omega | (simp; done) | (simp; omega)) _ | with_reducible refine Below.step ?_ (by with_reducible assumption)))⟩
                  · have g2 : (x.xs.length : Int) ≤ 64 := by omega
                    have hn : Hid (dBig (l.take (k + 1)) = false) := by unfold Hid; rw [HSB.out, HT.out, decide_eq_false h2]; rfl
                    clear h2
                    go_wp2
                    go_roundw
                    case rel => exact ⟨k + 1, by omega, by go_num, hn, hb⟩
                    case measure => simp [intOf]; omega
                · have hr3 : R = 0 := by
                    have := HT.out
                    rw [List.take_of_length_le (by omega)] at this
                    rw [HB.out, this]; simp
                  replace HB := hide hr3
                  clear hr3
                  go_wp2
                  go_ret
                  exact ⟨ret_int HB.out.symm, by (repeat (first | with_reducible exact Below.refl _ _ | with_reducible assumption | with_reducible refine Below.drew ?_ | with_reducible refine Below.drewN ?_ _ | with_reducible refine Below.alloc1 ?_ _ | with_reducible refine Below.setCell1 ?_ (by first | omega | (simp; done) | (simp; omega)) _ | with_reducible refine Below.step ?_ (by with_reducible assumption)))⟩
    | false =>
      go_wp2
      go_loopw [7, 8] (fun o i wr => ∃ k : Nat, k ≤ l.length ∧ i = .int .i64 k ∧ (∃ b, o = .bool b ∧ Hid (b = (false && okAll (l.take k)))) ∧ Below w.heap.size w wr) (fun _ i _ => l.length - (intOf i).toNat)
      case atStart => exact ⟨0, Nat.zero_le _, rfl, ⟨_, rfl, by unfold Hid okAll; simp⟩, by (repeat (first | with_reducible exact Below.refl _ _ | with_reducible assumption | with_reducible refine Below.drew ?_ | with_reducible refine Below.drewN ?_ _ | with_reducible refine Below.alloc1 ?_ _ | with_reducible refine Below.setCell1 ?_ (by first | omega | (simp; done) | (simp; omega)) _ | with_reducible refine Below.step ?_ (by with_reducible assumption)))⟩
      case round =>
        obtain ⟨k, hk, rfl, ⟨b, rfl, HV⟩, hb⟩ := hrel
        by_cases hlt : k < l.length
        · obtain ⟨ad, rfl, hadb, c1, c2⟩ := ha.1.ld hlt
          have c2w := (hb.cell (p := ⟨(ad.add (k * 2)).block, (ad.add (k * 2)).off + 1, none⟩) (by dsimp only; rw [add_block]; exact hadb)).trans c2
          have hr0 := ha.2.1 _ (List.getElem_mem hlt)
          have hxl := HX.out _ (List.getElem_mem hlt)
          have HSN := hide (okAll_snoc l k hlt)
          generalize l[k] = x at *
          clear HB
          go_wp2
          go_loopw [7, 9] (fun o j wr2 => ∃ m : Nat, m ≤ x.xs.length ∧ j = .int .i64 m ∧ (∃ b2, o = .bool b2 ∧ Hid (b2 = (b && okIn (x.xs.take m)))) ∧ Below w.heap.size w wr2) (fun _ j _ => x.xs.length - (intOf j).toNat)
          case atStart => exact ⟨0, Nat.zero_le _, rfl, ⟨_, rfl, by unfold Hid okIn; simp⟩, by (repeat (first | with_reducible exact Below.refl _ _ | with_reducible assumption | with_reducible refine Below.drew ?_ | with_reducible refine Below.drewN ?_ _ | with_reducible refine Below.alloc1 ?_ _ | with_reducible refine Below.setCell1 ?_ (by first | omega | (simp; done) | (simp; omega)) _ | with_reducible refine Below.step ?_ (by with_reducible assumption)))⟩
          case round =>
            obtain ⟨m, hm, rfl, ⟨b2, rfl, HV2⟩, hb2⟩ := hrel
            have c2v := (hb2.cell (p := ⟨(ad.add (k * 2)).block, (ad.add (k * 2)).off + 1, none⟩) (by dsimp only; rw [add_block]; exact hadb)).trans c2
            by_cases hlm : m < x.xs.length
            · obtain ⟨xd, hxd, hxb, c4⟩ := Rd.in (hr0.below hb2) hlm
              have HSI := hide (okIn_snoc x.xs m hlm)
              have h1 := fun W => ref_in_any x.xs[m] 1 128 W
              generalize x.xs[m] = z at *
              generalize dIn z 1 128 = bz at *
              rw [hxd] at c2v
              cases b2 with
              | true =>
                go_wp2_with fail
                refine (h1 _).mono ?_; rintro e w3 ⟨rfl, rfl⟩
                clear h1
                go_wp2
                go_roundw
                case rel => exact ⟨m + 1, by omega, by go_num, ⟨_, rfl, by unfold Hid; rw [HSI.out, ← Bool.and_assoc, ← HV2.out]; simp⟩, hb2⟩
                case measure => simp [intOf]; omega
              | false =>
                clear h1
                go_wp2
                go_roundw
                case rel => exact ⟨m + 1, by omega, by go_num, ⟨_, rfl, by unfold Hid; rw [HSI.out, ← Bool.and_assoc, ← HV2.out]; simp⟩, hb2⟩
                case measure => simp [intOf]; omega
            · have hmx : m = x.xs.length := by omega
              subst hmx
              go_wp2
              exact ⟨⟨k + 1, by omega, by go_num, ⟨b2, rfl, by unfold Hid; have := HV2.out; rw [List.take_length] at this; rw [this, HSN.out, ← Bool.and_assoc, ← HV.out]⟩, by (repeat (first | with_reducible exact Below.refl _ _ | with_reducible assumption | with_reducible refine Below.drew ?_ | with_reducible refine Below.drewN ?_ _ | with_reducible refine Below.alloc1 ?_ _ | with_reducible refine Below.setCell1 ?_ (by first | omega | (simp; done) | (simp; omega)) _ | with_reducible refine Below.step ?_ (by with_reducible assumption)))⟩, by simp [intOf]; omega⟩
        · have hkl : k = l.length := by omega
          subst hkl
          have hv := HV.out
          rw [List.take_length] at hv
          have hr := HB.out
          rw [show (true && false) = false from rfl, ← hv] at hr
          cases b with
          | false =>
            have hr2 : R = 8 := by rw [hr]; simp
            clear hr HB hv HV
            replace HB := hide hr2
            clear hr2
            go_wp2
            go_ret
            exact ⟨ret_int HB.out.symm, by (repeat (first | with_reducible exact Below.refl _ _ | with_reducible assumption | with_reducible refine Below.drew ?_ | with_reducible refine Below.drewN ?_ _ | with_reducible refine Below.alloc1 ?_ _ | with_reducible refine Below.setCell1 ?_ (by first | omega | (simp; done) | (simp; omega)) _ | with_reducible refine Below.step ?_ (by with_reducible assumption)))⟩
          | true =>
            have hr2 : R = if (decide (64 < l.length) || dBig l) = true then 5 else 0 := by rw [hr]; simp
            clear hr HB hv HV
            have HB := hide hr2
            clear hr2
            by_cases h64 : 64 < l.length
            · have hr3 : R = 5 := by rw [HB.out, decide_eq_true h64]; simp
              have g64 : (64 : Int) < (l.length : Int) := by omega
              replace HB := hide hr3
              clear hr3 h64
              go_wp2
              go_ret
              exact ⟨ret_int HB.out.symm, by (repeat (first | with_reducible exact Below.refl _ _ | with_reducible assumption | with_reducible refine Below.drew ?_ | with_reducible refine Below.drewN ?_ _ | with_reducible refine Below.alloc1 ?_ _ | with_reducible refine Below.setCell1 ?_ (by first | omega | (simp; done) | (simp; omega)) _ | with_reducible refine Below.step ?_ (by with_reducible assumption)))⟩
            · have hr3 : R = if dBig l = true then 5 else 0 := by rw [HB.out, decide_eq_false h64]; simp
              have g64 : (l.length : Int) ≤ 64 := by omega
              replace HB := hide hr3
              clear hr3 h64
              go_wp2
              go_loopw [10] (fun i wr => ∃ k : Nat, k ≤ l.length ∧ i = .int .i64 k ∧ Hid (dBig (l.take k) = false) ∧ Below w.heap.size w wr) (fun i _ => l.length - (intOf i).toNat)
              case atStart => exact ⟨0, Nat.zero_le _, rfl, by unfold Hid dBig; simp, by (repeat (first | with_reducible exact Below.refl _ _ | with_reducible assumption | with_reducible refine Below.drew ?_ | with_reducible refine Below.drewN ?_ _ | with_reducible refine Below.alloc1 ?_ _ | with_reducible refine Below.setCell1 ?_ (by first | omega | (simp; done) | (simp; omega)) _ | with_reducible refine Below.step ?_ (by with_reducible assumption)))⟩
              case round =>
                clear hb
                obtain ⟨k, hk, rfl, HT, hb⟩ := hrel
                by_cases hlt : k < l.length
                · obtain ⟨ad, rfl, hadb, c1, c2⟩ := (ha.1.below hb).ld hlt
                  have HSB := hide (dBig_snoc hlt)
                  have HBB := hide (fun (h : 64 < l[k].xs.length) => show dBig l = true from List.any_eq_true.2 ⟨_, List.getElem_mem hlt, by simpa using h⟩)
                  have hxl := HX.out _ (List.getElem_mem hlt)
                  generalize l[k] = x at *
                  by_cases h2 : 64 < x.xs.length
                  · have hr3 : R = 5 := by rw [HB.out, HBB.out h2]; simp
                    have g2 : (64 : Int) < (x.xs.length : Int) := by omega
                    replace HB := hide hr3
                    clear hr3 h2
                    go_wp2
                    go_ret
                    exact ⟨ret_int HB.out.symm, by (repeat (first | with_reducible exact Below.refl _ _ | with_reducible assumption | with_reducible refine Below.drew ?_ | with_reducible refine Below.drewN ?_ _ | with_reducible refine Below.alloc1 ?_ _ | with_reducible refine Below.setCell1 ?_ (by first | omega | (simp; done) | (simp; omega)) _ | with_reducible refine Below.step ?_ (by with_reducible assumption)))⟩
                  · have g2 : (x.xs.length : Int) ≤ 64 := by omega
                    have hn : Hid (dBig (l.take (k + 1)) = false) := by unfold Hid; rw [HSB.out, HT.out, decide_eq_false h2]; rfl
                    clear h2
                    go_wp2
                    go_roundw
                    case rel => exact ⟨k + 1, by omega, by go_num, hn, hb⟩
                    case measure => simp [intOf]; omega
                · have hr3 : R = 0 := by
                    have := HT.out
                    rw [List.take_of_length_le (by omega)] at this
                    rw [HB.out, this]; simp
                  replace HB := hide hr3
                  clear hr3
                  go_wp2
                  go_ret
                  exact ⟨ret_int HB.out.symm, by (repeat (first | with_reducible exact Below.refl _ _ | with_reducible assumption | with_reducible refine Below.drew ?_ | with_reducible refine Below.drewN ?_ _ | with_reducible refine Below.alloc1 ?_ _ | with_reducible refine Below.setCell1 ?_ (by first | omega | (simp; done) | (simp; omega)) _ | with_reducible refine Below.step ?_ (by with_reducible assumption)))⟩
  | false =>
    clear hq ht
    go_wp2
    go_loopw [7, 8] (fun o i wr => ∃ k : Nat, k ≤ l.length ∧ i = .int .i64 k ∧ (∃ b, o = .bool b ∧ Hid (b = (false && okAll (l.take k)))) ∧ Below w.heap.size w wr) (fun _ i _ => l.length - (intOf i).toNat)
    case atStart => exact ⟨0, Nat.zero_le _, rfl, ⟨_, rfl, by unfold Hid okAll; simp⟩, by (repeat (first | with_reducible exact Below.refl _ _ | with_reducible assumption | with_reducible refine Below.drew ?_ | with_reducible refine Below.drewN ?_ _ | with_reducible refine Below.alloc1 ?_ _ | with_reducible refine Below.setCell1 ?_ (by first | omega | (simp; done) | (simp; omega)) _ | with_reducible refine Below.step ?_ (by with_reducible assumption)))⟩
    case round =>
      obtain ⟨k, hk, rfl, ⟨b, rfl, HV⟩, hb⟩ := hrel
      by_cases hlt : k < l.length
      · obtain ⟨ad, rfl, hadb, c1, c2⟩ := ha.1.ld hlt
        have c2w := (hb.cell (p := ⟨(ad.add (k * 2)).block, (ad.add (k * 2)).off + 1, none⟩) (by dsimp only; rw [add_block]; exact hadb)).trans c2
        have hr0 := ha.2.1 _ (List.getElem_mem hlt)
        have hxl := HX.out _ (List.getElem_mem hlt)
        have HSN := hide (okAll_snoc l k hlt)
        generalize l[k] = x at *
        clear HB
        go_wp2
        go_loopw [7, 9] (fun o j wr2 => ∃ m : Nat, m ≤ x.xs.length ∧ j = .int .i64 m ∧ (∃ b2, o = .bool b2 ∧ Hid (b2 = (b && okIn (x.xs.take m)))) ∧ Below w.heap.size w wr2) (fun _ j _ => x.xs.length - (intOf j).toNat)
        case atStart => exact ⟨0, Nat.zero_le _, rfl, ⟨_, rfl, by unfold Hid okIn; simp⟩, by (repeat (first | with_reducible exact Below.refl _ _ | with_reducible assumption | with_reducible refine Below.drew ?_ | with_reducible refine Below.drewN ?_ _ | with_reducible refine Below.alloc1 ?_ _ | with_reducible refine Below.setCell1 ?_ (by first | omega | (simp; done) | (simp; omega)) _ | with_reducible refine Below.step ?_ (by with_reducible assumption)))⟩
        case round =>
          obtain ⟨m, hm, rfl, ⟨b2, rfl, HV2⟩, hb2⟩ := hrel
          have c2v := (hb2.cell (p := ⟨(ad.add (k * 2)).block, (ad.add (k * 2)).off + 1, none⟩) (by dsimp only; rw [add_block]; exact hadb)).trans c2
          by_cases hlm : m < x.xs.length
          · obtain ⟨xd, hxd, hxb, c4⟩ := Rd.in (hr0.below hb2) hlm
            have HSI := hide (okIn_snoc x.xs m hlm)
            have h1 := fun W => ref_in_any x.xs[m] 1 128 W
            generalize x.xs[m] = z at *
            generalize dIn z 1 128 = bz at *
            rw [hxd] at c2v
            cases b2 with
            | true =>
              go_wp2_with fail
              refine (h1 _).mono ?_; rintro e w3 ⟨rfl, rfl⟩
              clear h1
              go_wp2
              go_roundw
              case rel => exact ⟨m + 1, by omega, by go_num, ⟨_, rfl, by unfold Hid; rw [HSI.out, ← Bool.and_assoc, ← HV2.out]; simp⟩, hb2⟩
              case measure => simp [intOf]; omega
            | false =>
              clear h1
              go_wp2
              go_roundw
              case rel => exact ⟨m + 1, by omega, by go_num, ⟨_, rfl, by unfold Hid; rw [HSI.out, ← Bool.and_assoc, ← HV2.out]; simp⟩, hb2⟩
              case measure => simp [intOf]; omega
          · have hmx : m = x.xs.length := by omega
            subst hmx
            go_wp2
            exact ⟨⟨k + 1, by omega, by go_num, ⟨b2, rfl, by unfold Hid; have := HV2.out; rw [List.take_length] at this; rw [this, HSN.out, ← Bool.and_assoc, ← HV.out]⟩, by (repeat (first | with_reducible exact Below.refl _ _ | with_reducible assumption | with_reducible refine Below.drew ?_ | with_reducible refine Below.drewN ?_ _ | with_reducible refine Below.alloc1 ?_ _ | with_reducible refine Below.setCell1 ?_ (by first | omega | (simp; done) | (simp; omega)) _ | with_reducible refine Below.step ?_ (by with_reducible assumption)))⟩, by simp [intOf]; omega⟩
      · have hkl : k = l.length := by omega
        subst hkl
        have hv := HV.out
        rw [List.take_length] at hv
        have hr := HB.out
        rw [show (false && bt) = false from rfl, ← hv] at hr
        cases b with
        | false =>
          have hr2 : R = 8 := by rw [hr]; simp
          clear hr HB hv HV
          replace HB := hide hr2
          clear hr2
          go_wp2
          go_ret
          exact ⟨ret_int HB.out.symm, by (repeat (first | with_reducible exact Below.refl _ _ | with_reducible assumption | with_reducible refine Below.drew ?_ | with_reducible refine Below.drewN ?_ _ | with_reducible refine Below.alloc1 ?_ _ | with_reducible refine Below.setCell1 ?_ (by first | omega | (simp; done) | (simp; omega)) _ | with_reducible refine Below.step ?_ (by with_reducible assumption)))⟩
        | true =>
          have hr2 : R = if (decide (64 < l.length) || dBig l) = true then 5 else 0 := by rw [hr]; simp
          clear hr HB hv HV
          have HB := hide hr2
          clear hr2
          by_cases h64 : 64 < l.length
          · have hr3 : R = 5 := by rw [HB.out, decide_eq_true h64]; simp
            have g64 : (64 : Int) < (l.length : Int) := by omega
            replace HB := hide hr3
            clear hr3 h64
            go_wp2
            go_ret
            exact ⟨ret_int HB.out.symm, by (repeat (first | with_reducible exact Below.refl _ _ | with_reducible assumption | with_reducible refine Below.drew ?_ | with_reducible refine Below.drewN ?_ _ | with_reducible refine Below.alloc1 ?_ _ | with_reducible refine Below.setCell1 ?_ (by first | omega | (simp; done) | (simp; omega)) _ | with_reducible refine Below.step ?_ (by with_reducible assumption)))⟩
          · have hr3 : R = if dBig l = true then 5 else 0 := by rw [HB.out, decide_eq_false h64]; simp
            have g64 : (l.length : Int) ≤ 64 := by omega
            replace HB := hide hr3
            clear hr3 h64
            go_wp2
            go_loopw [10] (fun i wr => ∃ k : Nat, k ≤ l.length ∧ i = .int .i64 k ∧ Hid (dBig (l.take k) = false) ∧ Below w.heap.size w wr) (fun i _ => l.length - (intOf i).toNat)
            case atStart => exact ⟨0, Nat.zero_le _, rfl, by unfold Hid dBig; simp, by (repeat (first | with_reducible exact Below.refl _ _ | with_reducible assumption | with_reducible refine Below.drew ?_ | with_reducible refine Below.drewN ?_ _ | with_reducible refine Below.alloc1 ?_ _ | with_reducible refine Below.setCell1 ?_ (by first | omega | (simp; done) | (simp; omega)) _ | with_reducible refine Below.step ?_ (by with_reducible assumption)))⟩
            case round =>
              clear hb
              obtain ⟨k, hk, rfl, HT, hb⟩ := hrel
              by_cases hlt : k < l.length
              · obtain ⟨ad, rfl, hadb, c1, c2⟩ := (ha.1.below hb).ld hlt
                have HSB := hide (dBig_snoc hlt)
                have HBB := hide (fun (h : 64 < l[k].xs.length) => show dBig l = true from List.any_eq_true.2 ⟨_, List.getElem_mem hlt, by simpa using h⟩)
                have hxl := HX.out _ (List.getElem_mem hlt)
                generalize l[k] = x at *
                by_cases h2 : 64 < x.xs.length
                · have hr3 : R = 5 := by rw [HB.out, HBB.out h2]; simp
                  have g2 : (64 : Int) < (x.xs.length : Int) := by omega
                  replace HB := hide hr3
                  clear hr3 h2
                  go_wp2
                  go_ret
                  exact ⟨ret_int HB.out.symm, by (repeat (first | with_reducible exact Below.refl _ _ | with_reducible assumption | with_reducible refine Below.drew ?_ | with_reducible refine Below.drewN ?_ _ | with_reducible refine Below.alloc1 ?_ _ | with_reducible refine Below.setCell1 ?_ (by first | omega | (simp; done) | (simp; omega)) _ | with_reducible refine Below.step ?_ (by with_reducible assumption)))⟩
                · have g2 : (x.xs.length : Int) ≤ 64 := by omega
                  have hn : Hid (dBig (l.take (k + 1)) = false) := by unfold Hid; rw [HSB.out, HT.out, decide_eq_false h2]; rfl
                  clear h2
                  go_wp2
                  go_roundw
                  case rel => exact ⟨k + 1, by omega, by go_num, hn, hb⟩
                  case measure => simp [intOf]; omega
              · have hr3 : R = 0 := by
                  have := HT.out
                  rw [List.take_of_length_le (by omega)] at this
                  rw [HB.out, this]; simp
                replace HB := hide hr3
                clear hr3
                go_wp2
                go_ret
                exact ⟨ret_int HB.out.symm, by (repeat (first | with_reducible exact Below.refl _ _ | with_reducible assumption | with_reducible refine Below.drew ?_ | with_reducible refine Below.drewN ?_ _ | with_reducible refine Below.alloc1 ?_ _ | with_reducible refine Below.setCell1 ?_ (by first | omega | (simp; done) | (simp; omega)) _ | with_reducible refine Below.step ?_ (by with_reducible assumption)))⟩
end Go.Proofs.Yteblbleehnkcmaa
