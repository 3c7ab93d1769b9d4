/- Package drr: may. -/
import Derived.Test.YteblbleehnkcmaaDrr7
namespace Go.Proofs.Yteblbleehnkcmaa
open Go.RowKit Go.Sort
set_option linter.unusedSimpArgs false
set_option linter.unusedVariables false

/-- loads in memory -/
def Lds (w : World) (B : Nat) (A : Option Addr) (l : List Ld) : Prop := Rd w B A (ldR l) ∧ (∀ x ∈ l, Rd w B x.A (ints x.xs)) ∧ ∀ x ∈ l, x.xs.length ≤ x.c
theorem Lds.step {w w' : World} {A : Option Addr} {l : List Ld} (h : Lds w w.heap.size A l) (k : Below w.heap.size w w') : Lds w' w'.heap.size A l := ⟨h.1.step k, fun x hx => (h.2.1 x hx).step k, h.2.2⟩
theorem Lds.below {w w' : World} {B : Nat} {A : Option Addr} {l : List Ld} (h : Lds w B A l) (k : Below B w w') : Lds w' B A l := ⟨h.1.below k, fun x hx => (h.2.1 x hx).below k, h.2.2⟩
theorem Lds.more {w : World} {B B' : Nat} {A : Option Addr} {l : List Ld} (h : Lds w B A l) (k : B ≤ B') : Lds w B' A l := ⟨h.1.more k, fun x hx => (h.2.1 x hx).more k, h.2.2⟩
def dBig (l : List Ld) : Bool := l.any fun x => decide (64 < x.xs.length)
def dBad (l : List Ld) : Bool := l.any fun x => x.xs.any fun n => !dIn n 1 128
def dMay (q t : Int) (l : List Ld) : Int :=
  if dBad l = true then 8 else if (!dIn q 128 4096 || !dIn t 0 1048576) = true then 8 else if (decide (64 < l.length) || dBig l) = true then 5 else 0
theorem drr_may1_any (n : Int) (w : World) : Calls Try.prog 46 (#[inV n] ++ #[]) w fun e w' => e = .returned (.bool (!dIn n 1 128)) ∧ Below w.heap.size w w' := by
  have h1 := fun W => drr_in_any n 1 128 W
  show Calls Try.prog 46 #[.int .i64 n] w _
  generalize dIn n 1 128 = b at *
  go_enter Try.func46, Try.ntmps46
  go_wp2_with fail
  refine (h1 _).mono ?_; rintro e w1 ⟨rfl, rfl⟩
  go_wp2
  go_ret
  exact ⟨rfl, by (repeat (first | with_reducible exact Below.refl _ _ | with_reducible assumption | with_reducible refine Below.drew ?_ | with_reducible refine Below.drewN ?_ _ | with_reducible refine Below.alloc1 ?_ _ | with_reducible refine Below.setCell1 ?_ (by first | omega | (simp; done) | (simp; omega)) _ | with_reducible refine Below.step ?_ (by with_reducible assumption)))⟩
theorem drr_start1_any (x : Ld) (f : Fl) (b : Nat) (w : World) (hb : b < w.heap.size) (hv : w.cell? ⟨b, 0, none⟩ = some (.int .i64 f.id)) :
    Calls Try.prog 48 (#[ldV x] ++ #[.pointer (some ⟨b, 0, none⟩)]) w fun e w' => e = .returned (.bool (x.id == f.id)) ∧ Below w.heap.size w w' := by
  show Calls Try.prog 48 #[ldV x, .pointer (some ⟨b, 0, none⟩)] w _
  go_enter Try.func48, Try.ntmps48
  go_wp2
  try go_quiet (fail)
  try go_wp2
  go_ret
  exact ⟨rfl, by (repeat (first | with_reducible exact Below.refl _ _ | with_reducible assumption | with_reducible refine Below.drew ?_ | with_reducible refine Below.drewN ?_ _ | with_reducible refine Below.alloc1 ?_ _ | with_reducible refine Below.setCell1 ?_ (by first | omega | (simp; done) | (simp; omega)) _ | with_reducible refine Below.step ?_ (by with_reducible assumption)))⟩
theorem dBig_snoc {l : List Ld} {k : Nat} (hk : k < l.length) : dBig (l.take (k + 1)) = (dBig (l.take k) || decide (64 < l[k].xs.length)) := by
  unfold dBig; rw [take_snocL l k hk, List.any_append]; simp
theorem dBad_at {l : List Ld} {k : Nat} (hk : k < l.length) (h : (l[k].xs.any fun n => !dIn n 1 128) = true) : dBad l = true := by
  unfold dBad; exact List.any_eq_true.2 ⟨_, List.getElem_mem hk, h⟩
theorem dBad_not {l : List Ld} {k : Nat} (hk : k < l.length) (h0 : dBad (l.take k) = false) (h : (l[k].xs.any fun n => !dIn n 1 128) = false) : dBad (l.take (k + 1)) = false := by
  unfold dBad at *; rw [take_snocL l k hk, List.any_append, h0]; simp only [List.any_cons, List.any_nil, h, Bool.or_self]
set_option maxRecDepth 100000 in
set_option maxHeartbeats 4000000 in
theorem drr_may_any (q t : Int) (A : Option Addr) (c : Nat) (l : List Ld) (w : World) (hl : l.length ≤ 1000) (hx : ∀ x ∈ l, x.xs.length ≤ 1000) (ha : Lds w w.heap.size A l) :
    Calls Try.prog 29 #[.int .i64 q, .int .i64 t, .slice A l.length c] w fun e w' => e = .returned (.int .i64 (dMay q t l)) ∧ Below w.heap.size w w' := by
  have eg : ∀ args w, (callFunc 46 args).run Try.prog w = .ok (.enter 46 args) w := enters_of Try.func46 (by kernel_rfl) rfl
  have hM := fun (x : Ld) (W : World) (h1 : x.xs.length ≤ 1000) (h : Rd W W.heap.size x.A (ints x.xs)) => in_ContainsFunc 46 #[] (fun n => !dIn n 1 128) W eg (fun x W' _ => drr_may1_any x W') x.A x.c x.xs (by unfold maxLen; omega) h
  have hq := fun W => drr_in_any q 128 4096 W
  have ht := fun W => drr_in_any t 0 1048576 W
  have hx := hide hx
  clear eg
  go_enter Try.func29, Try.ntmps29
  go_wp2
  go_loopw [15, 7] (fun i lg wr => ∃ k : Nat, k ≤ l.length ∧ i = .int .i64 k ∧ (∃ b, lg = .bool b ∧ b = (decide (64 < l.length) || dBig (l.take k))) ∧ dBad (l.take k) = false ∧ Below w.heap.size w wr) (fun i _ _ => l.length - (intOf i).toNat)
  case atStart => exact ⟨0, Nat.zero_le _, rfl, ⟨_, rfl, by simp [dBig]; omega⟩, by simp [dBad], by (repeat (first | with_reducible exact Below.refl _ _ | with_reducible assumption | with_reducible refine Below.drew ?_ | with_reducible refine Below.drewN ?_ _ | with_reducible refine Below.alloc1 ?_ _ | with_reducible refine Below.setCell1 ?_ (by first | omega | (simp; done) | (simp; omega)) _ | with_reducible refine Below.step ?_ (by with_reducible assumption)))⟩
  case round =>
    obtain ⟨k, hk, rfl, ⟨b, rfl, hlg⟩, hbad, hb⟩ := hrel
    have HG := hide hlg
    have HB := hide hbad
    clear hlg hbad
    by_cases hlt : k < l.length
    · obtain ⟨ad, rfl, hadb, c1, c2⟩ := (ha.1.below hb).ld hlt
      have hr := (ha.2.1 _ (List.getElem_mem hlt)).below hb
      have hxl := hx.out _ (List.getElem_mem hlt)
      have hs := hide (dBig_snoc hlt)
      have h1 := hide (dBad_at hlt)
      have h2 := hide (dBad_not hlt HB.out)
      clear HB
      generalize l[k] = x at *
      cases b with
      | true =>
        go_wp2_with fail
        generalize hV : World.alloc wr _ = w2
        have hy : Below wr.heap.size wr w2 := by subst hV; (repeat (first | with_reducible exact Below.refl _ _ | with_reducible assumption | with_reducible refine Below.drew ?_ | with_reducible refine Below.drewN ?_ _ | with_reducible refine Below.alloc1 ?_ _ | with_reducible refine Below.setCell1 ?_ (by first | omega | (simp; done) | (simp; omega)) _ | with_reducible refine Below.step ?_ (by with_reducible assumption)))
        have hr2 := (hr.below (hy.mono hb.size)).more (Nat.le_trans hb.size hy.size)
        replace hb : Below w.heap.size w w2 := hb.step hy
        clear hV hy hr
        refine (hM x w2 hxl hr2).mono ?_; rintro e x0 ⟨rfl, hx0⟩
        replace hb : Below w.heap.size w x0 := hb.step hx0
        clear hx0 hr2 hM
        cases ha1 : x.xs.any (fun n => !dIn n 1 128) with
        | true =>
          have hr : dMay q t l = 8 := by unfold dMay; rw [if_pos (h1.out ha1)]
          clear h1 h2 hs
          go_wp2
          go_ret
          exact ⟨ret_int hr.symm, by (repeat (first | with_reducible exact Below.refl _ _ | with_reducible assumption | with_reducible refine Below.drew ?_ | with_reducible refine Below.drewN ?_ _ | with_reducible refine Below.alloc1 ?_ _ | with_reducible refine Below.setCell1 ?_ (by first | omega | (simp; done) | (simp; omega)) _ | with_reducible refine Below.step ?_ (by with_reducible assumption)))⟩
        | false =>
          have hn := hide (h2.out ha1)
          clear h1 h2
          go_wp2
          go_roundw
          case rel => exact ⟨k + 1, by omega, by go_num, ⟨_, rfl, by rw [hs.out, ← Bool.or_assoc, ← HG.out]; first | rfl | (simp; done) | (simp; omega)⟩, hn.out, hb⟩
          case measure => simp [intOf]; omega
      | false =>
        go_wp2_with fail
        generalize hV : World.alloc wr _ = w2
        have hy : Below wr.heap.size wr w2 := by subst hV; (repeat (first | with_reducible exact Below.refl _ _ | with_reducible assumption | with_reducible refine Below.drew ?_ | with_reducible refine Below.drewN ?_ _ | with_reducible refine Below.alloc1 ?_ _ | with_reducible refine Below.setCell1 ?_ (by first | omega | (simp; done) | (simp; omega)) _ | with_reducible refine Below.step ?_ (by with_reducible assumption)))
        have hr2 := (hr.below (hy.mono hb.size)).more (Nat.le_trans hb.size hy.size)
        replace hb : Below w.heap.size w w2 := hb.step hy
        clear hV hy hr
        refine (hM x w2 hxl hr2).mono ?_; rintro e x0 ⟨rfl, hx0⟩
        replace hb : Below w.heap.size w x0 := hb.step hx0
        clear hx0 hr2 hM
        cases ha1 : x.xs.any (fun n => !dIn n 1 128) with
        | true =>
          have hr : dMay q t l = 8 := by unfold dMay; rw [if_pos (h1.out ha1)]
          clear h1 h2 hs
          go_wp2
          go_ret
          exact ⟨ret_int hr.symm, by (repeat (first | with_reducible exact Below.refl _ _ | with_reducible assumption | with_reducible refine Below.drew ?_ | with_reducible refine Below.drewN ?_ _ | with_reducible refine Below.alloc1 ?_ _ | with_reducible refine Below.setCell1 ?_ (by first | omega | (simp; done) | (simp; omega)) _ | with_reducible refine Below.step ?_ (by with_reducible assumption)))⟩
        | false =>
          have hn := hide (h2.out ha1)
          clear h1 h2
          go_wp2
          go_roundw
          case rel => exact ⟨k + 1, by omega, by go_num, ⟨_, rfl, by rw [hs.out, ← Bool.or_assoc, ← HG.out]; first | rfl | (simp; done) | (simp; omega)⟩, hn.out, hb⟩
          case measure => simp [intOf]; omega
    · have hk2 : l.take k = l := List.take_of_length_le (by omega)
      rw [hk2] at HG HB
      have hr1 : dMay q t l = if (!dIn q 128 4096 || !dIn t 0 1048576) = true then 8 else if b = true then 5 else 0 := by unfold dMay; rw [HB.out, if_neg (by simp), ← HG.out]
      generalize dIn q 128 4096 = bq at *
      generalize dIn t 0 1048576 = bt at *
      clear HG HB hM hk2
      have HR := hide hr1
      clear hr1
      go_wp2_with fail
      refine (hq _).mono ?_; rintro e w1 ⟨rfl, rfl⟩
      cases bq with
      | false =>
        have hr1 := HR.out
        simp at hr1
        go_wp2
        go_ret
        exact ⟨ret_int hr1.symm, by (repeat (first | with_reducible exact Below.refl _ _ | with_reducible assumption | with_reducible refine Below.drew ?_ | with_reducible refine Below.drewN ?_ _ | with_reducible refine Below.alloc1 ?_ _ | with_reducible refine Below.setCell1 ?_ (by first | omega | (simp; done) | (simp; omega)) _ | with_reducible refine Below.step ?_ (by with_reducible assumption)))⟩
      | true =>
        go_wp2_with fail
        refine (ht _).mono ?_; rintro e w1 ⟨rfl, rfl⟩
        cases bt <;> cases b
        all_goals
          have hr1 := HR.out
          simp at hr1
          go_wp2
          go_ret
          exact ⟨ret_int hr1.symm, by (repeat (first | with_reducible exact Below.refl _ _ | with_reducible assumption | with_reducible refine Below.drew ?_ | with_reducible refine Below.drewN ?_ _ | with_reducible refine Below.alloc1 ?_ _ | with_reducible refine Below.setCell1 ?_ (by first | omega | (simp; done) | (simp; omega)) _ | with_reducible refine Below.step ?_ (by with_reducible assumption)))⟩
end Go.Proofs.Yteblbleehnkcmaa
