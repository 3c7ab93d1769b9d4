/- Package admit: what it computes; in, Check, Fine, New, Usual. -/
import Derived.Test.YtolpiaehleefbaaSrc8
import Derived.Test.YtolpiaehleefbaaA3
import Derived.Test.YtolpiaehleefbaaA4
import Derived.Test.YtolpiaehleefbaaA0
namespace Go.Proofs.Ytolpiaehleefbaa
open Go.RowKit Go.Sort
set_option linter.unusedSimpArgs false
set_option linter.unusedVariables false

structure AC where
  ab : Int
  ar : Int
  eb : Int
  er : Int
  up : Nat → Int
  dn : Nat → Int
  hold : Int
  lo : Nat → Int
  hi : Nat → Int
structure AS where
  t : Int
  a : Int
  es : List En
  l : Int
  s : Int
  v : Int
  le : Int
  se : Int
abbrev acC (ab ar eb er : Int) (up dn : Nat → Int) (hold : Int) (lo hi : Nat → Int) : List Value := [.int .i64 ab, .int .i64 ar, .int .i64 eb, .int .i64 er, .int .i64 (up 0), .int .i64 (up 1), .int .i64 (up 2), .int .i64 (dn 0), .int .i64 (dn 1), .int .i64 (dn 2), .int .i64 hold, .int .i64 (lo 0), .int .i64 (lo 1), .int .i64 (lo 2), .int .i64 (lo 3), .int .i64 (hi 0), .int .i64 (hi 1), .int .i64 (hi 2), .int .i64 (hi 3)]
abbrev acV (ab ar eb er : Int) (up dn : Nat → Int) (hold : Int) (lo hi : Nat → Int) : Value := .agg #[.int .i64 ab, .int .i64 ar, .int .i64 eb, .int .i64 er, .int .i64 (up 0), .int .i64 (up 1), .int .i64 (up 2), .int .i64 (dn 0), .int .i64 (dn 1), .int .i64 (dn 2), .int .i64 hold, .int .i64 (lo 0), .int .i64 (lo 1), .int .i64 (lo 2), .int .i64 (lo 3), .int .i64 (hi 0), .int .i64 (hi 1), .int .i64 (hi 2), .int .i64 (hi 3)]
abbrev AC.V (c : AC) : Value := acV c.ab c.ar c.eb c.er c.up c.dn c.hold c.lo c.hi
abbrev azC (t a : Int) (A : Option Addr) (n d : Nat) (l s v le se : Int) : List Value := [.int .i64 t, .int .i64 a, .slice A n d, .int .i64 l, .int .i64 s, .int .i64 v, .int .i64 le, .int .i64 se]
abbrev azV (t a : Int) (A : Option Addr) (n d : Nat) (l s v le se : Int) : Value := .agg #[.int .i64 t, .int .i64 a, .slice A n d, .int .i64 l, .int .i64 s, .int .i64 v, .int .i64 le, .int .i64 se]
abbrev AS.V (x : AS) (A : Option Addr) (d : Nat) : Value := azV x.t x.a A x.es.length d x.l x.s x.v x.le x.se
def aCheck (c : AC) : Int := if bCheck c.ab c.ar ≠ 0 then bCheck c.ab c.ar else if bCheck c.eb c.er ≠ 0 then bCheck c.eb c.er else if vCheck c.up c.dn c.hold ≠ 0 then vCheck c.up c.dn c.hold else jCheck c.lo c.hi
def aGood (c : AC) (x : AS) : Bool := vIn x.le 0 1099511627776 && vIn x.se 0 1099511627776 && vFine x.l x.s x.v && bFine c.ab c.ar x.t x.a
def aFine (c : AC) (x : AS) : Int := if aCheck c ≠ 0 then aCheck c else if aGood c x = false then 8 else eCheck c.eb c.er x.es
def aWould (c : AC) (x : AS) (src now : Int) : Int :=
  if aFine c x ≠ 0 then aFine c x else if vIn src 0 65535 = false then 2 else if vAllows x.l 0 = false then 15 else if bLevel c.ab c.ar x.t x.a now = 0 then 14 else (eTake c.eb c.er x.es src now).2
def aLet (c : AC) (x : AS) (src now : Int) : AS := { x with t := (bTake c.ab c.ar x.t x.a now 1).1.1, a := (bTake c.ab c.ar x.t x.a now 1).1.2, es := (eTake c.eb c.er x.es src now).1, le := min (x.le + 1) 1099511627776 }
def aSend (c : AC) (x : AS) (now : Int) : AS := { x with es := eClean c.eb c.er x.es now, se := min (x.se + 1) 1099511627776 }
def aAsk (c : AC) (x : AS) (src now draw : Int) : AS × Int × Int :=
  if aFine c x ≠ 0 then (x, aWould c x src now, 0) else if aWould c x src now = 2 then (x, 2, 0) else if aWould c x src now = 0 then (aLet c x src now, 0, 0) else (aSend c x now, aWould c x src now, jHint c.lo c.hi x.l draw)
def aTick (c : AC) (x : AS) (load now : Int) : AS :=
  if aFine c x = 0 then { x with l := (vStep c.up c.dn c.hold x.l x.s x.v load now).1, s := (vStep c.up c.dn c.hold x.l x.s x.v load now).2.1, v := (vStep c.up c.dn c.hold x.l x.s x.v load now).2.2 } else x
def aNew (c : AC) : AS × Int := if aCheck c ≠ 0 then (⟨0, 0, [], 0, 0, 0, 0, 0⟩, aCheck c) else (⟨c.ab, 0, [], 0, 0, -1, 0, 0⟩, 0)
def aSame (x y : AS) : Bool := decide ((x.t, x.a) = (y.t, y.a)) && decide (x.es = y.es) && decide ((x.l, x.s, x.v) = (y.l, y.s, y.v)) && decide (x.le = y.le) && decide (x.se = y.se)
def aUsual : AC := ⟨8, 2, 3, 1, u3 50 75 90, u3 40 60 80, 5, uLo, uHi⟩
theorem admit_in_any (n a b : Int) (w : World) :
    Calls Try.prog 45 #[.int .i64 n, .int .i64 a, .int .i64 b] w fun e w' => e = .returned (.bool (vIn n a b)) ∧ w = w' := by
  by_cases h1 : a ≤ n <;> by_cases h2 : n ≤ b
  all_goals
    go_enter Try.func45, Try.ntmps45
    go_wp2
    go_ret
    exact ⟨ret_bool (by simp [vIn, *]), rfl⟩
set_option maxRecDepth 100000 in
set_option maxHeartbeats 4000000 in
theorem admit_Check_any (c : AC) (w : World) : Calls Try.prog 22 #[c.V] w fun e w' => e = .returned (.int .i64 (aCheck c)) ∧ Below w.heap.size w w' := by
  have h1 := fun W => bucket_Check_any c.ab c.ar W
  have h2 := fun W => bucket_Check_any c.eb c.er W
  have h3 := fun W => level_Check_any c.up c.dn c.hold W
  have h4 := fun W => jitter_Check_any c.lo c.hi W
  have HC := hide (show aCheck c = if bCheck c.ab c.ar ≠ 0 then bCheck c.ab c.ar else if bCheck c.eb c.er ≠ 0 then bCheck c.eb c.er else if vCheck c.up c.dn c.hold ≠ 0 then vCheck c.up c.dn c.hold else jCheck c.lo c.hi from rfl)
  generalize bCheck c.ab c.ar = v1 at *
  generalize bCheck c.eb c.er = v2 at *
  generalize vCheck c.up c.dn c.hold = v3 at *
  generalize jCheck c.lo c.hi = v4 at *
  unfold AC.V
  generalize aCheck c = R at *
  obtain ⟨ab, ar, eb, er, up, dn, hold, lo, hi⟩ := c
  dsimp only at *
  go_enter Try.func22, Try.ntmps22
  go_wp2_with fail
  generalize hV : World.alloc w _ = w1
  have hb1 : Below w.heap.size w w1 := by subst hV; (repeat (first | with_reducible exact Below.refl _ _ | with_reducible assumption | with_reducible refine Below.drew ?_ | with_reducible refine Below.drewN ?_ _ | with_reducible refine Below.alloc1 ?_ _ | with_reducible refine Below.setCell1 ?_ (by first | omega | (simp; done) | (simp; omega)) _ | with_reducible refine Below.step ?_ (by with_reducible assumption)))
  have k0 : Bk w1 w.heap.size 44 (acC ab ar eb er up dn hold lo hi) := by subst hV; (repeat (first | with_reducible exact Bk.new' _ _ _ _ (by simp; done) | with_reducible assumption | with_reducible refine Bk.alloc ?_ _ | with_reducible refine Bk.drew ?_ | with_reducible refine Bk.drewN ?_ _ | with_reducible refine Bk.step ?_ (by with_reducible assumption) | with_reducible refine Bk.far ?_ (by first | omega | (simp; done) | (simp; omega)) _))
  clear hV
  refine (h1 _).mono ?_; rintro e x0 ⟨rfl, hx⟩
  replace k0 := k0.step hx
  replace hb1 : Below w.heap.size w x0 := hb1.step hx
  clear hx h1
  have k0_0 := k0.cell 0; have k0_f0 := k0.frozen 0; have k0_1 := k0.cell 1; have k0_f1 := k0.frozen 1; have k0_2 := k0.cell 2; have k0_f2 := k0.frozen 2; have k0_3 := k0.cell 3; have k0_f3 := k0.frozen 3; have k0_4 := k0.cell 4; have k0_f4 := k0.frozen 4; have k0_5 := k0.cell 5; have k0_f5 := k0.frozen 5; have k0_6 := k0.cell 6; have k0_f6 := k0.frozen 6; have k0_7 := k0.cell 7; have k0_f7 := k0.frozen 7; have k0_8 := k0.cell 8; have k0_f8 := k0.frozen 8; have k0_9 := k0.cell 9; have k0_f9 := k0.frozen 9; have k0_10 := k0.cell 10; have k0_f10 := k0.frozen 10; have k0_11 := k0.cell 11; have k0_f11 := k0.frozen 11; have k0_12 := k0.cell 12; have k0_f12 := k0.frozen 12; have k0_13 := k0.cell 13; have k0_f13 := k0.frozen 13; have k0_14 := k0.cell 14; have k0_f14 := k0.frozen 14; have k0_15 := k0.cell 15; have k0_f15 := k0.frozen 15; have k0_16 := k0.cell 16; have k0_f16 := k0.frozen 16; have k0_17 := k0.cell 17; have k0_f17 := k0.frozen 17; have k0_18 := k0.cell 18; have k0_f18 := k0.frozen 18; simp only [List.set_cons_zero, List.set_cons_succ, List.getElem?_cons_zero, List.getElem?_cons_succ] at k0_0 k0_1 k0_2 k0_3 k0_4 k0_5 k0_6 k0_7 k0_8 k0_9 k0_10 k0_11 k0_12 k0_13 k0_14 k0_15 k0_16 k0_17 k0_18; have lt_k0 := k0.lt
  by_cases e1 : v1 = 0
  · subst e1
    have HC2 := HC.out
    rw [if_neg (by simp)] at HC2
    replace HC := hide HC2
    clear HC2
    go_wp2_with fail
    refine (h2 _).mono ?_; rintro e x1 ⟨rfl, hx⟩
    replace k0 := k0.step hx; (try clear k0_0 k0_f0 k0_1 k0_f1 k0_2 k0_f2 k0_3 k0_f3 k0_4 k0_f4 k0_5 k0_f5 k0_6 k0_f6 k0_7 k0_f7 k0_8 k0_f8 k0_9 k0_f9 k0_10 k0_f10 k0_11 k0_f11 k0_12 k0_f12 k0_13 k0_f13 k0_14 k0_f14 k0_15 k0_f15 k0_16 k0_f16 k0_17 k0_f17 k0_18 k0_f18); have k0_0 := k0.cell 0; have k0_f0 := k0.frozen 0; have k0_1 := k0.cell 1; have k0_f1 := k0.frozen 1; have k0_2 := k0.cell 2; have k0_f2 := k0.frozen 2; have k0_3 := k0.cell 3; have k0_f3 := k0.frozen 3; have k0_4 := k0.cell 4; have k0_f4 := k0.frozen 4; have k0_5 := k0.cell 5; have k0_f5 := k0.frozen 5; have k0_6 := k0.cell 6; have k0_f6 := k0.frozen 6; have k0_7 := k0.cell 7; have k0_f7 := k0.frozen 7; have k0_8 := k0.cell 8; have k0_f8 := k0.frozen 8; have k0_9 := k0.cell 9; have k0_f9 := k0.frozen 9; have k0_10 := k0.cell 10; have k0_f10 := k0.frozen 10; have k0_11 := k0.cell 11; have k0_f11 := k0.frozen 11; have k0_12 := k0.cell 12; have k0_f12 := k0.frozen 12; have k0_13 := k0.cell 13; have k0_f13 := k0.frozen 13; have k0_14 := k0.cell 14; have k0_f14 := k0.frozen 14; have k0_15 := k0.cell 15; have k0_f15 := k0.frozen 15; have k0_16 := k0.cell 16; have k0_f16 := k0.frozen 16; have k0_17 := k0.cell 17; have k0_f17 := k0.frozen 17; have k0_18 := k0.cell 18; have k0_f18 := k0.frozen 18; simp only [List.set_cons_zero, List.set_cons_succ, List.getElem?_cons_zero, List.getElem?_cons_succ] at k0_0 k0_1 k0_2 k0_3 k0_4 k0_5 k0_6 k0_7 k0_8 k0_9 k0_10 k0_11 k0_12 k0_13 k0_14 k0_15 k0_16 k0_17 k0_18; (try clear lt_k0); have lt_k0 := k0.lt
    replace hb1 : Below w.heap.size w x1 := hb1.step hx
    clear hx h2
    by_cases e2 : v2 = 0
    · subst e2
      have HC2 := HC.out
      rw [if_neg (by simp)] at HC2
      replace HC := hide HC2
      clear HC2
      go_wp2_with fail
      refine (h3 _).mono ?_; rintro e x2 ⟨rfl, hx⟩
      replace k0 := k0.step hx; (try clear k0_0 k0_f0 k0_1 k0_f1 k0_2 k0_f2 k0_3 k0_f3 k0_4 k0_f4 k0_5 k0_f5 k0_6 k0_f6 k0_7 k0_f7 k0_8 k0_f8 k0_9 k0_f9 k0_10 k0_f10 k0_11 k0_f11 k0_12 k0_f12 k0_13 k0_f13 k0_14 k0_f14 k0_15 k0_f15 k0_16 k0_f16 k0_17 k0_f17 k0_18 k0_f18); have k0_0 := k0.cell 0; have k0_f0 := k0.frozen 0; have k0_1 := k0.cell 1; have k0_f1 := k0.frozen 1; have k0_2 := k0.cell 2; have k0_f2 := k0.frozen 2; have k0_3 := k0.cell 3; have k0_f3 := k0.frozen 3; have k0_4 := k0.cell 4; have k0_f4 := k0.frozen 4; have k0_5 := k0.cell 5; have k0_f5 := k0.frozen 5; have k0_6 := k0.cell 6; have k0_f6 := k0.frozen 6; have k0_7 := k0.cell 7; have k0_f7 := k0.frozen 7; have k0_8 := k0.cell 8; have k0_f8 := k0.frozen 8; have k0_9 := k0.cell 9; have k0_f9 := k0.frozen 9; have k0_10 := k0.cell 10; have k0_f10 := k0.frozen 10; have k0_11 := k0.cell 11; have k0_f11 := k0.frozen 11; have k0_12 := k0.cell 12; have k0_f12 := k0.frozen 12; have k0_13 := k0.cell 13; have k0_f13 := k0.frozen 13; have k0_14 := k0.cell 14; have k0_f14 := k0.frozen 14; have k0_15 := k0.cell 15; have k0_f15 := k0.frozen 15; have k0_16 := k0.cell 16; have k0_f16 := k0.frozen 16; have k0_17 := k0.cell 17; have k0_f17 := k0.frozen 17; have k0_18 := k0.cell 18; have k0_f18 := k0.frozen 18; simp only [List.set_cons_zero, List.set_cons_succ, List.getElem?_cons_zero, List.getElem?_cons_succ] at k0_0 k0_1 k0_2 k0_3 k0_4 k0_5 k0_6 k0_7 k0_8 k0_9 k0_10 k0_11 k0_12 k0_13 k0_14 k0_15 k0_16 k0_17 k0_18; (try clear lt_k0); have lt_k0 := k0.lt
      replace hb1 : Below w.heap.size w x2 := hb1.step hx
      clear hx h3
      by_cases e3 : v3 = 0
      · subst e3
        have HC2 := HC.out
        rw [if_neg (by simp)] at HC2
        replace HC := hide HC2
        clear HC2
        go_wp2_with fail
        refine (h4 _).mono ?_; rintro e x3 ⟨rfl, hx⟩
        (try clear k0_0 k0_f0 k0_1 k0_f1 k0_2 k0_f2 k0_3 k0_f3 k0_4 k0_f4 k0_5 k0_f5 k0_6 k0_f6 k0_7 k0_f7 k0_8 k0_f8 k0_9 k0_f9 k0_10 k0_f10 k0_11 k0_f11 k0_12 k0_f12 k0_13 k0_f13 k0_14 k0_f14 k0_15 k0_f15 k0_16 k0_f16 k0_17 k0_f17 k0_18 k0_f18 lt_k0)
        replace hb1 : Below w.heap.size w x3 := hb1.step hx
        clear hx h4
        go_wp2
        go_ret
        exact ⟨ret_int HC.out.symm, hb1⟩
      · have hne : (v3 != 0) = true := by simpa using e3
        have hr : R = v3 := by rw [HC.out, if_pos e3]
        have HR := hide hr
        clear hr e3
        (try clear k0_0 k0_f0 k0_1 k0_f1 k0_2 k0_f2 k0_3 k0_f3 k0_4 k0_f4 k0_5 k0_f5 k0_6 k0_f6 k0_7 k0_f7 k0_8 k0_f8 k0_9 k0_f9 k0_10 k0_f10 k0_11 k0_f11 k0_12 k0_f12 k0_13 k0_f13 k0_14 k0_f14 k0_15 k0_f15 k0_16 k0_f16 k0_17 k0_f17 k0_18 k0_f18 lt_k0)
        go_wp2
        go_ret
        exact ⟨ret_int HR.out.symm, hb1⟩
    · have hne : (v2 != 0) = true := by simpa using e2
      have hr : R = v2 := by rw [HC.out, if_pos e2]
      have HR := hide hr
      clear hr e2
      (try clear k0_0 k0_f0 k0_1 k0_f1 k0_2 k0_f2 k0_3 k0_f3 k0_4 k0_f4 k0_5 k0_f5 k0_6 k0_f6 k0_7 k0_f7 k0_8 k0_f8 k0_9 k0_f9 k0_10 k0_f10 k0_11 k0_f11 k0_12 k0_f12 k0_13 k0_f13 k0_14 k0_f14 k0_15 k0_f15 k0_16 k0_f16 k0_17 k0_f17 k0_18 k0_f18 lt_k0)
      go_wp2
      go_ret
      exact ⟨ret_int HR.out.symm, hb1⟩
  · have hne : (v1 != 0) = true := by simpa using e1
    have hr : R = v1 := by rw [HC.out, if_pos e1]
    have HR := hide hr
    clear hr e1
    (try clear k0_0 k0_f0 k0_1 k0_f1 k0_2 k0_f2 k0_3 k0_f3 k0_4 k0_f4 k0_5 k0_f5 k0_6 k0_f6 k0_7 k0_f7 k0_8 k0_f8 k0_9 k0_f9 k0_10 k0_f10 k0_11 k0_f11 k0_12 k0_f12 k0_13 k0_f13 k0_14 k0_f14 k0_15 k0_f15 k0_16 k0_f16 k0_17 k0_f17 k0_18 k0_f18 lt_k0)
    go_wp2
    go_ret
    exact ⟨ret_int HR.out.symm, hb1⟩
set_option maxRecDepth 100000 in
set_option maxHeartbeats 8000000 in
theorem admit_Fine_any (c : AC) (x : AS) (A : Option Addr) (d : Nat) (w : World) (hl : x.es.length ≤ 1000) (ha : Rd w w.heap.size A (enR x.es)) :
    Calls Try.prog 20 #[c.V, x.V A d] w fun e w' => e = .returned (.int .i64 (aFine c x)) ∧ Below w.heap.size w w' := by
  have h0 := fun W => admit_Check_any c W
  have h1 := fun W => admit_in_any x.le 0 1099511627776 W
  have h2 := fun W => admit_in_any x.se 0 1099511627776 W
  have h3 := fun W => level_Fine_any x.l x.s x.v W
  have h4 := fun W => bucket_Fine_any c.ab c.ar x.t x.a W
  have h5 := fun (W : World) (h : Below w.heap.size w W) => source_Check_any A d c.eb c.er x.es W hl ((ha.below h).more h.size)
  have HC := hide (show aFine c x = if aCheck c ≠ 0 then aCheck c else if (vIn x.le 0 1099511627776 && vIn x.se 0 1099511627776 && vFine x.l x.s x.v && bFine c.ab c.ar x.t x.a) = false then 8 else eCheck c.eb c.er x.es from rfl)
  generalize aCheck c = v0 at *
  generalize vIn x.le 0 1099511627776 = b1 at *
  generalize vIn x.se 0 1099511627776 = b2 at *
  generalize vFine x.l x.s x.v = b3 at *
  generalize bFine c.ab c.ar x.t x.a = b4 at *
  generalize eCheck c.eb c.er x.es = v5 at *
  generalize aFine c x = R at *
  unfold AC.V AS.V at *
  generalize x.es.length = n at *
  clear hl ha
  obtain ⟨ab, ar, eb, er, up, dn, hold, lo, hi⟩ := c
  obtain ⟨t, a, es, l, s, v, le, se⟩ := x
  dsimp only at *
  go_enter Try.func20, Try.ntmps20
  go_upto_region 1 with fail
  generalize hV : World.alloc (World.alloc w _) _ = w1
  have hb1 : Below w.heap.size w w1 := by subst hV; (repeat (first | with_reducible exact Below.refl _ _ | with_reducible assumption | with_reducible refine Below.drew ?_ | with_reducible refine Below.drewN ?_ _ | with_reducible refine Below.alloc1 ?_ _ | with_reducible refine Below.setCell1 ?_ (by first | omega | (simp; done) | (simp; omega)) _ | with_reducible refine Below.step ?_ (by with_reducible assumption)))
  have k0 : Bk w1 w.heap.size 44 (acC ab ar eb er up dn hold lo hi) := by subst hV; (repeat (first | with_reducible exact Bk.new' _ _ _ _ (by simp; done) | with_reducible assumption | with_reducible refine Bk.alloc ?_ _ | with_reducible refine Bk.drew ?_ | with_reducible refine Bk.drewN ?_ _ | with_reducible refine Bk.step ?_ (by with_reducible assumption) | with_reducible refine Bk.far ?_ (by first | omega | (simp; done) | (simp; omega)) _))
  have k1 : Bk w1 (w.heap.size + 1) 51 (azC t a A n d l s v le se) := by subst hV; (repeat (first | with_reducible exact Bk.new' _ _ _ _ (by simp; done) | with_reducible assumption | with_reducible refine Bk.alloc ?_ _ | with_reducible refine Bk.drew ?_ | with_reducible refine Bk.drewN ?_ _ | with_reducible refine Bk.step ?_ (by with_reducible assumption) | with_reducible refine Bk.far ?_ (by first | omega | (simp; done) | (simp; omega)) _))
  clear hV
  go_wp2_with (first | (refine wpList_load_row rfl 44 _ rfl _ rfl _ _ (0, 0) _ k0 Try.underlying44 rfl (by kernel_rfl) ?_) | (refine wpList_load_row rfl 51 _ rfl _ rfl _ _ (0, 0) _ k1 Try.underlying51 rfl (by kernel_rfl) ?_))
  refine (h0 _).mono ?_; rintro e x0 ⟨rfl, hx⟩
  replace k0 := k0.step hx
  replace k1 := k1.step hx
  replace hb1 : Below w.heap.size w x0 := hb1.step hx
  clear hx h0
  by_cases e0 : v0 = 0
  · subst e0
    have HC2 := HC.out
    rw [if_neg (by simp)] at HC2
    replace HC := hide HC2
    clear HC2
    have k0_0 := k0.cell 0; have k0_f0 := k0.frozen 0; have k0_1 := k0.cell 1; have k0_f1 := k0.frozen 1; have k0_2 := k0.cell 2; have k0_f2 := k0.frozen 2; have k0_3 := k0.cell 3; have k0_f3 := k0.frozen 3; simp only [List.set_cons_zero, List.set_cons_succ, List.getElem?_cons_zero, List.getElem?_cons_succ] at k0_0 k0_1 k0_2 k0_3; have lt_k0 := k0.lt; have k1_0 := k1.cell 0; have k1_f0 := k1.frozen 0; have k1_1 := k1.cell 1; have k1_f1 := k1.frozen 1; have k1_2 := k1.cell 2; have k1_f2 := k1.frozen 2; have k1_3 := k1.cell 3; have k1_f3 := k1.frozen 3; have k1_4 := k1.cell 4; have k1_f4 := k1.frozen 4; have k1_5 := k1.cell 5; have k1_f5 := k1.frozen 5; have k1_6 := k1.cell 6; have k1_f6 := k1.frozen 6; have k1_7 := k1.cell 7; have k1_f7 := k1.frozen 7; simp only [List.set_cons_zero, List.set_cons_succ, List.getElem?_cons_zero, List.getElem?_cons_succ] at k1_0 k1_1 k1_2 k1_3 k1_4 k1_5 k1_6 k1_7; have lt_k1 := k1.lt
    go_wp2_with fail
    refine (h1 _).mono ?_; rintro e x1 ⟨rfl, rfl⟩
    cases b1 with
    | false => as_aux_lemma =>
      have HR := hide (show R = 8 from by rw [HC.out]; simp)
      go_wp2
      go_ret
      exact ⟨ret_int HR.out.symm, hb1⟩
    | true =>
      go_wp2_with fail
      refine (h2 _).mono ?_; rintro e x1 ⟨rfl, rfl⟩
      cases b2 with
      | false => as_aux_lemma =>
        have HR := hide (show R = 8 from by rw [HC.out]; simp)
        go_wp2
        go_ret
        exact ⟨ret_int HR.out.symm, hb1⟩
      | true =>
        go_wp2_with fail
        refine (h3 _).mono ?_; rintro e x1 ⟨rfl, hx⟩
        replace k0 := k0.step hx; (try clear k0_0 k0_f0 k0_1 k0_f1 k0_2 k0_f2 k0_3 k0_f3); have k0_0 := k0.cell 0; have k0_f0 := k0.frozen 0; have k0_1 := k0.cell 1; have k0_f1 := k0.frozen 1; have k0_2 := k0.cell 2; have k0_f2 := k0.frozen 2; have k0_3 := k0.cell 3; have k0_f3 := k0.frozen 3; simp only [List.set_cons_zero, List.set_cons_succ, List.getElem?_cons_zero, List.getElem?_cons_succ] at k0_0 k0_1 k0_2 k0_3; (try clear lt_k0); have lt_k0 := k0.lt; replace k1 := k1.step hx; (try clear k1_0 k1_f0 k1_1 k1_f1 k1_2 k1_f2 k1_3 k1_f3 k1_4 k1_f4 k1_5 k1_f5 k1_6 k1_f6 k1_7 k1_f7); have k1_0 := k1.cell 0; have k1_f0 := k1.frozen 0; have k1_1 := k1.cell 1; have k1_f1 := k1.frozen 1; have k1_2 := k1.cell 2; have k1_f2 := k1.frozen 2; have k1_3 := k1.cell 3; have k1_f3 := k1.frozen 3; have k1_4 := k1.cell 4; have k1_f4 := k1.frozen 4; have k1_5 := k1.cell 5; have k1_f5 := k1.frozen 5; have k1_6 := k1.cell 6; have k1_f6 := k1.frozen 6; have k1_7 := k1.cell 7; have k1_f7 := k1.frozen 7; simp only [List.set_cons_zero, List.set_cons_succ, List.getElem?_cons_zero, List.getElem?_cons_succ] at k1_0 k1_1 k1_2 k1_3 k1_4 k1_5 k1_6 k1_7; (try clear lt_k1); have lt_k1 := k1.lt
        replace hb1 : Below w.heap.size w x1 := hb1.step hx
        clear hx
        cases b3 with
        | false => as_aux_lemma =>
          have HR := hide (show R = 8 from by rw [HC.out]; simp)
          go_wp2
          go_ret
          exact ⟨ret_int HR.out.symm, hb1⟩
        | true =>
          go_wp2_with fail
          refine (h4 _).mono ?_; rintro e x2 ⟨rfl, hx⟩
          replace k0 := k0.step hx; (try clear k0_0 k0_f0 k0_1 k0_f1 k0_2 k0_f2 k0_3 k0_f3); have k0_0 := k0.cell 0; have k0_f0 := k0.frozen 0; have k0_1 := k0.cell 1; have k0_f1 := k0.frozen 1; have k0_2 := k0.cell 2; have k0_f2 := k0.frozen 2; have k0_3 := k0.cell 3; have k0_f3 := k0.frozen 3; simp only [List.set_cons_zero, List.set_cons_succ, List.getElem?_cons_zero, List.getElem?_cons_succ] at k0_0 k0_1 k0_2 k0_3; (try clear lt_k0); have lt_k0 := k0.lt; replace k1 := k1.step hx; (try clear k1_0 k1_f0 k1_1 k1_f1 k1_2 k1_f2 k1_3 k1_f3 k1_4 k1_f4 k1_5 k1_f5 k1_6 k1_f6 k1_7 k1_f7); have k1_0 := k1.cell 0; have k1_f0 := k1.frozen 0; have k1_1 := k1.cell 1; have k1_f1 := k1.frozen 1; have k1_2 := k1.cell 2; have k1_f2 := k1.frozen 2; have k1_3 := k1.cell 3; have k1_f3 := k1.frozen 3; have k1_4 := k1.cell 4; have k1_f4 := k1.frozen 4; have k1_5 := k1.cell 5; have k1_f5 := k1.frozen 5; have k1_6 := k1.cell 6; have k1_f6 := k1.frozen 6; have k1_7 := k1.cell 7; have k1_f7 := k1.frozen 7; simp only [List.set_cons_zero, List.set_cons_succ, List.getElem?_cons_zero, List.getElem?_cons_succ] at k1_0 k1_1 k1_2 k1_3 k1_4 k1_5 k1_6 k1_7; (try clear lt_k1); have lt_k1 := k1.lt
          replace hb1 : Below w.heap.size w x2 := hb1.step hx
          clear hx
          cases b4 with
          | false => as_aux_lemma =>
            have HR := hide (show R = 8 from by rw [HC.out]; simp)
            go_wp2
            go_ret
            exact ⟨ret_int HR.out.symm, hb1⟩
          | true =>
            have HR := hide (show R = v5 from by rw [HC.out]; simp)
            go_wp2_with fail
            refine (h5 _ hb1).mono ?_; rintro e x3 ⟨rfl, hx⟩
            (try clear k0_0 k0_f0 k0_1 k0_f1 k0_2 k0_f2 k0_3 k0_f3 lt_k0) ; (try clear k1_0 k1_f0 k1_1 k1_f1 k1_2 k1_f2 k1_3 k1_f3 k1_4 k1_f4 k1_5 k1_f5 k1_6 k1_f6 k1_7 k1_f7 lt_k1)
            go_wp2
            go_ret
            exact ⟨ret_int HR.out.symm, hb1.step hx⟩
  · have hne : (v0 != 0) = true := by simpa using e0
    have HR := hide (show R = v0 from by rw [HC.out, if_pos e0])
    clear e0
    go_wp2
    go_ret
    exact ⟨ret_int HR.out.symm, hb1⟩
end Go.Proofs.Ytolpiaehleefbaa
