/- Package callboyref04: links. -/
import Derived.Test.YthicpjfdljgfpaaChz
namespace Go.Proofs.Ythicpjfdljgfpaa
open Go.RowKit Go.Sort
set_option linter.unusedSimpArgs false
set_option linter.unusedVariables false

def cLx (n h : Nat) (x : Nd) : Bool := cIn x.l (-1) ((h : Int) - 1) && cIn x.n (-1) ((n : Int) - 1) && cIn x.p (-1) ((n : Int) - 1)
theorem links_eq (st : Ch) : cLinks st = (st.ns.all (cLx st.ns.length st.hs.length) && st.hs.all (fun x => cIn x (-1) ((st.ns.length : Int) - 1)) && st.ts.all (fun x => cIn x (-1) ((st.ns.length : Int) - 1))) := rfl
theorem all_take {α : Type} {p : α → Bool} {l : List α} {k : Nat} (hk : k < l.length) (h0 : (l.take k).all p = true) (h : p l[k] = true) : (l.take (k + 1)).all p = true := by
  rw [take_snocL l k hk, List.all_append, h0]; simp [h]
theorem all_no {α : Type} {p : α → Bool} {l : List α} {k : Nat} (hk : k < l.length) (h : p l[k] = false) : l.all p = false := by
  rw [List.all_eq_false]
  exact ⟨_, List.getElem_mem hk, by simp [h]⟩
set_option maxRecDepth 100000 in
set_option maxHeartbeats 8000000 in
theorem r04_links_any (A B C : Option Addr) (a b c : Nat) (st : Ch) (w : World) (h1 : st.ns.length ≤ 1000) (h2 : st.hs.length ≤ 1000) (h3 : st.ts.length ≤ 1000) (rA : Rd w w.heap.size A (nds st.ns)) (rB : Rd w w.heap.size B (ints st.hs)) (rC : Rd w w.heap.size C (ints st.ts)) :
    Calls Try.prog 50 #[csV A B C a b c st.ns.length st.hs.length st.ts.length] w fun e w' => e = .returned (.bool (cLinks st)) ∧ Below w.heap.size w w' := by
  have HR := hide (links_eq st)
  generalize cLinks st = R at *
  have wn : IntKind.i64.wrap ((st.ns.length : Int) - 1) = (st.ns.length : Int) - 1 := IntWalk.i64_in _ (by omega)
  have wh : IntKind.i64.wrap ((st.hs.length : Int) - 1) = (st.hs.length : Int) - 1 := IntWalk.i64_in _ (by omega)
  go_enter Try.func50, Try.ntmps50
  go_upto_region 3 with fail
  generalize hV : World.alloc w _ = w1
  have hb1 : Below w.heap.size w w1 := by subst hV; (repeat (first | with_reducible exact Below.refl _ _ | with_reducible assumption | with_reducible refine Below.drew ?_ | with_reducible refine Below.drewN ?_ _ | with_reducible refine Below.alloc1 ?_ _ | with_reducible refine Below.setCell1 ?_ (by first | omega | (simp; done) | (simp; omega)) _ | with_reducible refine Below.step ?_ (by with_reducible assumption)))
  have k0 : Bk w1 w.heap.size 25 (csC A B C a b c st.ns.length st.hs.length st.ts.length) := by subst hV; (repeat (first | with_reducible exact Bk.new' _ _ _ _ (by simp; done) | with_reducible assumption | with_reducible refine Bk.alloc ?_ _ | with_reducible refine Bk.drew ?_ | with_reducible refine Bk.drewN ?_ _ | with_reducible refine Bk.step ?_ (by with_reducible assumption) | with_reducible refine Bk.far ?_ (by first | omega | (simp; done) | (simp; omega)) _))
  clear hV
  replace rA := rA.step hb1; replace rB := rB.step hb1; replace rC := rC.step hb1
  go_loopw [4] (fun v wr => ∃ i : Nat, v = .int .i64 i ∧ i ≤ st.ns.length ∧ Hid ((st.ns.take i).all (cLx st.ns.length st.hs.length) = true) ∧ Below w1.heap.size w1 wr) (fun v _ => match v with | .int _ k => st.ns.length - k.toNat | _ => 0)
  case atStart => exact ⟨0, rfl, by omega, hide (by simp), Below.refl _ _⟩
  case round =>
    obtain ⟨i, rfl, hi, HT, hb⟩ := hrel
    have k := k0.step hb
    have k_0 := k.cell 0; have k_f0 := k.frozen 0; have k_1 := k.cell 1; have k_f1 := k.frozen 1; have k_2 := k.cell 2; have k_f2 := k.frozen 2; simp only [List.set_cons_zero, List.set_cons_succ, List.getElem?_cons_zero, List.getElem?_cons_succ] at k_0 k_1 k_2; have lt_k := k.lt
    by_cases hin : i = st.ns.length
    · have hall := hide (show st.ns.all (cLx st.ns.length st.hs.length) = true by have := HT.out; rw [hin, List.take_length] at this; exact this)
      clear HT
      subst hin
      go_upto_region 9 with fail
      obtain ⟨wb6, rfl⟩ : ∃ wn : World, wn = wr := ⟨_, rfl⟩
      (try clear k_0 k_f0 k_1 k_f1 k_2 k_f2 lt_k)
      go_loopw [6] (fun v wr => ∃ i : Nat, v = .int .i64 i ∧ i ≤ st.hs.length ∧ Hid ((st.hs.take i).all (fun x => cIn x (-1) ((st.ns.length : Int) - 1)) = true) ∧ Below wb6.heap.size wb6 wr) (fun v _ => match v with | .int _ k => st.hs.length - k.toNat | _ => 0)
      case atStart => exact ⟨0, rfl, by omega, hide (by simp), Below.refl _ _⟩
      case round =>
        obtain ⟨i, rfl, hi, HT6, hb6⟩ := hrel
        replace k := k.step hb6
        replace hb := hb.step hb6
        have k_0 := k.cell 0; have k_f0 := k.frozen 0; have k_1 := k.cell 1; have k_f1 := k.frozen 1; have k_2 := k.cell 2; have k_f2 := k.frozen 2; simp only [List.set_cons_zero, List.set_cons_succ, List.getElem?_cons_zero, List.getElem?_cons_succ] at k_0 k_1 k_2; have lt_k := k.lt
        by_cases hin6 : i = st.hs.length
        · have hall6 := hide (show st.hs.all (fun x => cIn x (-1) ((st.ns.length : Int) - 1)) = true by have := HT6.out; rw [hin6, List.take_length] at this; exact this)
          clear HT6
          subst hin6
          go_upto_region 14 with fail
          obtain ⟨wb7, rfl⟩ : ∃ wn : World, wn = wr := ⟨_, rfl⟩
          (try clear k_0 k_f0 k_1 k_f1 k_2 k_f2 lt_k)
          go_loopw [7] (fun v wr => ∃ i : Nat, v = .int .i64 i ∧ i ≤ st.ts.length ∧ Hid ((st.ts.take i).all (fun x => cIn x (-1) ((st.ns.length : Int) - 1)) = true) ∧ Below wb7.heap.size wb7 wr) (fun v _ => match v with | .int _ k => st.ts.length - k.toNat | _ => 0)
          case atStart => exact ⟨0, rfl, by omega, hide (by simp), Below.refl _ _⟩
          case round =>
            obtain ⟨i, rfl, hi, HT7, hb7⟩ := hrel
            replace k := k.step hb7
            replace hb := hb.step hb7
            have k_0 := k.cell 0; have k_f0 := k.frozen 0; have k_1 := k.cell 1; have k_f1 := k.frozen 1; have k_2 := k.cell 2; have k_f2 := k.frozen 2; simp only [List.set_cons_zero, List.set_cons_succ, List.getElem?_cons_zero, List.getElem?_cons_succ] at k_0 k_1 k_2; have lt_k := k.lt
            by_cases hin7 : i = st.ts.length
            · have hall7 := hide (show st.ts.all (fun x => cIn x (-1) ((st.ns.length : Int) - 1)) = true by have := HT7.out; rw [hin7, List.take_length] at this; exact this)
              clear HT7
              subst hin7
              have hR := hide (show R = true by rw [HR.out, hall.out, hall6.out, hall7.out]; rfl)
              go_wp2
              go_ret
              exact ⟨ret_bool hR.out.symm, hb1.step hb⟩
            · have hil : i < st.ts.length := by omega
              have hii : (i : Int) < (st.ts.length : Int) := by omega
              obtain ⟨ad, rfl, hadb, hc⟩ := (rC.step hb).at_ (k := i) (by simpa using hil)
              rw [ints_get st.ts i hil] at hc
              have hno : cIn st.ts[i] (-1) ((st.ns.length : Int) - 1) = false → R = false := fun e2 => by
                rw [HR.out, all_no (p := fun x => cIn x (-1) ((st.ns.length : Int) - 1)) hil e2]; simp
              have HNO := hide hno
              have HOK := hide (fun h => all_take (p := fun x => cIn x (-1) ((st.ns.length : Int) - 1)) hil HT7.out h)
              clear hno
              generalize st.ts[i] = x at *
              have hI1 := fun W => r04_in_any x (-1) ((st.ns.length : Int) - 1) W
              cases hv1 : cIn x (-1) ((st.ns.length : Int) - 1)
              · have hR := hide (HNO.out hv1)
                rw [hv1] at hI1
                clear HNO HOK hv1
                go_wp2_with fail
                refine (hI1 _).mono ?_; rintro e w6 ⟨rfl, rfl⟩
                go_wp2
                go_ret
                exact ⟨ret_bool hR.out.symm, hb1.step hb⟩
              · have hR := hide (HOK.out hv1)
                rw [hv1] at hI1
                clear HNO HOK hv1
                go_wp2_with fail
                refine (hI1 _).mono ?_; rintro e w6 ⟨rfl, rfl⟩
                go_wp2
                go_roundw
                case rel => exact ⟨i + 1, by rw [Int.natCast_add]; rfl, by omega, hR, hb7⟩
                case measure => simp; omega
        · have hil : i < st.hs.length := by omega
          have hii : (i : Int) < (st.hs.length : Int) := by omega
          obtain ⟨ad, rfl, hadb, hc⟩ := (rB.step hb).at_ (k := i) (by simpa using hil)
          rw [ints_get st.hs i hil] at hc
          have hno : cIn st.hs[i] (-1) ((st.ns.length : Int) - 1) = false → R = false := fun e2 => by
            rw [HR.out, all_no (p := fun x => cIn x (-1) ((st.ns.length : Int) - 1)) hil e2]; simp
          have HNO := hide hno
          have HOK := hide (fun h => all_take (p := fun x => cIn x (-1) ((st.ns.length : Int) - 1)) hil HT6.out h)
          clear hno
          generalize st.hs[i] = x at *
          have hI1 := fun W => r04_in_any x (-1) ((st.ns.length : Int) - 1) W
          cases hv1 : cIn x (-1) ((st.ns.length : Int) - 1)
          · have hR := hide (HNO.out hv1)
            rw [hv1] at hI1
            clear HNO HOK hv1
            go_wp2_with fail
            refine (hI1 _).mono ?_; rintro e w6 ⟨rfl, rfl⟩
            go_wp2
            go_ret
            exact ⟨ret_bool hR.out.symm, hb1.step hb⟩
          · have hR := hide (HOK.out hv1)
            rw [hv1] at hI1
            clear HNO HOK hv1
            go_wp2_with fail
            refine (hI1 _).mono ?_; rintro e w6 ⟨rfl, rfl⟩
            go_wp2
            go_roundw
            case rel => exact ⟨i + 1, by rw [Int.natCast_add]; rfl, by omega, hR, hb6⟩
            case measure => simp; omega
    · have hil : i < st.ns.length := by omega
      have hii : (i : Int) < (st.ns.length : Int) := by omega
      obtain ⟨ad, rfl, hadb, c1, c2, c3⟩ := (rA.step hb).nd hil
      have hno : ∀ P, P = cLx st.ns.length st.hs.length st.ns[i] → P = false → R = false := fun P e e2 => by
        rw [HR.out, all_no hil (by rw [← e, e2])]; rfl
      have HNO := hide hno
      have HOK := hide (fun h => all_take hil HT.out h)
      clear hno
      generalize st.ns[i] = x at *
      have hI1 := fun W => r04_in_any x.l (-1) ((st.hs.length : Int) - 1) W
      have hI2 := fun W => r04_in_any x.n (-1) ((st.ns.length : Int) - 1) W
      have hI3 := fun W => r04_in_any x.p (-1) ((st.ns.length : Int) - 1) W
      cases hv1 : cIn x.l (-1) ((st.hs.length : Int) - 1)
      · have hR := hide (HNO.out _ rfl (by unfold cLx; rw [hv1]; rfl))
        clear HNO HOK
        rw [hv1] at hI1
        clear hv1
        go_upto_region 6 with fail
        generalize hV : World.alloc wr _ = w5
        have hy : Below wr.heap.size wr w5 := by subst hV; (repeat (first | with_reducible exact Below.refl _ _ | with_reducible assumption | with_reducible refine Below.drew ?_ | with_reducible refine Below.drewN ?_ _ | with_reducible refine Below.alloc1 ?_ _ | with_reducible refine Below.setCell1 ?_ (by first | omega | (simp; done) | (simp; omega)) _ | with_reducible refine Below.step ?_ (by with_reducible assumption)))
        have kx : Bk w5 wr.heap.size 64 [.int .i64 x.l, .int .i64 x.n, .int .i64 x.p] := by subst hV; (repeat (first | with_reducible exact Bk.new' _ _ _ _ (by simp; done) | with_reducible assumption | with_reducible refine Bk.alloc ?_ _ | with_reducible refine Bk.drew ?_ | with_reducible refine Bk.drewN ?_ _ | with_reducible refine Bk.step ?_ (by with_reducible assumption) | with_reducible refine Bk.far ?_ (by first | omega | (simp; done) | (simp; omega)) _))
        clear hV
        replace k := k.step hy; (try clear k_0 k_f0 k_1 k_f1 k_2 k_f2); have k_0 := k.cell 0; have k_f0 := k.frozen 0; have k_1 := k.cell 1; have k_f1 := k.frozen 1; have k_2 := k.cell 2; have k_f2 := k.frozen 2; simp only [List.set_cons_zero, List.set_cons_succ, List.getElem?_cons_zero, List.getElem?_cons_succ] at k_0 k_1 k_2; (try clear lt_k); have lt_k := k.lt
        replace hb := hb.step hy
        clear hy
        have kx_0 := kx.cell 0; have kx_f0 := kx.frozen 0; have kx_1 := kx.cell 1; have kx_f1 := kx.frozen 1; have kx_2 := kx.cell 2; have kx_f2 := kx.frozen 2; simp only [List.set_cons_zero, List.set_cons_succ, List.getElem?_cons_zero, List.getElem?_cons_succ] at kx_0 kx_1 kx_2; have lt_kx := kx.lt
        go_wp2_with fail
        refine (hI1 _).mono ?_; rintro e w6 ⟨rfl, rfl⟩
        go_wp2
        go_ret
        exact ⟨ret_bool hR.out.symm, hb1.step hb⟩
      · cases hv2 : cIn x.n (-1) ((st.ns.length : Int) - 1)
        · have hR := hide (HNO.out _ rfl (by unfold cLx; rw [hv1, hv2]; rfl))
          clear HNO HOK
          rw [hv1] at hI1
          rw [hv2] at hI2
          clear hv1 hv2
          go_upto_region 6 with fail
          generalize hV : World.alloc wr _ = w5
          have hy : Below wr.heap.size wr w5 := by subst hV; (repeat (first | with_reducible exact Below.refl _ _ | with_reducible assumption | with_reducible refine Below.drew ?_ | with_reducible refine Below.drewN ?_ _ | with_reducible refine Below.alloc1 ?_ _ | with_reducible refine Below.setCell1 ?_ (by first | omega | (simp; done) | (simp; omega)) _ | with_reducible refine Below.step ?_ (by with_reducible assumption)))
          have kx : Bk w5 wr.heap.size 64 [.int .i64 x.l, .int .i64 x.n, .int .i64 x.p] := by subst hV; (repeat (first | with_reducible exact Bk.new' _ _ _ _ (by simp; done) | with_reducible assumption | with_reducible refine Bk.alloc ?_ _ | with_reducible refine Bk.drew ?_ | with_reducible refine Bk.drewN ?_ _ | with_reducible refine Bk.step ?_ (by with_reducible assumption) | with_reducible refine Bk.far ?_ (by first | omega | (simp; done) | (simp; omega)) _))
          clear hV
          replace k := k.step hy; (try clear k_0 k_f0 k_1 k_f1 k_2 k_f2); have k_0 := k.cell 0; have k_f0 := k.frozen 0; have k_1 := k.cell 1; have k_f1 := k.frozen 1; have k_2 := k.cell 2; have k_f2 := k.frozen 2; simp only [List.set_cons_zero, List.set_cons_succ, List.getElem?_cons_zero, List.getElem?_cons_succ] at k_0 k_1 k_2; (try clear lt_k); have lt_k := k.lt
          replace hb := hb.step hy
          clear hy
          have kx_0 := kx.cell 0; have kx_f0 := kx.frozen 0; have kx_1 := kx.cell 1; have kx_f1 := kx.frozen 1; have kx_2 := kx.cell 2; have kx_f2 := kx.frozen 2; simp only [List.set_cons_zero, List.set_cons_succ, List.getElem?_cons_zero, List.getElem?_cons_succ] at kx_0 kx_1 kx_2; have lt_kx := kx.lt
          go_wp2_with fail
          refine (hI1 _).mono ?_; rintro e w6 ⟨rfl, rfl⟩
          go_wp2_with fail
          refine (hI2 _).mono ?_; rintro e w7 ⟨rfl, rfl⟩
          go_wp2
          go_ret
          exact ⟨ret_bool hR.out.symm, hb1.step hb⟩
        · cases hv3 : cIn x.p (-1) ((st.ns.length : Int) - 1)
          · have hR := hide (HNO.out _ rfl (by unfold cLx; rw [hv1, hv2, hv3]; rfl))
            clear HNO HOK
            rw [hv1] at hI1
            rw [hv2] at hI2
            rw [hv3] at hI3
            clear hv1 hv2 hv3
            go_upto_region 6 with fail
            generalize hV : World.alloc wr _ = w5
            have hy : Below wr.heap.size wr w5 := by subst hV; (repeat (first | with_reducible exact Below.refl _ _ | with_reducible assumption | with_reducible refine Below.drew ?_ | with_reducible refine Below.drewN ?_ _ | with_reducible refine Below.alloc1 ?_ _ | with_reducible refine Below.setCell1 ?_ (by first | omega | (simp; done) | (simp; omega)) _ | with_reducible refine Below.step ?_ (by with_reducible assumption)))
            have kx : Bk w5 wr.heap.size 64 [.int .i64 x.l, .int .i64 x.n, .int .i64 x.p] := by subst hV; (repeat (first | with_reducible exact Bk.new' _ _ _ _ (by simp; done) | with_reducible assumption | with_reducible refine Bk.alloc ?_ _ | with_reducible refine Bk.drew ?_ | with_reducible refine Bk.drewN ?_ _ | with_reducible refine Bk.step ?_ (by with_reducible assumption) | with_reducible refine Bk.far ?_ (by first | omega | (simp; done) | (simp; omega)) _))
            clear hV
            replace k := k.step hy; (try clear k_0 k_f0 k_1 k_f1 k_2 k_f2); have k_0 := k.cell 0; have k_f0 := k.frozen 0; have k_1 := k.cell 1; have k_f1 := k.frozen 1; have k_2 := k.cell 2; have k_f2 := k.frozen 2; simp only [List.set_cons_zero, List.set_cons_succ, List.getElem?_cons_zero, List.getElem?_cons_succ] at k_0 k_1 k_2; (try clear lt_k); have lt_k := k.lt
            replace hb := hb.step hy
            clear hy
            have kx_0 := kx.cell 0; have kx_f0 := kx.frozen 0; have kx_1 := kx.cell 1; have kx_f1 := kx.frozen 1; have kx_2 := kx.cell 2; have kx_f2 := kx.frozen 2; simp only [List.set_cons_zero, List.set_cons_succ, List.getElem?_cons_zero, List.getElem?_cons_succ] at kx_0 kx_1 kx_2; have lt_kx := kx.lt
            go_wp2_with fail
            refine (hI1 _).mono ?_; rintro e w6 ⟨rfl, rfl⟩
            go_wp2_with fail
            refine (hI2 _).mono ?_; rintro e w7 ⟨rfl, rfl⟩
            go_wp2_with fail
            refine (hI3 _).mono ?_; rintro e w8 ⟨rfl, rfl⟩
            go_wp2
            go_ret
            exact ⟨ret_bool hR.out.symm, hb1.step hb⟩
          · have hR := hide (HOK.out (by unfold cLx; rw [hv1, hv2, hv3]; rfl))
            clear HNO HOK
            rw [hv1] at hI1
            rw [hv2] at hI2
            rw [hv3] at hI3
            clear hv1 hv2 hv3
            go_upto_region 6 with fail
            generalize hV : World.alloc wr _ = w5
            have hy : Below wr.heap.size wr w5 := by subst hV; (repeat (first | with_reducible exact Below.refl _ _ | with_reducible assumption | with_reducible refine Below.drew ?_ | with_reducible refine Below.drewN ?_ _ | with_reducible refine Below.alloc1 ?_ _ | with_reducible refine Below.setCell1 ?_ (by first | omega | (simp; done) | (simp; omega)) _ | with_reducible refine Below.step ?_ (by with_reducible assumption)))
            have kx : Bk w5 wr.heap.size 64 [.int .i64 x.l, .int .i64 x.n, .int .i64 x.p] := by subst hV; (repeat (first | with_reducible exact Bk.new' _ _ _ _ (by simp; done) | with_reducible assumption | with_reducible refine Bk.alloc ?_ _ | with_reducible refine Bk.drew ?_ | with_reducible refine Bk.drewN ?_ _ | with_reducible refine Bk.step ?_ (by with_reducible assumption) | with_reducible refine Bk.far ?_ (by first | omega | (simp; done) | (simp; omega)) _))
            clear hV
            replace k := k.step hy; (try clear k_0 k_f0 k_1 k_f1 k_2 k_f2); have k_0 := k.cell 0; have k_f0 := k.frozen 0; have k_1 := k.cell 1; have k_f1 := k.frozen 1; have k_2 := k.cell 2; have k_f2 := k.frozen 2; simp only [List.set_cons_zero, List.set_cons_succ, List.getElem?_cons_zero, List.getElem?_cons_succ] at k_0 k_1 k_2; (try clear lt_k); have lt_k := k.lt
            replace hb := hb.step hy
            clear hy
            have kx_0 := kx.cell 0; have kx_f0 := kx.frozen 0; have kx_1 := kx.cell 1; have kx_f1 := kx.frozen 1; have kx_2 := kx.cell 2; have kx_f2 := kx.frozen 2; simp only [List.set_cons_zero, List.set_cons_succ, List.getElem?_cons_zero, List.getElem?_cons_succ] at kx_0 kx_1 kx_2; have lt_kx := kx.lt
            go_wp2_with fail
            refine (hI1 _).mono ?_; rintro e w6 ⟨rfl, rfl⟩
            go_wp2_with fail
            refine (hI2 _).mono ?_; rintro e w7 ⟨rfl, rfl⟩
            go_wp2_with fail
            refine (hI3 _).mono ?_; rintro e w8 ⟨rfl, rfl⟩
            go_wp2
            go_roundw
            case rel => exact ⟨i + 1, by rw [Int.natCast_add]; rfl, by omega, hR, hb⟩
            case measure => simp; omega
end Go.Proofs.Ythicpjfdljgfpaa
