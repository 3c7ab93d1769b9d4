/- Package callboyref04: Check. -/
import Derived.Test.YthicpjfdljgfpaaRef04c
namespace Go.Proofs.Ythicpjfdljgfpaa
open Go.RowKit Go.Sort
set_option linter.unusedSimpArgs false
set_option linter.unusedVariables false

def cFx (x : Nd) : Bool := !(decide (x.l < 0) && (decide (0 ≤ x.n) || decide (0 ≤ x.p)))
theorem form_eq (st : Ch) : cForm st = st.ns.all cFx := rfl
theorem cFx_no {x : Nd} (h : cFx x = false) : x.l < 0 ∧ (0 ≤ x.n ∨ 0 ≤ x.p) := by
  unfold cFx at h; simp at h
  refine ⟨h.1, ?_⟩
  by_cases g : 0 ≤ x.n
  · exact .inl g
  · exact .inr (h.2 (by omega))
theorem cFx_ok {x : Nd} (h : cFx x = true) : 0 ≤ x.l ∨ (x.l < 0 ∧ x.n < 0 ∧ x.p < 0) := by
  unfold cFx at h
  simp at h
  omega
set_option maxRecDepth 100000 in
set_option maxHeartbeats 8000000 in
theorem r04_Check_any (A B C : Option Addr) (a b c : Nat) (st : Ch) (w : World) (h1 : st.ns.length ≤ 1000) (h2 : st.hs.length ≤ 1000) (h3 : st.ts.length ≤ 1000) (rA : Rd w w.heap.size A (nds st.ns)) (rB : Rd w w.heap.size B (ints st.hs)) (rC : Rd w w.heap.size C (ints st.ts)) :
    Calls Try.prog 23 #[csV A B C a b c st.ns.length st.hs.length st.ts.length] w fun e w' => e = .returned (.int .i64 (cCheck st)) ∧ Below w.heap.size w w' := by
  have hI1 := fun W => r04_in_any (st.ns.length : Int) 1 64 W
  have hI2 := fun W => r04_in_any (st.hs.length : Int) 1 8 W
  have hL := fun (W : World) r r' r'' => r04_links_any A B C a b c st W h1 h2 h3 r r' r''
  have HR := hide (show cCheck st = if cSize st = false then 5 else if cLinks st = false then 8 else if cForm st = false then 4 else if (List.range st.hs.length).all (cRight st) = false then 10 else 0 from rfl)
  have HS := hide (show cSize st = (cIn st.ns.length 1 64 && cIn st.hs.length 1 8 && st.ts.length == st.hs.length) from rfl)
  generalize cCheck st = R at *
  cases hv1 : cIn (st.ns.length : Int) 1 64
  · have hR := hide (show R = 5 by rw [HR.out, if_pos (by rw [HS.out, hv1]; rfl)])
    rw [hv1] at hI1
    clear HR HS hv1 hL hI2
    go_enter Try.func23, Try.ntmps23
    go_upto_region 1 with fail
    generalize hV : World.alloc w _ = w1
    have hb1 : Below w.heap.size w w1 := by subst hV; (repeat (first | with_reducible exact Below.refl _ _ | with_reducible assumption | with_reducible refine Below.drew ?_ | with_reducible refine Below.drewN ?_ _ | with_reducible refine Below.alloc1 ?_ _ | with_reducible refine Below.setCell1 ?_ (by first | omega | (simp; done) | (simp; omega)) _ | with_reducible refine Below.step ?_ (by with_reducible assumption)))
    have k0 : Bk w1 w.heap.size 25 (csC A B C a b c st.ns.length st.hs.length st.ts.length) := by subst hV; (repeat (first | with_reducible exact Bk.new' _ _ _ _ (by simp; done) | with_reducible assumption | with_reducible refine Bk.alloc ?_ _ | with_reducible refine Bk.drew ?_ | with_reducible refine Bk.drewN ?_ _ | with_reducible refine Bk.step ?_ (by with_reducible assumption) | with_reducible refine Bk.far ?_ (by first | omega | (simp; done) | (simp; omega)) _))
    clear hV
    have k0_0 := k0.cell 0; have k0_f0 := k0.frozen 0; have k0_1 := k0.cell 1; have k0_f1 := k0.frozen 1; have k0_2 := k0.cell 2; have k0_f2 := k0.frozen 2; simp only [List.set_cons_zero, List.set_cons_succ, List.getElem?_cons_zero, List.getElem?_cons_succ] at k0_0 k0_1 k0_2; have lt_k0 := k0.lt
    go_wp2_with fail
    refine (hI1 _).mono ?_; rintro e w2 ⟨rfl, rfl⟩
    go_wp2
    go_ret
    exact ⟨ret_int hR.out.symm, hb1⟩
  rw [hv1] at hI1
  cases hv2 : cIn (st.hs.length : Int) 1 8
  · have hR := hide (show R = 5 by rw [HR.out, if_pos (by rw [HS.out, hv1, hv2]; rfl)])
    rw [hv2] at hI2
    clear HR HS hv1 hv2 hL
    go_enter Try.func23, Try.ntmps23
    go_upto_region 1 with fail
    generalize hV : World.alloc w _ = w1
    have hb1 : Below w.heap.size w w1 := by subst hV; (repeat (first | with_reducible exact Below.refl _ _ | with_reducible assumption | with_reducible refine Below.drew ?_ | with_reducible refine Below.drewN ?_ _ | with_reducible refine Below.alloc1 ?_ _ | with_reducible refine Below.setCell1 ?_ (by first | omega | (simp; done) | (simp; omega)) _ | with_reducible refine Below.step ?_ (by with_reducible assumption)))
    have k0 : Bk w1 w.heap.size 25 (csC A B C a b c st.ns.length st.hs.length st.ts.length) := by subst hV; (repeat (first | with_reducible exact Bk.new' _ _ _ _ (by simp; done) | with_reducible assumption | with_reducible refine Bk.alloc ?_ _ | with_reducible refine Bk.drew ?_ | with_reducible refine Bk.drewN ?_ _ | with_reducible refine Bk.step ?_ (by with_reducible assumption) | with_reducible refine Bk.far ?_ (by first | omega | (simp; done) | (simp; omega)) _))
    clear hV
    have k0_0 := k0.cell 0; have k0_f0 := k0.frozen 0; have k0_1 := k0.cell 1; have k0_f1 := k0.frozen 1; have k0_2 := k0.cell 2; have k0_f2 := k0.frozen 2; simp only [List.set_cons_zero, List.set_cons_succ, List.getElem?_cons_zero, List.getElem?_cons_succ] at k0_0 k0_1 k0_2; have lt_k0 := k0.lt
    go_wp2_with fail
    refine (hI1 _).mono ?_; rintro e w2 ⟨rfl, rfl⟩
    go_wp2_with fail
    refine (hI2 _).mono ?_; rintro e w3 ⟨rfl, rfl⟩
    go_wp2
    go_ret
    exact ⟨ret_int hR.out.symm, hb1⟩
  rw [hv2] at hI2
  by_cases hth : st.ts.length = st.hs.length
  case neg =>
    have bt : ((st.ts.length : Int) != (st.hs.length : Int)) = true := by simp; omega
    have hR := hide (show R = 5 by
      have e : (st.ts.length == st.hs.length) = false := by simpa using hth
      rw [HR.out, if_pos (by rw [HS.out, hv1, hv2, e]; rfl)])
    clear HR HS hv1 hv2 hL hth
    go_enter Try.func23, Try.ntmps23
    go_upto_region 1 with fail
    generalize hV : World.alloc w _ = w1
    have hb1 : Below w.heap.size w w1 := by subst hV; (repeat (first | with_reducible exact Below.refl _ _ | with_reducible assumption | with_reducible refine Below.drew ?_ | with_reducible refine Below.drewN ?_ _ | with_reducible refine Below.alloc1 ?_ _ | with_reducible refine Below.setCell1 ?_ (by first | omega | (simp; done) | (simp; omega)) _ | with_reducible refine Below.step ?_ (by with_reducible assumption)))
    have k0 : Bk w1 w.heap.size 25 (csC A B C a b c st.ns.length st.hs.length st.ts.length) := by subst hV; (repeat (first | with_reducible exact Bk.new' _ _ _ _ (by simp; done) | with_reducible assumption | with_reducible refine Bk.alloc ?_ _ | with_reducible refine Bk.drew ?_ | with_reducible refine Bk.drewN ?_ _ | with_reducible refine Bk.step ?_ (by with_reducible assumption) | with_reducible refine Bk.far ?_ (by first | omega | (simp; done) | (simp; omega)) _))
    clear hV
    have k0_0 := k0.cell 0; have k0_f0 := k0.frozen 0; have k0_1 := k0.cell 1; have k0_f1 := k0.frozen 1; have k0_2 := k0.cell 2; have k0_f2 := k0.frozen 2; simp only [List.set_cons_zero, List.set_cons_succ, List.getElem?_cons_zero, List.getElem?_cons_succ] at k0_0 k0_1 k0_2; have lt_k0 := k0.lt
    go_wp2_with fail
    refine (hI1 _).mono ?_; rintro e w2 ⟨rfl, rfl⟩
    go_wp2_with fail
    refine (hI2 _).mono ?_; rintro e w3 ⟨rfl, rfl⟩
    go_wp2
    go_ret
    exact ⟨ret_int hR.out.symm, hb1⟩
  have bt : ((st.ts.length : Int) != (st.hs.length : Int)) = false := by simp; omega
  have HS2 := hide (show ¬ cSize st = false by rw [HS.out, hv1, hv2, hth]; simp)
  have HTH := hide hth
  clear HS hv1 hv2 hth
  cases hvl : cLinks st
  · have hR := hide (show R = 8 by rw [HR.out, if_neg HS2.out, if_pos hvl])
    rw [hvl] at hL
    clear HR HS2 hvl
    go_enter Try.func23, Try.ntmps23
    go_upto_region 1 with fail
    generalize hV : World.alloc w _ = w1
    have hb1 : Below w.heap.size w w1 := by subst hV; (repeat (first | with_reducible exact Below.refl _ _ | with_reducible assumption | with_reducible refine Below.drew ?_ | with_reducible refine Below.drewN ?_ _ | with_reducible refine Below.alloc1 ?_ _ | with_reducible refine Below.setCell1 ?_ (by first | omega | (simp; done) | (simp; omega)) _ | with_reducible refine Below.step ?_ (by with_reducible assumption)))
    have k0 : Bk w1 w.heap.size 25 (csC A B C a b c st.ns.length st.hs.length st.ts.length) := by subst hV; (repeat (first | with_reducible exact Bk.new' _ _ _ _ (by simp; done) | with_reducible assumption | with_reducible refine Bk.alloc ?_ _ | with_reducible refine Bk.drew ?_ | with_reducible refine Bk.drewN ?_ _ | with_reducible refine Bk.step ?_ (by with_reducible assumption) | with_reducible refine Bk.far ?_ (by first | omega | (simp; done) | (simp; omega)) _))
    clear hV
    replace rA := rA.step hb1; replace rB := rB.step hb1; replace rC := rC.step hb1
    have k0_0 := k0.cell 0; have k0_f0 := k0.frozen 0; have k0_1 := k0.cell 1; have k0_f1 := k0.frozen 1; have k0_2 := k0.cell 2; have k0_f2 := k0.frozen 2; simp only [List.set_cons_zero, List.set_cons_succ, List.getElem?_cons_zero, List.getElem?_cons_succ] at k0_0 k0_1 k0_2; have lt_k0 := k0.lt
    go_wp2_with fail
    refine (hI1 _).mono ?_; rintro e w2 ⟨rfl, rfl⟩
    go_wp2_with fail
    refine (hI2 _).mono ?_; rintro e w3 ⟨rfl, rfl⟩
    go_wp2_with fail
    refine (hL _ rA rB rC).mono ?_; rintro e w4 ⟨rfl, hy⟩
    go_wp2
    go_ret
    exact ⟨ret_int hR.out.symm, hb1.step hy⟩
  have HR2 := hide (show R = if st.ns.all cFx = false then 4 else if (List.range st.hs.length).all (cRight st) = false then 10 else 0 by rw [HR.out, if_neg HS2.out, if_neg (by simp [hvl])]; rfl)
  obtain ⟨lk1, lk2⟩ := links_bd hvl
  rw [hvl] at hL
  clear HR HS2 hvl
  go_enter Try.func23, Try.ntmps23
  go_upto_region 1 with fail
  generalize hV : World.alloc w _ = w1
  have hb1 : Below w.heap.size w w1 := by subst hV; (repeat (first | with_reducible exact Below.refl _ _ | with_reducible assumption | with_reducible refine Below.drew ?_ | with_reducible refine Below.drewN ?_ _ | with_reducible refine Below.alloc1 ?_ _ | with_reducible refine Below.setCell1 ?_ (by first | omega | (simp; done) | (simp; omega)) _ | with_reducible refine Below.step ?_ (by with_reducible assumption)))
  have k0 : Bk w1 w.heap.size 25 (csC A B C a b c st.ns.length st.hs.length st.ts.length) := by subst hV; (repeat (first | with_reducible exact Bk.new' _ _ _ _ (by simp; done) | with_reducible assumption | with_reducible refine Bk.alloc ?_ _ | with_reducible refine Bk.drew ?_ | with_reducible refine Bk.drewN ?_ _ | with_reducible refine Bk.step ?_ (by with_reducible assumption) | with_reducible refine Bk.far ?_ (by first | omega | (simp; done) | (simp; omega)) _))
  clear hV
  replace rA := rA.step hb1; replace rB := rB.step hb1; replace rC := rC.step hb1
  have k0_0 := k0.cell 0; have k0_f0 := k0.frozen 0; have k0_1 := k0.cell 1; have k0_f1 := k0.frozen 1; have k0_2 := k0.cell 2; have k0_f2 := k0.frozen 2; simp only [List.set_cons_zero, List.set_cons_succ, List.getElem?_cons_zero, List.getElem?_cons_succ] at k0_0 k0_1 k0_2; have lt_k0 := k0.lt
  go_wp2_with fail
  refine (hI1 _).mono ?_; rintro e w2 ⟨rfl, rfl⟩
  go_wp2_with fail
  refine (hI2 _).mono ?_; rintro e w3 ⟨rfl, rfl⟩
  go_wp2_with fail
  refine (hL _ rA rB rC).mono ?_; rintro e w4 ⟨rfl, hy⟩
  replace rA := rA.step hy; replace rB := rB.step hy; replace rC := rC.step hy
  replace hb1 := hb1.step hy
  (try clear k0_0 k0_f0 k0_1 k0_f1 k0_2 k0_f2 lt_k0)
  replace k0 := k0.step hy
  clear hy hL hI1 hI2
  go_upto_region 6 with fail
  go_loopw [3] (fun v wr => ∃ i : Nat, v = .int .i64 i ∧ i ≤ st.ns.length ∧ Hid ((st.ns.take i).all cFx = true) ∧ Below w4.heap.size w4 wr) (fun v _ => match v with | .int _ k => st.ns.length - k.toNat | _ => 0)
  case atStart => exact ⟨0, rfl, by omega, hide (by simp), Below.refl _ _⟩
  case round =>
    obtain ⟨i, rfl, hi, HT, hb⟩ := hrel
    have k := k0.step hb
    have k_0 := k.cell 0; have k_f0 := k.frozen 0; have k_1 := k.cell 1; have k_f1 := k.frozen 1; have k_2 := k.cell 2; have k_f2 := k.frozen 2; simp only [List.set_cons_zero, List.set_cons_succ, List.getElem?_cons_zero, List.getElem?_cons_succ] at k_0 k_1 k_2; have lt_k := k.lt
    by_cases hin : i = st.ns.length
    · have HR3 := hide (show R = if (List.range st.hs.length).all (cRight st) = false then 10 else 0 by
        have h5 := HT.out
        rw [hin, List.take_length] at h5
        rw [HR2.out, if_neg (by simp [h5])])
      clear HT HR2
      subst hin
      obtain ⟨wb, rfl⟩ : ∃ wn : World, wn = wr := ⟨_, rfl⟩
      go_upto_region 12 with fail
      (try clear k_0 k_f0 k_1 k_f1 k_2 k_f2 lt_k)
      go_loopw [5] (fun v wr => ∃ i : Nat, v = .int .i64 i ∧ i ≤ st.hs.length ∧ Hid ((List.range i).all (cRight st) = true) ∧ Below wb.heap.size wb wr) (fun v _ => match v with | .int _ k => st.hs.length - k.toNat | _ => 0)
      case atStart => exact ⟨0, rfl, by omega, hide (by simp), Below.refl _ _⟩
      case round =>
        obtain ⟨i, rfl, hi, HT, hb2⟩ := hrel
        replace k := k.step hb2
        replace hb := hb.step hb2
        have k_0 := k.cell 0; have k_f0 := k.frozen 0; have k_1 := k.cell 1; have k_f1 := k.frozen 1; have k_2 := k.cell 2; have k_f2 := k.frozen 2; simp only [List.set_cons_zero, List.set_cons_succ, List.getElem?_cons_zero, List.getElem?_cons_succ] at k_0 k_1 k_2; have lt_k := k.lt
        by_cases hin : i = st.hs.length
        · have hR := hide (show R = 0 by
            have h5 := HT.out
            rw [hin] at h5
            rw [HR3.out, if_neg (by rw [h5]; simp)])
          clear HT
          subst hin
          go_wp2
          go_ret
          exact ⟨ret_int hR.out.symm, hb1.step hb⟩
        · have hil : i < st.hs.length := by omega
          have hii : (i : Int) < (st.hs.length : Int) := by omega
          have hRt := fun (W : World) r r' r'' => r04_right_any A B C a b c st i W hil (by rw [HTH.out]; exact hil) h1 h2 lk1 lk2 r r' r''
          have HRT := hide (fun h : cRight st i = true => show (List.range (i + 1)).all (cRight st) = true by rw [List.range_succ, List.all_append, HT.out]; simp [h])
          have HRF := hide (fun h : cRight st i = false => show R = 10 by
            rw [HR3.out, if_pos]
            rw [List.all_eq_false]
            exact ⟨i, List.mem_range.2 hil, by simp [h]⟩)
          cases hv : cRight st i
          · have hR := hide (HRF.out hv)
            rw [hv] at hRt
            clear HRT HRF hv
            go_wp2_with fail
            refine (hRt _ (rA.step hb) (rB.step hb) (rC.step hb)).mono ?_; rintro e w6 ⟨rfl, hy⟩
            go_wp2
            go_ret
            exact ⟨ret_int hR.out.symm, (hb1.step hb).step hy⟩
          · have hR := hide (HRT.out hv)
            rw [hv] at hRt
            clear HRT HRF hv
            go_wp2_with fail
            refine (hRt _ (rA.step hb) (rB.step hb) (rC.step hb)).mono ?_; rintro e w6 ⟨rfl, hy⟩
            go_wp2
            go_roundw
            case rel => exact ⟨i + 1, by rw [Int.natCast_add]; rfl, by omega, hR, hb2.step hy⟩
            case measure => simp; omega
    · have hil : i < st.ns.length := by omega
      have hii : (i : Int) < (st.ns.length : Int) := by omega
      obtain ⟨ad, rfl, hadb, c1, c2, c3⟩ := (rA.step hb).nd hil
      have HOK := hide (fun h => all_take (p := cFx) hil HT.out h)
      have HNO := hide (fun h : cFx st.ns[i] = false => show R = 4 by rw [HR2.out, if_pos (all_no hil h)])
      generalize st.ns[i] = x at *
      go_upto_region 9 with fail
      generalize hV : World.alloc wr _ = w5
      have hy : Below wr.heap.size wr w5 := by subst hV; (repeat (first | with_reducible exact Below.refl _ _ | with_reducible assumption | with_reducible refine Below.drew ?_ | with_reducible refine Below.drewN ?_ _ | with_reducible refine Below.alloc1 ?_ _ | with_reducible refine Below.setCell1 ?_ (by first | omega | (simp; done) | (simp; omega)) _ | with_reducible refine Below.step ?_ (by with_reducible assumption)))
      have kx : Bk w5 wr.heap.size 64 [.int .i64 x.l, .int .i64 x.n, .int .i64 x.p] := by subst hV; (repeat (first | with_reducible exact Bk.new' _ _ _ _ (by simp; done) | with_reducible assumption | with_reducible refine Bk.alloc ?_ _ | with_reducible refine Bk.drew ?_ | with_reducible refine Bk.drewN ?_ _ | with_reducible refine Bk.step ?_ (by with_reducible assumption) | with_reducible refine Bk.far ?_ (by first | omega | (simp; done) | (simp; omega)) _))
      clear hV c1 c2 c3
      replace k := k.step hy; (try clear k_0 k_f0 k_1 k_f1 k_2 k_f2); have k_0 := k.cell 0; have k_f0 := k.frozen 0; have k_1 := k.cell 1; have k_f1 := k.frozen 1; have k_2 := k.cell 2; have k_f2 := k.frozen 2; simp only [List.set_cons_zero, List.set_cons_succ, List.getElem?_cons_zero, List.getElem?_cons_succ] at k_0 k_1 k_2; (try clear lt_k); have lt_k := k.lt
      replace hb := hb.step hy
      clear hy
      have kx_0 := kx.cell 0; have kx_f0 := kx.frozen 0; have kx_1 := kx.cell 1; have kx_f1 := kx.frozen 1; have kx_2 := kx.cell 2; have kx_f2 := kx.frozen 2; simp only [List.set_cons_zero, List.set_cons_succ, List.getElem?_cons_zero, List.getElem?_cons_succ] at kx_0 kx_1 kx_2; have lt_kx := kx.lt
      cases hx : cFx x
      · have hR := hide (HNO.out hx)
        obtain ⟨g1, g2⟩ := cFx_no hx
        clear HOK HNO hx
        by_cases g3 : 0 ≤ x.n
        · clear g2
          go_wp2
          go_ret
          exact ⟨ret_int hR.out.symm, hb1.step hb⟩
        · have g4 : x.n < 0 := by omega
          have g5 : 0 ≤ x.p := by omega
          clear g2 g3
          go_wp2
          go_ret
          exact ⟨ret_int hR.out.symm, hb1.step hb⟩
      · have hR := hide (HOK.out hx)
        have g := cFx_ok hx
        clear HOK HNO hx
        rcases g with g | ⟨g1, g2, g3⟩
        · go_wp2
          go_roundw
          case rel => exact ⟨i + 1, by rw [Int.natCast_add]; rfl, by omega, hR, hb⟩
          case measure => simp; omega
        · go_wp2
          go_roundw
          case rel => exact ⟨i + 1, by rw [Int.natCast_add]; rfl, by omega, hR, hb⟩
          case measure => simp; omega
end Go.Proofs.Ythicpjfdljgfpaa
