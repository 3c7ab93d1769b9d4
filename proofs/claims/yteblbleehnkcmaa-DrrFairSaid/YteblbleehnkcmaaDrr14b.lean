/- Package drr: Serve, with the row of what went told to be new. -/
import Derived.Test.YteblbleehnkcmaaDrr14
namespace Go.Proofs.Yteblbleehnkcmaa
open Go.RowKit Go.Sort
set_option linter.unusedSimpArgs false
set_option linter.unusedVariables false

set_option maxRecDepth 100000 in
set_option maxHeartbeats 8000000 in
theorem drr_Serve_fr (A C : Option Addr) (c d : Nat) (l : List Fl) (at_ : Int) (mid : Bool) (q t : Int) (ld : List Ld) (w : World) (hl : l.length ≤ 1000) (hld : ld.length ≤ 1000) (hx : ∀ x ∈ ld, x.xs.length ≤ 1000) (ha : Rd w w.heap.size A (flR l)) (hd : Lds w w.heap.size C ld) :
    Calls Try.prog 11 #[dsV A l.length c at_ mid, .int .i64 q, .int .i64 t, .slice C ld.length d] w fun e w' => ∃ V' B b, e = .returned (.tuple #[V', .slice B (dServe l at_ mid q t ld).went.length b, .int .i64 (dServe l at_ mid q t ld).e]) ∧
      DAtF w.heap.size A w' V' (dServe l at_ mid q t ld).fl (dServe l at_ mid q t ld).at_ (dServe l at_ mid q t ld).mid ∧ (Rd w' w'.heap.size B (ints (dServe l at_ mid q t ld).went) ∧ Fr w.heap.size B ∧ (dServe l at_ mid q t ld).went.length ≤ b) ∧ Below w.heap.size w w' := by
  have hC := fun (W : World) (h : Below w.heap.size w W) => drr_Check_any A c l at_ mid W hl ((ha.below h).more h.size)
  have hM := fun (W : World) (h : Below w.heap.size w W) => drr_may_any q t C d ld W hld hx ((hd.below h).more h.size)
  have hS := fun (W : World) (h : Below w.heap.size w W) => drr_start_any W.heap.size A C c d l at_ mid q t ld W hl hld hx (Nat.le_refl _) ((ha.below h).more h.size) ((hd.below h).more h.size)
  have HX := hide hx
  clear hx
  generalize hSR : dServe l at_ mid q t ld = SR
  go_enter Try.func11, Try.ntmps11
  go_wp2
  refine wp_scope_rel (ι := World × Nat × RS) 0 (fun i a wr => SvJ w i.1 i.2.1 q SR i.2.2 a wr) (fun i => dMu i.2.2) rfl ?pass ?first
  case pass =>
    rintro ⟨x, g, s⟩ a wr ⟨u, rfl, hloop, hok, hRs, k1, hx0, hb, hwl⟩
    dsimp only at *
    clear hC hM hS ha hd
    by_cases ho : dOp s.wt = 0
    · have hSR2 : SR = s.sr := by rw [hloop, dLoop, if_pos ho]
      obtain ⟨ws, hws, A', c', W, cw, G, bF, bW, kR, kG, own, ownW, hG, hGg, hgF, hFW, hlt, hrd⟩ := hRs
      rw [ho] at kR
      have kR_0 := kR.cell 0; have kR_f0 := kR.frozen 0; have kR_1 := kR.cell 1; have kR_f1 := kR.frozen 1; have kR_2 := kR.cell 2; have kR_f2 := kR.frozen 2; have kR_3 := kR.cell 3; have kR_f3 := kR.frozen 3; have kR_4 := kR.cell 4; have kR_f4 := kR.frozen 4; have kR_5 := kR.cell 5; have kR_f5 := kR.frozen 5; have kR_6 := kR.cell 6; have kR_f6 := kR.frozen 6; have kR_7 := kR.cell 7; have kR_f7 := kR.frozen 7; simp only [List.set_cons_zero, List.set_cons_succ, List.getElem?_cons_zero, List.getElem?_cons_succ] at kR_0 kR_1 kR_2 kR_3 kR_4 kR_5 kR_6 kR_7; have lt_kR := kR.lt; have k1_0 := k1.cell 0; have k1_f0 := k1.frozen 0; have k1_1 := k1.cell 1; have k1_f1 := k1.frozen 1; have k1_2 := k1.cell 2; have k1_f2 := k1.frozen 2; simp only [List.set_cons_zero, List.set_cons_succ, List.getElem?_cons_zero, List.getElem?_cons_succ] at k1_0 k1_1 k1_2; have lt_k1 := k1.lt
      go_wp2_with fail
      go_region
      go_wp2
      simp only [Exit.jump]
      have lt1 := k1.lt
      have ltg := kR.lt
      have ltF := own.lt
      generalize hV : World.drew _ = w4
      have hb4 : Below w.heap.size w w4 := by subst hV; exact Below.drew (((hb.setCell (by dsimp only; omega) _).setCell (by dsimp only; omega) _).setCell (by dsimp only; omega) _)
      have k14 : Bk w4 (w.heap.size + 1) 31 (dsC A' s.fl.length c' s.at_ s.mid) := by subst hV; exact Bk.drew (((k1.set_ 0 _).set_ 1 _).set_ 2 _)
      have kG4 : Bk w4 G 3 (ints s.went) := by subst hV; refine Bk.drew (Bk.far (Bk.far (Bk.far ?_ (by dsimp only; omega) _) (by dsimp only; omega) _) (by dsimp only; omega) _); exact kG
      have own4 : w4.ownsRow bF 70 3 (.slice A' s.fl.length c') s.fl.length (flR s.fl) := by subst hV; refine World.ownsRow.drew (own_far (own_far (own_far ?_ (by dsimp only; omega) _) (by dsimp only; omega) _) (by dsimp only; omega) _); exact own
      (try clear kR_0 kR_f0 kR_1 kR_f1 kR_2 kR_f2 kR_3 kR_f3 kR_4 kR_f4 kR_5 kR_f5 kR_6 kR_f6 kR_7 kR_f7 lt_kR) ; (try clear k1_0 k1_f0 k1_1 k1_f1 k1_2 k1_f2 lt_k1)
      clear hV
      have k14_0 := k14.cell 0; have k14_f0 := k14.frozen 0; have k14_1 := k14.cell 1; have k14_f1 := k14.frozen 1; have k14_2 := k14.cell 2; have k14_f2 := k14.frozen 2; simp only [List.set_cons_zero, List.set_cons_succ, List.getElem?_cons_zero, List.getElem?_cons_succ] at k14_0 k14_1 k14_2; have lt_k14 := k14.lt
      exact bodyPost_ret (v := .tuple #[dsV A' s.fl.length c' s.at_ s.mid, .slice (some ⟨G, 0, none⟩) s.fl.length s.fl.length, .int .i64 0]) (by simp only [results, Try.results11]; go_simp) rfl ⟨dsV A' s.fl.length c' s.at_ s.mid, some ⟨G, 0, none⟩, s.fl.length, by rw [hSR2]; exact congrArg (fun n => Ending.returned (.tuple #[dsV A' s.fl.length c' s.at_ s.mid, .slice (some ⟨G, 0, none⟩) n s.fl.length, .int .i64 0])) hwl.symm, by rw [hSR2]; exact ⟨A', c', rfl, own_rd own4, .inr ((own_fr own4).mono (by omega))⟩, by rw [hSR2]; exact ⟨kG4.rd, fun ad e => by cases e; dsimp only; omega, by first | exact Nat.le_of_eq hwl | exact Nat.le_of_eq hdt⟩, hb4⟩
    · obtain ⟨hok, hsum⟩ := hok.resolve_left ho
      have hN := hok.next hsum
      have hloop2 := fun (he : (dTurn q s).2 = false) => (congrArg RS.sr (dLoop_next hok hsum ho he))
      have hmu := fun (he : (dTurn q s).2 = false) => dMu_next hok ho he
      have hend : (dTurn q s).2 = true → SR = (dEnd q s).sr := fun he => by rw [hloop, dLoop, if_neg ho, if_pos he]
      have hat := hok.at_
      have hnn := hok.n
      have hwl2 := hok.went
      have hT := drr_turn_any x.heap.size g q s wr hok hRs
      obtain ⟨ws, hws, A', c', W, cw, G, bF, bW, kR, _, _, _, hG, hGg, hgF, hFW, hlt, hrd⟩ := hRs
      have ho' : (dOp s.wt == 0) = false := by rw [beq_eq_false_iff_ne]; exact ho
      have kR_0 := kR.cell 0; have kR_f0 := kR.frozen 0; have kR_1 := kR.cell 1; have kR_f1 := kR.frozen 1; have kR_2 := kR.cell 2; have kR_f2 := kR.frozen 2; have kR_3 := kR.cell 3; have kR_f3 := kR.frozen 3; have kR_4 := kR.cell 4; have kR_f4 := kR.frozen 4; have kR_5 := kR.cell 5; have kR_f5 := kR.frozen 5; have kR_6 := kR.cell 6; have kR_f6 := kR.frozen 6; have kR_7 := kR.cell 7; have kR_f7 := kR.frozen 7; simp only [List.set_cons_zero, List.set_cons_succ, List.getElem?_cons_zero, List.getElem?_cons_succ] at kR_0 kR_1 kR_2 kR_3 kR_4 kR_5 kR_6 kR_7; have lt_kR := kR.lt; have k1_0 := k1.cell 0; have k1_f0 := k1.frozen 0; have k1_1 := k1.cell 1; have k1_f1 := k1.frozen 1; have k1_2 := k1.cell 2; have k1_f2 := k1.frozen 2; simp only [List.set_cons_zero, List.set_cons_succ, List.getElem?_cons_zero, List.getElem?_cons_succ] at k1_0 k1_1 k1_2; have lt_k1 := k1.lt
      clear hws hlt hrd
      go_wp2_with fail
      refine hT.mono ?_; rintro e w5 ⟨rfl, hRs5, hb5⟩
      (try clear kR_0 kR_f0 kR_1 kR_f1 kR_2 kR_f2 kR_3 kR_f3 kR_4 kR_f4 kR_5 kR_f5 kR_6 kR_f6 kR_7 kR_f7 lt_kR)
      have lt1 := k1.lt
      have hxw := hb5.size
      replace k1 := k1.below hb5 (by omega)
      (try clear k1_0 k1_f0 k1_1 k1_f1 k1_2 k1_f2 lt_k1)
      replace hb : Below w.heap.size w w5 := hb.trans (hb5.mono (by omega))
      obtain ⟨hat2, hmid2, hlen2⟩ := dTurn_at q s
      have hdt : (dTurn q s).1.went.length = (dTurn q s).1.fl.length := by
        have := hN.1.went
        exact this
      clear hT hG hGg
      obtain ⟨ws, hws, A', c', W, cw, G, bF, bW, kR, kG, own, ownW, hG, hGg, hgF, hFW, hlt, hrd⟩ := hRs5
      have hEN : dEnd q s = { (dTurn q s).1 with mid := true } := rfl
      have hNX : dNext q s = { (dTurn q s).1 with at_ := (s.at_ + 1) % s.fl.length, mid := false } := rfl
      generalize dTurn q s = T at *
      obtain ⟨s', fin⟩ := T
      dsimp only at *
      have HN := hide hN
      have HL := hide hloop
      have HE := hide hend
      have HL2 := hide hloop2
      have HM := hide hmu
      have HNX := hide hNX
      clear hloop hN ho' hok hsum hend hloop2 hmu hNX
      have kR_0 := kR.cell 0; have kR_f0 := kR.frozen 0; have kR_1 := kR.cell 1; have kR_f1 := kR.frozen 1; have kR_2 := kR.cell 2; have kR_f2 := kR.frozen 2; have kR_3 := kR.cell 3; have kR_f3 := kR.frozen 3; have kR_4 := kR.cell 4; have kR_f4 := kR.frozen 4; have kR_5 := kR.cell 5; have kR_f5 := kR.frozen 5; have kR_6 := kR.cell 6; have kR_f6 := kR.frozen 6; have kR_7 := kR.cell 7; have kR_f7 := kR.frozen 7; simp only [List.set_cons_zero, List.set_cons_succ, List.getElem?_cons_zero, List.getElem?_cons_succ] at kR_0 kR_1 kR_2 kR_3 kR_4 kR_5 kR_6 kR_7; have lt_kR := kR.lt; have k1_0 := k1.cell 0; have k1_f0 := k1.frozen 0; have k1_1 := k1.cell 1; have k1_f1 := k1.frozen 1; have k1_2 := k1.cell 2; have k1_f2 := k1.frozen 2; simp only [List.set_cons_zero, List.set_cons_succ, List.getElem?_cons_zero, List.getElem?_cons_succ] at k1_0 k1_1 k1_2; have lt_k1 := k1.lt
      cases fin with
      | true =>
        have hSR2 := HE.out rfl
        rw [hEN] at hSR2
        clear HN HL HE HL2 HM HNX hEN hat2 hmid2 hlen2
        go_wp2_with fail
        have lt1 := k1.lt
        have ltg := kR.lt
        have ltF := own.lt
        generalize hV : World.setCell w5 _ _ = w6
        replace hb : Below w.heap.size w w6 := by subst hV; exact hb.setCell (by dsimp only; omega) _
        replace k1 : Bk w6 (w.heap.size + 1) 31 (dsC none 0 0 0 false) := by subst hV; exact k1.far (by dsimp only; omega) _
        replace kG : Bk w6 G 3 (ints s'.went) := by subst hV; exact kG.far (by dsimp only; omega) _
        replace kR : Bk w6 g 79 (rdC A' s'.fl.length c' s'.at_ true W ws.length cw G q s'.left (dOp s'.wt)) := by subst hV; exact kR.set_ 2 _
        replace own : w6.ownsRow bF 70 3 (.slice A' s'.fl.length c') s'.fl.length (flR s'.fl) := by subst hV; exact own_far own (by dsimp only; omega) _
        clear hV hxw ltF ltg lt1
        (try clear kR_0 kR_f0 kR_1 kR_f1 kR_2 kR_f2 kR_3 kR_f3 kR_4 kR_f4 kR_5 kR_f5 kR_6 kR_f6 kR_7 kR_f7 lt_kR) ; (try clear k1_0 k1_f0 k1_1 k1_f1 k1_2 k1_f2 lt_k1)
        have kR_0 := kR.cell 0; have kR_f0 := kR.frozen 0; have kR_1 := kR.cell 1; have kR_f1 := kR.frozen 1; have kR_2 := kR.cell 2; have kR_f2 := kR.frozen 2; have kR_3 := kR.cell 3; have kR_f3 := kR.frozen 3; have kR_4 := kR.cell 4; have kR_f4 := kR.frozen 4; have kR_5 := kR.cell 5; have kR_f5 := kR.frozen 5; have kR_6 := kR.cell 6; have kR_f6 := kR.frozen 6; have kR_7 := kR.cell 7; have kR_f7 := kR.frozen 7; simp only [List.set_cons_zero, List.set_cons_succ, List.getElem?_cons_zero, List.getElem?_cons_succ] at kR_0 kR_1 kR_2 kR_3 kR_4 kR_5 kR_6 kR_7; have lt_kR := kR.lt; have k1_0 := k1.cell 0; have k1_f0 := k1.frozen 0; have k1_1 := k1.cell 1; have k1_f1 := k1.frozen 1; have k1_2 := k1.cell 2; have k1_f2 := k1.frozen 2; simp only [List.set_cons_zero, List.set_cons_succ, List.getElem?_cons_zero, List.getElem?_cons_succ] at k1_0 k1_1 k1_2; have lt_k1 := k1.lt
        go_region
        go_wp2
        simp only [Exit.jump]
        have lt1 := k1.lt
        have ltg := kR.lt
        have ltF := own.lt
        generalize hV : World.drew _ = w4
        have hb4 : Below w.heap.size w w4 := by subst hV; exact Below.drew (((hb.setCell (by dsimp only; omega) _).setCell (by dsimp only; omega) _).setCell (by dsimp only; omega) _)
        have k14 : Bk w4 (w.heap.size + 1) 31 (dsC A' s'.fl.length c' s'.at_ true) := by subst hV; exact Bk.drew (((k1.set_ 0 _).set_ 1 _).set_ 2 _)
        have kG4 : Bk w4 G 3 (ints s'.went) := by subst hV; refine Bk.drew (Bk.far (Bk.far (Bk.far ?_ (by dsimp only; omega) _) (by dsimp only; omega) _) (by dsimp only; omega) _); exact kG
        have own4 : w4.ownsRow bF 70 3 (.slice A' s'.fl.length c') s'.fl.length (flR s'.fl) := by subst hV; refine World.ownsRow.drew (own_far (own_far (own_far ?_ (by dsimp only; omega) _) (by dsimp only; omega) _) (by dsimp only; omega) _); exact own
        (try clear kR_0 kR_f0 kR_1 kR_f1 kR_2 kR_f2 kR_3 kR_f3 kR_4 kR_f4 kR_5 kR_f5 kR_6 kR_f6 kR_7 kR_f7 lt_kR) ; (try clear k1_0 k1_f0 k1_1 k1_f1 k1_2 k1_f2 lt_k1)
        clear hV
        have k14_0 := k14.cell 0; have k14_f0 := k14.frozen 0; have k14_1 := k14.cell 1; have k14_f1 := k14.frozen 1; have k14_2 := k14.cell 2; have k14_f2 := k14.frozen 2; simp only [List.set_cons_zero, List.set_cons_succ, List.getElem?_cons_zero, List.getElem?_cons_succ] at k14_0 k14_1 k14_2; have lt_k14 := k14.lt
        exact bodyPost_ret (v := .tuple #[dsV A' s'.fl.length c' s'.at_ true, .slice (some ⟨G, 0, none⟩) s'.fl.length s'.fl.length, .int .i64 0]) (by simp only [results, Try.results11]; go_simp) rfl ⟨dsV A' s'.fl.length c' s'.at_ true, some ⟨G, 0, none⟩, s'.fl.length, by rw [hSR2]; exact congrArg (fun n => Ending.returned (.tuple #[dsV A' s'.fl.length c' s'.at_ true, .slice (some ⟨G, 0, none⟩) n s'.fl.length, .int .i64 0])) hdt.symm, by rw [hSR2]; exact ⟨A', c', rfl, own_rd own4, .inr ((own_fr own4).mono (by omega))⟩, by rw [hSR2]; exact ⟨kG4.rd, fun ad e => by cases e; dsimp only; omega, by first | exact Nat.le_of_eq hwl | exact Nat.le_of_eq hdt⟩, hb4⟩
      | false =>
        clear hEN hmid2 HE
        go_wp2_with fail
        go_region
        go_wp2
        go_step3
        have lt1 := k1.lt
        have ltg := kR.lt
        have ltF := own.lt
        generalize hV : World.drew _ = w6
        have hb6 : Below w.heap.size w w6 := by subst hV; exact Below.drew ((hb.setCell (by dsimp only; omega) _).setCell (by dsimp only; omega) _)
        have h56 : Below x.heap.size w5 w6 := by subst hV; exact Below.drew (((Below.refl _ w5).setCell (by dsimp only; omega) _).setCell (by dsimp only; omega) _)
        have k16 : Bk w6 (w.heap.size + 1) 31 (dsC none 0 0 0 false) := by subst hV; exact Bk.drew ((k1.far (by dsimp only; omega) _).far (by dsimp only; omega) _)
        have kG6 : Bk w6 G 3 (ints s'.went) := by subst hV; exact Bk.drew ((kG.far (by dsimp only; omega) _).far (by dsimp only; omega) _)
        have hcast : ((s.at_ : Int) + 1) % (s.fl.length : Int) = (((s.at_ + 1) % s.fl.length : Nat) : Int) := by push_cast; rfl
        have kR6 : Bk w6 g 79 (rdC A' s'.fl.length c' (((s.at_ + 1) % s.fl.length : Nat) : Int) false W ws.length cw G q s'.left (dOp s'.wt)) := by subst hV; rw [← hcast]; exact Bk.drew ((kR.set_ 1 _).set_ 2 _)
        have own6 : w6.ownsRow bF 70 3 (.slice A' s'.fl.length c') s'.fl.length (flR s'.fl) := by subst hV; exact World.ownsRow.drew (own_far (own_far own (by dsimp only; omega) _) (by dsimp only; omega) _)
        have ownW6 : w6.ownsRow bW 35 1 (.slice W ws.length cw) ws.length (wtR ws) := by subst hV; exact World.ownsRow.drew (own_far (own_far ownW (by dsimp only; omega) _) (by dsimp only; omega) _)
        refine ⟨rfl, (x, g, dNext q s), ?_, HM.out (by first | rfl | trivial)⟩
        refine ⟨fun i => List.getD [_, _, _, _, _, _, _, _, undef, _, _, _, _, undef, _, _, _, _, _, _, _, _, _, _, _, _, _, _, _, _, _, _, _, _, _, _, _, _, _, _, _, _, _, _, _, _, _, _, _, _, _, _, _, _, _, _, _, _, _, _, _, _, _, _, _, _, _, _, _, _, _, _, _, _, _, _, _, _, _, _, _] i undef, rfl, HL.out.trans (HL2.out (by first | rfl | trivial)), .inr HN.out, ?_, k16, hx0, hb6, HN.out.1.went⟩
        rw [HNX.out]
        exact ⟨ws, hws, A', c', W, cw, G, bF, bW, kR6, kG6, own6, ownW6, hG, hGg, hgF, hFW, hlt, fun y hy => ⟨(hrd y hy).1.below h56, (hrd y hy).2⟩⟩
  intro hpass
  go_wp2_with fail
  generalize hV : World.alloc (World.alloc w _) _ = w1
  have hb1 : Below w.heap.size w w1 := by subst hV; (repeat (first | with_reducible exact Below.refl _ _ | with_reducible assumption | with_reducible refine Below.drew ?_ | with_reducible refine Below.drewN ?_ _ | with_reducible refine Below.alloc1 ?_ _ | with_reducible refine Below.setCell1 ?_ (by first | omega | (simp; done) | (simp; omega)) _ | with_reducible refine Below.step ?_ (by with_reducible assumption)))
  have k0 : Bk w1 w.heap.size 31 (dsC A l.length c at_ mid) := by subst hV; (repeat (first | with_reducible exact Bk.new' _ _ _ _ (by simp; done) | with_reducible assumption | with_reducible refine Bk.alloc ?_ _ | with_reducible refine Bk.drew ?_ | with_reducible refine Bk.drewN ?_ _ | with_reducible refine Bk.step ?_ (by with_reducible assumption) | with_reducible refine Bk.far ?_ (by first | omega | (simp; done) | (simp; omega)) _))
  have k1 : Bk w1 (w.heap.size + 1) 31 (dsC none 0 0 0 false) := by subst hV; (repeat (first | with_reducible exact Bk.new' _ _ _ _ (by simp; done) | with_reducible assumption | with_reducible refine Bk.alloc ?_ _ | with_reducible refine Bk.drew ?_ | with_reducible refine Bk.drewN ?_ _ | with_reducible refine Bk.step ?_ (by with_reducible assumption) | with_reducible refine Bk.far ?_ (by first | omega | (simp; done) | (simp; omega)) _))
  clear hV
  refine (hC _ hb1).mono ?_; rintro e x0 ⟨rfl, hx0⟩
  replace k0 := k0.step hx0
  replace k1 := k1.step hx0
  replace hb1 : Below w.heap.size w x0 := hb1.step hx0
  clear hx0 hC
  have k0_0 := k0.cell 0; have k0_f0 := k0.frozen 0; have k0_1 := k0.cell 1; have k0_f1 := k0.frozen 1; have k0_2 := k0.cell 2; have k0_f2 := k0.frozen 2; simp only [List.set_cons_zero, List.set_cons_succ, List.getElem?_cons_zero, List.getElem?_cons_succ] at k0_0 k0_1 k0_2; have lt_k0 := k0.lt; have k1_0 := k1.cell 0; have k1_f0 := k1.frozen 0; have k1_1 := k1.cell 1; have k1_f1 := k1.frozen 1; have k1_2 := k1.cell 2; have k1_f2 := k1.frozen 2; simp only [List.set_cons_zero, List.set_cons_succ, List.getElem?_cons_zero, List.getElem?_cons_succ] at k1_0 k1_1 k1_2; have lt_k1 := k1.lt
  by_cases he : dCheck l at_ mid = 0
  · rw [he]
    go_wp2_with fail
    refine (hM _ hb1).mono ?_; rintro e x1 ⟨rfl, hx1⟩
    replace k0 := k0.step hx1; (try clear k0_0 k0_f0 k0_1 k0_f1 k0_2 k0_f2); have k0_0 := k0.cell 0; have k0_f0 := k0.frozen 0; have k0_1 := k0.cell 1; have k0_f1 := k0.frozen 1; have k0_2 := k0.cell 2; have k0_f2 := k0.frozen 2; simp only [List.set_cons_zero, List.set_cons_succ, List.getElem?_cons_zero, List.getElem?_cons_succ] at k0_0 k0_1 k0_2; (try clear lt_k0); have lt_k0 := k0.lt; replace k1 := k1.step hx1; (try clear k1_0 k1_f0 k1_1 k1_f1 k1_2 k1_f2); have k1_0 := k1.cell 0; have k1_f0 := k1.frozen 0; have k1_1 := k1.cell 1; have k1_f1 := k1.frozen 1; have k1_2 := k1.cell 2; have k1_f2 := k1.frozen 2; simp only [List.set_cons_zero, List.set_cons_succ, List.getElem?_cons_zero, List.getElem?_cons_succ] at k1_0 k1_1 k1_2; (try clear lt_k1); have lt_k1 := k1.lt
    replace hb1 : Below w.heap.size w x1 := hb1.step hx1
    clear hx1 hM
    by_cases hm : dMay q t ld = 0
    · rw [hm]
      go_wp2_with fail
      have l1 := k1.lt
      refine (hS _ hb1).mono ?_; rintro e x2 ⟨g, rfl, hR, hx2⟩
      have k1' := k1.step hx2
      have hb2 : Below w.heap.size w x2 := hb1.step hx2
      (try clear k0_0 k0_f0 k0_1 k0_f1 k0_2 k0_f2 lt_k0) ; (try clear k1_0 k1_f0 k1_1 k1_f1 k1_2 k1_f2 lt_k1)
      clear hS
      go_wp2_with fail
      go_step3
      rename_i kK hK
      refine hK _ _ ?_
      refine hpass (x1, g, dBegin l at_.toNat mid t ld) _ _ ?_
      exact ⟨fun i => List.getD [_, _, _, _, _, _, _, _, undef, _, _, _, _, undef, _, _, _, _, _, _, _, _, _, _, _, _, _, _, _, _, _, _, _, _, _, _, _, _, _, _, _, _, _, _, _, _, _, _, _, _, _, _, _, _, _, _, _, _, _, _, _, _, _, _, _, _, _, _, _, _, _, _, _, _, _, _, _, _, _, _, _] i undef, rfl, by rw [← hSR]; unfold dServe; rw [if_neg (by simpa using he), if_neg (by simpa using hm)], dBegin_ok he hm, ⟨l.map (fun f => dWait ld f.id), by simp [dBegin], by
        have ha0 : ((at_.toNat : Nat) : Int) = at_ := by have := (dCheck_ok he).2.2.2.1; omega
        have := dOpen_map (l.map (fun f => dWait ld f.id))
        rw [this, List.map_map] at hR
        simpa [dBegin, ha0, Function.comp_def] using hR⟩, k1', l1, hb2, by simp [dBegin]⟩
    · have hr : SR = ⟨l, at_, mid, [], dMay q t ld⟩ := by rw [← hSR]; unfold dServe; rw [if_neg (by simpa using he), if_pos hm]
      have hne : (dMay q t ld != 0) = true := by simpa using hm
      clear hpass hS hSR
      replace hr := hide hr
      generalize dMay q t ld = ec at *
      clear hm
      go_wp2_with fail
      simp only [Exit.jump]
      (try clear k0_0 k0_f0 k0_1 k0_f1 k0_2 k0_f2 lt_k0) ; (try clear k1_0 k1_f0 k1_1 k1_f1 k1_2 k1_f2 lt_k1)
      generalize hV : World.setCell (World.setCell (World.setCell x1 _ _) _ _) _ _ = w4
      have hb4 : Below w.heap.size w w4 := by subst hV; exact ((hb1.setCell (by dsimp only; omega) _).setCell (by dsimp only; omega) _).setCell (by dsimp only; omega) _
      replace k1 : Bk w4 (w.heap.size + 1) 31 (dsC A l.length c at_ mid) := by subst hV; exact ((k1.set_ 0 _).set_ 1 _).set_ 2 _
      clear hV
      have k1_0 := k1.cell 0; have k1_f0 := k1.frozen 0; have k1_1 := k1.cell 1; have k1_f1 := k1.frozen 1; have k1_2 := k1.cell 2; have k1_f2 := k1.frozen 2; simp only [List.set_cons_zero, List.set_cons_succ, List.getElem?_cons_zero, List.getElem?_cons_succ] at k1_0 k1_1 k1_2; have lt_k1 := k1.lt
      exact bodyPost_ret (v := .tuple #[dsV A l.length c at_ mid, .slice none 0 0, .int .i64 ec]) (by simp only [results, Try.results11]; go_simp) rfl ⟨_, none, 0, by rw [hr.out]; rfl, by rw [hr.out]; exact ⟨A, c, rfl, (ha.below hb4).more hb4.size, .inl rfl⟩, by rw [hr.out]; exact ⟨Rd.nil, fun _ e => (by cases e), Nat.le_refl 0⟩, hb4⟩
  · have hr : SR = ⟨l, at_, mid, [], dCheck l at_ mid⟩ := by rw [← hSR]; unfold dServe; rw [if_pos he]
    have hne : (dCheck l at_ mid != 0) = true := by simpa using he
    clear hpass hSR
    replace hr := hide hr
    generalize dCheck l at_ mid = ec at *
    clear he
    go_wp2_with fail
    simp only [Exit.jump]
    (try clear k0_0 k0_f0 k0_1 k0_f1 k0_2 k0_f2 lt_k0) ; (try clear k1_0 k1_f0 k1_1 k1_f1 k1_2 k1_f2 lt_k1)
    generalize hV : World.setCell (World.setCell (World.setCell x0 _ _) _ _) _ _ = w4
    have hb4 : Below w.heap.size w w4 := by subst hV; exact ((hb1.setCell (by dsimp only; omega) _).setCell (by dsimp only; omega) _).setCell (by dsimp only; omega) _
    replace k1 : Bk w4 (w.heap.size + 1) 31 (dsC A l.length c at_ mid) := by subst hV; exact ((k1.set_ 0 _).set_ 1 _).set_ 2 _
    clear hV
    have k1_0 := k1.cell 0; have k1_f0 := k1.frozen 0; have k1_1 := k1.cell 1; have k1_f1 := k1.frozen 1; have k1_2 := k1.cell 2; have k1_f2 := k1.frozen 2; simp only [List.set_cons_zero, List.set_cons_succ, List.getElem?_cons_zero, List.getElem?_cons_succ] at k1_0 k1_1 k1_2; have lt_k1 := k1.lt
    exact bodyPost_ret (v := .tuple #[dsV A l.length c at_ mid, .slice none 0 0, .int .i64 ec]) (by simp only [results, Try.results11]; go_simp) rfl ⟨_, none, 0, by rw [hr.out]; rfl, by rw [hr.out]; exact ⟨A, c, rfl, (ha.below hb4).more hb4.size, .inl rfl⟩, by rw [hr.out]; exact ⟨Rd.nil, fun _ e => (by cases e), Nat.le_refl 0⟩, hb4⟩
end Go.Proofs.Yteblbleehnkcmaa
