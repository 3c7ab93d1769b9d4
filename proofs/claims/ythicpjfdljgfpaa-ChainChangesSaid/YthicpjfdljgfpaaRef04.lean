/- Package callboyref04: walk. -/
import Derived.Test.YthicpjfdljgfpaaChh
namespace Go.Proofs.Ythicpjfdljgfpaa
open Go.RowKit Go.Sort
set_option linter.unusedSimpArgs false
set_option linter.unusedVariables false

set_option maxRecDepth 100000 in
set_option maxHeartbeats 8000000 in
theorem r04_walk_any (A B C : Option Addr) (a b c : Nat) (st : Ch) (i : Nat) (w : World) (hi : i < st.hs.length) (h1 : st.ns.length ≤ 1000) (h2 : st.hs.length ≤ 1000) (hb : ∀ x ∈ st.ns, -1 ≤ x.n ∧ x.n ≤ (st.ns.length : Int) - 1) (hh : ∀ x ∈ st.hs, -1 ≤ x ∧ x ≤ (st.ns.length : Int) - 1)
    (rA : Rd w w.heap.size A (nds st.ns)) (rB : Rd w w.heap.size B (ints st.hs)) :
    Calls Try.prog 53 #[csV A B C a b c st.ns.length st.hs.length st.ts.length, .int .i64 i] w fun e w' => ∃ O co, e = .returned (.slice O (cWalk st i).length co) ∧ w'.ownsRow w.heap.size 3 1 (.slice O (cWalk st i).length co) (cWalk st i).length (ints (nI (cWalk st i))) ∧ Below w.heap.size w w' := by
  obtain ⟨iT, hiT, hz0, hz1, hz2⟩ := info_parts cint_info
  have HB := hide hb
  have HW := hide (show cWalk st i = cGo st.ns (st.ns.length + 1) st.hs[i] by unfold cWalk; congr 1; simp [List.getD, hi])
  have hbd := hh _ (List.getElem_mem hi)
  generalize cWalk st i = R at *
  have hi2 : (i : Int) < (st.hs.length : Int) := by omega
  go_enter Try.func53, Try.ntmps53
  go_upto_region 2 with fail
  generalize hV : World.alloc w _ = w1
  have hb1 : Below w.heap.size w w1 := by subst hV; (repeat (first | with_reducible exact Below.refl _ _ | with_reducible assumption | with_reducible refine Below.drew ?_ | with_reducible refine Below.drewN ?_ _ | with_reducible refine Below.alloc1 ?_ _ | with_reducible refine Below.setCell1 ?_ (by first | omega | (simp; done) | (simp; omega)) _ | with_reducible refine Below.step ?_ (by with_reducible assumption)))
  have k0 : Bk w1 w.heap.size 25 (csC A B C a b c st.ns.length st.hs.length st.ts.length) := by subst hV; (repeat (first | with_reducible exact Bk.new' _ _ _ _ (by simp; done) | with_reducible assumption | with_reducible refine Bk.alloc ?_ _ | with_reducible refine Bk.drew ?_ | with_reducible refine Bk.drewN ?_ _ | with_reducible refine Bk.step ?_ (by with_reducible assumption) | with_reducible refine Bk.far ?_ (by first | omega | (simp; done) | (simp; omega)) _))
  clear hV
  obtain ⟨bd, rfl, hbdb, hcb⟩ := (rB.step hb1).at_ (k := i) (by simpa using hi)
  rw [ints_get st.hs i hi] at hcb
  have k0_0 := k0.cell 0; have k0_f0 := k0.frozen 0; have k0_1 := k0.cell 1; have k0_f1 := k0.frozen 1; have k0_2 := k0.cell 2; have k0_f2 := k0.frozen 2; simp only [List.set_cons_zero, List.set_cons_succ, List.getElem?_cons_zero, List.getElem?_cons_succ] at k0_0 k0_1 k0_2; have lt_k0 := k0.lt
  go_wp2_with fail
  (try clear k0_0 k0_f0 k0_1 k0_f1 k0_2 k0_f2 lt_k0)
  go_loopw [5, 6] (fun ov av wr => ∃ (k : Nat) (at_ : Int) (out : List Nat) (O : Option Addr) (co : Nat), ov = .slice O out.length co ∧ av = .int .i64 at_ ∧ Hid (R = out ++ cGo st.ns k at_) ∧ k + out.length = st.ns.length + 1 ∧ (-1 ≤ at_ ∧ at_ ≤ (st.ns.length : Int) - 1) ∧ wr.ownsRow (w.heap.size + 1) 3 1 (.slice O out.length co) out.length (ints (nI out)) ∧
    Bk wr w.heap.size 25 (csC A (some bd) C a b c st.ns.length st.hs.length st.ts.length) ∧ Below w.heap.size w wr) (fun ov _ _ => match ov with | .slice _ n _ => st.ns.length + 1 - n | _ => 0)
  case atStart => exact ⟨st.ns.length + 1, st.hs[i], [], none, 0, rfl, rfl, hide (by simpa using HW.out), by simp, hbd, World.ownsRow_nil _ _ _ _, k0, hb1⟩
  case round =>
    clear k0 hb1 hcb hbdb
    obtain ⟨k, at_, out, O, co, rfl, rfl, HR, hk, hat, own, kst, hb⟩ := hrel
    have lk := kst.lt
    have kst_0 := kst.cell 0; have kst_f0 := kst.frozen 0; have kst_1 := kst.cell 1; have kst_f1 := kst.frozen 1; have kst_2 := kst.cell 2; have kst_f2 := kst.frozen 2; simp only [List.set_cons_zero, List.set_cons_succ, List.getElem?_cons_zero, List.getElem?_cons_succ] at kst_0 kst_1 kst_2; have lt_kst := kst.lt
    by_cases hf : k = 0
    · have hR2 : R = out := by rw [HR.out, hf]; simp [cGo]
      have b2 : (st.ns.length : Int) < (out.length : Int) := by omega
      clear hk hf
      go_wp2
      go_ret
      exact ⟨O, co, by rw [hR2]; rfl, by rw [hR2]; exact own_mono own (by omega), hb⟩
    · have b2 : (out.length : Int) ≤ (st.ns.length : Int) := by omega
      by_cases he : at_ < 0
      · have hR2 : R = out := by rw [HR.out]; cases k <;> simp [cGo, he]
        clear hk hf
        go_wp2
        go_ret
        exact ⟨O, co, by rw [hR2]; rfl, by rw [hR2]; exact own_mono own (by omega), hb⟩
      · obtain ⟨k', rfl⟩ : ∃ k', k = k' + 1 := ⟨k - 1, by omega⟩
        obtain ⟨p, rfl⟩ : ∃ p : Nat, at_ = (p : Int) := ⟨at_.toNat, by omega⟩
        have hp : p < st.ns.length := by omega
        have hge : (0 : Int) ≤ (p : Int) := by omega
        have HK := hide hk
        obtain ⟨ad, rfl, hadb, c1, c2, c3⟩ := (rA.below hb).nd hp
        have hnb := HB.out _ (List.getElem_mem hp)
        have HG := hide (show st.ns.getD p nd0 = st.ns[p] by simp [List.getD, hp])
        generalize st.ns[p] = q at *
        have hol : out.length ≤ 1000 := by omega
        clear hk he
        have c2g := c2
        go_wp2_with (at_builtin; refine wpList_app2 rfl (.tmp 22) (.tmp 24) 23 rfl (w.heap.size + 1) 3 iT _ 1 8 Try.underlying23 hiT hz0 hz1 hz2 rfl (by omega) O out.length co (ints (nI out)) rfl (own.alloc _) ⟨wr.heap.size, 0, none⟩ 1 1 [.int .i64 (p : Int)] rfl rfl (news_at (cs := [_])) (by simp [Value.oneCell']) (by unfold maxLen; omega) (by omega) (by simp; omega) (by omega) ?_; intro gO co2 w5 own5 hb5 hg5; (have k5 := (kst.alloc (.cells #[.int .i64 (p : Int)] 3)).below hb5 (by omega)); have k5_0 := k5.cell 0; have k5_f0 := k5.frozen 0; have k5_1 := k5.cell 1; have k5_f1 := k5.frozen 1; have k5_2 := k5.cell 2; have k5_f2 := k5.frozen 2; simp only [List.set_cons_zero, List.set_cons_succ, List.getElem?_cons_zero, List.getElem?_cons_succ] at k5_0 k5_1 k5_2; have lt_k5 := k5.lt; (have c5 : w5.cell? { block := (ad.add (p * 3)).block, off := (ad.add (p * 3)).off + 1 } = some (.int .i64 q.n) := (hb5.cell (p := ⟨(ad.add (p * 3)).block, (ad.add (p * 3)).off + 1, none⟩) (by rw [add_block]; omega)).trans (((Below.refl wr.heap.size wr).alloc1 (.cells #[.int .i64 (p : Int)] 3)).cell (p := ⟨(ad.add (p * 3)).block, (ad.add (p * 3)).off + 1, none⟩) (by rw [add_block]; omega) |>.trans c2g)))
        go_roundw
        case rel =>
          refine ⟨k', q.n, out ++ [p], some ⟨gO, 0, none⟩, co2, by rw [List.length_append]; rfl, rfl, ?_, ?_, hnb, ?_, k5, ?_⟩
          · have e := HR.out
            rw [cGo, if_neg (by omega)] at e
            refine hide ?_
            rw [e]
            simp only [Int.toNat_natCast, HG.out, List.append_assoc, List.cons_append, List.nil_append]
          · have := HK.out; simp; omega
          · have e : ints (nI (out ++ [p])) = ints (nI out) ++ [.int .i64 (p : Int)] := by simp
            rw [e, List.length_append]; exact own5
          · exact ((hb.alloc (by omega) (.cells #[.int .i64 (p : Int)] 3))).trans (hb5.mono (by omega))
        case measure => have := HK.out; simp; omega
end Go.Proofs.Ythicpjfdljgfpaa
