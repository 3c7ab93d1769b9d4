/- Package chain: Back. -/
import Derived.Test.YthicpjfdljgfpaaChw
namespace Go.Proofs.Ythicpjfdljgfpaa
open Go.RowKit Go.Sort
set_option linter.unusedSimpArgs false
set_option linter.unusedVariables false

def dBack (st : Ch) (list : Int) : List Nat := if cIn list 0 ((st.hs.length : Int) - 1) = false then [] else if cCheck st ≠ 0 then [] else (nth (lists st) list.toNat).reverse
theorem ts_at {n : Nat} {L : List (List Nat)} {i : Nat} (hi : i < L.length) : (laid n L).ts[i]? = some (lst (nth L i)) := by
  simp [laid, hi, nth_at hi]
theorem prv_mid {l m : List Nat} {p : Nat} (h : p ∉ l) : prv (-1) (l ++ p :: m) p = lst l := by
  rw [prv_app_r1 (p :: m) h]; simp [prv]
set_option maxRecDepth 100000 in
set_option maxHeartbeats 8000000 in
theorem chain_Back_any (A B C : Option Addr) (a b c : Nat) (st : Ch) (list : Int) (w : World) (h1 : st.ns.length ≤ 1000) (h2 : st.hs.length ≤ 1000) (h3 : st.ts.length ≤ 1000) (rA : Rd w w.heap.size A (nds st.ns)) (rB : Rd w w.heap.size B (ints st.hs)) (rC : Rd w w.heap.size C (ints st.ts)) :
    Calls Try.prog 27 #[csV A B C a b c st.ns.length st.hs.length st.ts.length, .int .i64 list] w fun e w' => ∃ O co, e = .returned (.slice O (dBack st list).length co) ∧ w'.ownsRow w.heap.size 3 1 (.slice O (dBack st list).length co) (dBack st list).length (ints (nI (dBack st list))) ∧ Below w.heap.size w w' := by
  obtain ⟨iT, hiT, hz0, hz1, hz2⟩ := info_parts cint_info
  have hI := fun W => chain_is_any A B C a b c st.ns.length st.hs.length st.ts.length list W (by unfold maxLen; omega)
  have hC := fun (W : World) r r' r'' => chain_Check_any A B C a b c st W h1 h2 h3 r r' r''
  have HR := hide (show dBack st list = if cIn list 0 ((st.hs.length : Int) - 1) = false then [] else if cCheck st ≠ 0 then [] else (nth (lists st) list.toNat).reverse from rfl)
  generalize dBack st list = R at *
  cases hv : cIn list 0 ((st.hs.length : Int) - 1)
  · have hR : R = [] := by rw [HR.out, if_pos hv]
    subst hR
    rw [hv] at hI
    clear HR hv hC
    go_enter Try.func27, Try.ntmps27
    go_wp2_with fail
    refine (hI _).mono ?_; rintro e w2 ⟨rfl, hx⟩
    go_wp2
    go_ret
    exact ⟨none, 0, rfl, World.ownsRow_nil _ _ _ _, by (repeat (first | with_reducible exact Below.refl _ _ | with_reducible assumption | with_reducible refine Below.drew ?_ | with_reducible refine Below.drewN ?_ _ | with_reducible refine Below.alloc1 ?_ _ | with_reducible refine Below.setCell1 ?_ (by first | omega | (simp; done) | (simp; omega)) _ | with_reducible refine Below.step ?_ (by with_reducible assumption)))⟩
  · have hb := cIn_t hv
    obtain ⟨i, rfl⟩ : ∃ i : Nat, list = (i : Int) := ⟨list.toNat, by omega⟩
    have hi : i < st.hs.length := by omega
    have hR0 : R = if cCheck st ≠ 0 then [] else (nth (lists st) i).reverse := by rw [HR.out, if_neg (by rw [hv]; simp)]; simp
    have HR2 := hide hR0
    rw [hv] at hI
    clear hR0 HR hv hb
    by_cases hc : cCheck st = 0
    · obtain ⟨⟨n1, hh1, hh2⟩, bn, bh, bt⟩ := check_bd hc
      obtain ⟨hG, hE⟩ := good_of hc
      have hil : i < (lists st).length := by rw [lists_len]; exact hi
      have hR : R = (nth (lists st) i).reverse := by rw [HR2.out, if_neg (by simp [hc])]
      have hnd := vl_clear hG.vl hil
      have HTs := hide (show st.ts[i]? = some (lst (nth (lists st) i)) by
        have := ts_at (n := st.ns.length) hil
        rwa [← hE] at this)
      have HNd := hide (show ∀ (pre suf : List Nat) (p : Nat), nth (lists st) i = pre ++ p :: suf → p < st.ns.length ∧ ∃ l n, st.ns[p]? = some ⟨l, n, lst pre⟩ by
        intro pre suf p e
        rw [nth_at hil] at e
        have hm : p ∈ (lists st)[i] := by rw [e]; simp
        have h5 := nd_in hG.vl hil hm
        rw [← hE] at h5
        have h6 := hnd.2.1
        rw [e] at h6
        have e2 : prv (-1) (lists st)[i] p = lst pre := by
          rw [e]
          exact prv_mid (fun h => (List.nodup_append.1 h6).2.2 p h p (by simp) rfl)
        exact ⟨hnd.2.2.1 p hm, (i : Int), nxt (lists st)[i] p, by rw [h5, e2]⟩)
      have HLen := hide (show (nth (lists st) i).length ≤ 64 by
        rw [nth_at hil]
        have := sub_len (P := List.range st.ns.length) hnd.2.1 (fun x hx => List.mem_range.2 (hnd.2.2.1 x hx))
        have h7 := hG.n2
        simp at this
        omega)
      rw [hc] at hC
      generalize nth (lists st) i = wk at *
      subst hR
      have HH2 := hide hh2
      have hi2 : i < st.ts.length := by omega
      have hi3 : (i : Int) < (st.ts.length : Int) := by omega
      clear HR2 hc hG hE hnd hil hh2 bn bh bt
      go_enter Try.func27, Try.ntmps27
      go_upto_region 1 with fail
      generalize hV : World.alloc w _ = w1
      have hb : Below w.heap.size w w1 := by subst hV; (repeat (first | with_reducible exact Below.refl _ _ | with_reducible assumption | with_reducible refine Below.drew ?_ | with_reducible refine Below.drewN ?_ _ | with_reducible refine Below.alloc1 ?_ _ | with_reducible refine Below.setCell1 ?_ (by first | omega | (simp; done) | (simp; omega)) _ | with_reducible refine Below.step ?_ (by with_reducible assumption)))
      have k : Bk w1 w.heap.size 30 (csC A B C a b c st.ns.length st.hs.length st.ts.length) := by subst hV; (repeat (first | with_reducible exact Bk.new' _ _ _ _ (by simp; done) | with_reducible assumption | with_reducible refine Bk.alloc ?_ _ | with_reducible refine Bk.drew ?_ | with_reducible refine Bk.drewN ?_ _ | with_reducible refine Bk.step ?_ (by with_reducible assumption) | with_reducible refine Bk.far ?_ (by first | omega | (simp; done) | (simp; omega)) _))
      clear hV
      replace rA := rA.step hb; replace rB := rB.step hb; replace rC := rC.step hb
      have k_0 := k.cell 0; have k_f0 := k.frozen 0; have k_1 := k.cell 1; have k_f1 := k.frozen 1; have k_2 := k.cell 2; have k_f2 := k.frozen 2; simp only [List.set_cons_zero, List.set_cons_succ, List.getElem?_cons_zero, List.getElem?_cons_succ] at k_0 k_1 k_2; have lt_k := k.lt
      go_wp2_with fail
      refine (hI _).mono ?_; rintro e w2 ⟨rfl, hx⟩
      replace k := k.step hx; (try clear k_0 k_f0 k_1 k_f1 k_2 k_f2); have k_0 := k.cell 0; have k_f0 := k.frozen 0; have k_1 := k.cell 1; have k_f1 := k.frozen 1; have k_2 := k.cell 2; have k_f2 := k.frozen 2; simp only [List.set_cons_zero, List.set_cons_succ, List.getElem?_cons_zero, List.getElem?_cons_succ] at k_0 k_1 k_2; (try clear lt_k); have lt_k := k.lt
      replace rA := rA.step hx; replace rB := rB.step hx; replace rC := rC.step hx
      replace hb := hb.step hx
      clear hx hI
      go_wp2_with fail
      refine (hC _ rA rB rC).mono ?_; rintro e w3 ⟨rfl, hx⟩
      replace k := k.step hx; (try clear k_0 k_f0 k_1 k_f1 k_2 k_f2); have k_0 := k.cell 0; have k_f0 := k.frozen 0; have k_1 := k.cell 1; have k_f1 := k.frozen 1; have k_2 := k.cell 2; have k_f2 := k.frozen 2; simp only [List.set_cons_zero, List.set_cons_succ, List.getElem?_cons_zero, List.getElem?_cons_succ] at k_0 k_1 k_2; (try clear lt_k); have lt_k := k.lt
      replace rA := rA.step hx; replace rB := rB.step hx; replace rC := rC.step hx
      replace hb := hb.step hx
      clear hx hC
      obtain ⟨bd, rfl, _, hcb⟩ := rC.at_ (k := i) (by simpa using hi2)
      rw [ints_get st.ts i hi2] at hcb
      have HT2 := hide (show st.ts[i] = lst wk by
        have := HTs.out
        rw [List.getElem?_eq_getElem hi2] at this
        injection this)
      generalize st.ts[i] = at0 at *
      go_upto_region 5 with fail
      (try clear k_0 k_f0 k_1 k_f1 k_2 k_f2 lt_k)
      have hsz := hb.size
      have lkw := k.lt
      go_loopw [5, 6] (fun ov av wr => ∃ (pre suf : List Nat) (O : Option Addr) (co : Nat), ov = .slice O suf.length co ∧ av = .int .i64 (lst pre) ∧ Hid (wk = pre ++ suf) ∧ wr.ownsRow w3.heap.size 3 1 (.slice O suf.length co) suf.length (ints (nI suf.reverse)) ∧
        Bk wr w.heap.size 30 (csC A B (some bd) a b c st.ns.length st.hs.length st.ts.length) ∧ Below w3.heap.size w3 wr) (fun ov _ _ => match ov with | .slice _ n _ => 64 - n | _ => 0)
      case atStart => exact ⟨wk, [], none, 0, rfl, by rw [HT2.out], hide (by simp), World.ownsRow_nil _ _ _ _, k, Below.refl _ _⟩
      case round =>
        clear k hcb
        obtain ⟨pre, suf, O, co, rfl, rfl, HR, own, kst, hb3⟩ := hrel
        have lk := kst.lt
        have kst_0 := kst.cell 0; have kst_f0 := kst.frozen 0; have kst_1 := kst.cell 1; have kst_f1 := kst.frozen 1; have kst_2 := kst.cell 2; have kst_f2 := kst.frozen 2; simp only [List.set_cons_zero, List.set_cons_succ, List.getElem?_cons_zero, List.getElem?_cons_succ] at kst_0 kst_1 kst_2; have lt_kst := kst.lt
        rcases lst_cases pre with ⟨e0, e⟩ | ⟨p0, hm0, e⟩
        · subst e0
          have hR2 := hide (show suf = wk by have := HR.out; simpa using this.symm)
          rw [e]
          clear e
          go_wp2
          go_ret
          have h8 := hR2.out
          subst h8
          exact ⟨O, co, by rw [List.length_reverse]; rfl, by rw [List.length_reverse]; exact own_mono own hsz, hb.step hb3⟩
        · obtain ⟨pr, p, rfl⟩ : ∃ pr p, pre = pr ++ [p] := by
            rcases List.eq_nil_or_concat pre with h | ⟨l, a, h⟩
            · subst h; cases hm0
            · exact ⟨l, a, by rw [h]; simp⟩
          rw [lst_snoc]
          have hpw : wk = pr ++ p :: suf := by rw [HR.out]; simp
          obtain ⟨hp, l, n, hx⟩ := HNd.out pr suf p hpw
          have hsl : suf.length < 64 := by
            have h9 := HLen.out
            rw [hpw] at h9
            simp at h9
            omega
          have HPW := hide hpw
          obtain ⟨ad, rfl, hadb, c1, c2, d3⟩ := rA.nd hp
          have c3 := (hb3.cell (p := ⟨(ad.add (p * 3)).block, (ad.add (p * 3)).off + 2, none⟩) (by rw [add_block]; omega)).trans d3
          have hs3 := hb3.size
          have hxp : st.ns[p].p = lst pr := by
            rw [List.getElem?_eq_getElem hp] at hx
            injection hx with hx
            rw [hx]
          rw [hxp] at c3
          have hp2 : (p : Int) < (st.ns.length : Int) := by omega
          have bp : ((p : Int) != -1) = true := by simp
          obtain ⟨at2, HAT⟩ : ∃ v, Hid (v = lst pr) := ⟨_, hide rfl⟩
          rw [← HAT.out] at c3
          have c3g := c3
          clear hx hxp hpw e hm0 HR c1 c2 d3
          go_wp2_with (at_builtin; refine wpList_app2 rfl (.tmp 29) (.tmp 31) 23 rfl w3.heap.size 3 iT _ 1 8 Try.underlying23 hiT hz0 hz1 hz2 rfl (by omega) O suf.length co (ints (nI suf.reverse)) rfl (own.alloc _) ⟨wr.heap.size, 0, none⟩ 1 1 [.int .i64 (p : Int)] rfl rfl (news_at (cs := [_])) (by simp [Value.oneCell']) (by unfold maxLen; omega) (by omega) (by simp; omega) (by omega) ?_; intro gO co2 w5 own5 hb5 hg5; (have k5 := (kst.alloc (.cells #[.int .i64 (p : Int)] 3)).below hb5 (by omega)); have k5_0 := k5.cell 0; have k5_f0 := k5.frozen 0; have k5_1 := k5.cell 1; have k5_f1 := k5.frozen 1; have k5_2 := k5.cell 2; have k5_f2 := k5.frozen 2; simp only [List.set_cons_zero, List.set_cons_succ, List.getElem?_cons_zero, List.getElem?_cons_succ] at k5_0 k5_1 k5_2; have lt_k5 := k5.lt; (have c5 : w5.cell? { block := (ad.add (p * 3)).block, off := (ad.add (p * 3)).off + 2 } = some (.int .i64 at2) := (hb5.cell (p := ⟨(ad.add (p * 3)).block, (ad.add (p * 3)).off + 2, none⟩) (by rw [add_block]; omega)).trans (((Below.refl wr.heap.size wr).alloc1 (.cells #[.int .i64 (p : Int)] 3)).cell (p := ⟨(ad.add (p * 3)).block, (ad.add (p * 3)).off + 2, none⟩) (by rw [add_block]; omega) |>.trans c3g)))
          go_roundw
          case rel =>
            refine ⟨pr, p :: suf, some ⟨gO, 0, none⟩, co2, rfl, by rw [HAT.out], hide HPW.out, ?_, k5, (hb3.alloc (by omega) (.cells #[.int .i64 (p : Int)] 3)).trans hb5⟩
            have e : ints (nI (p :: suf).reverse) = ints (nI suf.reverse) ++ [.int .i64 (p : Int)] := by simp
            rw [e]; exact own5
          case measure => simp; omega
    · have bc : (cCheck st != 0) = true := by simpa using hc
      have hR : R = [] := by rw [HR2.out, if_pos hc]
      subst hR
      generalize cCheck st = cv at *
      clear HR2 hc
      go_enter Try.func27, Try.ntmps27
      go_upto_region 1 with fail
      generalize hV : World.alloc w _ = w1
      have hb : Below w.heap.size w w1 := by subst hV; (repeat (first | with_reducible exact Below.refl _ _ | with_reducible assumption | with_reducible refine Below.drew ?_ | with_reducible refine Below.drewN ?_ _ | with_reducible refine Below.alloc1 ?_ _ | with_reducible refine Below.setCell1 ?_ (by first | omega | (simp; done) | (simp; omega)) _ | with_reducible refine Below.step ?_ (by with_reducible assumption)))
      have k : Bk w1 w.heap.size 30 (csC A B C a b c st.ns.length st.hs.length st.ts.length) := by subst hV; (repeat (first | with_reducible exact Bk.new' _ _ _ _ (by simp; done) | with_reducible assumption | with_reducible refine Bk.alloc ?_ _ | with_reducible refine Bk.drew ?_ | with_reducible refine Bk.drewN ?_ _ | with_reducible refine Bk.step ?_ (by with_reducible assumption) | with_reducible refine Bk.far ?_ (by first | omega | (simp; done) | (simp; omega)) _))
      clear hV
      replace rA := rA.step hb; replace rB := rB.step hb; replace rC := rC.step hb
      have k_0 := k.cell 0; have k_f0 := k.frozen 0; have k_1 := k.cell 1; have k_f1 := k.frozen 1; have k_2 := k.cell 2; have k_f2 := k.frozen 2; simp only [List.set_cons_zero, List.set_cons_succ, List.getElem?_cons_zero, List.getElem?_cons_succ] at k_0 k_1 k_2; have lt_k := k.lt
      go_wp2_with fail
      refine (hI _).mono ?_; rintro e w2 ⟨rfl, hx⟩
      replace k := k.step hx; (try clear k_0 k_f0 k_1 k_f1 k_2 k_f2); have k_0 := k.cell 0; have k_f0 := k.frozen 0; have k_1 := k.cell 1; have k_f1 := k.frozen 1; have k_2 := k.cell 2; have k_f2 := k.frozen 2; simp only [List.set_cons_zero, List.set_cons_succ, List.getElem?_cons_zero, List.getElem?_cons_succ] at k_0 k_1 k_2; (try clear lt_k); have lt_k := k.lt
      replace rA := rA.step hx; replace rB := rB.step hx; replace rC := rC.step hx
      replace hb := hb.step hx
      clear hx hI
      go_wp2_with fail
      refine (hC _ rA rB rC).mono ?_; rintro e w3 ⟨rfl, hx⟩
      replace k := k.step hx; (try clear k_0 k_f0 k_1 k_f1 k_2 k_f2); have k_0 := k.cell 0; have k_f0 := k.frozen 0; have k_1 := k.cell 1; have k_f1 := k.frozen 1; have k_2 := k.cell 2; have k_f2 := k.frozen 2; simp only [List.set_cons_zero, List.set_cons_succ, List.getElem?_cons_zero, List.getElem?_cons_succ] at k_0 k_1 k_2; (try clear lt_k); have lt_k := k.lt
      replace hb := hb.step hx
      clear hx hC
      go_wp2
      go_ret
      exact ⟨none, 0, rfl, World.ownsRow_nil _ _ _ _, hb⟩
end Go.Proofs.Ythicpjfdljgfpaa
