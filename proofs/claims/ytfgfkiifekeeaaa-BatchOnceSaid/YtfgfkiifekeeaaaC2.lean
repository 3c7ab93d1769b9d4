import Derived.Test.YtfgfkiifekeeaaaBa4
import Derived.Test.YtfgfkiifekeeaaaC1
import Derived.ArgAppend
import Derived.Deep.MidRow
import Derived.Test.YtfgfkiifekeeaaaC0
import Derived.Test.YtfgfkiifekeeaaaAw30
/- Package batch: Put, Take, Forget, with where the rows lie. -/
namespace Go.Proofs.Ytfgfkiifekeeaaa
open Go.RowKit Go.Shelf
set_option linter.unusedSimpArgs false
set_option linter.unusedVariables false

/-- it lies in a block of what came in, or from block lo on -/
def FrB (w : World) (lo : Nat) (A0 A : Option Addr) : Prop := ∀ ad, A = some ad → (lo ≤ ad.block ∧ ad.block < w.heap.size) ∨ ∃ ad0, A0 = some ad0 ∧ ad.block = ad0.block
def BsF (lo : Nat) (A0 : Option Addr) (w : World) (V : Value) (x : Bs) : Prop := ∃ A c, V = bsV A x.l.length c x.asked x.saved ∧ x.l.length ≤ c ∧ Rd w w.heap.size A (pbs x.l) ∧ FrB w lo A0 A
def PutF (w : World) (A0 : Option Addr) (x : Bs × Int) (e : Ending) (w' : World) : Prop := ∃ V, e = .returned (.tuple #[V, .int .i64 x.2]) ∧ BsF w.heap.size A0 w' V x.1 ∧ Below w.heap.size w w'
def TakeF (w : World) (A0 : Option Addr) (x : Bs × List Pb) (e : Ending) (w' : World) : Prop := ∃ V A c, e = .returned (.tuple #[V, .slice A x.2.length c]) ∧ BsF w.heap.size A0 w' V x.1 ∧ x.2.length ≤ c ∧ Rd w' w'.heap.size A (pbs x.2) ∧ Below w.heap.size w w'
def ForgetF (w : World) (A0 : Option Addr) (x : Bs) (e : Ending) (w' : World) : Prop := ∃ V, e = .returned V ∧ BsF w.heap.size A0 w' V x ∧ Below w.heap.size w w'
theorem from_runF {P : Program} {t e : TypeId} {size : Nat} (ht : P.underlying t = some (.slice e)) (he : P.elem t = e) (hs : ∀ W, (sizeOf e).run P W = .ok size W) (A : Option Addr) (k n c : Nat) (v : Int) (hv : v = k) (hk : k ≤ n) (hn : n ≤ c) :
    ∃ A2, (∀ w B xs, Rd w B A xs → xs.length = n * size → Rd w B A2 (xs.drop (k * size))) ∧ (∀ ad, A2 = some ad → ∃ ad0, A = some ad0 ∧ ad.block = ad0.block) ∧ (∀ W, (Instr.slice t (.slice A n c) (some (.int .i64 v)) none none).run P W = .ok (.slice A2 (n - k) (c - k)) W) ∧ (∀ W, (Instr.sliceAt t (.slice A n c) (some (.int .i64 v)) none none).run P W = .ok (.slice A2 (n - k) (c - k)) W) := by
  subst hv
  have hu : P.underlying t = some (.slice (P.elem t)) := by rw [he]; exact ht
  have hb : ∃ A2, (∀ w B xs, Rd w B A xs → xs.length = n * size → Rd w B A2 (xs.drop (k * size))) ∧ (∀ ad, A2 = some ad → ∃ ad0, A = some ad0 ∧ ad.block = ad0.block) ∧ (∀ W, (Instr.slice t (.slice A n c) (some (.int .i64 (k : Int))) none none).run P W = .ok (.slice A2 (n - k) (c - k)) W) := by
    by_cases h1 : c = k
    · refine ⟨A, fun w B xs _ hl => ?_, fun ad e => ⟨ad, e, rfl⟩, fun W => ?_⟩
      · rw [List.drop_eq_nil_of_le (by rw [hl, show n = k by omega]; exact Nat.le_refl _)]; exact Rd.nil
      · rw [run_slice_l (ht := hu) (h0 := by omega) (h1 := by omega), he, hs]
        simp [sliced, h1]
    · refine ⟨A.map (fun a : Addr => a.add (k * size)), fun w B xs h hl => ?_, fun ad e => by (cases A with | none => cases e | some a0 => (injection e with e; subst e; exact ⟨a0, rfl, add_block _ _⟩)), fun W => ?_⟩
      · cases A with
        | none =>
          have : xs = [] := Classical.byContradiction fun hne => by obtain ⟨ad, e, _⟩ := h hne; cases e
          rw [this, List.drop_nil]; exact Rd.nil
        | some ad => exact h.drop _
      · rw [run_slice_l (ht := hu) (h0 := by omega) (h1 := by omega), he, hs]
        simp [sliced, h1]
  obtain ⟨A2, h1, h3, h2⟩ := hb
  exact ⟨A2, h1, h3, h2, fun W => (run_sliceAt_slice W _ _ _ _ _ hu).trans (h2 W)⟩
set_option maxRecDepth 1000000 in
set_option maxHeartbeats 8000000 in
theorem batch_Put_fr (A : Option Addr) (c : Nat) (l : List Pb) (a s : Int) (y z : ByteArray) (w : World) (hl : l.length ≤ 1000) (hc : l.length ≤ c) (hS : ∀ x ∈ l, Sm x) (hp : Sm ⟨y, z⟩) (hm : MW w) (ha : Rd w w.heap.size A (pbs l)) :
    Calls Try.prog 10 #[bsV A l.length c a s, .string y, .string z] w (PutF w A (bPut ⟨l, a, s⟩ ⟨y, z⟩)) := by
  have HC := fun (W : World) (h : Below w.heap.size w W) => batch_Check_any A c l a s W hl hc hS (hm.step h) ((ha.below h).more h.size)
  have HW := fun (W : World) (h : Below w.heap.size w W) => batch_wrong_any ⟨y, z⟩ hp W (hm.step h)
  have HN := fun (W : World) (h : Below w.heap.size w W) => pb_Contains A c l ⟨y, z⟩ W (by unfold maxLen; omega) ((ha.below h).more h.size)
  obtain ⟨R, hR⟩ : ∃ R, R = bPut ⟨l, a, s⟩ ⟨y, z⟩ := ⟨_, rfl⟩
  rw [← hR]
  unfold bPut at hR
  dsimp only at hR
  have hok : bCheck ⟨l, a, s⟩ = 0 → Hid (l.length ≤ 64 ∧ bIn s = true) := fun h => ⟨(bCheck_ok h).1, (bCheck_ok h).2.2.2.2⟩
  generalize bCheck ⟨l, a, s⟩ = C at *
  generalize bFine ⟨y, z⟩ = F at *
  replace hR := hide hR
  replace hok := hide hok
  go_enter Try.func10, Try.ntmps10
  go_wp2_with fail
  generalize hV : World.alloc (World.alloc w _) _ = w1
  have hb : Below w.heap.size w w1 := by subst hV; (repeat (first | with_reducible exact Below.refl _ _ | with_reducible assumption | with_reducible refine Below.drew ?_ | with_reducible refine Below.drewN ?_ _ | with_reducible refine Below.alloc1 ?_ _ | with_reducible refine Below.setCell1 ?_ (by first | omega | (simp; done) | (simp; omega)) _ | with_reducible refine Below.step ?_ (by with_reducible assumption)))
  have k3 : Bk w1 w.heap.size 31 (bsC A l.length c a s) := by subst hV; (repeat (first | with_reducible exact Bk.new' _ _ _ _ (by simp; done) | with_reducible assumption | with_reducible refine Bk.alloc ?_ _ | with_reducible refine Bk.drew ?_ | with_reducible refine Bk.drewN ?_ _ | with_reducible refine Bk.step ?_ (by with_reducible assumption) | with_reducible refine Bk.far ?_ (by first | omega | (simp; done) | (simp; omega)) _))
  have k6 : Bk w1 (w.heap.size + 1) 31 (bsC none 0 0 0 0) := by subst hV; (repeat (first | with_reducible exact Bk.new' _ _ _ _ (by simp; done) | with_reducible assumption | with_reducible refine Bk.alloc ?_ _ | with_reducible refine Bk.drew ?_ | with_reducible refine Bk.drewN ?_ _ | with_reducible refine Bk.step ?_ (by with_reducible assumption) | with_reducible refine Bk.far ?_ (by first | omega | (simp; done) | (simp; omega)) _))
  clear hV
  refine (HC _ hb).mono ?_; rintro e w2 ⟨rfl, hx⟩
  replace hb := hb.step hx
  replace k3 := k3.step hx
  replace k6 := k6.step hx
  clear hx HC
  have k3_0 := k3.cell 0; have k3_f0 := k3.frozen 0; have k3_1 := k3.cell 1; have k3_f1 := k3.frozen 1; have k3_2 := k3.cell 2; have k3_f2 := k3.frozen 2; simp only [List.set_cons_zero, List.set_cons_succ, List.getElem?_cons_zero, List.getElem?_cons_succ] at k3_0 k3_1 k3_2; have lt_k3 := k3.lt; have k6_0 := k6.cell 0; have k6_f0 := k6.frozen 0; have k6_1 := k6.cell 1; have k6_f1 := k6.frozen 1; have k6_2 := k6.cell 2; have k6_f2 := k6.frozen 2; simp only [List.set_cons_zero, List.set_cons_succ, List.getElem?_cons_zero, List.getElem?_cons_succ] at k6_0 k6_1 k6_2; have lt_k6 := k6.lt
  by_cases hC0 : C ≠ 0
  · have e0 : (C != 0) = true := by simpa using hC0
    -- (a
    replace hR := hide (hR.out.trans (if_pos hC0))
    clear hC0 hok
    go_wp2_with (first | (refine wpList_store_row rfl 31 _ _ rfl _ (bsC A l.length c a s).toArray rfl rfl _ _ k6 (by kernel_rfl) (by kernel_rfl) (by kernel_rfl) ?_))
    have r6 := k6.srow (bsC A l.length c a s)
    have hbr := srow_below hb (Nat.le_succ w.heap.size) (bsC A l.length c a s).toArray
    exact bodyPost_ret (v := .tuple #[bsV A l.length c a s, .int .i64 C]) (results_row_val rfl _ _ _ _ _ _ _ rfl rfl r6 Try.underlying31 rfl (by kernel_rfl)) rfl ⟨_, by rw [hR.out], by rw [hR.out]; exact ⟨A, c, rfl, hc, (ha.below hbr).more hbr.size, fun ad e => .inr ⟨ad, e, rfl⟩⟩, hbr⟩
    -- a)
  obtain rfl : C = 0 := Classical.not_not.1 hC0
  clear hC0
  have hok2 := hok.out rfl
  replace hR := hide (hR.out.trans (if_neg (fun h => h rfl)))
  clear hok
  go_wp2_with fail
  generalize hV : World.alloc w2 _ = w3
  have hx : Below w2.heap.size w2 w3 := by subst hV; (repeat (first | with_reducible exact Below.refl _ _ | with_reducible assumption | with_reducible refine Below.drew ?_ | with_reducible refine Below.drewN ?_ _ | with_reducible refine Below.alloc1 ?_ _ | with_reducible refine Below.setCell1 ?_ (by first | omega | (simp; done) | (simp; omega)) _ | with_reducible refine Below.step ?_ (by with_reducible assumption)))
  have k9 : Bk w3 w2.heap.size 60 (pbC ⟨y, z⟩) := by subst hV; exact Bk.new w2 60 _
  clear hV
  replace hb := hb.step hx
  replace k3 := k3.step hx; (try clear k3_0 k3_f0 k3_1 k3_f1 k3_2 k3_f2); have k3_0 := k3.cell 0; have k3_f0 := k3.frozen 0; have k3_1 := k3.cell 1; have k3_f1 := k3.frozen 1; have k3_2 := k3.cell 2; have k3_f2 := k3.frozen 2; simp only [List.set_cons_zero, List.set_cons_succ, List.getElem?_cons_zero, List.getElem?_cons_succ] at k3_0 k3_1 k3_2; (try clear lt_k3); have lt_k3 := k3.lt; replace k6 := k6.step hx; (try clear k6_0 k6_f0 k6_1 k6_f1 k6_2 k6_f2); have k6_0 := k6.cell 0; have k6_f0 := k6.frozen 0; have k6_1 := k6.cell 1; have k6_f1 := k6.frozen 1; have k6_2 := k6.cell 2; have k6_f2 := k6.frozen 2; simp only [List.set_cons_zero, List.set_cons_succ, List.getElem?_cons_zero, List.getElem?_cons_succ] at k6_0 k6_1 k6_2; (try clear lt_k6); have lt_k6 := k6.lt
  clear hx
  have k9_0 := k9.cell 0; have k9_f0 := k9.frozen 0; have k9_1 := k9.cell 1; have k9_f1 := k9.frozen 1; simp only [List.set_cons_zero, List.set_cons_succ, List.getElem?_cons_zero, List.getElem?_cons_succ] at k9_0 k9_1; have lt_k9 := k9.lt
  refine (HW _ hb).mono ?_; rintro e w4 ⟨rfl, hx⟩
  replace hb := hb.step hx
  replace k3 := k3.step hx; (try clear k3_0 k3_f0 k3_1 k3_f1 k3_2 k3_f2); have k3_0 := k3.cell 0; have k3_f0 := k3.frozen 0; have k3_1 := k3.cell 1; have k3_f1 := k3.frozen 1; have k3_2 := k3.cell 2; have k3_f2 := k3.frozen 2; simp only [List.set_cons_zero, List.set_cons_succ, List.getElem?_cons_zero, List.getElem?_cons_succ] at k3_0 k3_1 k3_2; (try clear lt_k3); have lt_k3 := k3.lt; replace k6 := k6.step hx; (try clear k6_0 k6_f0 k6_1 k6_f1 k6_2 k6_f2); have k6_0 := k6.cell 0; have k6_f0 := k6.frozen 0; have k6_1 := k6.cell 1; have k6_f1 := k6.frozen 1; have k6_2 := k6.cell 2; have k6_f2 := k6.frozen 2; simp only [List.set_cons_zero, List.set_cons_succ, List.getElem?_cons_zero, List.getElem?_cons_succ] at k6_0 k6_1 k6_2; (try clear lt_k6); have lt_k6 := k6.lt; replace k9 := k9.step hx; (try clear k9_0 k9_f0 k9_1 k9_f1); have k9_0 := k9.cell 0; have k9_f0 := k9.frozen 0; have k9_1 := k9.cell 1; have k9_f1 := k9.frozen 1; simp only [List.set_cons_zero, List.set_cons_succ, List.getElem?_cons_zero, List.getElem?_cons_succ] at k9_0 k9_1; (try clear lt_k9); have lt_k9 := k9.lt
  clear hx HW
  cases F with
  | false =>
    -- (b
    replace hR := hide (hR.out.trans (if_pos rfl))
    go_wp2_with (first | (refine wpList_store_row rfl 31 _ _ rfl _ (bsC A l.length c a s).toArray rfl rfl _ _ k6 (by kernel_rfl) (by kernel_rfl) (by kernel_rfl) ?_))
    have r6 := k6.srow (bsC A l.length c a s)
    have hbr := srow_below hb (Nat.le_succ w.heap.size) (bsC A l.length c a s).toArray
    exact bodyPost_ret (v := .tuple #[bsV A l.length c a s, .int .i64 11]) (results_row_val rfl _ _ _ _ _ _ _ rfl rfl r6 Try.underlying31 rfl (by kernel_rfl)) rfl ⟨_, by rw [hR.out], by rw [hR.out]; exact ⟨A, c, rfl, hc, (ha.below hbr).more hbr.size, fun ad e => .inr ⟨ad, e, rfl⟩⟩, hbr⟩
    -- b)
  | true =>
    replace hR := hide (hR.out.trans (if_neg (by decide)))
    go_wp2_with fail
    refine (HN _ hb).mono ?_; rintro e w5 ⟨rfl, hx⟩
    replace hb := hb.step hx
    replace k3 := k3.step hx; (try clear k3_0 k3_f0 k3_1 k3_f1 k3_2 k3_f2); have k3_0 := k3.cell 0; have k3_f0 := k3.frozen 0; have k3_1 := k3.cell 1; have k3_f1 := k3.frozen 1; have k3_2 := k3.cell 2; have k3_f2 := k3.frozen 2; simp only [List.set_cons_zero, List.set_cons_succ, List.getElem?_cons_zero, List.getElem?_cons_succ] at k3_0 k3_1 k3_2; (try clear lt_k3); have lt_k3 := k3.lt; replace k6 := k6.step hx; (try clear k6_0 k6_f0 k6_1 k6_f1 k6_2 k6_f2); have k6_0 := k6.cell 0; have k6_f0 := k6.frozen 0; have k6_1 := k6.cell 1; have k6_f1 := k6.frozen 1; have k6_2 := k6.cell 2; have k6_f2 := k6.frozen 2; simp only [List.set_cons_zero, List.set_cons_succ, List.getElem?_cons_zero, List.getElem?_cons_succ] at k6_0 k6_1 k6_2; (try clear lt_k6); have lt_k6 := k6.lt; replace k9 := k9.step hx; (try clear k9_0 k9_f0 k9_1 k9_f1); have k9_0 := k9.cell 0; have k9_f0 := k9.frozen 0; have k9_1 := k9.cell 1; have k9_f1 := k9.frozen 1; simp only [List.set_cons_zero, List.set_cons_succ, List.getElem?_cons_zero, List.getElem?_cons_succ] at k9_0 k9_1; (try clear lt_k9); have lt_k9 := k9.lt
    clear hx HN
    by_cases hin : (⟨y, z⟩ : Pb) ∈ l
    · rw [decide_eq_true hin]
      -- (c
      replace hR := hide (hR.out.trans (if_pos hin))
      clear hin
      have hs := bIn_iff hok2.out.2
      clear hok2
      obtain ⟨h0, h1⟩ := hs
      go_upto_region 9 with fail
      generalize hV : World.setCell w5 _ _ = w6
      replace hb : Below w.heap.size w w6 := by subst hV; exact hb.setCell (Nat.le_refl _) _
      have kA : Bk w6 w.heap.size 31 (bsC A l.length c a (min (s + 1) 1099511627776)) := by subst hV; exact k3.set_ 2 _
      have kB : Bk w6 (w.heap.size + 1) 31 (bsC none 0 0 0 0) := by subst hV; exact k6.far (by dsimp only; omega) _
      clear hV
      (try clear k3_0 k3_f0 k3_1 k3_f1 k3_2 k3_f2 lt_k3) ; (try clear k6_0 k6_f0 k6_1 k6_f1 k6_2 k6_f2 lt_k6)
      clear k3 k6
      have kA_0 := kA.cell 0; have kA_f0 := kA.frozen 0; have kA_1 := kA.cell 1; have kA_f1 := kA.frozen 1; have kA_2 := kA.cell 2; have kA_f2 := kA.frozen 2; simp only [List.set_cons_zero, List.set_cons_succ, List.getElem?_cons_zero, List.getElem?_cons_succ] at kA_0 kA_1 kA_2; have lt_kA := kA.lt; have kB_0 := kB.cell 0; have kB_f0 := kB.frozen 0; have kB_1 := kB.cell 1; have kB_f1 := kB.frozen 1; have kB_2 := kB.cell 2; have kB_f2 := kB.frozen 2; simp only [List.set_cons_zero, List.set_cons_succ, List.getElem?_cons_zero, List.getElem?_cons_succ] at kB_0 kB_1 kB_2; have lt_kB := kB.lt
      go_wp2_with (first | (refine wpList_store_row rfl 31 _ _ rfl _ (bsC A l.length c a (min (s + 1) 1099511627776)).toArray rfl rfl _ _ kB (by kernel_rfl) (by kernel_rfl) (by kernel_rfl) ?_))
      have r6 := kB.srow (bsC A l.length c a (min (s + 1) 1099511627776))
      have hbr := srow_below hb (Nat.le_succ w.heap.size) (bsC A l.length c a (min (s + 1) 1099511627776)).toArray
      exact bodyPost_ret (v := .tuple #[bsV A l.length c a (min (s + 1) 1099511627776), .int .i64 0]) (results_row_val rfl _ _ _ _ _ _ _ rfl rfl r6 Try.underlying31 rfl (by kernel_rfl)) rfl ⟨_, by rw [hR.out], by rw [hR.out]; exact ⟨A, c, rfl, hc, (ha.below hbr).more hbr.size, fun ad e => .inr ⟨ad, e, rfl⟩⟩, hbr⟩
      -- c)
    · rw [decide_eq_false hin]
      replace hR := hide (hR.out.trans (if_neg hin))
      clear hin
      have h64 := hok2.out.1
      clear hok2
      by_cases hn : l.length = 64
      · have e0 : ((l.length : Int) == 64) = true := by rw [beq_iff_eq]; omega
        replace hR := hide (hR.out.trans (if_pos hn))
        clear hn h64
        -- (d
        go_wp2_with (first | (refine wpList_store_row rfl 31 _ _ rfl _ (bsC A l.length c a s).toArray rfl rfl _ _ k6 (by kernel_rfl) (by kernel_rfl) (by kernel_rfl) ?_))
        have r6 := k6.srow (bsC A l.length c a s)
        have hbr := srow_below hb (Nat.le_succ w.heap.size) (bsC A l.length c a s).toArray
        exact bodyPost_ret (v := .tuple #[bsV A l.length c a s, .int .i64 7]) (results_row_val rfl _ _ _ _ _ _ _ rfl rfl r6 Try.underlying31 rfl (by kernel_rfl)) rfl ⟨_, by rw [hR.out], by rw [hR.out]; exact ⟨A, c, rfl, hc, (ha.below hbr).more hbr.size, fun ad e => .inr ⟨ad, e, rfl⟩⟩, hbr⟩
        -- d)
      · have e0 : ((l.length : Int) == 64) = false := by rw [beq_eq_false_iff_ne]; omega
        replace hR := hide (hR.out.trans (if_neg hn))
        clear hn
        obtain ⟨iT, hi, hz0, hz1, hz2⟩ := info_parts pb_info
        have hlen := pbs_length l
        have hA0 : A = none → l.length = 0 ∧ l.length = 0 := fun h => by subst h; rw [rd_none ha]; exact ⟨rfl, rfl⟩
        have hra := (ha.below hb).more hb.size
        have HL := hide hlen
        have HA := hide hA0
        clear hlen hA0
        go_upto_region 13 with fail
        go_region_law (refine step_append_grows rfl (.tmp 48) (.tmp 50) 29 rfl 60 iT _ 2 32 Try.underlying29 hi hz0 hz1 hz2 rfl (by omega) A l.length l.length (pbs l) (by simp [Act.eval, Act.put]) HA.out (by rw [HL.out]; omega) (rd_holds (Rd.drew1 (Rd.alloc1 hra _))) ⟨w5.heap.size, 0, none⟩ 1 1 (pbC ⟨y, z⟩) (by simp [Act.eval, Act.put]) rfl (news_at (cs := [_, _])) (by simp [Value.oneCell']) (by omega) (by unfold maxLen; omega) (by omega) ?_; intro vA w6 own6 hg6; (obtain ⟨A6, c6, rfl⟩ := own_form own6); (have kz := bk_none (Bk.drew (k3.alloc _)) hg6); (have kz_0 := kz.cell 0); (have kz_f0 := kz.frozen 0); simp only [List.getElem?_cons_zero, bsC] at kz_0; (have lz := kz.lt))
        all_goals
          go_upto_region 14 with fail
          have hs5 : w.heap.size + 1 < w5.heap.size := lt_k6
          have hb6 : Below w.heap.size w w6 := (Below.drew (hb.alloc1 _)).trans ((Below.refl w.heap.size _).grown hg6 (by simp; omega) (fun k hk => by cases hk))
          have kB0 := bk_none (Bk.drew (k6.alloc _)) hg6
          generalize hV : World.setCell w6 _ _ = w7
          have hb7 : Below w.heap.size w w7 := by subst hV; exact hb6.setCell (Nat.le_refl _) _
          have kA : Bk w7 w.heap.size 31 (bsC A6 (l.length + 1) c6 a s) := by subst hV; exact kz.set_ 0 _
          have kB : Bk w7 (w.heap.size + 1) 31 (bsC none 0 0 0 0) := by subst hV; exact kB0.far (by dsimp only; omega) _
          have own7 : w7.ownsRow (w.heap.size + 2) 60 2 (.slice A6 (l.length + 1) c6) (l.length + 1) (pbs (l ++ [⟨y, z⟩])) := by
            subst hV
            rw [pbs_append, show pbs [(⟨y, z⟩ : Pb)] = pbC ⟨y, z⟩ by simp [pbs]]
            exact own_far (own_mono30 own6 (by simp; omega)) (by dsimp only; omega) _
          have hcap := own_cap30 own7
          have hble := own_blk own7
          have hrd := own_rd own7
          clear hV kz kz_0 kz_f0 lz kB0 own6 hg6 hra own7
          (try clear k3_0 k3_f0 k3_1 k3_f1 k3_2 k3_f2 lt_k3) ; (try clear k6_0 k6_f0 k6_1 k6_f1 k6_2 k6_f2 lt_k6) ; (try clear k9_0 k9_f0 k9_1 k9_f1 lt_k9)
          clear k3 k6 k9
          have kA_0 := kA.cell 0; have kA_f0 := kA.frozen 0; have kA_1 := kA.cell 1; have kA_f1 := kA.frozen 1; have kA_2 := kA.cell 2; have kA_f2 := kA.frozen 2; simp only [List.set_cons_zero, List.set_cons_succ, List.getElem?_cons_zero, List.getElem?_cons_succ] at kA_0 kA_1 kA_2; have lt_kA := kA.lt; have kB_0 := kB.cell 0; have kB_f0 := kB.frozen 0; have kB_1 := kB.cell 1; have kB_f1 := kB.frozen 1; have kB_2 := kB.cell 2; have kB_f2 := kB.frozen 2; simp only [List.set_cons_zero, List.set_cons_succ, List.getElem?_cons_zero, List.getElem?_cons_succ] at kB_0 kB_1 kB_2; have lt_kB := kB.lt
          go_wp2_with (first | (refine wpList_store_row rfl 31 _ _ rfl _ (bsC A6 (l.length + 1) c6 a s).toArray rfl rfl _ _ kB (by kernel_rfl) (by kernel_rfl) (by kernel_rfl) ?_))
          have r6 := kB.srow (bsC A6 (l.length + 1) c6 a s)
          have hbr := srow_below hb7 (Nat.le_succ w.heap.size) (bsC A6 (l.length + 1) c6 a s).toArray
          have hrd2 := hrd.rowFar (g := w.heap.size + 1) (fun ad e => by have := (hble ad e).1; omega) (bsC A6 (l.length + 1) c6 a s).toArray
          exact bodyPost_ret (v := .tuple #[bsV A6 (l.length + 1) c6 a s, .int .i64 0]) (results_row_val rfl _ _ _ _ _ _ _ rfl rfl r6 Try.underlying31 rfl (by kernel_rfl)) rfl ⟨_, by rw [hR.out], by rw [hR.out]; exact ⟨A6, c6, by simp, by simpa using hcap.1, hrd2, fun ad e => .inl ⟨by have := (hble ad e).1; omega, by rw [setRow_size]; exact (hble ad e).2⟩⟩, hbr⟩
set_option maxRecDepth 1000000 in
set_option maxHeartbeats 8000000 in
theorem batch_Take_fr (A : Option Addr) (c : Nat) (l : List Pb) (a s n : Int) (w : World) (hl : l.length ≤ 1000) (hc : l.length ≤ c) (hS : ∀ x ∈ l, Sm x) (hm : MW w) (ha : Rd w w.heap.size A (pbs l)) :
    Calls Try.prog 12 #[bsV A l.length c a s, .int .i64 n] w (TakeF w A (bTake ⟨l, a, s⟩ n)) := by
  have HC := fun (W : World) (h : Below w.heap.size w W) => batch_Check_any A c l a s W hl hc hS (hm.step h) ((ha.below h).more h.size)
  obtain ⟨R, hR⟩ : ∃ R, R = bTake ⟨l, a, s⟩ n := ⟨_, rfl⟩
  rw [← hR]
  unfold bTake at hR
  dsimp only at hR
  have hok : bCheck ⟨l, a, s⟩ = 0 → Hid (l.length ≤ 64 ∧ bIn a = true) := fun h => ⟨(bCheck_ok h).1, (bCheck_ok h).2.2.2.1⟩
  obtain ⟨hk1, hk2⟩ := bCut_le n l.length
  generalize bCheck ⟨l, a, s⟩ = C at *
  generalize bCut n l.length = k at *
  replace hR := hide hR
  replace hok := hide hok
  have hel : Try.prog.elem 29 = 60 := by kernel_rfl
  have hsz : ∀ W, (sizeOf 60).run Try.prog W = .ok 2 W := fun W => by kernel_rfl
  obtain ⟨A2, hA2, hF2, sf1, sf2⟩ := from_runF Try.underlying29 hel hsz A k l.length c (k : Int) rfl hk1 hc
  obtain ⟨st1, st2⟩ := to_runB Try.underlying29 hel hsz A k l.length c (by omega)
  have HA2 := hide hA2
  replace hF2 := hide hF2
  have HK2 := hide hk2
  clear hA2 hk2 hsz hel
  go_enter Try.func12, Try.ntmps12
  go_wp2_with fail
  generalize hV : World.alloc (World.alloc w _) _ = w1
  have hb : Below w.heap.size w w1 := by subst hV; (repeat (first | with_reducible exact Below.refl _ _ | with_reducible assumption | with_reducible refine Below.drew ?_ | with_reducible refine Below.drewN ?_ _ | with_reducible refine Below.alloc1 ?_ _ | with_reducible refine Below.setCell1 ?_ (by first | omega | (simp; done) | (simp; omega)) _ | with_reducible refine Below.step ?_ (by with_reducible assumption)))
  have k3 : Bk w1 w.heap.size 31 (bsC A l.length c a s) := by subst hV; (repeat (first | with_reducible exact Bk.new' _ _ _ _ (by simp; done) | with_reducible assumption | with_reducible refine Bk.alloc ?_ _ | with_reducible refine Bk.drew ?_ | with_reducible refine Bk.drewN ?_ _ | with_reducible refine Bk.step ?_ (by with_reducible assumption) | with_reducible refine Bk.far ?_ (by first | omega | (simp; done) | (simp; omega)) _))
  have k6 : Bk w1 (w.heap.size + 1) 31 (bsC none 0 0 0 0) := by subst hV; (repeat (first | with_reducible exact Bk.new' _ _ _ _ (by simp; done) | with_reducible assumption | with_reducible refine Bk.alloc ?_ _ | with_reducible refine Bk.drew ?_ | with_reducible refine Bk.drewN ?_ _ | with_reducible refine Bk.step ?_ (by with_reducible assumption) | with_reducible refine Bk.far ?_ (by first | omega | (simp; done) | (simp; omega)) _))
  clear hV
  refine (HC _ hb).mono ?_; rintro e w2 ⟨rfl, hx⟩
  replace hb := hb.step hx
  replace k3 := k3.step hx
  replace k6 := k6.step hx
  clear hx HC
  have k3_0 := k3.cell 0; have k3_f0 := k3.frozen 0; have k3_1 := k3.cell 1; have k3_f1 := k3.frozen 1; have k3_2 := k3.cell 2; have k3_f2 := k3.frozen 2; simp only [List.set_cons_zero, List.set_cons_succ, List.getElem?_cons_zero, List.getElem?_cons_succ] at k3_0 k3_1 k3_2; have lt_k3 := k3.lt; have k6_0 := k6.cell 0; have k6_f0 := k6.frozen 0; have k6_1 := k6.cell 1; have k6_f1 := k6.frozen 1; have k6_2 := k6.cell 2; have k6_f2 := k6.frozen 2; simp only [List.set_cons_zero, List.set_cons_succ, List.getElem?_cons_zero, List.getElem?_cons_succ] at k6_0 k6_1 k6_2; have lt_k6 := k6.lt
  by_cases hC0 : C ≠ 0
  · have e0 : (C != 0) = true := by simpa using hC0
    replace hR := hide (hR.out.trans (if_pos hC0))
    clear hC0 hok st1 st2 sf1 sf2
    go_wp2_with (first | (refine wpList_store_row rfl 31 _ _ rfl _ (bsC A l.length c a s).toArray rfl rfl _ _ k6 (by kernel_rfl) (by kernel_rfl) (by kernel_rfl) ?_))
    have r6 := k6.srow (bsC A l.length c a s)
    have hbr := srow_below hb (Nat.le_succ w.heap.size) (bsC A l.length c a s).toArray
    exact bodyPost_ret (v := .tuple #[bsV A l.length c a s, .slice none 0 0]) (results_row_val rfl _ _ _ _ _ _ _ rfl rfl r6 Try.underlying31 rfl (by kernel_rfl)) rfl ⟨_, none, 0, by rw [hR.out]; rfl, by rw [hR.out]; exact ⟨A, c, rfl, hc, (ha.below hbr).more hbr.size, fun ad e => .inr ⟨ad, e, rfl⟩⟩, by rw [hR.out]; exact Nat.zero_le _, by rw [hR.out]; exact Rd.nil, hbr⟩
  obtain rfl : C = 0 := Classical.not_not.1 hC0
  clear hC0
  have hok2 := hok.out rfl
  replace hR := hide (hR.out.trans (if_neg (fun h => h rfl)))
  clear hok
  have hs := bIn_iff hok2.out.2
  have h64 := hok2.out.1
  obtain ⟨h0, h1⟩ := hs
  have hk2 := HK2.out
  clear hok2 HK2
  go_upto_region 6 with fail
  generalize hV : World.setCell w2 _ _ = w3
  replace hb : Below w.heap.size w w3 := by subst hV; exact hb.setCell (Nat.le_refl _) _
  have kA : Bk w3 w.heap.size 31 (bsC A2 (l.length - k) (c - k) a s) := by subst hV; exact k3.set_ 0 _
  have kB : Bk w3 (w.heap.size + 1) 31 (bsC none 0 0 0 0) := by subst hV; exact k6.far (by dsimp only; omega) _
  clear hV
  (try clear k3_0 k3_f0 k3_1 k3_f1 k3_2 k3_f2 lt_k3) ; (try clear k6_0 k6_f0 k6_1 k6_f1 k6_2 k6_f2 lt_k6)
  clear k3 k6 st1 st2 sf1 sf2 hk2
  have kA_0 := kA.cell 0; have kA_f0 := kA.frozen 0; have kA_1 := kA.cell 1; have kA_f1 := kA.frozen 1; have kA_2 := kA.cell 2; have kA_f2 := kA.frozen 2; simp only [List.set_cons_zero, List.set_cons_succ, List.getElem?_cons_zero, List.getElem?_cons_succ] at kA_0 kA_1 kA_2; have lt_kA := kA.lt; have kB_0 := kB.cell 0; have kB_f0 := kB.frozen 0; have kB_1 := kB.cell 1; have kB_f1 := kB.frozen 1; have kB_2 := kB.cell 2; have kB_f2 := kB.frozen 2; simp only [List.set_cons_zero, List.set_cons_succ, List.getElem?_cons_zero, List.getElem?_cons_succ] at kB_0 kB_1 kB_2; have lt_kB := kB.lt
  go_upto_region 7 with fail
  generalize hV : World.setCell w3 _ _ = w4
  replace hb : Below w.heap.size w w4 := by subst hV; exact hb.setCell (Nat.le_refl _) _
  have kA' : Bk w4 w.heap.size 31 (bsC A2 (l.length - k) (c - k) (min (a + k) 1099511627776) s) := by subst hV; exact kA.set_ 1 _
  have kB' : Bk w4 (w.heap.size + 1) 31 (bsC none 0 0 0 0) := by subst hV; exact kB.far (by dsimp only; omega) _
  clear hV
  (try clear kA_0 kA_f0 kA_1 kA_f1 kA_2 kA_f2 lt_kA) ; (try clear kB_0 kB_f0 kB_1 kB_f1 kB_2 kB_f2 lt_kB)
  clear kA kB
  obtain ⟨kA, _⟩ := And.intro kA' trivial
  obtain ⟨kB, _⟩ := And.intro kB' trivial
  clear kA' kB'
  have kA_0 := kA.cell 0; have kA_f0 := kA.frozen 0; have kA_1 := kA.cell 1; have kA_f1 := kA.frozen 1; have kA_2 := kA.cell 2; have kA_f2 := kA.frozen 2; simp only [List.set_cons_zero, List.set_cons_succ, List.getElem?_cons_zero, List.getElem?_cons_succ] at kA_0 kA_1 kA_2; have lt_kA := kA.lt; have kB_0 := kB.cell 0; have kB_f0 := kB.frozen 0; have kB_1 := kB.cell 1; have kB_f1 := kB.frozen 1; have kB_2 := kB.cell 2; have kB_f2 := kB.frozen 2; simp only [List.set_cons_zero, List.set_cons_succ, List.getElem?_cons_zero, List.getElem?_cons_succ] at kB_0 kB_1 kB_2; have lt_kB := kB.lt
  go_wp2_with (first | (refine wpList_store_row rfl 31 _ _ rfl _ (bsC A2 (l.length - k) (c - k) (min (a + k) 1099511627776) s).toArray rfl rfl _ _ kB (by kernel_rfl) (by kernel_rfl) (by kernel_rfl) ?_))
  have r6 := kB.srow (bsC A2 (l.length - k) (c - k) (min (a + k) 1099511627776) s)
  have hbr := srow_below hb (Nat.le_succ w.heap.size) (bsC A2 (l.length - k) (c - k) (min (a + k) 1099511627776) s).toArray
  have hra := (ha.below hbr).more hbr.size
  refine bodyPost_ret (v := .tuple #[bsV A2 (l.length - k) (c - k) (min (a + k) 1099511627776) s, .slice A k k]) (results_row_val rfl _ _ _ _ _ _ _ rfl rfl r6 Try.underlying31 rfl (by kernel_rfl)) rfl ?_
  refine ⟨bsV A2 (l.length - k) (c - k) (min (a + k) 1099511627776) s, A, k, ?_, ?_, ?_, ?_, hbr⟩
  · rw [hR.out]; simp only [List.length_take, Nat.min_eq_left hk1]
  · rw [hR.out]
    exact ⟨A2, c - k, by simp only [List.length_drop], by simp only [List.length_drop]; omega, by rw [← pbs_drop]; exact HA2.out _ _ _ hra (by rw [pbs_length]; omega), fun ad e => .inr (hF2.out ad e)⟩
  · rw [hR.out]; simp only [List.length_take]; omega
  · rw [hR.out]; dsimp only; rw [← pbs_take]; exact hra.take _
set_option maxRecDepth 1000000 in
set_option maxHeartbeats 8000000 in
theorem batch_Forget_fr (A : Option Addr) (c : Nat) (l : List Pb) (a s : Int) (u : ByteArray) (w : World) (hl : l.length ≤ 1000) (hc : l.length ≤ c) (hS : ∀ x ∈ l, Sm x) (hm : MW w) (ha : Rd w w.heap.size A (pbs l)) :
    Calls Try.prog 18 #[bsV A l.length c a s, .string u] w (ForgetF w A (bForget ⟨l, a, s⟩ u)) := by
  have HC := fun (W : World) (h : Below w.heap.size w W) => batch_Check_any A c l a s W hl hc hS (hm.step h) ((ha.below h).more h.size)
  have HK := fun (W : World) (h : Below w.heap.size w W) => pb_Clone A c l W hl ((ha.below h).more h.size)
  have eg : ∀ args w, (callFunc 35 args).run Try.prog w = .ok (.enter 35 args) w := enters_of Try.func35 (by kernel_rfl) rfl
  obtain ⟨R, hR⟩ : ∃ R, R = bForget ⟨l, a, s⟩ u := ⟨_, rfl⟩
  rw [← hR]
  unfold bForget at hR
  dsimp only at hR
  generalize bCheck ⟨l, a, s⟩ = C at *
  replace hR := hide hR
  replace eg := hide eg
  go_enter Try.func18, Try.ntmps18
  go_wp2_with fail
  generalize hV : World.alloc (World.alloc (World.alloc w _) _) _ = w1
  have hb : Below w.heap.size w w1 := by subst hV; (repeat (first | with_reducible exact Below.refl _ _ | with_reducible assumption | with_reducible refine Below.drew ?_ | with_reducible refine Below.drewN ?_ _ | with_reducible refine Below.alloc1 ?_ _ | with_reducible refine Below.setCell1 ?_ (by first | omega | (simp; done) | (simp; omega)) _ | with_reducible refine Below.step ?_ (by with_reducible assumption)))
  have k3 : Bk w1 w.heap.size 31 (bsC A l.length c a s) := by subst hV; (repeat (first | with_reducible exact Bk.new' _ _ _ _ (by simp; done) | with_reducible assumption | with_reducible refine Bk.alloc ?_ _ | with_reducible refine Bk.drew ?_ | with_reducible refine Bk.drewN ?_ _ | with_reducible refine Bk.step ?_ (by with_reducible assumption) | with_reducible refine Bk.far ?_ (by first | omega | (simp; done) | (simp; omega)) _))
  have ks : Bk w1 (w.heap.size + 1) 9 [.string u] := by subst hV; (repeat (first | with_reducible exact Bk.new' _ _ _ _ (by simp; done) | with_reducible assumption | with_reducible refine Bk.alloc ?_ _ | with_reducible refine Bk.drew ?_ | with_reducible refine Bk.drewN ?_ _ | with_reducible refine Bk.step ?_ (by with_reducible assumption) | with_reducible refine Bk.far ?_ (by first | omega | (simp; done) | (simp; omega)) _))
  have k6 : Bk w1 (w.heap.size + 1 + 1) 31 (bsC none 0 0 0 0) := by subst hV; (repeat (first | with_reducible exact Bk.new' _ _ _ _ (by simp; done) | with_reducible assumption | with_reducible refine Bk.alloc ?_ _ | with_reducible refine Bk.drew ?_ | with_reducible refine Bk.drewN ?_ _ | with_reducible refine Bk.step ?_ (by with_reducible assumption) | with_reducible refine Bk.far ?_ (by first | omega | (simp; done) | (simp; omega)) _))
  clear hV
  refine (HC _ hb).mono ?_; rintro e w2 ⟨rfl, hx⟩
  replace hb := hb.step hx
  replace k3 := k3.step hx
  replace k6 := k6.step hx
  replace ks := ks.step hx
  clear hx HC
  have k3_0 := k3.cell 0; have k3_f0 := k3.frozen 0; have k3_1 := k3.cell 1; have k3_f1 := k3.frozen 1; have k3_2 := k3.cell 2; have k3_f2 := k3.frozen 2; simp only [List.set_cons_zero, List.set_cons_succ, List.getElem?_cons_zero, List.getElem?_cons_succ] at k3_0 k3_1 k3_2; have lt_k3 := k3.lt; have k6_0 := k6.cell 0; have k6_f0 := k6.frozen 0; have k6_1 := k6.cell 1; have k6_f1 := k6.frozen 1; have k6_2 := k6.cell 2; have k6_f2 := k6.frozen 2; simp only [List.set_cons_zero, List.set_cons_succ, List.getElem?_cons_zero, List.getElem?_cons_succ] at k6_0 k6_1 k6_2; have lt_k6 := k6.lt
  by_cases hC0 : C ≠ 0
  · have e0 : (C == 0) = false := by simpa using hC0
    replace hR := hide (hR.out.trans (if_pos hC0))
    clear hC0
    go_wp2_with (first | (refine wpList_store_row rfl 31 _ _ rfl _ (bsC A l.length c a s).toArray rfl rfl _ _ k6 (by kernel_rfl) (by kernel_rfl) (by kernel_rfl) ?_))
    have r6 := k6.srow (bsC A l.length c a s)
    have hbr := srow_below hb (show w.heap.size ≤ w.heap.size + 1 + 1 by omega) (bsC A l.length c a s).toArray
    exact bodyPost_ret (v := bsV A l.length c a s) (results_cell_row rfl _ _ _ _ _ (0, 0) _ rfl r6 Try.underlying31 rfl (by kernel_rfl)) rfl ⟨_, rfl, by rw [hR.out]; exact ⟨A, c, rfl, hc, (ha.below hbr).more hbr.size, fun ad e => .inr ⟨ad, e, rfl⟩⟩, hbr⟩
  obtain rfl : C = 0 := Classical.not_not.1 hC0
  clear hC0
  replace hR := hide (hR.out.trans (if_neg (fun h => h rfl)))
  go_wp2_with fail
  refine (HK _ hb).mono ?_; rintro e w3 ⟨B, d, rfl, own, hx⟩
  have hw2 : w.heap.size + 1 + 1 < w2.heap.size := lt_k6
  replace hb := hb.step hx
  replace k3 := k3.step hx; (try clear k3_0 k3_f0 k3_1 k3_f1 k3_2 k3_f2); have k3_0 := k3.cell 0; have k3_f0 := k3.frozen 0; have k3_1 := k3.cell 1; have k3_f1 := k3.frozen 1; have k3_2 := k3.cell 2; have k3_f2 := k3.frozen 2; simp only [List.set_cons_zero, List.set_cons_succ, List.getElem?_cons_zero, List.getElem?_cons_succ] at k3_0 k3_1 k3_2; (try clear lt_k3); have lt_k3 := k3.lt; replace k6 := k6.step hx; (try clear k6_0 k6_f0 k6_1 k6_f1 k6_2 k6_f2); have k6_0 := k6.cell 0; have k6_f0 := k6.frozen 0; have k6_1 := k6.cell 1; have k6_f1 := k6.frozen 1; have k6_2 := k6.cell 2; have k6_f2 := k6.frozen 2; simp only [List.set_cons_zero, List.set_cons_succ, List.getElem?_cons_zero, List.getElem?_cons_succ] at k6_0 k6_1 k6_2; (try clear lt_k6); have lt_k6 := k6.lt
  replace ks := ks.step hx
  have hsz := hx.size
  clear hx HK
  have hD := pb_DeleteFunc 35 #[.pointer (some ⟨w.heap.size + 1, 0, none⟩)] (fun x => decide (x.who = u)) w2.heap.size w3 eg.out l (fun x _ W h => batch_Forget1_any x u (w.heap.size + 1) W (ks.below h (by omega))) B d hl hsz own
  generalize hF : (l.filter fun x => !decide (x.who = u)) = F at *
  replace hF := hide hF
  clear eg own
  go_wp2_with fail
  refine hD.mono ?_; rintro e w4 ⟨rfl, own, hx⟩
  replace hb : Below w.heap.size w w4 := hb.trans (hx.mono (by omega))
  have hcap := own_cap30 own
  replace k3 : Bk w4 w.heap.size 31 _ := k3.below hx (by omega)
  replace k6 : Bk w4 (w.heap.size + 1 + 1) 31 _ := k6.below hx (by omega)
  clear k3_0 k3_f0 k3_1 k3_f1 k3_2 k3_f2 k6_0 k6_f0 k6_1 k6_f1 k6_2 k6_f2 lt_k3 lt_k6 hx hD
  have k3_0 := k3.cell 0; have k3_f0 := k3.frozen 0; have k3_1 := k3.cell 1; have k3_f1 := k3.frozen 1; have k3_2 := k3.cell 2; have k3_f2 := k3.frozen 2; simp only [List.set_cons_zero, List.set_cons_succ, List.getElem?_cons_zero, List.getElem?_cons_succ] at k3_0 k3_1 k3_2; have lt_k3 := k3.lt; have k6_0 := k6.cell 0; have k6_f0 := k6.frozen 0; have k6_1 := k6.cell 1; have k6_f1 := k6.frozen 1; have k6_2 := k6.cell 2; have k6_f2 := k6.frozen 2; simp only [List.set_cons_zero, List.set_cons_succ, List.getElem?_cons_zero, List.getElem?_cons_succ] at k6_0 k6_1 k6_2; have lt_k6 := k6.lt
  go_upto_region 3 with fail
  generalize hV : World.setCell w4 _ _ = w5
  replace hb : Below w.heap.size w w5 := by subst hV; exact hb.setCell (Nat.le_refl _) _
  have kA : Bk w5 w.heap.size 31 (bsC B F.length d a s) := by subst hV; exact k3.set_ 0 _
  have kB : Bk w5 (w.heap.size + 1 + 1) 31 (bsC none 0 0 0 0) := by subst hV; exact k6.far (by dsimp only; omega) _
  have own7 := own_far own (p := ⟨w.heap.size, 0, none⟩) (by dsimp only; omega) (.slice B F.length d)
  replace own7 : w5.ownsRow w2.heap.size 60 2 (.slice B F.length d) F.length (pbs F) := by subst hV; exact own7
  have hble := own_blk own7
  have hrd := own_rd own7
  clear hV own own7
  (try clear k3_0 k3_f0 k3_1 k3_f1 k3_2 k3_f2 lt_k3) ; (try clear k6_0 k6_f0 k6_1 k6_f1 k6_2 k6_f2 lt_k6)
  clear k3 k6
  have kA_0 := kA.cell 0; have kA_f0 := kA.frozen 0; have kA_1 := kA.cell 1; have kA_f1 := kA.frozen 1; have kA_2 := kA.cell 2; have kA_f2 := kA.frozen 2; simp only [List.set_cons_zero, List.set_cons_succ, List.getElem?_cons_zero, List.getElem?_cons_succ] at kA_0 kA_1 kA_2; have lt_kA := kA.lt; have kB_0 := kB.cell 0; have kB_f0 := kB.frozen 0; have kB_1 := kB.cell 1; have kB_f1 := kB.frozen 1; have kB_2 := kB.cell 2; have kB_f2 := kB.frozen 2; simp only [List.set_cons_zero, List.set_cons_succ, List.getElem?_cons_zero, List.getElem?_cons_succ] at kB_0 kB_1 kB_2; have lt_kB := kB.lt
  go_wp2_with (first | (refine wpList_store_row rfl 31 _ _ rfl _ (bsC B F.length d a s).toArray rfl rfl _ _ kB (by kernel_rfl) (by kernel_rfl) (by kernel_rfl) ?_))
  have r6 := kB.srow (bsC B F.length d a s)
  have hbr := srow_below hb (show w.heap.size ≤ w.heap.size + 1 + 1 by omega) (bsC B F.length d a s).toArray
  have hrd2 := hrd.rowFar (g := w.heap.size + 1 + 1) (fun ad e => by have := (hble ad e).1; omega) (bsC B F.length d a s).toArray
  exact bodyPost_ret (v := bsV B F.length d a s) (results_cell_row rfl _ _ _ _ _ (0, 0) _ rfl r6 Try.underlying31 rfl (by kernel_rfl)) rfl ⟨_, rfl, by rw [hR.out]; exact ⟨B, d, rfl, hcap.1, hrd2, fun ad e => .inl ⟨by have := (hble ad e).1; omega, by rw [setRow_size]; exact (hble ad e).2⟩⟩, hbr⟩
end Go.Proofs.Ytfgfkiifekeeaaa

/- A window of memory of one's own: a slice that need not begin its row, that is cut at its head and appended to. No program in sight. -/
namespace Go.Proofs.Ytfgfkiifekeeaaa
open Go.RowKit Go.Sort
set_option linter.unusedSimpArgs false
set_option linter.unusedVariables false

/-- n elements from A on, room for cap of them, in one block from base on, that read xs -/
def OwnW (w : World) (base size : Nat) (A : Option Addr) (n cap : Nat) (xs : List Value) : Prop :=
  xs.length = n * size ∧ n ≤ cap ∧ cap ≤ maxLen ∧ ((A = none ∧ cap = 0) ∨ ∃ g off, A = some ⟨g, off, none⟩ ∧ base ≤ g ∧ g < w.heap.size ∧
    (∀ j, j < cap * size → (w.cell? ⟨g, off + j, none⟩).isSome = true ∧ w.frozen? ⟨g, off + j, none⟩ = false) ∧ ∀ j u, xs[j]? = some u → w.cell? ⟨g, off + j, none⟩ = some u)
theorem OwnW.nil (w : World) (base size : Nat) : OwnW w base size none 0 0 [] := ⟨by simp, Nat.le_refl _, Nat.zero_le _, .inl ⟨rfl, rfl⟩⟩
section
variable {w w' : World} {base size n cap : Nat} {A : Option Addr} {xs : List Value}
theorem OwnW.of_own {e : TypeId} (h : w.ownsRow base e size (.slice A n cap) n xs) : OwnW w base size A n cap xs := by
  refine ⟨h.1, ?_⟩
  rcases h.2 with ⟨h0, hn⟩ | ⟨g, c, cur, hv, hb, hg, hn, hm, hs, hx⟩
  · injection h0 with h1 h2 h3
    subst h1 h3
    exact ⟨by omega, Nat.zero_le _, .inl ⟨rfl, rfl⟩⟩
  · injection hv with h1 _ h3
    subst h1 h3
    have hk : Bk w g e cur.toList := by unfold Bk; rw [hg]
    refine ⟨hn, hm, .inr ⟨g, 0, rfl, hb, (Array.getElem?_eq_some_iff.1 hg).1, fun j hj => ?_, fun j u hu => ?_⟩⟩
    · rw [Nat.zero_add, hk.cell, hk.frozen]
      have : j < cur.toList.length := by rw [Array.length_toList, hs]; exact hj
      rw [List.getElem?_eq_getElem this]
      exact ⟨rfl, rfl⟩
    · rw [Nat.zero_add, hk.cell]
      rw [← hx, List.getElem?_take] at hu
      split at hu
      · exact hu
      · cases hu
theorem OwnW.rd (h : OwnW w base size A n cap xs) : Rd w w.heap.size A xs := fun hne => by
  rcases h.2.2.2 with ⟨rfl, h0⟩ | ⟨g, off, rfl, hb, hg, _, hx⟩
  · have h1 := h.1
    have h2 := h.2.1
    rw [show n = 0 by omega, Nat.zero_mul] at h1
    exact absurd (List.eq_nil_of_length_eq_zero h1) hne
  · refine ⟨_, rfl, hg, fun j u hu => ?_⟩
    have e : (⟨g, off, none⟩ : Addr).add j = ⟨g, off + j, none⟩ := by unfold Addr.add; split <;> simp_all
    rw [e]; exact hx j u hu
theorem OwnW.below {B : Nat} (h : OwnW w base size A n cap xs) (hb : Below B w w') (hB : w.heap.size ≤ B) : OwnW w' base size A n cap xs := by
  refine ⟨h.1, h.2.1, h.2.2.1, ?_⟩
  rcases h.2.2.2 with h0 | ⟨g, off, hA, hg, hlt, hc, hx⟩
  · exact .inl h0
  · refine .inr ⟨g, off, hA, hg, Nat.lt_of_lt_of_le hlt hb.size, fun j hj => ?_, fun j u hu => ?_⟩
    · rw [hb.cell (p := ⟨g, off + j, none⟩) (by dsimp only; omega), hb.frozen (p := ⟨g, off + j, none⟩) (by dsimp only; omega)]
      exact hc j hj
    · rw [hb.cell (p := ⟨g, off + j, none⟩) (by dsimp only; omega)]
      exact hx j u hu
theorem OwnW.step (h : OwnW w base size A n cap xs) (hb : Below w.heap.size w w') : OwnW w' base size A n cap xs := h.below hb (Nat.le_refl _)
theorem OwnW.drewN (h : OwnW w base size A n cap xs) (k : Nat) : OwnW (w.drewN k) base size A n cap xs := h
theorem OwnW.blk (h : OwnW w base size A n cap xs) : ∀ ad, A = some ad → base ≤ ad.block ∧ ad.block < w.heap.size := by
  rintro ad rfl
  rcases h.2.2.2 with ⟨h0, _⟩ | ⟨g, off, hA, hg, hlt, _⟩
  · cases h0
  · injection hA with hA; subst hA; exact ⟨hg, hlt⟩
theorem OwnW.kept {row : Option Nat} (h : OwnW w base size A n cap xs) (hg : w.grownBy w' row) (hne : ∀ ad, A = some ad → row ≠ some ad.block) : OwnW w' base size A n cap xs := by
  refine ⟨h.1, h.2.1, h.2.2.1, ?_⟩
  rcases h.2.2.2 with h0 | ⟨g, off, hA, hb, hlt, hc, hx⟩
  · exact .inl h0
  · have h1 := hg.block g hlt (fun e2 => hne _ hA (by rw [← e2]))
    have hcell : ∀ o, w'.cell? ⟨g, o, none⟩ = w.cell? ⟨g, o, none⟩ := fun o => by unfold World.cell?; dsimp only; rw [h1]
    have hfr : ∀ o, w'.frozen? ⟨g, o, none⟩ = w.frozen? ⟨g, o, none⟩ := fun o => World.frozen?_of_block h1
    refine .inr ⟨g, off, hA, hb, Nat.lt_of_lt_of_le hlt hg.size, fun j hj => ?_, fun j u hu => ?_⟩
    · rw [hcell, hfr]; exact hc j hj
    · rw [hcell]; exact hx j u hu
theorem OwnW.far (h : OwnW w base size A n cap xs) {p : Addr} (hne : ∀ ad, A = some ad → ad.block ≠ p.block) (u : Value) : OwnW (w.setCell p u) base size A n cap xs :=
  h.kept (row := some p.block) (Gr.set_ (Gr.refl w (some p.block)) (.inl rfl) u) (fun ad e h2 => hne ad e (by injection h2 with h2; exact h2.symm))
theorem OwnW.rowFar (h : OwnW w base size A n cap xs) {g : Nat} (hne : ∀ ad, A = some ad → ad.block ≠ g) (cur : Array Value) : OwnW (w.setRow g cur) base size A n cap xs :=
  h.kept (row := some g) ⟨rfl, rfl, rfl, by rw [setRow_size]; exact Nat.le_refl _, fun k _ hk => setRow_other w g k _ (fun e => hk (by simp [e]))⟩ (fun ad e h2 => hne ad e (by injection h2 with h2; exact h2.symm))
end
/-- v[k:]: its value, and that it is a window again -/
theorem from_runW {P : Program} {t e : TypeId} {size : Nat} (ht : P.underlying t = some (.slice e)) (he : P.elem t = e) (hs : ∀ W, (sizeOf e).run P W = .ok size W) {w : World} {base n cap : Nat} {A : Option Addr} {xs : List Value} (k : Nat) (hk : k ≤ n) (hown : OwnW w base size A n cap xs) :
    ∃ A2, (∀ w', OwnW w' base size A n cap xs → OwnW w' base size A2 (n - k) (cap - k) (xs.drop (k * size))) ∧ (∀ ad, A2 = some ad → ∃ ad0, A = some ad0 ∧ ad.block = ad0.block) ∧ (∀ W, (Instr.slice t (.slice A n cap) (some (.int .i64 (k : Int))) none none).run P W = .ok (.slice A2 (n - k) (cap - k)) W) ∧ (∀ W, (Instr.sliceAt t (.slice A n cap) (some (.int .i64 (k : Int))) none none).run P W = .ok (.slice A2 (n - k) (cap - k)) W) := by
  have hu : P.underlying t = some (.slice (P.elem t)) := by rw [he]; exact ht
  have hn := hown.2.1
  have key : ∃ A2, (∀ w', OwnW w' base size A n cap xs → OwnW w' base size A2 (n - k) (cap - k) (xs.drop (k * size))) ∧ (∀ ad, A2 = some ad → ∃ ad0, A = some ad0 ∧ ad.block = ad0.block) ∧ (∀ W, (Instr.slice t (.slice A n cap) (some (.int .i64 (k : Int))) none none).run P W = .ok (.slice A2 (n - k) (cap - k)) W) := by
    by_cases h1 : cap = k
    · refine ⟨A, fun w' h => ⟨by rw [List.length_drop, h.1, Nat.sub_mul], by omega, by have := h.2.2.1; omega, ?_⟩, fun ad e => ⟨ad, e, rfl⟩, fun W => ?_⟩
      · rcases h.2.2.2 with ⟨h0, _⟩ | ⟨g, off, hA, hg, hlt, hc, hx⟩
        · exact .inl ⟨h0, by omega⟩
        · refine .inr ⟨g, off, hA, hg, hlt, fun j hj => ?_, fun j u hu => ?_⟩
          · rw [h1, Nat.sub_self, Nat.zero_mul] at hj; omega
          · have hl : (xs.drop (k * size)).length = 0 := by rw [List.length_drop, h.1, show n = k by omega, Nat.sub_self]
            rw [List.eq_nil_of_length_eq_zero hl] at hu; cases hu
      · rw [run_slice_l (ht := hu) (h0 := by omega) (h1 := by omega), he, hs]
        simp [sliced, h1]
    · refine ⟨A.map (fun a : Addr => a.add (k * size)), fun w' h => ⟨by rw [List.length_drop, h.1, Nat.sub_mul], by omega, by have := h.2.2.1; omega, ?_⟩, fun ad e => ?_, fun W => ?_⟩
      · rcases h.2.2.2 with ⟨h0, h2⟩ | ⟨g, off, hA, hg, hlt, hc, hx⟩
        · omega
        · subst hA
          have e : (⟨g, off, none⟩ : Addr).add (k * size) = ⟨g, off + k * size, none⟩ := by unfold Addr.add; split <;> simp_all
          refine .inr ⟨g, off + k * size, by rw [Option.map_some, e], hg, hlt, fun j hj => ?_, fun j u hu => ?_⟩
          · have hm : k * size + (cap - k) * size = cap * size := by rw [← Nat.add_mul]; congr 1; omega
            rw [Nat.add_assoc]; exact hc (k * size + j) (by omega)
          · rw [Nat.add_assoc]; exact hx (k * size + j) u (by rw [← hu, List.getElem?_drop])
      · cases A with
        | none => cases e
        | some a0 => injection e with e; subst e; exact ⟨a0, rfl, add_block _ _⟩
      · rw [run_slice_l (ht := hu) (h0 := by omega) (h1 := by omega), he, hs]
        simp [sliced, h1]
  obtain ⟨A2, h1, h2, h3⟩ := key
  exact ⟨A2, h1, h2, h3, fun W => (run_sliceAt_slice W _ _ _ _ _ hu).trans (h3 W)⟩
theorem Gr.cellsN {a : World} {g : Nat} : ∀ (vs : List Value) (o : Nat) (w : World), a.grownBy w (some g) → a.grownBy (w.setCells g o vs) (some g)
  | [], _, _, h => h
  | v :: r, o, w, h => Gr.cellsN r (o + 1) (w.setCell ⟨g, o, none⟩ v) (Gr.set_ h (.inl rfl) v)
theorem wpList_appW {P : Program} {w : World} {ops : Array Oper} {rest : List Oper} {o : Oper} {a : Act} {Q : Exit → Act → World → Prop} (hgd : o.guard = none) (s x : Operand) (t : TypeId)
    (ho : o.op = .call { callee := .builtin .append, args := #[s, x], argTypes := #[t, t] })
    (base : Nat) (e : TypeId) (i : TypeInfo) (z : Value) (size bytes : Nat) (ht : P.underlying t = some (.slice e)) (hi : P.info? e = some i) (hz : i.zero = some z)
    (hsize : i.size = size) (hby : i.bytes = bytes) (hzs : z.cells.size = size) (hsz : 0 < size)
    (A : Option Addr) (n c : Nat) (xs : List Value) (hs : a.eval s = .slice A n c) (hown : OwnW w base size A n c xs)
    (ad : Addr) (c' : Nat) (news : List Value) (hx : a.eval x = .slice (some ad) 1 c') (hl : news.length = 1 * size) (hnews : ∀ j u, news[j]? = some u → w.cell? (ad.add j) = some u) (h1 : ∀ u ∈ news, u.oneCell' = true)
    (h63 : n + 1 ≤ maxLen) (hbytes : (n + 1) * bytes ≤ 140737488355328) (hbase : base ≤ w.heap.size)
    (h : ∀ A' cap w', OwnW w' base size A' (n + 1) cap (xs ++ news) → Below base w w' → w.grownBy w' (Value.slice A n c).ownBlock → (∀ ad, A' = some ad → w.heap.size ≤ ad.block ∨ ∃ ad0, A = some ad0 ∧ ad.block = ad0.block) → wpList P ops Q rest (a.put o.dst (.slice A' (n + 1) cap)) w') : wpList P ops Q (o :: rest) a w := by
  refine wpList_plain hgd fun K hK => ?_
  unfold Oper.wp
  rcases hown.2.2.2 with ⟨hA, h0⟩ | ⟨g, off, hA, hg, hlt, hc, hxs⟩
  · subst hA h0
    have hn0 : n = 0 := by have := hown.2.1; omega
    subst hn0
    have hx0 : xs = [] := List.eq_nil_of_length_eq_zero (by have := hown.1; simpa using this)
    subst hx0
    obtain ⟨v', w', hr, r1, r2, _⟩ := run_append_own (P := P) w w.heap.size t o.type e i z size bytes ht hi hz hsize hby hzs hsz (.slice none 0 0) 0 [] (World.ownsRow_nil w _ e size) ad 1 c' news hl hnews h1 h63 hbytes (Nat.le_refl _)
    obtain ⟨A', cap, rfl⟩ := own_form r1
    have hblk := own_blk r1
    simp [execOp, ho, resolve, invoke, builtin, hs, hx, hr, Result.andThen]
    refine hK _ _ (h A' cap w' (.of_own ⟨r1.1, r1.2.imp id fun ⟨g, cc, cur, a1, a2, a3⟩ => ⟨g, cc, cur, a1, Nat.le_trans hbase a2, a3⟩⟩) ((Below.refl base w).grown r2 hbase (fun k hk => by cases hk)) r2 (fun ad e => .inl (hblk ad e).1))
  · subst hA
    by_cases hroom : n + 1 ≤ c
    · have hm : (n + 1) * size ≤ c * size := Nat.mul_le_mul_right _ hroom
      have e1 : (n + 1) * size = n * size + size := by rw [Nat.add_mul, Nat.one_mul]
      have hnl : news.length = size := by rw [hl, Nat.one_mul]
      have hcs : ∀ j, j < news.length → (w.cell? ⟨g, off + n * size + j, none⟩).isSome = true ∧ w.frozen? ⟨g, off + n * size + j, none⟩ = false := fun j hj => by
        rw [Nat.add_assoc]; exact hc _ (by omega)
      have hr := fun ty => run_append_room_cells (P := P) w t ty e i ht hi g off n c ad 1 c' news (by rw [hsize]; exact hl) hnews h1 hroom (fun j hj => by rw [hsize]; exact (hcs j hj).1) (fun j hj => by rw [hsize]; exact (hcs j hj).2)
      rw [hsize] at hr
      simp [execOp, ho, resolve, invoke, builtin, hs, hx, hr, Result.andThen]
      have hgr : w.grownBy (w.setCells g (off + n * size) news) (some g) := Gr.cellsN news (off + n * size) w (Gr.refl w (some g))
      refine hK _ _ (h (some ⟨g, off, none⟩) c _ ⟨by rw [List.length_append, hown.1, hl, Nat.add_mul], hroom, hown.2.2.1, .inr ⟨g, off, rfl, hg, Nat.lt_of_lt_of_le hlt hgr.size, fun j hj => ⟨?_, ?_⟩, fun j u hu => ?_⟩⟩ (Gr.below hgr hg hbase) hgr (fun ad e => .inr ⟨_, rfl, by injection e with e; rw [← e]⟩))
      · exact World.isSome_setCells g news (off + n * size) w _ (hc j hj).1
      · rw [World.frozen?_setCells]; exact (hc j hj).2
      · by_cases hj : j < xs.length
        · rw [List.getElem?_append_left hj] at hu
          rw [World.cell?_setCells_out g news (off + n * size) w _ (fun _ _ => .inl (by dsimp only; rw [hown.1] at hj; omega))]
          exact hxs j u hu
        · rw [List.getElem?_append_right (by omega)] at hu
          have hj2 : j - xs.length < news.length := (List.getElem?_eq_some_iff.1 hu).1
          have := World.cell?_setCells_in g news (off + n * size) w (fun j hj => (hcs j hj).1) (j - xs.length) hj2
          rw [List.getElem?_eq_getElem hj2] at hu
          rw [← hu, ← this]
          congr 2
          have := hown.1
          omega
    · obtain ⟨v', w', hr, r1, r2⟩ := run_append_arg_grows (P := P) w t o.type e i z size bytes ht hi hz hsize hby hzs hsz ⟨g, off, none⟩ n c xs hown.1 (fun j u hu => by
        have e : (⟨g, off, none⟩ : Addr).add j = ⟨g, off + j, none⟩ := by unfold Addr.add; split <;> simp_all
        rw [e]; exact hxs j u hu) ad 1 c' news hl hnews (by omega) h63 hbytes
      obtain ⟨A', cap, rfl⟩ := own_form r1
      have hblk := own_blk r1
      simp [execOp, ho, resolve, invoke, builtin, hs, hx, hr, Result.andThen]
      refine hK _ _ (h A' cap w' (.of_own ⟨r1.1, r1.2.imp id fun ⟨g, cc, cur, a1, a2, a3⟩ => ⟨g, cc, cur, a1, Nat.le_trans hbase a2, a3⟩⟩) ((Below.refl base w).grown r2 hbase (fun k hk => by cases hk)) ⟨r2.os, r2.tape, r2.output, r2.size, fun i hi _ => r2.block i hi (fun e => by cases e)⟩ (fun ad e => .inl (hblk ad e).1))
end Go.Proofs.Ytfgfkiifekeeaaa

/- Batch, the plain laws of BatchOnce and BatchRounds; rows of deeds. No program in sight. -/
namespace Go.Proofs.Ytfgfkiifekeeaaa
open Go.RowKit Go.Shelf Go.Sort
set_option linter.unusedSimpArgs false
set_option linter.unusedVariables false

theorem FrB.ne {w : World} {lo g : Nat} {A0 A : Option Addr} (h : FrB w lo A0 A) (hg : g < lo) (h0 : ∀ ad, A0 = some ad → ad.block ≠ g) : ∀ ad, A = some ad → ad.block ≠ g := fun ad e => by
  rcases h ad e with h1 | ⟨ad0, e0, h1⟩
  · omega
  · rw [h1]; exact h0 ad0 e0
theorem FrB.mono {w w' : World} {lo lo' : Nat} {A0 A : Option Addr} (h : FrB w lo A0 A) (hl : lo' ≤ lo) (hs : w.heap.size ≤ w'.heap.size) : FrB w' lo' A0 A := fun ad e => (h ad e).imp (fun h => ⟨by omega, by omega⟩) id
/-- row A lies neither in block g nor in the block of W -/
def Ap (g : Nat) (w : World) (A W : Option Addr) : Prop := (∀ ad, A = some ad → ad.block ≠ g ∧ ad.block < w.heap.size) ∧ ∀ ad aw, A = some ad → W = some aw → ad.block ≠ aw.block
theorem Ap.none (g : Nat) (w : World) (W : Option Addr) : Ap g w none W := ⟨(fun ad e => by cases e), (fun ad aw e => by cases e)⟩
theorem Ap.grow {g : Nat} {w w' : World} {A W : Option Addr} (h : Ap g w A W) (hs : w.heap.size ≤ w'.heap.size) : Ap g w' A W := ⟨fun ad e => ⟨(h.1 ad e).1, by have := (h.1 ad e).2; omega⟩, h.2⟩
theorem Ap.fr {g lo : Nat} {w w' : World} {A A' W : Option Addr} (h : Ap g w A W) (hF : FrB w' lo A A') (hg : g < lo) (hW : ∀ aw, W = some aw → aw.block < lo) (hs : w.heap.size ≤ w'.heap.size) : Ap g w' A' W := by
  refine ⟨fun ad e => ?_, fun ad aw e e2 => ?_⟩
  · rcases hF ad e with h1 | ⟨ad0, e0, h1⟩
    · omega
    · have := h.1 ad0 e0; omega
  · rcases hF ad e with h1 | ⟨ad0, e0, h1⟩
    · have := hW aw e2; omega
    · rw [h1]; exact h.2 ad0 aw e0 e2
theorem Ap.win {g : Nat} {w w' : World} {A W W' : Option Addr} (h : Ap g w A W) (hF : ∀ aw, W' = some aw → w.heap.size ≤ aw.block ∨ ∃ aw0, W = some aw0 ∧ aw.block = aw0.block) (hs : w.heap.size ≤ w'.heap.size) : Ap g w' A W' := by
  refine ⟨(h.grow hs).1, fun ad aw e e2 => ?_⟩
  rcases hF aw e2 with h1 | ⟨aw0, e0, h1⟩
  · have := (h.1 ad e).2; omega
  · rw [h1]; exact h.2 ad aw0 e e0
theorem ownB {W : Option Addr} {n c j : Nat} (h : (Value.slice W n c).ownBlock = some j) : ∃ aw, W = some aw ∧ aw.block = j := by
  cases W with
  | none => cases h
  | some a => injection h with h; exact ⟨a, rfl, h⟩
theorem row_mT2 {args : Array Value} {g : FuncId} {w : World} {l : List ByteArray} (h : Calls Try.prog g args w (RowPost w l)) : Calls Try.prog g args w (mPost (RowAt l.length (txts l)) w) :=
  h.mono fun _ _ ⟨B, d, he, hr, hb⟩ => ⟨_, he, ⟨B, d, rfl⟩, ⟨B, d, rfl, hr⟩, hb⟩
/-! BatchOnce. -/
theorem bPut_ways {x : Bs} {p : Pb} (h : bCheck x = 0) (hf : bFine p = true) : (p ∈ x.l ∧ (bPut x p).2 = 0 ∧ (bPut x p).1.l = x.l ∧ (bPut x p).1.asked = x.asked) ∨ (p ∉ x.l ∧ x.l.length = 64 ∧ (bPut x p).2 = 7 ∧ (bPut x p).1.l = x.l ∧ (bPut x p).1.asked = x.asked) ∨
    (p ∉ x.l ∧ x.l.length < 64 ∧ (bPut x p).2 = 0 ∧ (bPut x p).1.l = x.l ++ [p] ∧ (bPut x p).1.asked = x.asked) := by
  have h1 := (bCheck_ok h).1
  unfold bPut
  rw [if_neg (fun h' => h' h), hf, if_neg (by decide)]
  by_cases hin : p ∈ x.l
  · rw [if_pos hin]; exact .inl ⟨hin, rfl, rfl, rfl⟩
  · rw [if_neg hin]
    by_cases h64 : x.l.length = 64
    · rw [if_pos h64]; exact .inr (.inl ⟨hin, h64, rfl, rfl, rfl⟩)
    · rw [if_neg h64]; exact .inr (.inr ⟨hin, by omega, rfl, rfl, rfl⟩)
theorem any_mem (l : List Pb) (p : Pb) : l.any (fun q => decide (q = p)) = decide (p ∈ l) := by
  rw [Bool.eq_iff_iff, decide_eq_true_eq, List.any_eq_true]
  exact ⟨fun ⟨x, hx, h⟩ => by rw [decide_eq_true_eq] at h; rw [← h]; exact hx, fun h => ⟨p, h, by simp⟩⟩
theorem anyp_snoc (l : List Pb) (p : Pb) (k : Nat) (h : k < l.length) : (l.take (k + 1)).any (fun q => decide (q = p)) = ((l.take k).any (fun q => decide (q = p)) || decide (l[k] = p)) := by
  rw [take_snocL l k h, List.any_append]; simp
/-- a deed -/
structure Dd where
  who : Int
  user : Int
  take : Int
  gone : Bool
abbrev ddC (x : Dd) : List Value := [.int .u8 x.who, .int .u8 x.user, .int .u8 x.take, .bool x.gone]
abbrev dds (l : List Dd) : List Value := l.flatMap ddC
abbrev DdB (x : Dd) : Prop := (0 ≤ x.who ∧ x.who ≤ 255) ∧ (0 ≤ x.user ∧ x.user ≤ 255) ∧ 0 ≤ x.take ∧ x.take ≤ 255
theorem Rd.dd {w : World} {B : Nat} {A : Option Addr} {l : List Dd} (h : Rd w B A (dds l)) {k : Nat} (hk : k < l.length) :
    ∃ ad, A = some ad ∧ ad.block < B ∧ w.cell? (ad.add (k * 4)) = some (.int .u8 l[k].who) ∧ w.cell? { block := (ad.add (k * 4)).block, off := (ad.add (k * 4)).off + 1 } = some (.int .u8 l[k].user) ∧ w.cell? { block := (ad.add (k * 4)).block, off := (ad.add (k * 4)).off + 2 } = some (.int .u8 l[k].take) ∧ w.cell? { block := (ad.add (k * 4)).block, off := (ad.add (k * 4)).off + 3 } = some (.bool l[k].gone) := by
  have hl : ∀ (l : List Dd) (k : Nat) (hk : k < l.length), (dds l)[k * 4]? = some (.int .u8 l[k].who) ∧ (dds l)[k * 4 + 1]? = some (.int .u8 l[k].user) ∧ (dds l)[k * 4 + 2]? = some (.int .u8 l[k].take) ∧ (dds l)[k * 4 + 3]? = some (.bool l[k].gone) := by
    intro l
    induction l with
    | nil => intro k hk; simp at hk
    | cons a l ih =>
      intro k hk
      cases k with
      | zero => simp [dds]
      | succ k =>
        have := ih k (by simpa using hk)
        have e : ∀ j, (dds (a :: l))[(k + 1) * 4 + j]? = (dds l)[k * 4 + j]? := fun j => by
          rw [show (k + 1) * 4 + j = (k * 4 + j) + 4 by omega]
          simp [dds]
        have e0 := e 0
        simp only [Nat.add_zero] at e0
        rw [e0, e 1, e 2, e 3]
        simpa using this
  obtain ⟨q0, q1, q2, q3⟩ := hl l k hk
  obtain ⟨ad, e, hb, hc⟩ := h (by intro e; rw [e] at q0; simp at q0)
  have f : ∀ (x : Addr) (i : Nat), i ≠ 0 → x.add i = { block := x.block, off := x.off + i } := fun x i hi => by simp [Addr.add, hi]
  exact ⟨ad, e, hb, hc _ _ q0, by rw [← f _ 1 (by omega), add_add']; exact hc _ _ q1, by rw [← f _ 2 (by omega), add_add']; exact hc _ _ q2, by rw [← f _ 3 (by omega), add_add']; exact hc _ _ q3⟩
/-- a state that may be, of small probes -/
def Gd (x : Bs) : Prop := bCheck x = 0 ∧ ∀ p ∈ x.l, Sm p
theorem Gd.nil : Gd ⟨[], 0, 0⟩ := ⟨bCheck_of (by decide) (by decide) (by decide) (by decide) (by decide), fun x h => by cases h⟩
theorem Gd.len {x : Bs} (h : Gd x) : x.l.length ≤ 64 := (bCheck_ok h.1).1
theorem bIn_of {n : Int} (h : 0 ≤ n ∧ n ≤ 1099511627776) : bIn n = true := by unfold bIn; simpa using h
theorem Gd.put {x : Bs} {p : Pb} (h : Gd x) (hf : bFine p = true) (hs : Sm p) : Gd (bPut x p).1 := by
  obtain ⟨h1, h2, h3, h4, h5⟩ := bCheck_ok h.1
  unfold bPut
  rw [if_neg (fun h' => h' h.1), hf, if_neg (by decide)]
  have b5 := bIn_iff h5
  by_cases hin : p ∈ x.l
  · rw [if_pos hin]
    exact ⟨bCheck_of h1 h2 h3 h4 (bIn_of (by dsimp only; omega)), h.2⟩
  · rw [if_neg hin]
    by_cases h64 : x.l.length = 64
    · rw [if_pos h64]; exact h
    · rw [if_neg h64]
      refine ⟨bCheck_of (by simp; omega) (by rw [List.all_append, h2]; simp [hf]) ?_ h4 h5, ?_⟩
      · rw [List.nodup_append]
        exact ⟨h3, by simp, fun a ha b hb => by simp at hb; subst hb; intro e; exact hin (e ▸ ha)⟩
      · intro q hq
        rw [List.mem_append] at hq
        rcases hq with hq | hq
        · exact h.2 q hq
        · simp only [List.mem_singleton] at hq; rw [hq]; exact hs
theorem Gd.take {x : Bs} (n : Int) (h : Gd x) : Gd (bTake x n).1 := by
  obtain ⟨h1, h2, h3, h4, h5⟩ := bCheck_ok h.1
  unfold bTake
  rw [if_neg (fun h' => h' h.1)]
  have b4 := bIn_iff h4
  refine ⟨bCheck_of ?_ ?_ ?_ (bIn_of ?_) h5, fun q hq => h.2 q (List.mem_of_mem_drop hq)⟩
  · dsimp only; rw [List.length_drop]; omega
  · dsimp only
    rw [List.all_eq_true] at h2 ⊢
    exact fun q hq => h2 q (List.mem_of_mem_drop hq)
  · exact h3.sublist (List.drop_sublist _ _)
  · dsimp only; omega
theorem Gd.forget {x : Bs} (u : ByteArray) (h : Gd x) : Gd (bForget x u) := by
  obtain ⟨h1, h2, h3, h4, h5⟩ := bCheck_ok h.1
  unfold bForget
  rw [if_neg (fun h' => h' h.1)]
  refine ⟨bCheck_of ?_ ?_ ?_ h4 h5, fun q hq => h.2 q ((List.mem_filter.1 hq).1)⟩
  · exact Nat.le_trans (List.length_filter_le _ _) h1
  · dsimp only
    rw [List.all_eq_true] at h2 ⊢
    exact fun q hq => h2 q ((List.mem_filter.1 hq).1)
  · exact h3.sublist List.filter_sublist
theorem take_l {x : Bs} (n : Int) (h : Gd x) : (bTake x n).1.l = x.l.drop (bCut n x.l.length) ∧ (bTake x n).2 = x.l.take (bCut n x.l.length) := by
  unfold bTake
  rw [if_neg (fun h' => h' h.1)]
  exact ⟨rfl, rfl⟩
/-! BatchRounds. -/
theorem rounds_bd {x : Bs} {n : Int} (h : Gd x) (hn : 1 ≤ n) : 0 ≤ bRounds x n ∧ bRounds x n ≤ 64 ∧ (bRounds x n = 0 ↔ x.l.length = 0) := by
  have hl := h.len
  unfold bRounds
  by_cases h0 : x.l.length = 0
  · rw [if_pos (.inl h0)]; simp [h0]
  · rw [if_neg (fun h' => h'.elim h0 (fun h' => h' h.1)), if_neg (by omega)]
    have hq : 0 < min n (x.l.length : Int) := by omega
    have hq2 : min n (x.l.length : Int) ≤ x.l.length := by omega
    generalize min n (x.l.length : Int) = q at *
    have hm : (x.l.length : Int) ≤ 64 := by omega
    have hm0 : (1 : Int) ≤ x.l.length := by omega
    generalize (x.l.length : Int) = m at *
    have e1 : 1 ≤ (m + q - 1) / q := (Int.le_ediv_iff_mul_le hq).2 (by omega)
    have e2 : (m + q - 1) / q < m + 1 := (Int.ediv_lt_iff_lt_mul hq).2 (by
      rw [Int.add_mul, Int.one_mul]
      have := Int.mul_le_mul_of_nonneg_left (show 1 ≤ q by omega) (show 0 ≤ m by omega)
      omega)
    refine ⟨by omega, by omega, ?_⟩
    constructor
    · intro; omega
    · intro; omega
/-- what is left behind i rounds -/
def Lf (x y : Bs) (n i : Int) : Prop := (y.l.length : Int) = max 0 ((x.l.length : Int) - i * n)
theorem Lf.start (x : Bs) (n : Int) : Lf x x n 0 := by unfold Lf; simp
theorem Lf.pos {x y : Bs} {n i : Int} (h : Gd x) (hn : 1 ≤ n) (hi : 0 ≤ i ∧ i < bRounds x n) (hl : Lf x y n i) : 0 < y.l.length := by
  unfold Lf at hl
  have hb := rounds_bd h hn
  have h0 : x.l.length ≠ 0 := fun e => by have := hb.2.2.2 e; omega
  unfold bRounds at hi
  rw [if_neg (fun h' => h'.elim h0 (fun h' => h' h.1)), if_neg (by omega)] at hi
  have hq : 0 < min n (x.l.length : Int) := by omega
  have hm0 : (1 : Int) ≤ x.l.length := by omega
  have hlt : i * min n (x.l.length : Int) < x.l.length := by
    have h1 : i ≤ ((x.l.length : Int) + min n (x.l.length : Int) - 1) / min n (x.l.length : Int) - 1 := by omega
    have h2 : ((x.l.length : Int) + min n (x.l.length : Int) - 1) / min n (x.l.length : Int) * min n (x.l.length : Int) ≤ (x.l.length : Int) + min n (x.l.length : Int) - 1 := Int.ediv_mul_le _ (by omega)
    have h3 := Int.mul_le_mul_of_nonneg_right h1 (show 0 ≤ min n (x.l.length : Int) by omega)
    rw [Int.sub_mul, Int.one_mul] at h3
    omega
  by_cases hnm : n ≤ x.l.length
  · rw [show min n (x.l.length : Int) = n by omega] at hlt; omega
  · rw [show min n (x.l.length : Int) = x.l.length by omega] at hlt
    have : i = 0 := by
      rcases Int.lt_or_le 0 i with h5 | h5
      · have := Int.mul_le_mul_of_nonneg_right (show (1 : Int) ≤ i by omega) (show (0 : Int) ≤ x.l.length by omega)
        omega
      · omega
    subst this
    rw [Int.zero_mul] at hl; omega
theorem Lf.step {x y : Bs} {n i : Int} (hy : Gd y) (hn : 1 ≤ n) (hi : 0 ≤ i) (hl : Lf x y n i) (hp : 0 < y.l.length) : Lf x (bTake y n).1 n (i + 1) := by
  unfold Lf at hl ⊢
  rw [(take_l n hy).1, List.length_drop, Int.add_mul, Int.one_mul]
  unfold bCut
  omega
theorem Lf.end_ {x y : Bs} {n i : Int} (h : Gd x) (hn : 1 ≤ n) (hi : i = bRounds x n) (hl : Lf x y n i) : y.l.length = 0 := by
  unfold Lf at hl
  have hb := rounds_bd h hn
  by_cases h0 : x.l.length = 0
  · rw [hi, hb.2.2.2 h0, Int.zero_mul] at hl; omega
  · unfold bRounds at hi
    rw [if_neg (fun h' => h'.elim h0 (fun h' => h' h.1)), if_neg (by omega)] at hi
    have hq : 0 < min n (x.l.length : Int) := by omega
    have h1 : (x.l.length : Int) ≤ i * min n (x.l.length : Int) := by
      have := Int.lt_ediv_add_one_mul_self ((x.l.length : Int) + min n (x.l.length : Int) - 1) hq
      rw [← hi, Int.add_mul, Int.one_mul] at this
      omega
    have h2 : i * min n (x.l.length : Int) ≤ i * n := Int.mul_le_mul_of_nonneg_left (by omega) (by
      rw [hi]
      exact Int.ediv_nonneg (by omega) (by omega))
    omega
end Go.Proofs.Ytfgfkiifekeeaaa

/- callboylaw30.probe. -/
namespace Go.Proofs.Ytfgfkiifekeeaaa
open Go.RowKit Go.Shelf Go.Sort
set_option linter.unusedSimpArgs false
set_option linter.unusedVariables false

/-- a byte of a number (not to be laid open by the walk) -/
def bOf (x : Nat) : UInt8 := UInt8.ofNat x
def prbW (a : Nat) : ByteArray := ⟨#[bOf (97 + a % 10), 64, 120, 32]⟩
def prbU (b : Nat) : ByteArray := ⟨#[bOf (112 + b % 10), 64, 121]⟩
def prb (a b : Nat) : Pb := ⟨prbW a, prbU b⟩
theorem prbW_of (a : Nat) : (⟨#[bOf (97 + a % 10)]⟩ : ByteArray) ++ ⟨#[64, 120, 32]⟩ = prbW a := by
  apply ByteArray.ext
  simp [prbW]
theorem prbU_of (b : Nat) : (⟨#[bOf (112 + b % 10)]⟩ : ByteArray) ++ ⟨#[64, 121]⟩ = prbU b := by
  apply ByteArray.ext
  simp [prbU]
theorem prb_sm (a b : Nat) : Sm (prb a b) := by constructor <;> exact (by decide : 4 ≤ 100) |> fun h => by first | exact (show (4 : Nat) ≤ 100 by decide) | exact (show (3 : Nat) ≤ 100 by decide)
theorem prbW_split : ∀ a, a < 10 → (sSplit [UInt8.ofNat (97 + a), 64, 120, 32]).2 = 0 := by
  unfold sSplit aIsBare aBare aParse aCheck aName aRes; simp only [plF_eq]; decide +kernel
theorem prbU_bare : ∀ b, b < 10 → aIsBare [UInt8.ofNat (112 + b), 64, 121] = true := by
  unfold aIsBare aBare aParse aCheck aName; simp only [plF_eq]; decide +kernel
theorem prb_fine (a b : Nat) : bFine (prb a b) = true := by
  have h1 := prbW_split (a % 10) (by omega)
  have h2 := prbU_bare (b % 10) (by omega)
  show (decide ((sSplit [UInt8.ofNat (97 + a % 10), 64, 120, 32]).2 = 0) && aIsBare [UInt8.ofNat (112 + b % 10), 64, 121]) = true
  rw [h1, h2]; rfl
theorem ofNat_byte (n : Nat) (h : n < 256) : ((UInt8.ofNat n).toNat : Int) = n := by
  rw [UInt8.toNat_ofNat']; omega
set_option maxRecDepth 1000000 in
set_option maxHeartbeats 8000000 in
theorem law_probe_any (a b : Nat) (ha : a < 256) (hb : b < 256) (w : World) : Calls Try.prog 28 #[.int .u8 (a : Int), .int .u8 (b : Int)] w fun e w' => e = .returned (pbV (prb a b)) ∧ Below w.heap.size w w' := by
  have hcv : ∀ (W : World) (g x : Nat), x < 256 → W.cell? ⟨g, 0, none⟩ = some (.int .u8 (x : Int)) → (convert 76 9 (.slice (some ⟨g, 0, none⟩) 1 1)).run Try.prog W = .ok (.string ⟨#[bOf x]⟩) W := fun W g x hx h =>
    run_convert_bytes_back W 76 9 5 ⟨g, 0, none⟩ 1 [bOf x] Try.underlying76 Try.underlying5 Try.underlying9 (fun j hj => by
      obtain rfl : j = 0 := by simpa using hj
      rw [List.getElem_cons_zero, bOf, ofNat_byte x hx]
      exact h)
  replace hcv := hide hcv
  go_enter Try.func28, Try.ntmps28
  go_wp2_with fail
  generalize hV : World.alloc (World.alloc w _) _ = w1
  have hbw : Below w.heap.size w w1 := by subst hV; (repeat (first | with_reducible exact Below.refl _ _ | with_reducible assumption | with_reducible refine Below.drew ?_ | with_reducible refine Below.drewN ?_ _ | with_reducible refine Below.alloc1 ?_ _ | with_reducible refine Below.setCell1 ?_ (by first | omega | (simp; done) | (simp; omega)) _ | with_reducible refine Below.step ?_ (by with_reducible assumption)))
  have k4 : Bk w1 w.heap.size 60 [.string ⟨#[]⟩, .string ⟨#[]⟩] := by subst hV; (repeat (first | with_reducible exact Bk.new' _ _ _ _ (by simp; done) | with_reducible assumption | with_reducible refine Bk.alloc ?_ _ | with_reducible refine Bk.drew ?_ | with_reducible refine Bk.drewN ?_ _ | with_reducible refine Bk.step ?_ (by with_reducible assumption) | with_reducible refine Bk.far ?_ (by first | omega | (simp; done) | (simp; omega)) _))
  have kx : Bk w1 (w.heap.size + 1) 5 [.int .u8 (97 + (a : Int) % 10)] := by subst hV; (repeat (first | with_reducible exact Bk.new' _ _ _ _ (by simp; done) | with_reducible assumption | with_reducible refine Bk.alloc ?_ _ | with_reducible refine Bk.drew ?_ | with_reducible refine Bk.drewN ?_ _ | with_reducible refine Bk.step ?_ (by with_reducible assumption) | with_reducible refine Bk.far ?_ (by first | omega | (simp; done) | (simp; omega)) _))
  clear hV
  rw [hcv.out w1 (w.heap.size + 1) (97 + a % 10) (by omega) (by rw [kx.cell]; simp)]
  go_simp
  go_wp2_with fail
  generalize hV : World.alloc w1 _ = w2
  have hx : Below w1.heap.size w1 w2 := by subst hV; (repeat (first | with_reducible exact Below.refl _ _ | with_reducible assumption | with_reducible refine Below.drew ?_ | with_reducible refine Below.drewN ?_ _ | with_reducible refine Below.alloc1 ?_ _ | with_reducible refine Below.setCell1 ?_ (by first | omega | (simp; done) | (simp; omega)) _ | with_reducible refine Below.step ?_ (by with_reducible assumption)))
  have ky : Bk w2 w1.heap.size 5 [.int .u8 (112 + (b : Int) % 10)] := by subst hV; (repeat (first | with_reducible exact Bk.new' _ _ _ _ (by simp; done) | with_reducible assumption | with_reducible refine Bk.alloc ?_ _ | with_reducible refine Bk.drew ?_ | with_reducible refine Bk.drewN ?_ _ | with_reducible refine Bk.step ?_ (by with_reducible assumption) | with_reducible refine Bk.far ?_ (by first | omega | (simp; done) | (simp; omega)) _))
  clear hV kx
  replace hbw := hbw.step hx
  replace k4 := k4.step hx
  clear hx
  rw [hcv.out w2 w1.heap.size (112 + b % 10) (by omega) (by rw [ky.cell]; simp)]
  go_simp
  rw [prbW_of]
  have k4_0 := k4.cell 0; have k4_f0 := k4.frozen 0; have k4_1 := k4.cell 1; have k4_f1 := k4.frozen 1; simp only [List.set_cons_zero, List.set_cons_succ, List.getElem?_cons_zero, List.getElem?_cons_succ] at k4_0 k4_1; have lt_k4 := k4.lt
  go_wp2_with fail
  rw [prbU_of]
  have k4' := (k4.set_ 0 (.string (prbW a))).set_ 1 (.string (prbU b))
  exact bodyPost_ret (v := pbV (prb a b)) (results_cell_row rfl _ _ w.heap.size _ _ (0, 0) _ rfl k4' Try.underlying60 rfl (by kernel_rfl)) rfl ⟨rfl, (hbw.setCell (Nat.le_refl _) _).setCell (Nat.le_refl _) _⟩
end Go.Proofs.Ytfgfkiifekeeaaa
