/- Package drr: start. -/
import Derived.Test.YteblbleehnkcmaaDrr10
namespace Go.Proofs.Yteblbleehnkcmaa
open Go.RowKit Go.Sort
set_option linter.unusedSimpArgs false
set_option linter.unusedVariables false

theorem int_info : (Try.prog.info? 3).map (fun i => (i.zero, i.size, i.bytes)) = some (some (.int .i64 0), 1, 8) := by kernel_rfl
theorem ints_info : (Try.prog.info? 35).map (fun i => (i.zero, i.size, i.bytes)) = some (some (.slice none 0 0), 1, 24) := by kernel_rfl
/-- what waits of an ID -/
def dWait (l : List Ld) (id : Int) : Ld := (l.find? (fun y => y.id == id)).getD ⟨0, none, 0, []⟩
def wtV (x : Ld) : Value := .slice x.A x.xs.length x.c
def wtR (l : List Ld) : List Value := l.map wtV
def dOpen (l : List Ld) : Int := ((l.filter fun x => decide (x.xs ≠ [])).length : Nat)
theorem dWait_cases (l : List Ld) (id : Int) : (idxI (fun y => y.id == id) l = -1 ∧ dWait l id = ⟨0, none, 0, []⟩) ∨ ∃ k, ∃ hk : k < l.length, idxI (fun y => y.id == id) l = (k : Nat) ∧ dWait l id = l[k] := by
  by_cases h : l.any (fun y => y.id == id) = true
  · right
    have hk : l.findIdx (fun y => y.id == id) < l.length := List.findIdx_lt_length.2 (by simpa [List.any_eq_true] using h)
    refine ⟨_, hk, by unfold idxI; rw [if_pos h], ?_⟩
    unfold dWait
    have : l.find? (fun y => y.id == id) = some (l[l.findIdx (fun y => y.id == id)]) := by
      rw [List.find?_eq_some_iff_getElem]
      exact ⟨List.findIdx_getElem (w := hk), _, hk, rfl, fun j hj => by simpa using List.not_of_lt_findIdx hj⟩
    rw [this]
    rfl
  · left
    refine ⟨by unfold idxI; rw [if_neg h], ?_⟩
    unfold dWait
    rw [List.find?_eq_none.2 (by intro x hx hp; exact h (List.any_eq_true.2 ⟨x, hx, hp⟩))]
    rfl
theorem dWait_mem (l : List Ld) (id : Int) : dWait l id = ⟨0, none, 0, []⟩ ∨ dWait l id ∈ l := by
  rcases dWait_cases l id with ⟨_, h⟩ | ⟨k, hk, _, h⟩
  · exact .inl h
  · exact .inr (h ▸ List.getElem_mem hk)
theorem wtR_length (l : List Ld) : (wtR l).length = l.length := by simp [wtR]
theorem dOpen_snoc (l : List Ld) (x : Ld) : dOpen (l ++ [x]) = dOpen l + if x.xs = [] then 0 else 1 := by
  unfold dOpen
  rw [List.filter_append, List.length_append]
  by_cases h : x.xs = [] <;> simp [h]
theorem dOpen_le (l : List Ld) : 0 ≤ dOpen l ∧ dOpen l ≤ (l.length : Nat) := by
  unfold dOpen
  exact ⟨by omega, by exact_mod_cast List.length_filter_le _ _⟩
abbrev rdC (A : Option Addr) (n c : Nat) (at_ : Int) (mid : Bool) (W : Option Addr) (m cw : Nat) (G : Nat) (q left op : Int) : List Value :=
  [.slice A n c, .int .i64 at_, .bool mid, .slice W m cw, .slice (some ⟨G, 0, none⟩) n n, .int .i64 q, .int .i64 left, .int .i64 op]
/-- a round in memory -/
def Rnd (w : World) (base g : Nat) (fl : List Fl) (at_ : Int) (mid : Bool) (ws : List Ld) (went : List Int) (q left op : Int) : Prop :=
  ∃ A c W cw G bF bW, Bk w g 79 (rdC A fl.length c at_ mid W ws.length cw G q left op) ∧ Bk w G 3 (ints went) ∧ w.ownsRow bF 70 3 (.slice A fl.length c) fl.length (flR fl) ∧ w.ownsRow bW 35 1 (.slice W ws.length cw) ws.length (wtR ws) ∧
    base ≤ G ∧ G < g ∧ g < bF ∧ bF ≤ bW ∧ (∀ k, (Value.slice A fl.length c).ownBlock = some k → k < bW) ∧ (∀ x ∈ ws, Rd w base x.A (ints x.xs) ∧ x.xs.length ≤ x.c)
set_option maxRecDepth 100000 in
set_option maxHeartbeats 8000000 in
theorem drr_start_any (base : Nat) (A C : Option Addr) (c d : Nat) (l : List Fl) (at_ : Int) (mid : Bool) (q t : Int) (ld : List Ld) (w : World) (hl : l.length ≤ 1000) (hld : ld.length ≤ 1000) (hx : ∀ x ∈ ld, x.xs.length ≤ 1000) (hbase : base ≤ w.heap.size) (ha : Rd w w.heap.size A (flR l)) (hd : Lds w base C ld) :
    Calls Try.prog 30 #[dsV A l.length c at_ mid, .int .i64 q, .int .i64 t, .slice C ld.length d] w fun e w' => ∃ g, e = .returned (.pointer (some ⟨g, 0, none⟩)) ∧ Rnd w' base g l at_ mid (l.map fun f => dWait ld f.id) (List.replicate l.length 0) q t (dOpen (l.map fun f => dWait ld f.id)) ∧ Below w.heap.size w w' := by
  have eg : ∀ args w, (callFunc 48 args).run Try.prog w = .ok (.enter 48 args) w := enters_of Try.func48 (by kernel_rfl) rfl
  have hI := fun (f : Fl) (b : Nat) (W : World) (hb : b < W.heap.size) (hv : Bk W b 70 (flC f)) (h : Rd W W.heap.size C (ldR ld)) =>
    ld_IndexFunc 48 #[.pointer (some ⟨b, 0, none⟩)] (fun y => y.id == f.id) W eg (fun x W' hW' => drr_start1_any x f b W' (Nat.lt_of_lt_of_le hb hW'.size) (by rw [(hv.step hW').cell]; rfl)) C d ld (by unfold maxLen; omega) h
  obtain ⟨i0, hi0, hz, hsz, hby⟩ := info_parts int_info
  obtain ⟨iT, hi, hz0, hz1, hz2⟩ := info_parts ints_info
  have hmk := fun W => run_make1 (P := Try.prog) 35 3 i0 (.int .i64 0) Try.underlying35 hi0 hz rfl hsz l.length (by rw [hby]; omega) (by omega) W
  clear hi0 hz hsz hby eg
  have HX := hide hx
  clear hx
  go_enter Try.func30, Try.ntmps30
  go_wp2_with fail
  go_region
  clear hmk
  generalize hV : World.drew _ = w1
  have hb1 : Below w.heap.size w w1 := by subst hV; (repeat (first | with_reducible exact Below.refl _ _ | with_reducible assumption | with_reducible refine Below.drew ?_ | with_reducible refine Below.drewN ?_ _ | with_reducible refine Below.alloc1 ?_ _ | with_reducible refine Below.setCell1 ?_ (by first | omega | (simp; done) | (simp; omega)) _ | with_reducible refine Below.step ?_ (by with_reducible assumption)))
  have kG : Bk w1 (w.heap.size + 1) 3 (ints (List.replicate l.length 0)) := by subst hV; simpa [ints] using ((Bk.new (w.alloc _) 3 (List.replicate l.length (.int .i64 0))).alloc _).drew
  have kR : Bk w1 (w.heap.size + 1 + 1) 79 (rdC A l.length c at_ mid none 0 0 (w.heap.size + 1) q t 0) := by subst hV; (repeat (first | with_reducible exact Bk.new' _ _ _ _ (by simp; done) | with_reducible assumption | with_reducible refine Bk.alloc ?_ _ | with_reducible refine Bk.drew ?_ | with_reducible refine Bk.drewN ?_ _ | with_reducible refine Bk.step ?_ (by with_reducible assumption) | with_reducible refine Bk.far ?_ (by first | omega | (simp; done) | (simp; omega)) _))
  have k0 : Bk w1 w.heap.size 31 (dsC A l.length c at_ mid) := by subst hV; (repeat (first | with_reducible exact Bk.new' _ _ _ _ (by simp; done) | with_reducible assumption | with_reducible refine Bk.alloc ?_ _ | with_reducible refine Bk.drew ?_ | with_reducible refine Bk.drewN ?_ _ | with_reducible refine Bk.step ?_ (by with_reducible assumption) | with_reducible refine Bk.far ?_ (by first | omega | (simp; done) | (simp; omega)) _))
  clear hV
  have kR_0 := kR.cell 0; have kR_f0 := kR.frozen 0; have kR_1 := kR.cell 1; have kR_f1 := kR.frozen 1; have kR_2 := kR.cell 2; have kR_f2 := kR.frozen 2; have kR_3 := kR.cell 3; have kR_f3 := kR.frozen 3; have kR_4 := kR.cell 4; have kR_f4 := kR.frozen 4; have kR_5 := kR.cell 5; have kR_f5 := kR.frozen 5; have kR_6 := kR.cell 6; have kR_f6 := kR.frozen 6; have kR_7 := kR.cell 7; have kR_f7 := kR.frozen 7; simp only [List.set_cons_zero, List.set_cons_succ, List.getElem?_cons_zero, List.getElem?_cons_succ] at kR_0 kR_1 kR_2 kR_3 kR_4 kR_5 kR_6 kR_7; have lt_kR := kR.lt; have k0_0 := k0.cell 0; have k0_f0 := k0.frozen 0; have k0_1 := k0.cell 1; have k0_f1 := k0.frozen 1; have k0_2 := k0.cell 2; have k0_f2 := k0.frozen 2; simp only [List.set_cons_zero, List.set_cons_succ, List.getElem?_cons_zero, List.getElem?_cons_succ] at k0_0 k0_1 k0_2; have lt_k0 := k0.lt
  go_wp2_with fail
  refine (fl_Clone A c l _ hl ((ha.below hb1).more hb1.size)).mono ?_; rintro e x5 ⟨B, n5, rfl, own5, hx5⟩
  have hbF : w.heap.size + 1 + 1 < w1.heap.size := lt_kR
  replace kG := kG.step hx5
  replace kR := kR.step hx5; (try clear kR_0 kR_f0 kR_1 kR_f1 kR_2 kR_f2 kR_3 kR_f3 kR_4 kR_f4 kR_5 kR_f5 kR_6 kR_f6 kR_7 kR_f7); have kR_0 := kR.cell 0; have kR_f0 := kR.frozen 0; have kR_1 := kR.cell 1; have kR_f1 := kR.frozen 1; have kR_2 := kR.cell 2; have kR_f2 := kR.frozen 2; have kR_3 := kR.cell 3; have kR_f3 := kR.frozen 3; have kR_4 := kR.cell 4; have kR_f4 := kR.frozen 4; have kR_5 := kR.cell 5; have kR_f5 := kR.frozen 5; have kR_6 := kR.cell 6; have kR_f6 := kR.frozen 6; have kR_7 := kR.cell 7; have kR_f7 := kR.frozen 7; simp only [List.set_cons_zero, List.set_cons_succ, List.getElem?_cons_zero, List.getElem?_cons_succ] at kR_0 kR_1 kR_2 kR_3 kR_4 kR_5 kR_6 kR_7; (try clear lt_kR); have lt_kR := kR.lt
  (try clear k0_0 k0_f0 k0_1 k0_f1 k0_2 k0_f2 lt_k0)
  clear k0
  replace hb1 : Below w.heap.size w x5 := hb1.step hx5
  have h15 := hx5.size
  clear hx5
  generalize w1.heap.size = bF at own5 hbF h15
  go_wp2_with fail
  (try clear kR_0 kR_f0 kR_1 kR_f1 kR_2 kR_f2 kR_3 kR_f3 kR_4 kR_f4 kR_5 kR_f5 kR_6 kR_f6 kR_7 kR_f7 lt_kR)
  generalize hV : World.setCell _ _ _ = w6
  have lt5 := own5.lt
  have hb6 : Below w.heap.size w w6 := by subst hV; exact hb1.setCell (by dsimp only; omega) _
  have kR6 : Bk w6 (w.heap.size + 1 + 1) 79 (rdC B l.length n5 at_ mid none 0 0 (w.heap.size + 1) q t 0) := by subst hV; exact kR.set_ 0 _
  have kG6 : Bk w6 (w.heap.size + 1) 3 (ints (List.replicate l.length 0)) := by subst hV; exact kG.far (by dsimp only; omega) _
  have own6 : w6.ownsRow bF 70 3 (.slice B l.length n5) l.length (flR l) := by subst hV; exact own_far own5 (by dsimp only; omega) _
  have lt6 : ∀ k, (Value.slice B l.length n5).ownBlock = some k → bF ≤ k ∧ k < w6.heap.size := own6.lt
  have hbW : bF ≤ w6.heap.size := by subst hV; simpa [World.setCell] using h15
  clear hV kR kG own5 lt5 hb1
  have kR6_0 := kR6.cell 0; have kR6_f0 := kR6.frozen 0; have kR6_1 := kR6.cell 1; have kR6_f1 := kR6.frozen 1; have kR6_2 := kR6.cell 2; have kR6_f2 := kR6.frozen 2; have kR6_3 := kR6.cell 3; have kR6_f3 := kR6.frozen 3; have kR6_4 := kR6.cell 4; have kR6_f4 := kR6.frozen 4; have kR6_5 := kR6.cell 5; have kR6_f5 := kR6.frozen 5; have kR6_6 := kR6.cell 6; have kR6_f6 := kR6.frozen 6; have kR6_7 := kR6.cell 7; have kR6_f7 := kR6.frozen 7; simp only [List.set_cons_zero, List.set_cons_succ, List.getElem?_cons_zero, List.getElem?_cons_succ] at kR6_0 kR6_1 kR6_2 kR6_3 kR6_4 kR6_5 kR6_6 kR6_7; have lt_kR6 := kR6.lt
  go_wp2_with fail
  go_loopw [36] (fun i wr => ∃ k : Nat, k ≤ l.length ∧ i = .int .i64 k ∧ (∃ W cW op, Bk wr (w.heap.size + 1 + 1) 79 (rdC B l.length n5 at_ mid W k cW (w.heap.size + 1) q t op) ∧ wr.ownsRow w6.heap.size 35 1 (.slice W k cW) k (wtR ((l.take k).map fun f => dWait ld f.id)) ∧ op = dOpen ((l.take k).map fun f => dWait ld f.id)) ∧ Bk wr (w.heap.size + 1) 3 (ints (List.replicate l.length 0)) ∧ wr.ownsRow bF 70 3 (.slice B l.length n5) l.length (flR l) ∧ w6.heap.size ≤ wr.heap.size ∧ Below w.heap.size w wr) (fun i _ => l.length - (intOf i).toNat)
  case atStart => exact ⟨0, Nat.zero_le _, rfl, ⟨none, 0, 0, kR6, ⟨by simp [wtR], .inl ⟨rfl, rfl⟩⟩, by simp [dOpen]⟩, kG6, own6, Nat.le_refl _, hb6⟩
  case round =>
    (try clear kR6_0 kR6_f0 kR6_1 kR6_f1 kR6_2 kR6_f2 kR6_3 kR6_f3 kR6_4 kR6_f4 kR6_5 kR6_f5 kR6_6 kR6_f6 kR6_7 kR6_f7 lt_kR6)
    clear kR6 kG6 own6 hb6
    generalize w6.heap.size = bW at *
    obtain ⟨k, hk, rfl, ⟨W, cW, op, kR, ownW, hop⟩, kG, own, hbw, hb⟩ := hrel
    have HO := hide hop
    clear hop
    have kR_0 := kR.cell 0; have kR_f0 := kR.frozen 0; have kR_1 := kR.cell 1; have kR_f1 := kR.frozen 1; have kR_2 := kR.cell 2; have kR_f2 := kR.frozen 2; have kR_3 := kR.cell 3; have kR_f3 := kR.frozen 3; have kR_4 := kR.cell 4; have kR_f4 := kR.frozen 4; have kR_5 := kR.cell 5; have kR_f5 := kR.frozen 5; have kR_6 := kR.cell 6; have kR_f6 := kR.frozen 6; have kR_7 := kR.cell 7; have kR_f7 := kR.frozen 7; simp only [List.set_cons_zero, List.set_cons_succ, List.getElem?_cons_zero, List.getElem?_cons_succ] at kR_0 kR_1 kR_2 kR_3 kR_4 kR_5 kR_6 kR_7; have lt_kR := kR.lt
    by_cases hlt : k < l.length
    · obtain ⟨ad, rfl, hadb, c1, c2, c3⟩ := (own_rd own).fl hlt
      have hsn : ((l.take (k + 1)).map fun f => dWait ld f.id) = ((l.take k).map fun f => dWait ld f.id) ++ [dWait ld l[k].id] := by rw [take_snocL l k hlt, List.map_append]; rfl
      have HSN := hide hsn
      clear hsn
      have HLN : Hid (((l.take k).map fun f => dWait ld f.id).length = k) := by
        have : (l.take k).length = k := by rw [List.length_take]; omega
        simpa [Hid] using this
      generalize ((l.take k).map fun f => dWait ld f.id) = ws at *
      generalize l[k] = f at *
      go_wp2_with fail
      (try clear kR_0 kR_f0 kR_1 kR_f1 kR_2 kR_f2 kR_3 kR_f3 kR_4 kR_f4 kR_5 kR_f5 kR_6 kR_f6 kR_7 kR_f7 lt_kR)
      generalize hV : World.alloc wr _ = w2
      have hy : Below wr.heap.size wr w2 := by subst hV; (repeat (first | with_reducible exact Below.refl _ _ | with_reducible assumption | with_reducible refine Below.drew ?_ | with_reducible refine Below.drewN ?_ _ | with_reducible refine Below.alloc1 ?_ _ | with_reducible refine Below.setCell1 ?_ (by first | omega | (simp; done) | (simp; omega)) _ | with_reducible refine Below.step ?_ (by with_reducible assumption)))
      have kf : Bk w2 wr.heap.size 70 (flC f) := by subst hV; (repeat (first | with_reducible exact Bk.new' _ _ _ _ (by simp; done) | with_reducible assumption | with_reducible refine Bk.alloc ?_ _ | with_reducible refine Bk.drew ?_ | with_reducible refine Bk.drewN ?_ _ | with_reducible refine Bk.step ?_ (by with_reducible assumption) | with_reducible refine Bk.far ?_ (by first | omega | (simp; done) | (simp; omega)) _))
      clear hV c1 c2 c3
      replace hb : Below w.heap.size w w2 := hb.step hy
      replace kR := kR.step hy
      replace kG := kG.step hy
      replace own := own_below own hy (Nat.le_refl _)
      replace ownW := own_below ownW hy (Nat.le_refl _)
      have hbw2 : bW ≤ w2.heap.size := Nat.le_trans hbw hy.size
      refine (hI f _ w2 kf.lt kf ((hd.1.below (hb.mono hbase)).more (Nat.le_trans hbase hb.size))).mono ?_; rintro e w3 ⟨rfl, hx3⟩
      have hbw3 : bW ≤ w3.heap.size := Nat.le_trans hbw2 hx3.size
      replace hb : Below w.heap.size w w3 := hb.step hx3
      replace kR := kR.step hx3
      replace kG := kG.step hx3
      replace own := own_below own hx3 (Nat.le_refl _)
      replace ownW := own_below ownW hx3 (Nat.le_refl _)
      clear hx3 hy kf hbw2 hI
      have kR_0 := kR.cell 0; have kR_f0 := kR.frozen 0; have kR_1 := kR.cell 1; have kR_f1 := kR.frozen 1; have kR_2 := kR.cell 2; have kR_f2 := kR.frozen 2; have kR_3 := kR.cell 3; have kR_f3 := kR.frozen 3; have kR_4 := kR.cell 4; have kR_f4 := kR.frozen 4; have kR_5 := kR.cell 5; have kR_f5 := kR.frozen 5; have kR_6 := kR.cell 6; have kR_f6 := kR.frozen 6; have kR_7 := kR.cell 7; have kR_f7 := kR.frozen 7; simp only [List.set_cons_zero, List.set_cons_succ, List.getElem?_cons_zero, List.getElem?_cons_succ] at kR_0 kR_1 kR_2 kR_3 kR_4 kR_5 kR_6 kR_7; have lt_kR := kR.lt
      have hop : dOpen (ws ++ [dWait ld f.id]) = op + if (dWait ld f.id).xs = [] then 0 else 1 := by rw [dOpen_snoc, HO.out]
      rcases dWait_cases ld f.id with ⟨e1, e2⟩ | ⟨j, hj, e1, e2⟩
      · rw [e2] at HSN hop
        rw [e1]
        go_wp2_with (at_builtin; refine wpList_app2 rfl (.tmp 54) (.tmp 56) 77 rfl bW 35 iT _ 1 24 Try.underlying77 hi hz0 hz1 hz2 rfl (by omega) W k cW (wtR ws) rfl (ownW.alloc _) ⟨w3.heap.size, 0, none⟩ 1 1 [.slice none 0 0] rfl rfl (news_one rfl) (by simp [Value.oneCell']) (by unfold maxLen; omega) (by omega) (by simp; omega) (by omega) ?_; intro g cap w7 own7 hb7 hgr7; clear hi hz0 hz1 hz2 iT; (have k7 := (kR.alloc (.cells #[.slice none 0 0] 35)).below hb7 (by omega)); have k7_0 := k7.cell 0; have k7_f0 := k7.frozen 0; have k7_1 := k7.cell 1; have k7_f1 := k7.frozen 1; have k7_2 := k7.cell 2; have k7_f2 := k7.frozen 2; have k7_3 := k7.cell 3; have k7_f3 := k7.frozen 3; have k7_4 := k7.cell 4; have k7_f4 := k7.frozen 4; have k7_5 := k7.cell 5; have k7_f5 := k7.frozen 5; have k7_6 := k7.cell 6; have k7_f6 := k7.frozen 6; have k7_7 := k7.cell 7; have k7_f7 := k7.frozen 7; simp only [List.set_cons_zero, List.set_cons_succ, List.getElem?_cons_zero, List.getElem?_cons_succ] at k7_0 k7_1 k7_2 k7_3 k7_4 k7_5 k7_6 k7_7; have lt7 := k7.lt)
        (try clear kR_0 kR_f0 kR_1 kR_f1 kR_2 kR_f2 kR_3 kR_f3 kR_4 kR_f4 kR_5 kR_f5 kR_6 kR_f6 kR_7 kR_f7 lt_kR) ; (try clear k7_0 k7_f0 k7_1 k7_f1 k7_2 k7_f2 k7_3 k7_f3 k7_4 k7_f4 k7_5 k7_f5 k7_6 k7_f6 k7_7 k7_f7 lt_k7)
        have h3 : Below w.heap.size w (w3.alloc (.cells #[.slice none 0 0] 35)) := hb.alloc1 _
        have hb7' : Below w.heap.size w w7 := h3.trans (hb7.mono (by omega))
        have kG7 := (kG.alloc (.cells #[.slice none 0 0] 35)).below hb7 (by omega)
        have o7 : w7.ownsRow bF 70 3 (.slice (some ad) l.length n5) l.length (flR l) := (own.alloc (.cells #[.slice none 0 0] 35)).kept hgr7 (.inr fun e => by
          have e1 := (lt6 _ (show (Value.slice (some ad) l.length n5).ownBlock = some ad.block from rfl)).2
          have e2 := (ownW.lt ad.block (e ▸ rfl)).1
          omega)
        generalize hV : World.setCell _ _ _ = w8
        have hb8 : Below w.heap.size w w8 := by subst hV; (repeat first | with_reducible exact hb7' | refine Below.setCell ?_ (by dsimp only; omega) _)
        have k8 : Bk w8 (w.heap.size + 1 + 1) 79 (rdC (some ad) l.length n5 at_ mid (some ⟨g, 0, none⟩) (k + 1) cap (w.heap.size + 1) q t op) := by subst hV; exact k7.set_ 3 _
        have kG8 : Bk w8 (w.heap.size + 1) 3 (ints (List.replicate l.length 0)) := by subst hV; (repeat first | with_reducible exact kG7 | refine Bk.far ?_ (by dsimp only; omega) _)
        have own8 : w8.ownsRow bF 70 3 (.slice (some ad) l.length n5) l.length (flR l) := by subst hV; (repeat first | with_reducible exact o7 | refine own_far ?_ (by dsimp only; omega) _)
        have ownW8 : w8.ownsRow bW 35 1 (.slice (some ⟨g, 0, none⟩) (k + 1) cap) (k + 1) (wtR ws ++ [.slice none 0 0]) := by subst hV; (repeat first | with_reducible exact own7 | refine own_far ?_ (by dsimp only; omega) _)
        have hbw8 : bW ≤ w8.heap.size := by have := hb7.size; subst hV; simp [World.setCell] at *; omega
        clear hV
        go_roundw
        case rel => exact ⟨k + 1, by omega, by go_num, ⟨_, cap, op, k8, by rw [HSN.out]; simpa [wtR, wtV] using ownW8, by rw [HSN.out, hop]; simp⟩, kG8, own8, hbw8, hb8⟩
        case measure => simp [intOf]; omega
      · obtain ⟨cd, rfl, hcdb, q1, q2⟩ := (hd.1.below (hb.mono hbase)).ld hj
        have hxl := HX.out _ (List.getElem_mem hj)
        rw [e2] at HSN hop
        rw [e1]
        have ho1 := dOpen_le ws
        rw [← HO.out, HLN.out] at ho1
        generalize ld[j] = x at *
        rcases Nat.eq_zero_or_pos x.xs.length with h0 | h0
        · have d1 : (x.xs.length : Int) ≤ 0 := by omega
          have hxe : x.xs = [] := List.eq_nil_of_length_eq_zero h0
          clear h0 d1
          obtain ⟨xi, xA, xc, xxs⟩ := x
          dsimp only at hxe
          subst hxe
          dsimp only [List.length_nil] at q2 hxl
          go_wp2_with (at_builtin; refine wpList_app2 rfl (.tmp 54) (.tmp 56) 77 rfl bW 35 iT _ 1 24 Try.underlying77 hi hz0 hz1 hz2 rfl (by omega) W k cW (wtR ws) rfl (ownW.alloc _) ⟨w3.heap.size, 0, none⟩ 1 1 [.slice xA 0 xc] rfl rfl (news_one rfl) (by simp [Value.oneCell']) (by unfold maxLen; omega) (by omega) (by simp; omega) (by omega) ?_; intro g cap w7 own7 hb7 hgr7; clear hi hz0 hz1 hz2 iT; (have k7 := (kR.alloc (.cells #[.slice xA 0 xc] 35)).below hb7 (by omega)); have k7_0 := k7.cell 0; have k7_f0 := k7.frozen 0; have k7_1 := k7.cell 1; have k7_f1 := k7.frozen 1; have k7_2 := k7.cell 2; have k7_f2 := k7.frozen 2; have k7_3 := k7.cell 3; have k7_f3 := k7.frozen 3; have k7_4 := k7.cell 4; have k7_f4 := k7.frozen 4; have k7_5 := k7.cell 5; have k7_f5 := k7.frozen 5; have k7_6 := k7.cell 6; have k7_f6 := k7.frozen 6; have k7_7 := k7.cell 7; have k7_f7 := k7.frozen 7; simp only [List.set_cons_zero, List.set_cons_succ, List.getElem?_cons_zero, List.getElem?_cons_succ] at k7_0 k7_1 k7_2 k7_3 k7_4 k7_5 k7_6 k7_7; have lt7 := k7.lt)
          (try clear kR_0 kR_f0 kR_1 kR_f1 kR_2 kR_f2 kR_3 kR_f3 kR_4 kR_f4 kR_5 kR_f5 kR_6 kR_f6 kR_7 kR_f7 lt_kR) ; (try clear k7_0 k7_f0 k7_1 k7_f1 k7_2 k7_f2 k7_3 k7_f3 k7_4 k7_f4 k7_5 k7_f5 k7_6 k7_f6 k7_7 k7_f7 lt_k7)
          have h3 : Below w.heap.size w (w3.alloc (.cells #[.slice xA 0 xc] 35)) := hb.alloc1 _
          have hb7' : Below w.heap.size w w7 := h3.trans (hb7.mono (by omega))
          have kG7 := (kG.alloc (.cells #[.slice xA 0 xc] 35)).below hb7 (by omega)
          have o7 : w7.ownsRow bF 70 3 (.slice (some ad) l.length n5) l.length (flR l) := (own.alloc (.cells #[.slice xA 0 xc] 35)).kept hgr7 (.inr fun e => by
            have e1 := (lt6 _ (show (Value.slice (some ad) l.length n5).ownBlock = some ad.block from rfl)).2
            have e2 := (ownW.lt ad.block (e ▸ rfl)).1
            omega)
          generalize hV : World.setCell _ _ _ = w8
          have hb8 : Below w.heap.size w w8 := by subst hV; (repeat first | with_reducible exact hb7' | refine Below.setCell ?_ (by dsimp only; omega) _)
          have k8 : Bk w8 (w.heap.size + 1 + 1) 79 (rdC (some ad) l.length n5 at_ mid (some ⟨g, 0, none⟩) (k + 1) cap (w.heap.size + 1) q t op) := by subst hV; exact k7.set_ 3 _
          have kG8 : Bk w8 (w.heap.size + 1) 3 (ints (List.replicate l.length 0)) := by subst hV; (repeat first | with_reducible exact kG7 | refine Bk.far ?_ (by dsimp only; omega) _)
          have own8 : w8.ownsRow bF 70 3 (.slice (some ad) l.length n5) l.length (flR l) := by subst hV; (repeat first | with_reducible exact o7 | refine own_far ?_ (by dsimp only; omega) _)
          have ownW8 : w8.ownsRow bW 35 1 (.slice (some ⟨g, 0, none⟩) (k + 1) cap) (k + 1) (wtR ws ++ [.slice xA 0 xc]) := by subst hV; (repeat first | with_reducible exact own7 | refine own_far ?_ (by dsimp only; omega) _)
          have hbw8 : bW ≤ w8.heap.size := by have := hb7.size; subst hV; simp [World.setCell] at *; omega
          clear hV
          go_roundw
          case rel => exact ⟨k + 1, by omega, by go_num, ⟨_, cap, op, k8, by rw [HSN.out]; simpa [wtR, wtV] using ownW8, by rw [HSN.out, hop]; simp⟩, kG8, own8, hbw8, hb8⟩
          case measure => simp [intOf]; omega
        · have d1 : 0 < (x.xs.length : Int) := by omega
          have hxe : ¬ x.xs = [] := by intro h; rw [h] at h0; simp at h0
          clear h0
          go_wp2_with (at_builtin; refine wpList_app2 rfl (.tmp 54) (.tmp 56) 77 rfl bW 35 iT _ 1 24 Try.underlying77 hi hz0 hz1 hz2 rfl (by omega) W k cW (wtR ws) rfl (ownW.alloc _) ⟨w3.heap.size, 0, none⟩ 1 1 [.slice x.A x.xs.length x.c] rfl rfl (news_one rfl) (by simp [Value.oneCell']) (by unfold maxLen; omega) (by omega) (by simp; omega) (by omega) ?_; intro g cap w7 own7 hb7 hgr7; clear hi hz0 hz1 hz2 iT; (have k7 := (kR.alloc (.cells #[.slice x.A x.xs.length x.c] 35)).below hb7 (by omega)); have k7_0 := k7.cell 0; have k7_f0 := k7.frozen 0; have k7_1 := k7.cell 1; have k7_f1 := k7.frozen 1; have k7_2 := k7.cell 2; have k7_f2 := k7.frozen 2; have k7_3 := k7.cell 3; have k7_f3 := k7.frozen 3; have k7_4 := k7.cell 4; have k7_f4 := k7.frozen 4; have k7_5 := k7.cell 5; have k7_f5 := k7.frozen 5; have k7_6 := k7.cell 6; have k7_f6 := k7.frozen 6; have k7_7 := k7.cell 7; have k7_f7 := k7.frozen 7; simp only [List.set_cons_zero, List.set_cons_succ, List.getElem?_cons_zero, List.getElem?_cons_succ] at k7_0 k7_1 k7_2 k7_3 k7_4 k7_5 k7_6 k7_7; have lt7 := k7.lt)
          (try clear kR_0 kR_f0 kR_1 kR_f1 kR_2 kR_f2 kR_3 kR_f3 kR_4 kR_f4 kR_5 kR_f5 kR_6 kR_f6 kR_7 kR_f7 lt_kR) ; (try clear k7_0 k7_f0 k7_1 k7_f1 k7_2 k7_f2 k7_3 k7_f3 k7_4 k7_f4 k7_5 k7_f5 k7_6 k7_f6 k7_7 k7_f7 lt_k7)
          have h3 : Below w.heap.size w (w3.alloc (.cells #[.slice x.A x.xs.length x.c] 35)) := hb.alloc1 _
          have hb7' : Below w.heap.size w w7 := h3.trans (hb7.mono (by omega))
          have kG7 := (kG.alloc (.cells #[.slice x.A x.xs.length x.c] 35)).below hb7 (by omega)
          have o7 : w7.ownsRow bF 70 3 (.slice (some ad) l.length n5) l.length (flR l) := (own.alloc (.cells #[.slice x.A x.xs.length x.c] 35)).kept hgr7 (.inr fun e => by
            have e1 := (lt6 _ (show (Value.slice (some ad) l.length n5).ownBlock = some ad.block from rfl)).2
            have e2 := (ownW.lt ad.block (e ▸ rfl)).1
            omega)
          generalize hV : World.setCell (World.setCell _ _ _) _ _ = w8
          have hb8 : Below w.heap.size w w8 := by subst hV; (repeat first | with_reducible exact hb7' | refine Below.setCell ?_ (by dsimp only; omega) _)
          have k8 : Bk w8 (w.heap.size + 1 + 1) 79 (rdC (some ad) l.length n5 at_ mid (some ⟨g, 0, none⟩) (k + 1) cap (w.heap.size + 1) q t (op + 1)) := by subst hV; exact (k7.set_ 3 _).set_ 7 _
          have kG8 : Bk w8 (w.heap.size + 1) 3 (ints (List.replicate l.length 0)) := by subst hV; (repeat first | with_reducible exact kG7 | refine Bk.far ?_ (by dsimp only; omega) _)
          have own8 : w8.ownsRow bF 70 3 (.slice (some ad) l.length n5) l.length (flR l) := by subst hV; (repeat first | with_reducible exact o7 | refine own_far ?_ (by dsimp only; omega) _)
          have ownW8 : w8.ownsRow bW 35 1 (.slice (some ⟨g, 0, none⟩) (k + 1) cap) (k + 1) (wtR ws ++ [.slice x.A x.xs.length x.c]) := by subst hV; (repeat first | with_reducible exact own7 | refine own_far ?_ (by dsimp only; omega) _)
          have hbw8 : bW ≤ w8.heap.size := by have := hb7.size; subst hV; simp [World.setCell] at *; omega
          clear hV
          go_roundw
          case rel => exact ⟨k + 1, by omega, by go_num, ⟨_, cap, op + 1, k8, by rw [HSN.out]; simpa [wtR, wtV] using ownW8, by rw [HSN.out, hop, if_neg hxe]⟩, kG8, own8, hbw8, hb8⟩
          case measure => simp [intOf]; omega
    · have hkl : k = l.length := by omega
      subst hkl
      rw [List.take_length] at ownW HO
      (try clear kR_0 kR_f0 kR_1 kR_f1 kR_2 kR_f2 kR_3 kR_f3 kR_4 kR_f4 kR_5 kR_f5 kR_6 kR_f6 kR_7 kR_f7 lt_kR)
      go_wp2
      go_ret
      refine ⟨_, rfl, ⟨B, n5, W, cW, w.heap.size + 1, bF, bW, ?_, kG, own, ?_, by omega, by omega, hbF, hbW, fun j hj => (lt6 j hj).2, ?_⟩, hb⟩
      · rw [List.length_map, ← HO.out]; exact kR
      · rw [List.length_map]; exact ownW
      · intro x hx
        obtain ⟨f, _, rfl⟩ := List.mem_map.1 hx
        rcases dWait_mem ld f.id with e | e
        · rw [e]; exact ⟨Rd.nil, by simp⟩
        · exact ⟨(hd.2.1 _ e).below (hb.mono hbase), hd.2.2 _ e⟩
end Go.Proofs.Yteblbleehnkcmaa
