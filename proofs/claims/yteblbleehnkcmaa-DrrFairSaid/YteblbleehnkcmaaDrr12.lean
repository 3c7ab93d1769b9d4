/- Package drr: turn. -/
import Derived.Test.YteblbleehnkcmaaDrr11
import Derived.StillTailTactics
namespace Go.Proofs.Yteblbleehnkcmaa
open Go.RowKit Go.Sort
set_option linter.unusedSimpArgs false
set_option linter.unusedVariables false

/-- what goes of what waits: the deficit, what is left, how many went, and why it ended (0: nothing waits, 1: deficit, 2: total) -/
def tGo : Int → Int → List Int → Int × Int × Nat × Nat
  | df, left, [] => (df, left, 0, 0)
  | df, left, s :: r => if df < s then (df, left, 0, 1) else if left < s then (df, left, 0, 2) else
    ((tGo (df - s) (left - s) r).1, (tGo (df - s) (left - s) r).2.1, (tGo (df - s) (left - s) r).2.2.1 + 1, (tGo (df - s) (left - s) r).2.2.2)
structure RS where
  fl : List Fl
  at_ : Nat
  mid : Bool
  wt : List (List Int)
  went : List Int
  left : Int
def dOp (l : List (List Int)) : Int := ((l.filter fun x => decide (x ≠ [])).length : Nat)
def tDf (q : Int) (mid : Bool) (f : Fl) : Int := if mid = true then f.df else min (f.df + q * f.wt) 1073741824
def dTurn (q : Int) (s : RS) : RS × Bool :=
  let f := s.fl.getD s.at_ ⟨0, 0, 0⟩
  let x := s.wt.getD s.at_ []
  if x = [] then ({ s with fl := s.fl.set s.at_ ⟨f.id, f.wt, 0⟩ }, false) else
  let r := tGo (tDf q s.mid f) s.left x
  ({ s with fl := s.fl.set s.at_ ⟨f.id, f.wt, if r.2.2.2 = 0 then 0 else r.1⟩, wt := s.wt.set s.at_ (x.drop r.2.2.1), went := s.went.set s.at_ (s.went.getD s.at_ 0 + (r.2.2.1 : Nat)), left := r.2.1 }, r.2.2.2 == 2)
/-- a round's numbers are within bounds -/
structure RsOk (q : Int) (s : RS) : Prop where
  n : s.fl.length ≤ 1000
  at_ : s.at_ < s.fl.length
  wt : s.wt.length = s.fl.length
  went : s.went.length = s.fl.length
  q : 128 ≤ q ∧ q ≤ 4096
  left : 0 ≤ s.left ∧ s.left ≤ 1048576
  fl : ∀ f ∈ s.fl, 0 ≤ f.df ∧ f.df ≤ 1073741824 ∧ 1 ≤ f.wt ∧ f.wt ≤ 8
  size : ∀ x ∈ s.wt, x.length ≤ 1000 ∧ ∀ n ∈ x, 1 ≤ n ∧ n ≤ 128
  some : ∀ n ∈ s.went, 0 ≤ n ∧ n ≤ 1000000
def Rs (w : World) (base g : Nat) (q : Int) (s : RS) : Prop := ∃ ws, ws.map Ld.xs = s.wt ∧ Rnd w base g s.fl s.at_ s.mid ws s.went q s.left (dOp s.wt)
theorem flR_set (l : List Fl) (i : Nat) (d : Int) (h : i < l.length) : (flR l).set (i * 3 + 2) (.int .i64 d) = flR (l.set i ⟨l[i].id, l[i].wt, d⟩) := by
  induction l generalizing i with
  | nil => simp at h
  | cons f r ih =>
    cases i with
    | zero => simp [flR, flC, List.flatMap_cons]
    | succ i =>
      have h' : i < r.length := by simpa using h
      have e : (i + 1) * 3 + 2 = (i * 3 + 2) + 1 + 1 + 1 := by omega
      have := ih i h'
      simp only [flR, List.flatMap_cons, flC, List.cons_append, List.nil_append, e, List.set_cons_succ, List.getElem_cons_succ] at *
      rw [this]
theorem wtR_set (l : List Ld) (i : Nat) (y : Ld) : (wtR l).set i (wtV y) = wtR (l.set i y) := by unfold wtR; rw [List.map_set]
theorem dOp_cons (x : List Int) (l : List (List Int)) : dOp (x :: l) = (if x = [] then 0 else 1) + dOp l := by
  unfold dOp
  by_cases h : x = [] <;> simp [List.filter_cons, h]
  omega
theorem dOp_set (l : List (List Int)) (i : Nat) (y : List Int) (h : i < l.length) (hx : l[i] ≠ []) : dOp (l.set i y) = if y = [] then dOp l - 1 else dOp l := by
  induction l generalizing i with
  | nil => simp at h
  | cons z r ih =>
    cases i with
    | zero =>
      have hz : ¬ z = [] := hx
      rw [List.set_cons_zero, dOp_cons, dOp_cons, if_neg hz]
      split <;> omega
    | succ i =>
      have := ih i (by simpa using h) (by simpa using hx)
      rw [List.set_cons_succ, dOp_cons, dOp_cons, this]
      split <;> split <;> omega
theorem dOp_in (l : List (List Int)) : 0 ≤ dOp l ∧ dOp l ≤ (l.length : Nat) := by
  unfold dOp
  exact ⟨by omega, by exact_mod_cast List.length_filter_le _ _⟩
theorem tGo_step {df left s : Int} {r : List Int} (h1 : ¬ df < s) (h2 : ¬ left < s) : tGo df left (s :: r) = ((tGo (df - s) (left - s) r).1, (tGo (df - s) (left - s) r).2.1, (tGo (df - s) (left - s) r).2.2.1 + 1, (tGo (df - s) (left - s) r).2.2.2) := by
  rw [tGo, if_neg h1, if_neg h2]
theorem tail_run (sd : Addr) (n c : Nat) (h : 1 ≤ c) : ∃ A2, ((A2 = some sd ∧ c = 1) ∨ A2 = some (sd.add 1)) ∧ (∀ W, (Instr.slice 35 (.slice (some sd) (n + 1) c) (some (.int .i64 1)) none none).run Try.prog W = .ok (.slice A2 n (c - 1)) W) ∧ (∀ W, (Instr.sliceAt 35 (.slice (some sd) (n + 1) c) (some (.int .i64 1)) none none).run Try.prog W = .ok (.slice A2 n (c - 1)) W) := by
  have he : Try.prog.elem 35 = 3 := by kernel_rfl
  have hu : Try.prog.underlying 35 = some (.slice (Try.prog.elem 35)) := by rw [he]; exact Try.underlying35
  have hb : ∃ A2, ((A2 = some sd ∧ c = 1) ∨ A2 = some (sd.add 1)) ∧ (∀ W, (Instr.slice 35 (.slice (some sd) (n + 1) c) (some (.int .i64 1)) none none).run Try.prog W = .ok (.slice A2 n (c - 1)) W) := by
    rcases Nat.lt_or_ge 1 c with h1 | h1
    · refine ⟨_, .inr rfl, fun W => ?_⟩
      have h2 : ¬ c = 1 := by omega
      have h3 : (1 : Int) ≤ ((n + 1 : Nat) : Int) := by omega
      rw [run_slice_l (ht := hu) (h0 := by omega) (h1 := h3)]
      have e : (sizeOf (Try.prog.elem 35)).run Try.prog W = .ok 1 W := by kernel_rfl
      rw [e]
      simp [sliced, h2]
    · have h2 : c = 1 := by omega
      subst h2
      refine ⟨_, .inl ⟨rfl, rfl⟩, fun W => ?_⟩
      have h3 : (1 : Int) ≤ ((n + 1 : Nat) : Int) := by omega
      rw [run_slice_l (ht := hu) (h0 := by omega) (h1 := h3)]
      have e : (sizeOf (Try.prog.elem 35)).run Try.prog W = .ok 1 W := by kernel_rfl
      rw [e]
      simp [sliced]
  obtain ⟨A2, h1, h2⟩ := hb
  exact ⟨A2, h1, h2, fun W => (run_sliceAt_slice W _ _ _ _ _ hu).trans (h2 W)⟩
def rowLenAt (w : World) (p : Addr) : Nat := match w.cell? p with | some (.slice _ n _) => n | _ => 0
theorem rowLenAt_of {w : World} {p : Addr} {A : Option Addr} {n c : Nat} (h : w.cell? p = some (.slice A n c)) : rowLenAt w p = n := by unfold rowLenAt; rw [h]
theorem Rs.of {w : World} {base g : Nat} {q : Int} {s : RS} (n m : Nat) (hn : s.fl.length = n) (ws : List Ld) (hws : ws.map Ld.xs = s.wt) (hm : ws.length = m) {gf gw c cw G bF bW : Nat}
    (kR : Bk w g 79 (rdC (some ⟨gf, 0, none⟩) n c s.at_ s.mid (some ⟨gw, 0, none⟩) m cw G q s.left (dOp s.wt))) (kG : Bk w G 3 (ints s.went)) (own : w.ownsRow bF 70 3 (.slice (some ⟨gf, 0, none⟩) n c) n (flR s.fl)) (ownW : w.ownsRow bW 35 1 (.slice (some ⟨gw, 0, none⟩) m cw) m (wtR ws))
    (hG : base ≤ G) (hGg : G < g) (hgF : g < bF) (hFW : bF ≤ bW) (hlt : gf < bW) (hrd : ∀ x ∈ ws, Rd w base x.A (ints x.xs) ∧ x.xs.length ≤ x.c) : Rs w base g q s := by
  subst hn; subst hm
  exact ⟨ws, hws, _, c, _, cw, G, bF, bW, kR, kG, own, ownW, hG, hGg, hgF, hFW, fun k hk => by
    have : gf = k := by simpa [Value.ownBlock] using hk
    omega, hrd⟩
/-- what 'turn' leaves of a flow that has something that waits -/
def dTurned (q : Int) (s : RS) (f : Fl) (x : List Int) (n0 : Int) (r : Int × Int × Nat × Nat) : RS × Bool :=
  ({ s with fl := s.fl.set s.at_ ⟨f.id, f.wt, if r.2.2.2 = 0 then 0 else r.1⟩, wt := s.wt.set s.at_ (x.drop r.2.2.1), went := s.went.set s.at_ (n0 + (r.2.2.1 : Nat)), left := r.2.1 }, r.2.2.2 == 2)
set_option maxRecDepth 100000 in
set_option maxHeartbeats 8000000 in
theorem drr_turn_any (base g : Nat) (q : Int) (s : RS) (w : World) (hok : RsOk q s) (h : Rs w base g q s) :
    Calls Try.prog 31 #[.pointer (some ⟨g, 0, none⟩)] w fun e w' => e = .returned (.bool (dTurn q s).2) ∧ Rs w' base g q (dTurn q s).1 ∧ Below base w w' := by
  obtain ⟨hn, hat, hwt, hwe, hq, hleft, hfl, hsz, hso⟩ := hok
  obtain ⟨fl, i, mid, wt, went, left⟩ := s
  obtain ⟨ws, hws, A, c, W, cw, G, bF, bW, kR, kG, own, ownW, hG, hGg, hgF, hFW, hlt, hrd⟩ := h
  dsimp only at *
  subst hws
  rw [List.length_map] at hwt
  obtain ⟨gf, cf, hA, hgf, hgf2⟩ := own_some own (by omega)
  obtain ⟨gw, cw', hW, hgw, hgw2⟩ := own_some ownW (by omega)
  cases hA
  cases hW
  have hiw : i < ws.length := by omega
  have hig : i < went.length := by omega
  obtain ⟨f0, f1, f2⟩ := flR_get fl i hat
  have c1 := (own.cellAt (i * 3 + 1) (by omega)).trans f1
  have c2 := (own.cellAt (i * 3 + 2) (by omega)).trans f2
  have c2f := own.frozenAt (i * 3 + 2)
  have c3 : w.cell? ⟨gw, i, none⟩ = some (.slice ws[i].A ws[i].xs.length ws[i].c) := by rw [ownW.cellAt i (by omega)]; simp [wtR, wtV, hiw]
  have c3f := ownW.frozenAt i
  clear f0 f1 f2
  have hfw : gf < bW := hlt gf rfl
  have hfi := hfl _ (List.getElem_mem hat)
  have hxi := hsz _ (List.mem_map_of_mem (List.getElem_mem hiw))
  have hri := hrd _ (List.getElem_mem hiw)
  have hwi := hso _ (List.getElem_mem hig)
  have hop := dOp_in (ws.map Ld.xs)
  rw [List.length_map] at hop
  have hT0 : ws[i].xs = [] → dTurn q ⟨fl, i, mid, ws.map Ld.xs, went, left⟩ = (⟨fl.set i ⟨fl[i].id, fl[i].wt, 0⟩, i, mid, ws.map Ld.xs, went, left⟩, false) := by
    intro e
    unfold dTurn
    simp [List.getD_eq_getElem?_getD, hat, hiw, e]
  have hT1 : ws[i].xs ≠ [] → dTurn q ⟨fl, i, mid, ws.map Ld.xs, went, left⟩ = dTurned q ⟨fl, i, mid, ws.map Ld.xs, went, left⟩ fl[i] ws[i].xs went[i] (tGo (tDf q mid fl[i]) left ws[i].xs) := by
    intro e
    unfold dTurn dTurned
    simp [List.getD_eq_getElem?_getD, hat, hiw, hig, e]
  have hSf := fun d => flR_set fl i d hat
  have hSo := fun y (h : ws[i].xs ≠ []) => dOp_set (ws.map Ld.xs) i y (by simpa using hiw) (by simpa using h)
  generalize hf : fl[i] = f at *
  generalize hx : ws[i] = x at *
  generalize hn0 : went[i] = n0 at *
  generalize hR : dTurn q ⟨fl, i, mid, ws.map Ld.xs, went, left⟩ = R at *
  have HFL := hide hfl
  have HSZ := hide hsz
  have HRD := hide hrd
  have HSO := hide hso
  clear hfl hsz hrd hso
  have kR_0 := kR.cell 0; have kR_f0 := kR.frozen 0; have kR_1 := kR.cell 1; have kR_f1 := kR.frozen 1; have kR_2 := kR.cell 2; have kR_f2 := kR.frozen 2; have kR_3 := kR.cell 3; have kR_f3 := kR.frozen 3; have kR_4 := kR.cell 4; have kR_f4 := kR.frozen 4; have kR_5 := kR.cell 5; have kR_f5 := kR.frozen 5; have kR_6 := kR.cell 6; have kR_f6 := kR.frozen 6; have kR_7 := kR.cell 7; have kR_f7 := kR.frozen 7; simp only [List.set_cons_zero, List.set_cons_succ, List.getElem?_cons_zero, List.getElem?_cons_succ] at kR_0 kR_1 kR_2 kR_3 kR_4 kR_5 kR_6 kR_7; have lt_kR := kR.lt
  go_enter Try.func31, Try.ntmps31
  go_wp2
  go_quiet (fail)
  go_wp2
  go_quiet (fail)
  rcases hxe : x.xs with _ | ⟨s0, r0⟩
  · have hr := hT0 hxe
    clear hT0 hT1 hSo
    rw [hxe] at c3
    go_wp2
    go_ret
    generalize hV : World.setCell _ _ _ = w3
    have hb3 : Below base w w3 := by subst hV; refine Below.setCell ?_ (by dsimp only; omega) _; (repeat first | with_reducible exact Below.refl base w | refine Below.drewN ?_ _)
    have kR3 : Bk w3 g 79 (rdC (some ⟨gf, 0, none⟩) fl.length c i mid (some ⟨gw, 0, none⟩) ws.length cw G q left (dOp (ws.map Ld.xs))) := by subst hV; exact Bk.far kR (by dsimp only; omega) _
    have kG3 : Bk w3 G 3 (ints went) := by subst hV; exact Bk.far kG (by dsimp only; omega) _
    have own3 : w3.ownsRow bF 70 3 (.slice (some ⟨gf, 0, none⟩) fl.length c) fl.length (flR (fl.set i ⟨f.id, f.wt, 0⟩)) := by subst hV; rw [← hSf]; refine (World.ownsRow.stored ?_ _ _).1; exact own
    have ownW3 : w3.ownsRow bW 35 1 (.slice (some ⟨gw, 0, none⟩) ws.length cw) ws.length (wtR ws) := by subst hV; refine own_far ?_ (by dsimp only; omega) _; exact ownW
    exact ⟨by rw [hr]; rfl, by rw [hr]; exact Rs.of fl.length ws.length (List.length_set ..) ws rfl rfl kR3 kG3 own3 ownW3 hG hGg hgF hFW (by omega) fun y hy => ⟨(HRD.out y hy).1.below hb3, (HRD.out y hy).2⟩, hb3⟩
  · have hne : x.xs ≠ [] := by rw [hxe]; simp
    have hr := hide (hT1 hne)
    have hSo2 := fun y => hSo y hne
    have hxl : 0 < (x.xs.length : Int) := by rw [hxe, List.length_cons]; omega
    clear hT0 hT1 hSo hxe
    have hm1 : 0 ≤ q * f.wt ∧ q * f.wt ≤ 32768 := by
      have h1 : q * f.wt ≤ 4096 * 8 := Int.mul_le_mul hq.2 hfi.2.2.2 (by omega) (by omega)
      have h2 : 0 ≤ q * f.wt := Int.mul_nonneg (by omega) (by omega)
      omega
    generalize hdf : tDf q mid f = df0 at *
    unfold tDf at hdf
    have hdf2 : df0 = if mid = true then f.df else if 1073741824 < f.df + q * f.wt then 1073741824 else f.df + q * f.wt := by
      rw [← hdf]; split
      · rfl
      · split <;> omega
    have HDF := hide hdf2
    clear hdf hdf2
    cases mid
    · have hd1 := HDF.out
      rw [if_neg (by simp)] at hd1
      have hd0 : 0 ≤ df0 ∧ df0 ≤ 1073741824 := by rw [hd1]; split <;> omega
      clear HDF
      go_wp2
      generalize hV : World.drewN w _ = w2
      have hb2 : Below base w w2 := by subst hV; (repeat first | with_reducible exact Below.refl base w | refine Below.drewN ?_ _)
      replace kR : Bk w2 g 79 (rdC (some ⟨gf, 0, none⟩) fl.length c i false (some ⟨gw, 0, none⟩) ws.length cw G q left (dOp (ws.map Ld.xs))) := by subst hV; exact kR
      replace kG : Bk w2 G 3 (ints went) := by subst hV; exact kG
      replace own : w2.ownsRow bF 70 3 (.slice (some ⟨gf, 0, none⟩) fl.length c) fl.length (flR fl) := by subst hV; exact own
      replace ownW : w2.ownsRow bW 35 1 (.slice (some ⟨gw, 0, none⟩) ws.length cw) ws.length (wtR ws) := by subst hV; exact ownW
      replace c1 : w2.cell? ⟨gf, i * 3 + 1, none⟩ = some (.int .i64 f.wt) := by subst hV; exact c1
      replace c2 : w2.cell? ⟨gf, i * 3 + 2, none⟩ = some (.int .i64 f.df) := by subst hV; exact c2
      replace c2f : w2.frozen? ⟨gf, i * 3 + 2, none⟩ = false := by subst hV; exact c2f
      (try clear kR_0 kR_f0 kR_1 kR_f1 kR_2 kR_f2 kR_3 kR_f3 kR_4 kR_f4 kR_5 kR_f5 kR_6 kR_f6 kR_7 kR_f7 lt_kR)
      have kR_0 := kR.cell 0; have kR_f0 := kR.frozen 0; have kR_1 := kR.cell 1; have kR_f1 := kR.frozen 1; have kR_2 := kR.cell 2; have kR_f2 := kR.frozen 2; have kR_3 := kR.cell 3; have kR_f3 := kR.frozen 3; have kR_4 := kR.cell 4; have kR_f4 := kR.frozen 4; have kR_5 := kR.cell 5; have kR_f5 := kR.frozen 5; have kR_6 := kR.cell 6; have kR_f6 := kR.frozen 6; have kR_7 := kR.cell 7; have kR_f7 := kR.frozen 7; simp only [List.set_cons_zero, List.set_cons_succ, List.getElem?_cons_zero, List.getElem?_cons_succ] at kR_0 kR_1 kR_2 kR_3 kR_4 kR_5 kR_6 kR_7; have lt_kR := kR.lt
      have gw2 : gw < w2.heap.size := (ownW.lt gw rfl).2
      have gf2 : gf < w2.heap.size := (own.lt gf rfl).2
      clear hV c3 c3f hgf2 hgw2
      have hmn : (if 1073741824 < IntKind.i64.wrap (f.df + IntKind.i64.wrap (q * f.wt)) then (1073741824 : Int) else IntKind.i64.wrap (f.df + IntKind.i64.wrap (q * f.wt))) = df0 := by
        rw [IntWalk.i64_in (q * f.wt) (by omega), IntWalk.i64_in (f.df + q * f.wt) (by omega)]; exact hd1.symm
      clear hd1
      go_still_tail 16, (by kernel_rfl)
      change wpList _ _ _ _ _ w2.drew
      try rw [hmn]
      clear hmn
      go_wp2
      generalize hV : World.drew _ = w3
      have hb3 : Below base w w3 := by subst hV; refine Below.drew (Below.setCell ?_ (by dsimp only; omega) _); exact hb2
      have kR3 : Bk w3 g 79 (rdC (some ⟨gf, 0, none⟩) fl.length c i false (some ⟨gw, 0, none⟩) ws.length cw G q left (dOp (ws.map Ld.xs))) := by subst hV; exact Bk.drew (Bk.far kR (by dsimp only; omega) _)
      have kG3 : Bk w3 G 3 (ints went) := by subst hV; exact Bk.drew (Bk.far kG (by dsimp only; omega) _)
      have own3 : w3.ownsRow bF 70 3 (.slice (some ⟨gf, 0, none⟩) fl.length c) fl.length (flR (fl.set i ⟨f.id, f.wt, df0⟩)) := by
        subst hV
        rw [← hSf]
        exact World.ownsRow.drew (World.ownsRow.stored own _ _).1
      have ownW3 : w3.ownsRow bW 35 1 (.slice (some ⟨gw, 0, none⟩) ws.length cw) ws.length (wtR ws) := by subst hV; exact World.ownsRow.drew (own_far ownW (by dsimp only; omega) _)
      (try clear kR_0 kR_f0 kR_1 kR_f1 kR_2 kR_f2 kR_3 kR_f3 kR_4 kR_f4 kR_5 kR_f5 kR_6 kR_f6 kR_7 kR_f7 lt_kR)
      clear hV kR kG own ownW c1 c2 c2f
      go_wp2
      go_loopw [4] (fun sz wr => ∃ k zs A' c' df lf, zs = x.xs.drop k ∧ k ≤ x.xs.length ∧ Hid (tGo df0 left x.xs = ((tGo df lf zs).1, (tGo df lf zs).2.1, (tGo df lf zs).2.2.1 + k, (tGo df lf zs).2.2.2)) ∧ (0 ≤ df ∧ df ≤ 1073741824) ∧ (0 ≤ lf ∧ lf ≤ 1048576) ∧ Rd wr base A' (ints zs) ∧ zs.length ≤ c' ∧
        Bk wr g 79 (rdC (some ⟨gf, 0, none⟩) fl.length c i false (some ⟨gw, 0, none⟩) ws.length cw G q lf (dOp (ws.map Ld.xs))) ∧ Bk wr G 3 (ints (went.set i (n0 + k))) ∧ wr.ownsRow bF 70 3 (.slice (some ⟨gf, 0, none⟩) fl.length c) fl.length (flR (fl.set i ⟨f.id, f.wt, df⟩)) ∧ wr.ownsRow bW 35 1 (.slice (some ⟨gw, 0, none⟩) ws.length cw) ws.length (wtR (ws.set i ⟨x.id, A', c', zs⟩)) ∧ Below base w wr) (fun _ wr => rowLenAt wr ⟨gw, i, none⟩)
      case atStart => exact ⟨0, x.xs, x.A, x.c, df0, left, rfl, Nat.zero_le _, rfl, hd0, hleft, hri.1.below hb3, hri.2, kR3, by have := List.set_getElem_self hig; rw [hn0] at this; simpa [this] using kG3, own3, by have := List.set_getElem_self hiw; rw [hx] at this; rw [this]; exact ownW3, hb3⟩
      case round =>
        obtain ⟨k, zs, A', c', df, lf, hzs, hk, hG2, hdf, hlf, hrz, hzc, kR, kG, own, ownW, hb⟩ := hrel
        clear kR3 kG3 own3 ownW3 hb3
        have HZ := hide hzs
        clear hzs
        have lg : g < wr.heap.size := kR.lt
        have lG : G < wr.heap.size := kG.lt
        have lf1 := (own.lt gf rfl).2
        have lw1 := (ownW.lt gw rfl).2
        have c2 : wr.cell? ⟨gf, i * 3 + 2, none⟩ = some (.int .i64 df) := by
          rw [own.cellAt (i * 3 + 2) (by omega), (flR_get _ i (by rw [List.length_set]; exact hat)).2.2]; simp
        have c2f := own.frozenAt (i * 3 + 2)
        have c3 : wr.cell? ⟨gw, i, none⟩ = some (.slice A' zs.length c') := by rw [ownW.cellAt i (by omega)]; simp [wtR, wtV, hiw]
        have c3f := ownW.frozenAt i
        have c4 : wr.cell? ⟨G, i, none⟩ = some (.int .i64 (n0 + k)) := by rw [kG.cell]; simp [ints, hig]
        have c4f := kG.frozen i
        have kR_0 := kR.cell 0; have kR_f0 := kR.frozen 0; have kR_1 := kR.cell 1; have kR_f1 := kR.frozen 1; have kR_2 := kR.cell 2; have kR_f2 := kR.frozen 2; have kR_3 := kR.cell 3; have kR_f3 := kR.frozen 3; have kR_4 := kR.cell 4; have kR_f4 := kR.frozen 4; have kR_5 := kR.cell 5; have kR_f5 := kR.frozen 5; have kR_6 := kR.cell 6; have kR_f6 := kR.frozen 6; have kR_7 := kR.cell 7; have kR_f7 := kR.frozen 7; simp only [List.set_cons_zero, List.set_cons_succ, List.getElem?_cons_zero, List.getElem?_cons_succ] at kR_0 kR_1 kR_2 kR_3 kR_4 kR_5 kR_6 kR_7; have lt_kR := kR.lt
        rcases zs with _ | ⟨s0, r0⟩
        · go_wp2
          go_quiet (fail)
          go_wp2
          go_ret
          have hkx : k = x.xs.length := by
            have h9 : (x.xs.drop k).length = 0 := by rw [← HZ.out]; rfl
            rw [List.length_drop] at h9; omega
          have hr2 : R = (⟨fl.set i ⟨f.id, f.wt, 0⟩, i, false, (ws.map Ld.xs).set i [], went.set i (n0 + k), lf⟩, false) := by
            have e9 : tGo df0 left x.xs = (df, lf, k, 0) := by rw [hG2.out, tGo]; simp
            rw [hr.out, e9]; unfold dTurned; dsimp only; rw [← HZ.out]; rfl
          have hop2 := hSo2 []
          rw [if_pos rfl] at hop2
          generalize hV : World.setCell (World.setCell _ _ _) _ _ = w5
          have hb5 : Below base w w5 := by subst hV; refine Below.setCell (Below.setCell ?_ (by dsimp only; omega) _) (by dsimp only; omega) _; (repeat first | with_reducible exact hb | refine Below.drewN ?_ _)
          have kR5 : Bk w5 g 79 (rdC (some ⟨gf, 0, none⟩) fl.length c i false (some ⟨gw, 0, none⟩) ws.length cw G q lf (dOp (ws.map Ld.xs) - 1)) := by subst hV; refine Bk.set_ (cs := rdC (some ⟨gf, 0, none⟩) fl.length c i false (some ⟨gw, 0, none⟩) ws.length cw G q lf (dOp (ws.map Ld.xs))) ?_ 7 _; refine Bk.far ?_ (by dsimp only; omega) _; exact kR
          have kG5 : Bk w5 G 3 (ints (went.set i (n0 + k))) := by subst hV; refine Bk.far (Bk.far ?_ (by dsimp only; omega) _) (by dsimp only; omega) _; exact kG
          have own5 : w5.ownsRow bF 70 3 (.slice (some ⟨gf, 0, none⟩) fl.length c) fl.length (flR (fl.set i ⟨f.id, f.wt, 0⟩)) := by
            subst hV
            have h9 := flR_set (fl.set i ⟨f.id, f.wt, df⟩) i 0 (by rw [List.length_set]; exact hat)
            rw [List.getElem_set_self, List.set_set] at h9
            refine own_far ?_ (by dsimp only; omega) _
            rw [← h9]
            refine (World.ownsRow.stored ?_ _ _).1
            exact own
          have ownW5 : w5.ownsRow bW 35 1 (.slice (some ⟨gw, 0, none⟩) ws.length cw) ws.length (wtR (ws.set i ⟨x.id, A', c', []⟩)) := by subst hV; refine own_far (own_far ?_ (by dsimp only; omega) _) (by dsimp only; omega) _; exact ownW
          rw [← hop2] at kR5
          refine ⟨by rw [hr2]; rfl, ?_, hb5⟩
          rw [hr2]
          refine Rs.of fl.length ws.length (List.length_set ..) (ws.set i ⟨x.id, A', c', []⟩) (by rw [List.map_set]) (List.length_set ..) kR5 kG5 own5 ownW5 hG hGg hgF hFW hfw ?_
          intro y hy
          rcases List.mem_or_eq_of_mem_set hy with hy | rfl
          · exact ⟨(HRD.out y hy).1.below hb5, (HRD.out y hy).2⟩
          · exact ⟨Rd.nil, by simp⟩
        · obtain ⟨sd, rfl, hsdb, hs0⟩ := Rd.in hrz (k := 0) (by simp)
          have hs1 : 1 ≤ s0 ∧ s0 ≤ 128 := hxi.2 s0 (List.mem_of_mem_drop (i := k) (HZ.out ▸ List.mem_cons_self ..))
          rw [List.getElem_cons_zero] at hs0
          have hs0' : wr.cell? sd = some (.int .i64 s0) := by simpa [Addr.add] using hs0
          rw [List.length_cons] at c3 hzc
          have hcc : (1 : Int) ≤ (c' : Int) := by omega
          go_wp2
          go_quiet (fail)
          go_wp2
          go_quiet (fail)
          by_cases h1 : df < s0
          · go_wp2
            go_ret
            have hr2 : R = (⟨fl.set i ⟨f.id, f.wt, df⟩, i, false, (ws.map Ld.xs).set i (s0 :: r0), went.set i (n0 + k), lf⟩, false) := by
              have e9 : tGo df0 left x.xs = (df, lf, k, 1) := by rw [hG2.out, tGo, if_pos h1]; simp
              rw [hr.out, e9]; unfold dTurned; dsimp only; rw [← HZ.out]; rfl
            have hop2 := hSo2 (s0 :: r0)
            rw [if_neg (by simp)] at hop2
            generalize hV : World.drewN _ _ = w5
            have hb5 : Below base w w5 := by subst hV; (repeat first | with_reducible exact hb | refine Below.drewN ?_ _)
            have kR5 : Bk w5 g 79 (rdC (some ⟨gf, 0, none⟩) fl.length c i false (some ⟨gw, 0, none⟩) ws.length cw G q lf (dOp ((ws.map Ld.xs).set i (s0 :: r0)))) := by subst hV; rw [hop2]; exact kR
            have kG5 : Bk w5 G 3 (ints (went.set i (n0 + k))) := by subst hV; exact kG
            have own5 : w5.ownsRow bF 70 3 (.slice (some ⟨gf, 0, none⟩) fl.length c) fl.length (flR (fl.set i ⟨f.id, f.wt, df⟩)) := by subst hV; exact own
            have ownW5 : w5.ownsRow bW 35 1 (.slice (some ⟨gw, 0, none⟩) ws.length cw) ws.length (wtR (ws.set i ⟨x.id, some sd, c', s0 :: r0⟩)) := by subst hV; exact ownW
            refine ⟨by rw [hr2]; rfl, ?_, hb5⟩
            rw [hr2]
            refine Rs.of fl.length ws.length (List.length_set ..) (ws.set i ⟨x.id, some sd, c', s0 :: r0⟩) (by rw [List.map_set]) (List.length_set ..) kR5 kG5 own5 ownW5 hG hGg hgF hFW hfw ?_
            intro y hy
            rcases List.mem_or_eq_of_mem_set hy with hy | rfl
            · exact ⟨(HRD.out y hy).1.below hb5, (HRD.out y hy).2⟩
            · exact ⟨hrz.below (by subst hV; (repeat first | with_reducible exact Below.refl base wr | refine Below.drewN ?_ _)), by simpa using hzc⟩
          by_cases h2 : lf < s0
          · go_wp2
            go_ret
            have hr2 : R = (⟨fl.set i ⟨f.id, f.wt, df⟩, i, false, (ws.map Ld.xs).set i (s0 :: r0), went.set i (n0 + k), lf⟩, true) := by
              have e9 : tGo df0 left x.xs = (df, lf, k, 2) := by rw [hG2.out, tGo, if_neg (by omega), if_pos h2]; simp
              rw [hr.out, e9]; unfold dTurned; dsimp only; rw [← HZ.out]; rfl
            have hop2 := hSo2 (s0 :: r0)
            rw [if_neg (by simp)] at hop2
            generalize hV : World.drewN _ _ = w5
            have hb5 : Below base w w5 := by subst hV; (repeat first | with_reducible exact hb | refine Below.drewN ?_ _)
            have kR5 : Bk w5 g 79 (rdC (some ⟨gf, 0, none⟩) fl.length c i false (some ⟨gw, 0, none⟩) ws.length cw G q lf (dOp ((ws.map Ld.xs).set i (s0 :: r0)))) := by subst hV; rw [hop2]; exact kR
            have kG5 : Bk w5 G 3 (ints (went.set i (n0 + k))) := by subst hV; exact kG
            have own5 : w5.ownsRow bF 70 3 (.slice (some ⟨gf, 0, none⟩) fl.length c) fl.length (flR (fl.set i ⟨f.id, f.wt, df⟩)) := by subst hV; exact own
            have ownW5 : w5.ownsRow bW 35 1 (.slice (some ⟨gw, 0, none⟩) ws.length cw) ws.length (wtR (ws.set i ⟨x.id, some sd, c', s0 :: r0⟩)) := by subst hV; exact ownW
            refine ⟨by rw [hr2]; rfl, ?_, hb5⟩
            rw [hr2]
            refine Rs.of fl.length ws.length (List.length_set ..) (ws.set i ⟨x.id, some sd, c', s0 :: r0⟩) (by rw [List.map_set]) (List.length_set ..) kR5 kG5 own5 ownW5 hG hGg hgF hFW hfw ?_
            intro y hy
            rcases List.mem_or_eq_of_mem_set hy with hy | rfl
            · exact ⟨(HRD.out y hy).1.below hb5, (HRD.out y hy).2⟩
            · exact ⟨hrz.below (by subst hV; (repeat first | with_reducible exact Below.refl base wr | refine Below.drewN ?_ _)), by simpa using hzc⟩
          have h1' : s0 ≤ df := by omega
          have h2' : s0 ≤ lf := by omega
          go_wp2
          generalize hV : World.setCell (World.setCell _ _ _) _ _ = w5
          have hb5 : Below base w w5 := by subst hV; refine Below.setCell (Below.setCell ?_ (by dsimp only; omega) _) (by dsimp only; omega) _; (repeat first | with_reducible exact hb | refine Below.drewN ?_ _)
          have kR5 : Bk w5 g 79 (rdC (some ⟨gf, 0, none⟩) fl.length c i false (some ⟨gw, 0, none⟩) ws.length cw G q (lf - s0) (dOp (ws.map Ld.xs))) := by subst hV; refine Bk.set_ (cs := rdC (some ⟨gf, 0, none⟩) fl.length c i false (some ⟨gw, 0, none⟩) ws.length cw G q lf (dOp (ws.map Ld.xs))) ?_ 6 _; refine Bk.far ?_ (by dsimp only; omega) _; exact kR
          have kG5 : Bk w5 G 3 (ints (went.set i (n0 + k))) := by subst hV; refine Bk.far (Bk.far ?_ (by dsimp only; omega) _) (by dsimp only; omega) _; exact kG
          have own5 : w5.ownsRow bF 70 3 (.slice (some ⟨gf, 0, none⟩) fl.length c) fl.length (flR (fl.set i ⟨f.id, f.wt, df - s0⟩)) := by
            subst hV
            have h9 := flR_set (fl.set i ⟨f.id, f.wt, df⟩) i (df - s0) (by rw [List.length_set]; exact hat)
            rw [List.getElem_set_self, List.set_set] at h9
            refine own_far ?_ (by dsimp only; omega) _
            rw [← h9]
            refine (World.ownsRow.stored ?_ _ _).1
            exact own
          have ownW5 : w5.ownsRow bW 35 1 (.slice (some ⟨gw, 0, none⟩) ws.length cw) ws.length (wtR (ws.set i ⟨x.id, some sd, c', s0 :: r0⟩)) := by subst hV; refine own_far (own_far ?_ (by dsimp only; omega) _) (by dsimp only; omega) _; exact ownW
          have hrz5 : Rd w5 base (some sd) (ints (s0 :: r0)) := hrz.below (by subst hV; refine Below.setCell (Below.setCell ?_ (by dsimp only; omega) _) (by dsimp only; omega) _; (repeat first | with_reducible exact Below.refl base wr | refine Below.drewN ?_ _))
          (try clear kR_0 kR_f0 kR_1 kR_f1 kR_2 kR_f2 kR_3 kR_f3 kR_4 kR_f4 kR_5 kR_f5 kR_6 kR_f6 kR_7 kR_f7 lt_kR)
          have hmeas : rowLenAt wr ⟨gw, i, none⟩ = r0.length + 1 := rowLenAt_of c3
          clear hV c2 c2f c3 c3f c4 c4f hs0 hs0' kR kG own ownW hrz hb lg lG lf1 lw1
          have lg : g < w5.heap.size := kR5.lt
          have lG : G < w5.heap.size := kG5.lt
          have lf1 := (own5.lt gf rfl).2
          have lw1 := (ownW5.lt gw rfl).2
          have c4 : w5.cell? ⟨G, i, none⟩ = some (.int .i64 (n0 + k)) := by rw [kG5.cell]; simp [ints, hig]
          have c4f := kG5.frozen i
          have kR5_0 := kR5.cell 0; have kR5_f0 := kR5.frozen 0; have kR5_1 := kR5.cell 1; have kR5_f1 := kR5.frozen 1; have kR5_2 := kR5.cell 2; have kR5_f2 := kR5.frozen 2; have kR5_3 := kR5.cell 3; have kR5_f3 := kR5.frozen 3; have kR5_4 := kR5.cell 4; have kR5_f4 := kR5.frozen 4; have kR5_5 := kR5.cell 5; have kR5_f5 := kR5.frozen 5; have kR5_6 := kR5.cell 6; have kR5_f6 := kR5.frozen 6; have kR5_7 := kR5.cell 7; have kR5_f7 := kR5.frozen 7; simp only [List.set_cons_zero, List.set_cons_succ, List.getElem?_cons_zero, List.getElem?_cons_succ] at kR5_0 kR5_1 kR5_2 kR5_3 kR5_4 kR5_5 kR5_6 kR5_7; have lt_kR5 := kR5.lt
          go_still_tail 12, (by kernel_rfl)
          change wpList _ _ _ _ _ w5.drew
          go_wp2
          generalize hV : World.drew _ = w6
          have hb6 : Below base w w6 := by subst hV; exact Below.drew (Below.setCell hb5 (by dsimp only; omega) _)
          have kR6 : Bk w6 g 79 (rdC (some ⟨gf, 0, none⟩) fl.length c i false (some ⟨gw, 0, none⟩) ws.length cw G q (lf - s0) (dOp (ws.map Ld.xs))) := by subst hV; exact Bk.drew (Bk.far kR5 (by dsimp only; omega) _)
          have kG6 : Bk w6 G 3 (ints (went.set i (n0 + (k + 1 : Nat)))) := by
            subst hV
            have h9 := Bk.drew (Bk.set_ kG5 i (.int .i64 (n0 + k + 1)))
            have h10 : (ints (went.set i (n0 + k))).set i (.int .i64 (n0 + k + 1)) = ints (went.set i (n0 + (k + 1 : Nat))) := by
              unfold ints; rw [← List.map_set, List.set_set]; congr 2; push_cast; omega
            rw [h10] at h9; exact h9
          have own6 : w6.ownsRow bF 70 3 (.slice (some ⟨gf, 0, none⟩) fl.length c) fl.length (flR (fl.set i ⟨f.id, f.wt, df - s0⟩)) := by subst hV; exact World.ownsRow.drew (own_far own5 (by dsimp only; omega) _)
          have ownW6 : w6.ownsRow bW 35 1 (.slice (some ⟨gw, 0, none⟩) ws.length cw) ws.length (wtR (ws.set i ⟨x.id, some sd, c', s0 :: r0⟩)) := by subst hV; exact World.ownsRow.drew (own_far ownW5 (by dsimp only; omega) _)
          have hrz6 : Rd w6 base (some sd) (ints (s0 :: r0)) := hrz5.below (by subst hV; exact Below.drew (Below.setCell (Below.refl base w5) (by dsimp only; omega) _))
          (try clear kR5_0 kR5_f0 kR5_1 kR5_f1 kR5_2 kR5_f2 kR5_3 kR5_f3 kR5_4 kR5_f4 kR5_5 kR5_f5 kR5_6 kR5_f6 kR5_7 kR5_f7 lt_kR5)
          clear hV c4 c4f kR5 kG5 own5 ownW5 hrz5 hb5 lg lG lf1 lw1
          have lg : g < w6.heap.size := kR6.lt
          have lG : G < w6.heap.size := kG6.lt
          have lf1 := (own6.lt gf rfl).2
          have lw1 := (ownW6.lt gw rfl).2
          have c3 : w6.cell? ⟨gw, i, none⟩ = some (.slice (some sd) (r0.length + 1) c') := by rw [ownW6.cellAt i (by omega)]; simp [wtR, wtV, hiw]
          have c3f := ownW6.frozenAt i
          have kR6_0 := kR6.cell 0; have kR6_f0 := kR6.frozen 0; have kR6_1 := kR6.cell 1; have kR6_f1 := kR6.frozen 1; have kR6_2 := kR6.cell 2; have kR6_f2 := kR6.frozen 2; have kR6_3 := kR6.cell 3; have kR6_f3 := kR6.frozen 3; have kR6_4 := kR6.cell 4; have kR6_f4 := kR6.frozen 4; have kR6_5 := kR6.cell 5; have kR6_f5 := kR6.frozen 5; have kR6_6 := kR6.cell 6; have kR6_f6 := kR6.frozen 6; have kR6_7 := kR6.cell 7; have kR6_f7 := kR6.frozen 7; simp only [List.set_cons_zero, List.set_cons_succ, List.getElem?_cons_zero, List.getElem?_cons_succ] at kR6_0 kR6_1 kR6_2 kR6_3 kR6_4 kR6_5 kR6_6 kR6_7; have lt_kR6 := kR6.lt
          obtain ⟨A2, hA2, hsl1, hsl2⟩ := tail_run sd r0.length c' (by omega)
          go_still_tail 21, (by kernel_rfl)
          change wpList _ _ _ _ _ w6.drew
          clear hsl1 hsl2
          go_wp2
          generalize hV : World.drew _ = w7
          have hb7 : Below base w w7 := by subst hV; exact Below.drew (Below.setCell hb6 (by dsimp only; omega) _)
          have hb67 : Below base w6 w7 := by subst hV; exact Below.drew (Below.setCell (Below.refl base w6) (by dsimp only; omega) _)
          have kR7 : Bk w7 g 79 (rdC (some ⟨gf, 0, none⟩) fl.length c i false (some ⟨gw, 0, none⟩) ws.length cw G q (lf - s0) (dOp (ws.map Ld.xs))) := by subst hV; exact Bk.drew (Bk.far kR6 (by dsimp only; omega) _)
          have kG7 : Bk w7 G 3 (ints (went.set i (n0 + (k + 1 : Nat)))) := by subst hV; exact Bk.drew (Bk.far kG6 (by dsimp only; omega) _)
          have own7 : w7.ownsRow bF 70 3 (.slice (some ⟨gf, 0, none⟩) fl.length c) fl.length (flR (fl.set i ⟨f.id, f.wt, df - s0⟩)) := by
            subst hV
            refine World.ownsRow.drew (own6.kept (row := some gw) (World.ownsRow.stored ownW6 _ _).2 (.inr ?_))
            intro e
            have : gf = gw := by simpa [Value.ownBlock] using e
            omega
          have ownW7 : w7.ownsRow bW 35 1 (.slice (some ⟨gw, 0, none⟩) ws.length cw) ws.length (wtR (ws.set i ⟨x.id, A2, c' - 1, r0⟩)) := by
            subst hV
            have h9 := wtR_set (ws.set i ⟨x.id, some sd, c', s0 :: r0⟩) i ⟨x.id, A2, c' - 1, r0⟩
            rw [List.set_set] at h9
            rw [← h9]
            exact World.ownsRow.drew (World.ownsRow.stored ownW6 _ _).1
          have hr7 : Rd w7 base A2 (ints r0) := by
            rcases hA2 with ⟨_, e⟩ | e
            · have : r0 = [] := List.eq_nil_of_length_eq_zero (by omega)
              rw [this]; exact Rd.nil
            · rw [e]; exact (hrz6.drop 1).below hb67
          have hk1 : k < x.xs.length := by
            have h9 : (x.xs.drop k).length = r0.length + 1 := by rw [← HZ.out]; rfl
            rw [List.length_drop] at h9; omega
          have hd1 : r0 = x.xs.drop (k + 1) := by
            have h9 : (x.xs.drop k).drop 1 = x.xs.drop (k + 1) := by rw [List.drop_drop]
            rw [← h9, ← HZ.out]; rfl
          have hm7 : rowLenAt w7 ⟨gw, i, none⟩ = r0.length := rowLenAt_of (A := A2) (c := c' - 1) (by rw [ownW7.cellAt i (by omega)]; simp [wtR, wtV, hiw])
          exact ⟨⟨k + 1, r0, A2, c' - 1, df - s0, lf - s0, hd1, hk1, by
            show _ = _
            rw [hG2.out, tGo_step (by omega) (by omega)]
            simp only [Prod.mk.injEq, true_and, and_true]; omega, by omega, by omega, hr7, by omega, kR7, kG7, own7, ownW7, hb7⟩, by rw [hm7, hmeas]; omega⟩
    · have hd1 := HDF.out.symm
      rw [if_pos rfl] at hd1
      have hd0 : 0 ≤ df0 ∧ df0 ≤ 1073741824 := by omega
      go_wp2
      generalize hV : World.drewN _ _ = w3
      have hb3 : Below base w w3 := by subst hV; (repeat first | with_reducible exact Below.refl base w | refine Below.drewN ?_ _)
      have kR3 : Bk w3 g 79 (rdC (some ⟨gf, 0, none⟩) fl.length c i true (some ⟨gw, 0, none⟩) ws.length cw G q left (dOp (ws.map Ld.xs))) := by subst hV; exact kR
      have kG3 : Bk w3 G 3 (ints went) := by subst hV; exact kG
      have own3 : w3.ownsRow bF 70 3 (.slice (some ⟨gf, 0, none⟩) fl.length c) fl.length (flR (fl.set i ⟨f.id, f.wt, df0⟩)) := by
        subst hV
        have := List.set_getElem_self hat
        rw [hf] at this
        rw [← hd1, show fl.set i ⟨f.id, f.wt, f.df⟩ = fl from this]
        exact own
      have ownW3 : w3.ownsRow bW 35 1 (.slice (some ⟨gw, 0, none⟩) ws.length cw) ws.length (wtR ws) := by subst hV; exact ownW
      (try clear kR_0 kR_f0 kR_1 kR_f1 kR_2 kR_f2 kR_3 kR_f3 kR_4 kR_f4 kR_5 kR_f5 kR_6 kR_f6 kR_7 kR_f7 lt_kR)
      clear hV kR kG own ownW c1 c2 c2f c3 c3f
      go_loopw [4] (fun sz wr => ∃ k zs A' c' df lf, zs = x.xs.drop k ∧ k ≤ x.xs.length ∧ Hid (tGo df0 left x.xs = ((tGo df lf zs).1, (tGo df lf zs).2.1, (tGo df lf zs).2.2.1 + k, (tGo df lf zs).2.2.2)) ∧ (0 ≤ df ∧ df ≤ 1073741824) ∧ (0 ≤ lf ∧ lf ≤ 1048576) ∧ Rd wr base A' (ints zs) ∧ zs.length ≤ c' ∧
        Bk wr g 79 (rdC (some ⟨gf, 0, none⟩) fl.length c i true (some ⟨gw, 0, none⟩) ws.length cw G q lf (dOp (ws.map Ld.xs))) ∧ Bk wr G 3 (ints (went.set i (n0 + k))) ∧ wr.ownsRow bF 70 3 (.slice (some ⟨gf, 0, none⟩) fl.length c) fl.length (flR (fl.set i ⟨f.id, f.wt, df⟩)) ∧ wr.ownsRow bW 35 1 (.slice (some ⟨gw, 0, none⟩) ws.length cw) ws.length (wtR (ws.set i ⟨x.id, A', c', zs⟩)) ∧ Below base w wr) (fun _ wr => rowLenAt wr ⟨gw, i, none⟩)
      case atStart => exact ⟨0, x.xs, x.A, x.c, df0, left, rfl, Nat.zero_le _, rfl, hd0, hleft, hri.1.below hb3, hri.2, kR3, by have := List.set_getElem_self hig; rw [hn0] at this; simpa [this] using kG3, own3, by have := List.set_getElem_self hiw; rw [hx] at this; rw [this]; exact ownW3, hb3⟩
      case round =>
        obtain ⟨k, zs, A', c', df, lf, hzs, hk, hG2, hdf, hlf, hrz, hzc, kR, kG, own, ownW, hb⟩ := hrel
        clear kR3 kG3 own3 ownW3 hb3
        have HZ := hide hzs
        clear hzs
        have lg : g < wr.heap.size := kR.lt
        have lG : G < wr.heap.size := kG.lt
        have lf1 := (own.lt gf rfl).2
        have lw1 := (ownW.lt gw rfl).2
        have c2 : wr.cell? ⟨gf, i * 3 + 2, none⟩ = some (.int .i64 df) := by
          rw [own.cellAt (i * 3 + 2) (by omega), (flR_get _ i (by rw [List.length_set]; exact hat)).2.2]; simp
        have c2f := own.frozenAt (i * 3 + 2)
        have c3 : wr.cell? ⟨gw, i, none⟩ = some (.slice A' zs.length c') := by rw [ownW.cellAt i (by omega)]; simp [wtR, wtV, hiw]
        have c3f := ownW.frozenAt i
        have c4 : wr.cell? ⟨G, i, none⟩ = some (.int .i64 (n0 + k)) := by rw [kG.cell]; simp [ints, hig]
        have c4f := kG.frozen i
        have kR_0 := kR.cell 0; have kR_f0 := kR.frozen 0; have kR_1 := kR.cell 1; have kR_f1 := kR.frozen 1; have kR_2 := kR.cell 2; have kR_f2 := kR.frozen 2; have kR_3 := kR.cell 3; have kR_f3 := kR.frozen 3; have kR_4 := kR.cell 4; have kR_f4 := kR.frozen 4; have kR_5 := kR.cell 5; have kR_f5 := kR.frozen 5; have kR_6 := kR.cell 6; have kR_f6 := kR.frozen 6; have kR_7 := kR.cell 7; have kR_f7 := kR.frozen 7; simp only [List.set_cons_zero, List.set_cons_succ, List.getElem?_cons_zero, List.getElem?_cons_succ] at kR_0 kR_1 kR_2 kR_3 kR_4 kR_5 kR_6 kR_7; have lt_kR := kR.lt
        rcases zs with _ | ⟨s0, r0⟩
        · go_wp2
          go_quiet (fail)
          go_wp2
          go_ret
          have hkx : k = x.xs.length := by
            have h9 : (x.xs.drop k).length = 0 := by rw [← HZ.out]; rfl
            rw [List.length_drop] at h9; omega
          have hr2 : R = (⟨fl.set i ⟨f.id, f.wt, 0⟩, i, true, (ws.map Ld.xs).set i [], went.set i (n0 + k), lf⟩, false) := by
            have e9 : tGo df0 left x.xs = (df, lf, k, 0) := by rw [hG2.out, tGo]; simp
            rw [hr.out, e9]; unfold dTurned; dsimp only; rw [← HZ.out]; rfl
          have hop2 := hSo2 []
          rw [if_pos rfl] at hop2
          generalize hV : World.setCell (World.setCell _ _ _) _ _ = w5
          have hb5 : Below base w w5 := by subst hV; refine Below.setCell (Below.setCell ?_ (by dsimp only; omega) _) (by dsimp only; omega) _; (repeat first | with_reducible exact hb | refine Below.drewN ?_ _)
          have kR5 : Bk w5 g 79 (rdC (some ⟨gf, 0, none⟩) fl.length c i true (some ⟨gw, 0, none⟩) ws.length cw G q lf (dOp (ws.map Ld.xs) - 1)) := by subst hV; refine Bk.set_ (cs := rdC (some ⟨gf, 0, none⟩) fl.length c i true (some ⟨gw, 0, none⟩) ws.length cw G q lf (dOp (ws.map Ld.xs))) ?_ 7 _; refine Bk.far ?_ (by dsimp only; omega) _; exact kR
          have kG5 : Bk w5 G 3 (ints (went.set i (n0 + k))) := by subst hV; refine Bk.far (Bk.far ?_ (by dsimp only; omega) _) (by dsimp only; omega) _; exact kG
          have own5 : w5.ownsRow bF 70 3 (.slice (some ⟨gf, 0, none⟩) fl.length c) fl.length (flR (fl.set i ⟨f.id, f.wt, 0⟩)) := by
            subst hV
            have h9 := flR_set (fl.set i ⟨f.id, f.wt, df⟩) i 0 (by rw [List.length_set]; exact hat)
            rw [List.getElem_set_self, List.set_set] at h9
            refine own_far ?_ (by dsimp only; omega) _
            rw [← h9]
            refine (World.ownsRow.stored ?_ _ _).1
            exact own
          have ownW5 : w5.ownsRow bW 35 1 (.slice (some ⟨gw, 0, none⟩) ws.length cw) ws.length (wtR (ws.set i ⟨x.id, A', c', []⟩)) := by subst hV; refine own_far (own_far ?_ (by dsimp only; omega) _) (by dsimp only; omega) _; exact ownW
          rw [← hop2] at kR5
          refine ⟨by rw [hr2]; rfl, ?_, hb5⟩
          rw [hr2]
          refine Rs.of fl.length ws.length (List.length_set ..) (ws.set i ⟨x.id, A', c', []⟩) (by rw [List.map_set]) (List.length_set ..) kR5 kG5 own5 ownW5 hG hGg hgF hFW hfw ?_
          intro y hy
          rcases List.mem_or_eq_of_mem_set hy with hy | rfl
          · exact ⟨(HRD.out y hy).1.below hb5, (HRD.out y hy).2⟩
          · exact ⟨Rd.nil, by simp⟩
        · obtain ⟨sd, rfl, hsdb, hs0⟩ := Rd.in hrz (k := 0) (by simp)
          have hs1 : 1 ≤ s0 ∧ s0 ≤ 128 := hxi.2 s0 (List.mem_of_mem_drop (i := k) (HZ.out ▸ List.mem_cons_self ..))
          rw [List.getElem_cons_zero] at hs0
          have hs0' : wr.cell? sd = some (.int .i64 s0) := by simpa [Addr.add] using hs0
          rw [List.length_cons] at c3 hzc
          have hcc : (1 : Int) ≤ (c' : Int) := by omega
          go_wp2
          go_quiet (fail)
          go_wp2
          go_quiet (fail)
          by_cases h1 : df < s0
          · go_wp2
            go_ret
            have hr2 : R = (⟨fl.set i ⟨f.id, f.wt, df⟩, i, true, (ws.map Ld.xs).set i (s0 :: r0), went.set i (n0 + k), lf⟩, false) := by
              have e9 : tGo df0 left x.xs = (df, lf, k, 1) := by rw [hG2.out, tGo, if_pos h1]; simp
              rw [hr.out, e9]; unfold dTurned; dsimp only; rw [← HZ.out]; rfl
            have hop2 := hSo2 (s0 :: r0)
            rw [if_neg (by simp)] at hop2
            generalize hV : World.drewN _ _ = w5
            have hb5 : Below base w w5 := by subst hV; (repeat first | with_reducible exact hb | refine Below.drewN ?_ _)
            have kR5 : Bk w5 g 79 (rdC (some ⟨gf, 0, none⟩) fl.length c i true (some ⟨gw, 0, none⟩) ws.length cw G q lf (dOp ((ws.map Ld.xs).set i (s0 :: r0)))) := by subst hV; rw [hop2]; exact kR
            have kG5 : Bk w5 G 3 (ints (went.set i (n0 + k))) := by subst hV; exact kG
            have own5 : w5.ownsRow bF 70 3 (.slice (some ⟨gf, 0, none⟩) fl.length c) fl.length (flR (fl.set i ⟨f.id, f.wt, df⟩)) := by subst hV; exact own
            have ownW5 : w5.ownsRow bW 35 1 (.slice (some ⟨gw, 0, none⟩) ws.length cw) ws.length (wtR (ws.set i ⟨x.id, some sd, c', s0 :: r0⟩)) := by subst hV; exact ownW
            refine ⟨by rw [hr2]; rfl, ?_, hb5⟩
            rw [hr2]
            refine Rs.of fl.length ws.length (List.length_set ..) (ws.set i ⟨x.id, some sd, c', s0 :: r0⟩) (by rw [List.map_set]) (List.length_set ..) kR5 kG5 own5 ownW5 hG hGg hgF hFW hfw ?_
            intro y hy
            rcases List.mem_or_eq_of_mem_set hy with hy | rfl
            · exact ⟨(HRD.out y hy).1.below hb5, (HRD.out y hy).2⟩
            · exact ⟨hrz.below (by subst hV; (repeat first | with_reducible exact Below.refl base wr | refine Below.drewN ?_ _)), by simpa using hzc⟩
          by_cases h2 : lf < s0
          · go_wp2
            go_ret
            have hr2 : R = (⟨fl.set i ⟨f.id, f.wt, df⟩, i, true, (ws.map Ld.xs).set i (s0 :: r0), went.set i (n0 + k), lf⟩, true) := by
              have e9 : tGo df0 left x.xs = (df, lf, k, 2) := by rw [hG2.out, tGo, if_neg (by omega), if_pos h2]; simp
              rw [hr.out, e9]; unfold dTurned; dsimp only; rw [← HZ.out]; rfl
            have hop2 := hSo2 (s0 :: r0)
            rw [if_neg (by simp)] at hop2
            generalize hV : World.drewN _ _ = w5
            have hb5 : Below base w w5 := by subst hV; (repeat first | with_reducible exact hb | refine Below.drewN ?_ _)
            have kR5 : Bk w5 g 79 (rdC (some ⟨gf, 0, none⟩) fl.length c i true (some ⟨gw, 0, none⟩) ws.length cw G q lf (dOp ((ws.map Ld.xs).set i (s0 :: r0)))) := by subst hV; rw [hop2]; exact kR
            have kG5 : Bk w5 G 3 (ints (went.set i (n0 + k))) := by subst hV; exact kG
            have own5 : w5.ownsRow bF 70 3 (.slice (some ⟨gf, 0, none⟩) fl.length c) fl.length (flR (fl.set i ⟨f.id, f.wt, df⟩)) := by subst hV; exact own
            have ownW5 : w5.ownsRow bW 35 1 (.slice (some ⟨gw, 0, none⟩) ws.length cw) ws.length (wtR (ws.set i ⟨x.id, some sd, c', s0 :: r0⟩)) := by subst hV; exact ownW
            refine ⟨by rw [hr2]; rfl, ?_, hb5⟩
            rw [hr2]
            refine Rs.of fl.length ws.length (List.length_set ..) (ws.set i ⟨x.id, some sd, c', s0 :: r0⟩) (by rw [List.map_set]) (List.length_set ..) kR5 kG5 own5 ownW5 hG hGg hgF hFW hfw ?_
            intro y hy
            rcases List.mem_or_eq_of_mem_set hy with hy | rfl
            · exact ⟨(HRD.out y hy).1.below hb5, (HRD.out y hy).2⟩
            · exact ⟨hrz.below (by subst hV; (repeat first | with_reducible exact Below.refl base wr | refine Below.drewN ?_ _)), by simpa using hzc⟩
          have h1' : s0 ≤ df := by omega
          have h2' : s0 ≤ lf := by omega
          go_wp2
          generalize hV : World.setCell (World.setCell _ _ _) _ _ = w5
          have hb5 : Below base w w5 := by subst hV; refine Below.setCell (Below.setCell ?_ (by dsimp only; omega) _) (by dsimp only; omega) _; (repeat first | with_reducible exact hb | refine Below.drewN ?_ _)
          have kR5 : Bk w5 g 79 (rdC (some ⟨gf, 0, none⟩) fl.length c i true (some ⟨gw, 0, none⟩) ws.length cw G q (lf - s0) (dOp (ws.map Ld.xs))) := by subst hV; refine Bk.set_ (cs := rdC (some ⟨gf, 0, none⟩) fl.length c i true (some ⟨gw, 0, none⟩) ws.length cw G q lf (dOp (ws.map Ld.xs))) ?_ 6 _; refine Bk.far ?_ (by dsimp only; omega) _; exact kR
          have kG5 : Bk w5 G 3 (ints (went.set i (n0 + k))) := by subst hV; refine Bk.far (Bk.far ?_ (by dsimp only; omega) _) (by dsimp only; omega) _; exact kG
          have own5 : w5.ownsRow bF 70 3 (.slice (some ⟨gf, 0, none⟩) fl.length c) fl.length (flR (fl.set i ⟨f.id, f.wt, df - s0⟩)) := by
            subst hV
            have h9 := flR_set (fl.set i ⟨f.id, f.wt, df⟩) i (df - s0) (by rw [List.length_set]; exact hat)
            rw [List.getElem_set_self, List.set_set] at h9
            refine own_far ?_ (by dsimp only; omega) _
            rw [← h9]
            refine (World.ownsRow.stored ?_ _ _).1
            exact own
          have ownW5 : w5.ownsRow bW 35 1 (.slice (some ⟨gw, 0, none⟩) ws.length cw) ws.length (wtR (ws.set i ⟨x.id, some sd, c', s0 :: r0⟩)) := by subst hV; refine own_far (own_far ?_ (by dsimp only; omega) _) (by dsimp only; omega) _; exact ownW
          have hrz5 : Rd w5 base (some sd) (ints (s0 :: r0)) := hrz.below (by subst hV; refine Below.setCell (Below.setCell ?_ (by dsimp only; omega) _) (by dsimp only; omega) _; (repeat first | with_reducible exact Below.refl base wr | refine Below.drewN ?_ _))
          (try clear kR_0 kR_f0 kR_1 kR_f1 kR_2 kR_f2 kR_3 kR_f3 kR_4 kR_f4 kR_5 kR_f5 kR_6 kR_f6 kR_7 kR_f7 lt_kR)
          have hmeas : rowLenAt wr ⟨gw, i, none⟩ = r0.length + 1 := rowLenAt_of c3
          clear hV c2 c2f c3 c3f c4 c4f hs0 hs0' kR kG own ownW hrz hb lg lG lf1 lw1
          have lg : g < w5.heap.size := kR5.lt
          have lG : G < w5.heap.size := kG5.lt
          have lf1 := (own5.lt gf rfl).2
          have lw1 := (ownW5.lt gw rfl).2
          have c4 : w5.cell? ⟨G, i, none⟩ = some (.int .i64 (n0 + k)) := by rw [kG5.cell]; simp [ints, hig]
          have c4f := kG5.frozen i
          have kR5_0 := kR5.cell 0; have kR5_f0 := kR5.frozen 0; have kR5_1 := kR5.cell 1; have kR5_f1 := kR5.frozen 1; have kR5_2 := kR5.cell 2; have kR5_f2 := kR5.frozen 2; have kR5_3 := kR5.cell 3; have kR5_f3 := kR5.frozen 3; have kR5_4 := kR5.cell 4; have kR5_f4 := kR5.frozen 4; have kR5_5 := kR5.cell 5; have kR5_f5 := kR5.frozen 5; have kR5_6 := kR5.cell 6; have kR5_f6 := kR5.frozen 6; have kR5_7 := kR5.cell 7; have kR5_f7 := kR5.frozen 7; simp only [List.set_cons_zero, List.set_cons_succ, List.getElem?_cons_zero, List.getElem?_cons_succ] at kR5_0 kR5_1 kR5_2 kR5_3 kR5_4 kR5_5 kR5_6 kR5_7; have lt_kR5 := kR5.lt
          go_still_tail 12, (by kernel_rfl)
          change wpList _ _ _ _ _ w5.drew
          go_wp2
          generalize hV : World.drew _ = w6
          have hb6 : Below base w w6 := by subst hV; exact Below.drew (Below.setCell hb5 (by dsimp only; omega) _)
          have kR6 : Bk w6 g 79 (rdC (some ⟨gf, 0, none⟩) fl.length c i true (some ⟨gw, 0, none⟩) ws.length cw G q (lf - s0) (dOp (ws.map Ld.xs))) := by subst hV; exact Bk.drew (Bk.far kR5 (by dsimp only; omega) _)
          have kG6 : Bk w6 G 3 (ints (went.set i (n0 + (k + 1 : Nat)))) := by
            subst hV
            have h9 := Bk.drew (Bk.set_ kG5 i (.int .i64 (n0 + k + 1)))
            have h10 : (ints (went.set i (n0 + k))).set i (.int .i64 (n0 + k + 1)) = ints (went.set i (n0 + (k + 1 : Nat))) := by
              unfold ints; rw [← List.map_set, List.set_set]; congr 2; push_cast; omega
            rw [h10] at h9; exact h9
          have own6 : w6.ownsRow bF 70 3 (.slice (some ⟨gf, 0, none⟩) fl.length c) fl.length (flR (fl.set i ⟨f.id, f.wt, df - s0⟩)) := by subst hV; exact World.ownsRow.drew (own_far own5 (by dsimp only; omega) _)
          have ownW6 : w6.ownsRow bW 35 1 (.slice (some ⟨gw, 0, none⟩) ws.length cw) ws.length (wtR (ws.set i ⟨x.id, some sd, c', s0 :: r0⟩)) := by subst hV; exact World.ownsRow.drew (own_far ownW5 (by dsimp only; omega) _)
          have hrz6 : Rd w6 base (some sd) (ints (s0 :: r0)) := hrz5.below (by subst hV; exact Below.drew (Below.setCell (Below.refl base w5) (by dsimp only; omega) _))
          (try clear kR5_0 kR5_f0 kR5_1 kR5_f1 kR5_2 kR5_f2 kR5_3 kR5_f3 kR5_4 kR5_f4 kR5_5 kR5_f5 kR5_6 kR5_f6 kR5_7 kR5_f7 lt_kR5)
          clear hV c4 c4f kR5 kG5 own5 ownW5 hrz5 hb5 lg lG lf1 lw1
          have lg : g < w6.heap.size := kR6.lt
          have lG : G < w6.heap.size := kG6.lt
          have lf1 := (own6.lt gf rfl).2
          have lw1 := (ownW6.lt gw rfl).2
          have c3 : w6.cell? ⟨gw, i, none⟩ = some (.slice (some sd) (r0.length + 1) c') := by rw [ownW6.cellAt i (by omega)]; simp [wtR, wtV, hiw]
          have c3f := ownW6.frozenAt i
          have kR6_0 := kR6.cell 0; have kR6_f0 := kR6.frozen 0; have kR6_1 := kR6.cell 1; have kR6_f1 := kR6.frozen 1; have kR6_2 := kR6.cell 2; have kR6_f2 := kR6.frozen 2; have kR6_3 := kR6.cell 3; have kR6_f3 := kR6.frozen 3; have kR6_4 := kR6.cell 4; have kR6_f4 := kR6.frozen 4; have kR6_5 := kR6.cell 5; have kR6_f5 := kR6.frozen 5; have kR6_6 := kR6.cell 6; have kR6_f6 := kR6.frozen 6; have kR6_7 := kR6.cell 7; have kR6_f7 := kR6.frozen 7; simp only [List.set_cons_zero, List.set_cons_succ, List.getElem?_cons_zero, List.getElem?_cons_succ] at kR6_0 kR6_1 kR6_2 kR6_3 kR6_4 kR6_5 kR6_6 kR6_7; have lt_kR6 := kR6.lt
          obtain ⟨A2, hA2, hsl1, hsl2⟩ := tail_run sd r0.length c' (by omega)
          go_still_tail 21, (by kernel_rfl)
          change wpList _ _ _ _ _ w6.drew
          clear hsl1 hsl2
          go_wp2
          generalize hV : World.drew _ = w7
          have hb7 : Below base w w7 := by subst hV; exact Below.drew (Below.setCell hb6 (by dsimp only; omega) _)
          have hb67 : Below base w6 w7 := by subst hV; exact Below.drew (Below.setCell (Below.refl base w6) (by dsimp only; omega) _)
          have kR7 : Bk w7 g 79 (rdC (some ⟨gf, 0, none⟩) fl.length c i true (some ⟨gw, 0, none⟩) ws.length cw G q (lf - s0) (dOp (ws.map Ld.xs))) := by subst hV; exact Bk.drew (Bk.far kR6 (by dsimp only; omega) _)
          have kG7 : Bk w7 G 3 (ints (went.set i (n0 + (k + 1 : Nat)))) := by subst hV; exact Bk.drew (Bk.far kG6 (by dsimp only; omega) _)
          have own7 : w7.ownsRow bF 70 3 (.slice (some ⟨gf, 0, none⟩) fl.length c) fl.length (flR (fl.set i ⟨f.id, f.wt, df - s0⟩)) := by
            subst hV
            refine World.ownsRow.drew (own6.kept (row := some gw) (World.ownsRow.stored ownW6 _ _).2 (.inr ?_))
            intro e
            have : gf = gw := by simpa [Value.ownBlock] using e
            omega
          have ownW7 : w7.ownsRow bW 35 1 (.slice (some ⟨gw, 0, none⟩) ws.length cw) ws.length (wtR (ws.set i ⟨x.id, A2, c' - 1, r0⟩)) := by
            subst hV
            have h9 := wtR_set (ws.set i ⟨x.id, some sd, c', s0 :: r0⟩) i ⟨x.id, A2, c' - 1, r0⟩
            rw [List.set_set] at h9
            rw [← h9]
            exact World.ownsRow.drew (World.ownsRow.stored ownW6 _ _).1
          have hr7 : Rd w7 base A2 (ints r0) := by
            rcases hA2 with ⟨_, e⟩ | e
            · have : r0 = [] := List.eq_nil_of_length_eq_zero (by omega)
              rw [this]; exact Rd.nil
            · rw [e]; exact (hrz6.drop 1).below hb67
          have hk1 : k < x.xs.length := by
            have h9 : (x.xs.drop k).length = r0.length + 1 := by rw [← HZ.out]; rfl
            rw [List.length_drop] at h9; omega
          have hd1 : r0 = x.xs.drop (k + 1) := by
            have h9 : (x.xs.drop k).drop 1 = x.xs.drop (k + 1) := by rw [List.drop_drop]
            rw [← h9, ← HZ.out]; rfl
          have hm7 : rowLenAt w7 ⟨gw, i, none⟩ = r0.length := rowLenAt_of (A := A2) (c := c' - 1) (by rw [ownW7.cellAt i (by omega)]; simp [wtR, wtV, hiw])
          exact ⟨⟨k + 1, r0, A2, c' - 1, df - s0, lf - s0, hd1, hk1, by
            show _ = _
            rw [hG2.out, tGo_step (by omega) (by omega)]
            simp only [Prod.mk.injEq, true_and, and_true]; omega, by omega, by omega, hr7, by omega, kR7, kG7, own7, ownW7, hb7⟩, by rw [hm7, hmeas]; omega⟩
end Go.Proofs.Yteblbleehnkcmaa
