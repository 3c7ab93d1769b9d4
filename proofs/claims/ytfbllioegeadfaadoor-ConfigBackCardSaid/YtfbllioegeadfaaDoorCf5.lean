/- Package config: Parse, Usual, Same. -/
import Derived.Test.YtfbllioegeadfaaDoorCf4
namespace Go.Proofs.YtfbllioegeadfaaDoor
open Go.RowKit
set_option linter.unusedSimpArgs false
set_option linter.unusedVariables false

def zCC : CC := ⟨⟨0, 0, 0, 0, fun _ => 0, fun _ => 0, 0, fun _ => 0, fun _ => 0⟩, 0, 0, 0, 0, 0⟩
/-- the config of 24 numbers, in the text's order -/
def ofL (l : List Int) : CC := ⟨⟨l.getD 5 0, l.getD 6 0, l.getD 7 0, l.getD 8 0, fun k => l.getD (9 + k) 0, fun k => l.getD (12 + k) 0, l.getD 15 0, fun k => l.getD (16 + k) 0, fun k => l.getD (20 + k) 0⟩, l.getD 0 0, l.getD 1 0, l.getD 2 0, l.getD 3 0, l.getD 4 0⟩
/-- a config's numbers, in the text's order -/
def rowL (c : CC) : List Int := [c.ce, c.qu, c.tot, c.ba, c.cr, c.a.ab, c.a.ar, c.a.eb, c.a.er, c.a.up 0, c.a.up 1, c.a.up 2, c.a.dn 0, c.a.dn 1, c.a.dn 2, c.a.hold, c.a.lo 0, c.a.lo 1, c.a.lo 2, c.a.lo 3, c.a.hi 0, c.a.hi 1, c.a.hi 2, c.a.hi 3]
theorem cons_of {n : Nat} {l : List Int} (h : l.length = n + 1) : ∃ a t, l = a :: t ∧ t.length = n := by
  cases l with
  | nil => cases h
  | cons a t => exact ⟨a, t, rfl, Nat.succ.inj h⟩
theorem list24 {l : List Int} (h : l.length = 24) : ∃ a0 a1 a2 a3 a4 a5 a6 a7 a8 a9 a10 a11 a12 a13 a14 a15 a16 a17 a18 a19 a20 a21 a22 a23 : Int, l = [a0, a1, a2, a3, a4, a5, a6, a7, a8, a9, a10, a11, a12, a13, a14, a15, a16, a17, a18, a19, a20, a21, a22, a23] := by
  obtain ⟨a0, t0, e0, h0⟩ := cons_of h
  obtain ⟨a1, t1, e1, h1⟩ := cons_of h0
  obtain ⟨a2, t2, e2, h2⟩ := cons_of h1
  obtain ⟨a3, t3, e3, h3⟩ := cons_of h2
  obtain ⟨a4, t4, e4, h4⟩ := cons_of h3
  obtain ⟨a5, t5, e5, h5⟩ := cons_of h4
  obtain ⟨a6, t6, e6, h6⟩ := cons_of h5
  obtain ⟨a7, t7, e7, h7⟩ := cons_of h6
  obtain ⟨a8, t8, e8, h8⟩ := cons_of h7
  obtain ⟨a9, t9, e9, h9⟩ := cons_of h8
  obtain ⟨a10, t10, e10, h10⟩ := cons_of h9
  obtain ⟨a11, t11, e11, h11⟩ := cons_of h10
  obtain ⟨a12, t12, e12, h12⟩ := cons_of h11
  obtain ⟨a13, t13, e13, h13⟩ := cons_of h12
  obtain ⟨a14, t14, e14, h14⟩ := cons_of h13
  obtain ⟨a15, t15, e15, h15⟩ := cons_of h14
  obtain ⟨a16, t16, e16, h16⟩ := cons_of h15
  obtain ⟨a17, t17, e17, h17⟩ := cons_of h16
  obtain ⟨a18, t18, e18, h18⟩ := cons_of h17
  obtain ⟨a19, t19, e19, h19⟩ := cons_of h18
  obtain ⟨a20, t20, e20, h20⟩ := cons_of h19
  obtain ⟨a21, t21, e21, h21⟩ := cons_of h20
  obtain ⟨a22, t22, e22, h22⟩ := cons_of h21
  obtain ⟨a23, t23, e23, h23⟩ := cons_of h22
  have e24 := List.eq_nil_of_length_eq_zero h23
  subst e24 e23 e22 e21 e20 e19 e18 e17 e16 e15 e14 e13 e12 e11 e10 e9 e8 e7 e6 e5 e4 e3 e2 e1 e0
  exact ⟨_, _, _, _, _, _, _, _, _, _, _, _, _, _, _, _, _, _, _, _, _, _, _, _, rfl⟩
theorem layM24 (a0 a1 a2 a3 a4 a5 a6 a7 a8 a9 a10 a11 a12 a13 a14 a15 a16 a17 a18 a19 a20 a21 a22 a23 : Int) : layM zCC.C 0 [a0, a1, a2, a3, a4, a5, a6, a7, a8, a9, a10, a11, a12, a13, a14, a15, a16, a17, a18, a19, a20, a21, a22, a23] = (ofL [a0, a1, a2, a3, a4, a5, a6, a7, a8, a9, a10, a11, a12, a13, a14, a15, a16, a17, a18, a19, a20, a21, a22, a23]).C := by kernel_rfl
theorem row24 (a0 a1 a2 a3 a4 a5 a6 a7 a8 a9 a10 a11 a12 a13 a14 a15 a16 a17 a18 a19 a20 a21 a22 a23 : Int) : rowL (ofL [a0, a1, a2, a3, a4, a5, a6, a7, a8, a9, a10, a11, a12, a13, a14, a15, a16, a17, a18, a19, a20, a21, a22, a23]) = [a0, a1, a2, a3, a4, a5, a6, a7, a8, a9, a10, a11, a12, a13, a14, a15, a16, a17, a18, a19, a20, a21, a22, a23] := by kernel_rfl
theorem layM_of (l : List Int) (h : l.length = 24) : layM zCC.C 0 l = (ofL l).C := by
  obtain ⟨a0, a1, a2, a3, a4, a5, a6, a7, a8, a9, a10, a11, a12, a13, a14, a15, a16, a17, a18, a19, a20, a21, a22, a23, rfl⟩ := list24 h
  exact layM24 ..
theorem rowL_of (l : List Int) (h : l.length = 24) : rowL (ofL l) = l := by
  obtain ⟨a0, a1, a2, a3, a4, a5, a6, a7, a8, a9, a10, a11, a12, a13, a14, a15, a16, a17, a18, a19, a20, a21, a22, a23, rfl⟩ := list24 h
  exact row24 ..
theorem ofL_row (c : CC) : (ofL (rowL c)).C = c.C := rfl
theorem cFd_ok : FdOk cFd := ⟨by decide, by decide, by decide, fun p hp => by
  have h : ∀ p ∈ pxs cFd, p ≠ [] ∧ (p.head?.all fun b => !isD b) = true := by decide
  obtain ⟨h1, h2⟩ := h p hp
  exact ⟨h1, fun b hb => by rw [hb] at h2; simpa using h2⟩⟩
theorem read_len {s : Tx} {l : List Int} (h : oRead cFd (spl 59 s) = some l) : l.length = 24 := by
  rw [own_ref cFd_ok] at h
  rw [(read_text h).2]; decide
def cParse (s : Tx) : CC × Int := match oRead cFd (spl 59 s) with
  | none => (zCC, 4)
  | some l => if cCheck (ofL l) = 0 then (ofL l, 0) else (zCC, cCheck (ofL l))
theorem results_row_tmp {P : Program} {fn : Func} {p u : Tmp} {ty : TypeId} (h : fn.results = #[.cell p ty, .tmp u]) (tmps : Array Value) (w : World) (g : Nat) (t : TypeId) (cs : List Value) (d : TypeDesc)
    (hp : tmps.getD p undef = .pointer (some ⟨g, 0, none⟩)) (hg : Bk w g t cs)
    (hu : P.underlying ty = some d) (hd : (match d with | .struct _ | .array _ _ => true | _ => false) = true) (hi : (P.info? ty).map (·.size) = some cs.toArray.size) :
    (results fn tmps).run P w = .ok (.tuple #[.agg cs.toArray, tmps.getD u undef]) w := by
  have hp' : tmps[p]?.getD undef = .pointer (some ⟨g, 0, none⟩) := by simpa using hp
  simp [results, h, hp', asAddr, run_loadVar_row w g t ty cs.toArray (0, 0) d hg hu hd hi]
theorem results_row_val {P : Program} {fn : Func} {p u : Tmp} {ty : TypeId} (h : fn.results = #[.cell p ty, .tmp u]) (tmps : Array Value) (w : World) (g : Nat) (t : TypeId) (cs : List Value) (d : TypeDesc) (v : Value)
    (hp : tmps.getD p undef = .pointer (some ⟨g, 0, none⟩)) (hq : tmps.getD u undef = v) (hg : Bk w g t cs)
    (hu : P.underlying ty = some d) (hd : (match d with | .struct _ | .array _ _ => true | _ => false) = true) (hi : (P.info? ty).map (·.size) = some cs.toArray.size) :
    (results fn tmps).run P w = .ok (.tuple #[.agg cs.toArray, v]) w := hq ▸ results_row_tmp h tmps w g t cs d hp hg hu hd hi
theorem zCC_ints : ∀ v ∈ zCC.C, ∃ n : Int, v = .int .i64 n := fun v hv => ⟨0, by
  have h : zCC.C = List.replicate 24 (.int .i64 0) := rfl
  rw [h] at hv; exact List.eq_of_mem_replicate hv⟩
set_option maxRecDepth 100000 in
set_option maxHeartbeats 4000000 in
theorem config_Parse_any (s : ByteArray) (hs : s.size ≤ 400) (w : World) (hg : GW w) : Calls Tryd.prog 6 #[.string s] w fun e w' => e = .returned (.tuple #[(cParse s.data.toList).1.V, .int .i64 (cParse s.data.toList).2]) ∧ Below w.heap.size w w' := by
  have h2 := hg.2.2
  go_enter Tryd.func6, Tryd.ntmps6
  go_upto_region 2 with fail
  generalize hV : World.alloc (World.alloc w _) _ = w1
  have hb1 : Below w.heap.size w w1 := by subst hV; (repeat (first | with_reducible exact Below.refl _ _ | with_reducible assumption | with_reducible refine Below.drew ?_ | with_reducible refine Below.drewN ?_ _ | with_reducible refine Below.alloc1 ?_ _ | with_reducible refine Below.setCell1 ?_ (by first | omega | (simp; done) | (simp; omega)) _ | with_reducible refine Below.step ?_ (by with_reducible assumption)))
  have k0 : Bk w1 w.heap.size 34 [.int .i64 0, .int .i64 0, .int .i64 0, .int .i64 0, .int .i64 0, .int .i64 0, .int .i64 0, .int .i64 0, .int .i64 0, .int .i64 0, .int .i64 0, .int .i64 0, .int .i64 0, .int .i64 0, .int .i64 0, .int .i64 0, .int .i64 0, .int .i64 0, .int .i64 0, .int .i64 0, .int .i64 0, .int .i64 0, .int .i64 0, .int .i64 0] := by subst hV; exact (Bk.new w _ _).alloc _
  have k1 : Bk w1 (w.heap.size + 1) 34 [.int .i64 0, .int .i64 0, .int .i64 0, .int .i64 0, .int .i64 0, .int .i64 0, .int .i64 0, .int .i64 0, .int .i64 0, .int .i64 0, .int .i64 0, .int .i64 0, .int .i64 0, .int .i64 0, .int .i64 0, .int .i64 0, .int .i64 0, .int .i64 0, .int .i64 0, .int .i64 0, .int .i64 0, .int .i64 0, .int .i64 0, .int .i64 0] := by subst hV; exact Bk.new' _ _ _ _ (by simp)
  clear hV
  have hg1 := hg.step hb1
  replace k0 : Bk w1 w.heap.size 34 zCC.C := k0
  replace k1 : Bk w1 (w.heap.size + 1) 34 zCC.C := k1
  have hrd := config_read_any (w.heap.size + 1) zCC.C zCC_ints rfl s hs w1 hg1 k1 (by omega)
  go_wp2_with fail
  refine hrd.mono ?_; rintro e w2 ⟨hgr, hm⟩
  have k2 := k0.gr hgr (by omega)
  have hb2 : Below w.heap.size w w2 := hb1.trans (Gr.below hgr (by omega) (by have := hb1.size; omega))
  have HP := hide (show cParse s.data.toList = match oRead cFd (spl 59 s.data.toList) with | none => (zCC, 4) | some l => if cCheck (ofL l) = 0 then (ofL l, 0) else (zCC, cCheck (ofL l)) from rfl)
  clear k0 hgr hg hg1 hb1
  cases ho : oRead cFd (spl 59 s.data.toList) with
  | none =>
    rw [ho] at hm HP
    obtain rfl := hm
    replace HP : Hid (cParse s.data.toList = (zCC, 4)) := HP
    go_wp2_with (first | (refine wpList_store_row rfl 34 _ _ rfl _ (zCC.C).toArray rfl rfl _ _ k2 (by kernel_rfl) (by kernel_rfl) (by kernel_rfl) ?_))
    refine bodyPost_ret (v := .tuple #[zCC.V, .int .i64 4]) ?_ rfl ⟨by rw [HP.out], setRow_below hb2 (Nat.le_refl _) _⟩
    exact results_row_val rfl _ _ w.heap.size _ _ _ _ rfl rfl (k2.row zCC.C) Tryd.underlying34 rfl (by kernel_rfl)
  | some l =>
    rw [ho] at hm HP
    have hl := read_len ho
    obtain ⟨rfl, kB⟩ : e = .returned (.bool true) ∧ Bk w2 (w.heap.size + 1) 34 (layM zCC.C 0 l) := hm
    rw [layM_of l hl] at kB
    have hch := fun W => config_Check_any (ofL l) W
    clear hl
    replace HP : Hid (cParse s.data.toList = if cCheck (ofL l) = 0 then (ofL l, 0) else (zCC, cCheck (ofL l))) := HP
    generalize ofL l = c at *
    generalize cCheck c = v at *
    go_wp2_with (first | (refine wpList_load_row rfl 34 _ rfl _ rfl _ _ (0, 0) _ kB Tryd.underlying34 rfl (by kernel_rfl) ?_) | fail)
    refine (hch _).mono ?_; rintro e w3 ⟨rfl, hx⟩
    replace k2 := k2.step hx
    replace kB := kB.step hx
    have hb3 : Below w.heap.size w w3 := hb2.step hx
    have hne : w.heap.size ≠ w.heap.size + 1 := by omega
    clear hb2 hx hch hrd k1
    by_cases hv : v = 0
    · subst hv
      replace HP : Hid (cParse s.data.toList = (c, 0)) := HP
      go_wp2_with (first | (refine wpList_load_row rfl 34 _ rfl _ rfl _ _ (0, 0) _ kB Tryd.underlying34 rfl (by kernel_rfl) ?_) | (refine wpList_store_row rfl 34 _ _ rfl _ (c.C).toArray rfl rfl _ _ k2 (by kernel_rfl) (by kernel_rfl) (by kernel_rfl) ?_))
      refine bodyPost_ret (v := .tuple #[c.V, .int .i64 0]) ?_ rfl ⟨by rw [HP.out], setRow_below hb3 (Nat.le_refl _) _⟩
      exact results_row_val rfl _ _ w.heap.size _ _ _ _ rfl rfl (k2.row c.C) Tryd.underlying34 rfl (by kernel_rfl)
    · have hv2 : (v != 0) = true := by simp [hv]
      have HP2 := HP.out
      rw [if_neg hv] at HP2
      replace HP := hide HP2
      clear HP2
      go_wp2_with (first | (refine wpList_store_row rfl 34 _ _ rfl _ (zCC.C).toArray rfl rfl _ _ k2 (by kernel_rfl) (by kernel_rfl) (by kernel_rfl) ?_))
      refine bodyPost_ret (v := .tuple #[zCC.V, .int .i64 v]) ?_ rfl ⟨by rw [HP.out], setRow_below hb3 (Nat.le_refl _) _⟩
      exact results_row_val rfl _ _ w.heap.size _ _ _ _ rfl rfl (k2.row zCC.C) Tryd.underlying34 rfl (by kernel_rfl)
set_option maxRecDepth 100000 in
set_option maxHeartbeats 4000000 in
theorem config_Usual_any (w : World) : Calls Tryd.prog 13 #[] w fun e w' => e = .returned (CC.V ⟨aUsual, 2000, 256, 4096, 8, 512⟩) ∧ Below w.heap.size w w' := by
  go_enter Tryd.func13, Tryd.ntmps13
  go_upto_region 1 with fail
  generalize hV : World.alloc w _ = w1
  have hb1 : Below w.heap.size w w1 := by subst hV; (repeat (first | with_reducible exact Below.refl _ _ | with_reducible assumption | with_reducible refine Below.drew ?_ | with_reducible refine Below.drewN ?_ _ | with_reducible refine Below.alloc1 ?_ _ | with_reducible refine Below.setCell1 ?_ (by first | omega | (simp; done) | (simp; omega)) _ | with_reducible refine Below.step ?_ (by with_reducible assumption)))
  have k0 : Bk w1 w.heap.size 34 [.int .i64 0, .int .i64 0, .int .i64 0, .int .i64 0, .int .i64 0, .int .i64 0, .int .i64 0, .int .i64 0, .int .i64 0, .int .i64 0, .int .i64 0, .int .i64 0, .int .i64 0, .int .i64 0, .int .i64 0, .int .i64 0, .int .i64 0, .int .i64 0, .int .i64 0, .int .i64 0, .int .i64 0, .int .i64 0, .int .i64 0, .int .i64 0] := by subst hV; exact Bk.new' _ _ _ _ (by simp)
  clear hV
  go_wp2_with fail
  refine (admit_Usual_any _).mono ?_; rintro e x0 ⟨rfl, hx⟩
  replace k0 := k0.step hx
  replace hb1 : Below w.heap.size w x0 := hb1.step hx
  clear hx
  go_wp2_with (first | (refine wpList_store_row rfl 34 _ _ rfl _ (CC.C ⟨aUsual, 2000, 256, 4096, 8, 512⟩).toArray rfl rfl _ _ k0 (by kernel_rfl) (by kernel_rfl) (by kernel_rfl) ?_))
  refine bodyPost_ret (v := CC.V ⟨aUsual, 2000, 256, 4096, 8, 512⟩) ?_ rfl ⟨rfl, setRow_below hb1 (Nat.le_refl _) _⟩
  exact results_cell_row rfl _ _ w.heap.size _ _ (0, 0) _ rfl (k0.row _) Tryd.underlying34 rfl (by kernel_rfl)
end Go.Proofs.YtfbllioegeadfaaDoor
