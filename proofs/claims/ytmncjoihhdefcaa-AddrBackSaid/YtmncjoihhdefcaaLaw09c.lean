/- AddrBack: the walk. -/
import Derived.Test.YtmncjoihhdefcaaAwake09
import Derived.Deep.DeepCutAuto
namespace Go.Proofs.Ytmncjoihhdefcaa
open Go.RowKit Go.Shelf
set_option linter.unusedSimpArgs false
set_option linter.unusedVariables false

/-- what a call gives, wherever it is called (the library's variable holds a number) -/
def Gives (f : FuncId) (args : Array Value) (v : Value) : Prop := ∀ W, MW W → Calls Try.prog f args W fun e w' => e = .returned v ∧ Below W.heap.size W w'
theorem Gives.lit {f : FuncId} {args : Array Value} {v v' : Value} (h : Gives f args v) (e : v = v') : Gives f args v' := by subst e; exact h
theorem aText_size (n h r : List UInt8) (hc : aCheck n h r = 0) : (aText (n, h, r)).length ≤ 100 ∧ (aText (n, h, [])).length ≤ 33 := by
  obtain ⟨⟨h1, h2, h3⟩, _⟩ := (aCheck_ok n h r).1 hc
  unfold aText
  dsimp only
  rw [if_pos rfl]
  constructor
  · split <;> simp <;> omega
  · simp; omega
theorem print_ok (n h r : ByteArray) (hn : n.size ≤ 50) (hh : h.size ≤ 50) (hr : r.size ≤ 50) (hc : aCheck n.data.toList h.data.toList r.data.toList = 0) : ∃ t : ByteArray,
    Gives 18 #[aV n h r] (.tuple #[.string t, .int .i64 0]) ∧ Gives 8 #[.string t] (.tuple #[aV n h r, .int .i64 0]) ∧ Gives 20 #[aV n h r] (.int .i64 0) := by
  have hl := (aText_size _ _ _ hc).1
  refine ⟨strOf (aText (n.data.toList, h.data.toList, r.data.toList)), ?_, ?_, ?_⟩
  · exact Gives.lit (fun W hW => addr_Print_any n h r (by omega) (by omega) (by omega) W hW) (by rw [aPrint_ok _ _ _ hc])
  · exact Gives.lit (fun W hW => addr_Parse_any (strOf (aText (n.data.toList, h.data.toList, r.data.toList))) (by rw [strOf_size]; omega) W hW) (by rw [strOf_list, parse_text _ _ _ hc]; rfl)
  · exact Gives.lit (fun W hW => addr_Check_any n h r (by omega) (by omega) (by omega) W hW) (by rw [hc])
theorem print_no (n h r : ByteArray) (hn : n.size ≤ 50) (hh : h.size ≤ 50) (hr : r.size ≤ 50) (hc : aCheck n.data.toList h.data.toList r.data.toList ≠ 0) : ∃ c : Int, (c == 0) = false ∧
    Gives 18 #[aV n h r] (.tuple #[.string ⟨#[]⟩, .int .i64 c]) ∧ Gives 8 #[.string ⟨#[]⟩] (.tuple #[aV ⟨#[]⟩ ⟨#[]⟩ ⟨#[]⟩, .int .i64 4]) ∧ Gives 20 #[aV n h r] (.int .i64 c) := by
  refine ⟨aCheck n.data.toList h.data.toList r.data.toList, by simpa using hc, ?_, ?_, ?_⟩
  · exact Gives.lit (fun W hW => addr_Print_any n h r (by omega) (by omega) (by omega) W hW) (by unfold aPrint; dsimp only; rw [if_pos hc]; rfl)
  · exact Gives.lit (fun W hW => addr_Parse_any ⟨#[]⟩ (by decide) W hW) (by
      have : aParse [] = (([], [], []), 4) := by unfold aParse; rw [if_pos (.inl (by decide +kernel))]
      rw [show (⟨#[]⟩ : ByteArray).data.toList = [] from rfl, this]; rfl)
  · exact fun W hW => addr_Check_any n h r (by omega) (by omega) (by omega) W hW
theorem back_no (s : ByteArray) (hs : s.size ≤ 100) (hz : (aParse s.data.toList).2 ≠ 0) : ∃ c : Int, (c == 0) = false ∧ Gives 8 #[.string s] (.tuple #[aV ⟨#[]⟩ ⟨#[]⟩ ⟨#[]⟩, .int .i64 c]) := by
  refine ⟨(aParse s.data.toList).2, by simpa using hz, ?_⟩
  rcases aParse_ok s.data.toList with ⟨h, _⟩ | ⟨_, h⟩
  · exact absurd h hz
  · exact Gives.lit (fun W hW => addr_Parse_any s (by omega) W hW) (by rw [h]; rfl)
theorem back_ok (s : ByteArray) (hs : s.size ≤ 100) (hz : (aParse s.data.toList).2 = 0) : ∃ n h r u b : ByteArray, b.size ≤ 33 ∧ Gives 8 #[.string s] (.tuple #[aV n h r, .int .i64 0]) ∧
    Gives 18 #[aV n h r] (.tuple #[.string u, .int .i64 0]) ∧ Gives 8 #[.string u] (.tuple #[aV n h r, .int .i64 0]) ∧ Gives 10 #[.string s] (.tuple #[.string b, .int .i64 0]) ∧
    Gives 10 #[.string b] (.tuple #[.string b, .int .i64 0]) ∧ Gives 12 #[.string b, .string r] (.tuple #[.string u, .int .i64 0]) ∧ Gives 14 #[.string b] (.bool true) := by
  rcases aParse_ok s.data.toList with ⟨_, hc⟩ | ⟨h, _⟩
  case inr => exact absurd hz h
  obtain ⟨⟨zn, zh, zr⟩, c, hR⟩ : ∃ a c, aParse s.data.toList = (a, c) := ⟨_, _, rfl⟩
  rw [hR] at hz hc
  dsimp only at hz hc
  subst hz
  have hl := aText_size _ _ _ hc
  have hr := aCheck_aRes _ _ _ hc
  have hc0 := aCheck_res _ _ _ [] hc aRes_nil
  obtain ⟨⟨h1, h2, h3⟩, _⟩ := (aCheck_ok _ _ _).1 hc
  have p0 := parse_text _ _ _ hc
  have p1 := parse_text _ _ _ hc0
  refine ⟨strOf zn, strOf zh, strOf zr, strOf (aText (zn, zh, zr)), strOf (aText (zn, zh, [])), by rw [strOf_size]; omega, ?_, ?_, ?_, ?_, ?_, ?_, ?_⟩
  · exact Gives.lit (fun W hW => addr_Parse_any s (by omega) W hW) (by rw [hR])
  · exact Gives.lit (fun W hW => addr_Print_any (strOf zn) (strOf zh) (strOf zr) (by rw [strOf_size]; omega) (by rw [strOf_size]; omega) (by rw [strOf_size]; omega) W hW) (by rw [strOf_list, strOf_list, strOf_list, aPrint_ok _ _ _ hc])
  · exact Gives.lit (fun W hW => addr_Parse_any (strOf (aText (zn, zh, zr))) (by rw [strOf_size]; omega) W hW) (by rw [strOf_list, p0])
  · exact Gives.lit (fun W hW => addr_Bare_any s (by omega) W hW) (by unfold aBare; rw [hR]; rfl)
  · exact Gives.lit (fun W hW => addr_Bare_any (strOf (aText (zn, zh, []))) (by rw [strOf_size]; omega) W hW) (by unfold aBare; rw [strOf_list, p1]; rfl)
  · exact Gives.lit (fun W hW => addr_Full_any (strOf (aText (zn, zh, []))) (strOf zr) (by rw [strOf_size]; omega) (by rw [strOf_size]; omega) W hW) (by
      unfold aFull; rw [strOf_list, strOf_list, p1]; dsimp only; rw [if_neg (fun h => h rfl), if_neg (fun h => h rfl), if_neg (fun h => h hr)])
  · exact Gives.lit (fun W hW => addr_IsBare_any (strOf (aText (zn, zh, []))) (by rw [strOf_size]; omega) W hW) (by
      unfold aIsBare aBare; rw [strOf_list, p1]; dsimp only; rw [if_neg (fun h => h rfl)]; simp)

set_option maxRecDepth 1000000 in
set_option maxHeartbeats 8000000 in
theorem AddrBack_walk (n h r s : ByteArray) (w : World) (hm : MW w) :
    Calls Try.prog 5 #[aV n h r, .string s] w fun e w' => e = .returned (.bool true) ∧ Below w.heap.size w w' := by
  by_cases z0 : 50 < n.size
  · have hI : (50 : Int) < (n.size : Int) := by omega
    clear z0
    unfold aV
    go_enter Try.func5, Try.ntmps5
    go_wp2_with fail
    refine (awake09 _ (hm.step (by (repeat (first | with_reducible exact Below.refl _ _ | with_reducible assumption | with_reducible refine Below.drew ?_ | with_reducible refine Below.drewN ?_ _ | with_reducible refine Below.alloc1 ?_ _ | with_reducible refine Below.setCell1 ?_ (by first | omega | (simp; done) | (simp; omega)) _ | with_reducible refine Below.step ?_ (by with_reducible assumption)))))).mono ?_; rintro e w1 ⟨rfl, hb⟩
    go_wp2_with fail
    go_ret
    exact ⟨rfl, (show Below w.heap.size w _ by (repeat (first | with_reducible exact Below.refl _ _ | with_reducible assumption | with_reducible refine Below.drew ?_ | with_reducible refine Below.drewN ?_ _ | with_reducible refine Below.alloc1 ?_ _ | with_reducible refine Below.setCell1 ?_ (by first | omega | (simp; done) | (simp; omega)) _ | with_reducible refine Below.step ?_ (by with_reducible assumption)))).step hb⟩
  have i0 : (n.size : Int) ≤ 50 := by omega
  by_cases z1 : 50 < h.size
  · have hI : (50 : Int) < (h.size : Int) := by omega
    clear z1
    unfold aV
    go_enter Try.func5, Try.ntmps5
    go_wp2_with fail
    refine (awake09 _ (hm.step (by (repeat (first | with_reducible exact Below.refl _ _ | with_reducible assumption | with_reducible refine Below.drew ?_ | with_reducible refine Below.drewN ?_ _ | with_reducible refine Below.alloc1 ?_ _ | with_reducible refine Below.setCell1 ?_ (by first | omega | (simp; done) | (simp; omega)) _ | with_reducible refine Below.step ?_ (by with_reducible assumption)))))).mono ?_; rintro e w1 ⟨rfl, hb⟩
    go_wp2_with fail
    go_ret
    exact ⟨rfl, (show Below w.heap.size w _ by (repeat (first | with_reducible exact Below.refl _ _ | with_reducible assumption | with_reducible refine Below.drew ?_ | with_reducible refine Below.drewN ?_ _ | with_reducible refine Below.alloc1 ?_ _ | with_reducible refine Below.setCell1 ?_ (by first | omega | (simp; done) | (simp; omega)) _ | with_reducible refine Below.step ?_ (by with_reducible assumption)))).step hb⟩
  have i1 : (h.size : Int) ≤ 50 := by omega
  by_cases z2 : 50 < r.size
  · have hI : (50 : Int) < (r.size : Int) := by omega
    clear z2
    unfold aV
    go_enter Try.func5, Try.ntmps5
    go_wp2_with fail
    refine (awake09 _ (hm.step (by (repeat (first | with_reducible exact Below.refl _ _ | with_reducible assumption | with_reducible refine Below.drew ?_ | with_reducible refine Below.drewN ?_ _ | with_reducible refine Below.alloc1 ?_ _ | with_reducible refine Below.setCell1 ?_ (by first | omega | (simp; done) | (simp; omega)) _ | with_reducible refine Below.step ?_ (by with_reducible assumption)))))).mono ?_; rintro e w1 ⟨rfl, hb⟩
    go_wp2_with fail
    go_ret
    exact ⟨rfl, (show Below w.heap.size w _ by (repeat (first | with_reducible exact Below.refl _ _ | with_reducible assumption | with_reducible refine Below.drew ?_ | with_reducible refine Below.drewN ?_ _ | with_reducible refine Below.alloc1 ?_ _ | with_reducible refine Below.setCell1 ?_ (by first | omega | (simp; done) | (simp; omega)) _ | with_reducible refine Below.step ?_ (by with_reducible assumption)))).step hb⟩
  have i2 : (r.size : Int) ≤ 50 := by omega
  by_cases z3 : 100 < s.size
  · have hI : (100 : Int) < (s.size : Int) := by omega
    clear z3
    unfold aV
    go_enter Try.func5, Try.ntmps5
    go_wp2_with fail
    refine (awake09 _ (hm.step (by (repeat (first | with_reducible exact Below.refl _ _ | with_reducible assumption | with_reducible refine Below.drew ?_ | with_reducible refine Below.drewN ?_ _ | with_reducible refine Below.alloc1 ?_ _ | with_reducible refine Below.setCell1 ?_ (by first | omega | (simp; done) | (simp; omega)) _ | with_reducible refine Below.step ?_ (by with_reducible assumption)))))).mono ?_; rintro e w1 ⟨rfl, hb⟩
    go_wp2_with fail
    go_ret
    exact ⟨rfl, (show Below w.heap.size w _ by (repeat (first | with_reducible exact Below.refl _ _ | with_reducible assumption | with_reducible refine Below.drew ?_ | with_reducible refine Below.drewN ?_ _ | with_reducible refine Below.alloc1 ?_ _ | with_reducible refine Below.setCell1 ?_ (by first | omega | (simp; done) | (simp; omega)) _ | with_reducible refine Below.step ?_ (by with_reducible assumption)))).step hb⟩
  have i3 : (s.size : Int) ≤ 100 := by omega
  by_cases hc : aCheck n.data.toList h.data.toList r.data.toList = 0
  case pos =>
    obtain ⟨t, p1, p2, p3⟩ := print_ok n h r (by omega) (by omega) (by omega) hc
    clear hc
    clear z0 z1 z2 z3
    unfold aV at p1 p2 p3
    unfold aV
    go_enter Try.func5, Try.ntmps5
    go_wp2_with fail
    generalize hV : World.alloc (World.alloc w _) _ = w1
    have hb : Below w.heap.size w w1 := by subst hV; (repeat (first | with_reducible exact Below.refl _ _ | with_reducible assumption | with_reducible refine Below.drew ?_ | with_reducible refine Below.drewN ?_ _ | with_reducible refine Below.alloc1 ?_ _ | with_reducible refine Below.setCell1 ?_ (by first | omega | (simp; done) | (simp; omega)) _ | with_reducible refine Below.step ?_ (by with_reducible assumption)))
    have kx : Bk w1 (w.heap.size + 1) 24 [.string n, .string h, .string r] := by subst hV; exact Bk.new' _ _ _ _ (by simp)
    clear hV
    replace hm := hm.step hb
    have kx_0 := kx.cell 0; have kx_f0 := kx.frozen 0; have kx_1 := kx.cell 1; have kx_f1 := kx.frozen 1; have kx_2 := kx.cell 2; have kx_f2 := kx.frozen 2; simp only [List.set_cons_zero, List.set_cons_succ, List.getElem?_cons_zero, List.getElem?_cons_succ] at kx_0 kx_1 kx_2; have lt_kx := kx.lt
    refine (p1 _ hm).mono ?_; rintro e v1 ⟨rfl, hx⟩
    replace hb := hb.step hx
    replace hm := hm.step hx
    replace kx := kx.step hx; (try clear kx_0 kx_f0 kx_1 kx_f1 kx_2 kx_f2); have kx_0 := kx.cell 0; have kx_f0 := kx.frozen 0; have kx_1 := kx.cell 1; have kx_f1 := kx.frozen 1; have kx_2 := kx.cell 2; have kx_f2 := kx.frozen 2; simp only [List.set_cons_zero, List.set_cons_succ, List.getElem?_cons_zero, List.getElem?_cons_succ] at kx_0 kx_1 kx_2; (try clear lt_kx); have lt_kx := kx.lt
    clear hx
    go_wp2_with fail
    refine (p2 _ hm).mono ?_; rintro e v2 ⟨rfl, hx⟩
    replace hb := hb.step hx
    replace hm := hm.step hx
    replace kx := kx.step hx; (try clear kx_0 kx_f0 kx_1 kx_f1 kx_2 kx_f2); have kx_0 := kx.cell 0; have kx_f0 := kx.frozen 0; have kx_1 := kx.cell 1; have kx_f1 := kx.frozen 1; have kx_2 := kx.cell 2; have kx_f2 := kx.frozen 2; simp only [List.set_cons_zero, List.set_cons_succ, List.getElem?_cons_zero, List.getElem?_cons_succ] at kx_0 kx_1 kx_2; (try clear lt_kx); have lt_kx := kx.lt
    clear hx
    go_wp2_with fail
    generalize hV : World.alloc v2 _ = v3
    have hx : Below v2.heap.size v2 v3 := by subst hV; (repeat (first | with_reducible exact Below.refl _ _ | with_reducible assumption | with_reducible refine Below.drew ?_ | with_reducible refine Below.drewN ?_ _ | with_reducible refine Below.alloc1 ?_ _ | with_reducible refine Below.setCell1 ?_ (by first | omega | (simp; done) | (simp; omega)) _ | with_reducible refine Below.step ?_ (by with_reducible assumption)))
    have ky : Bk v3 v2.heap.size 24 [.string n, .string h, .string r] := by subst hV; exact Bk.new v2 _ _
    clear hV
    replace hb := hb.step hx
    replace hm := hm.step hx
    replace kx := kx.step hx; (try clear kx_0 kx_f0 kx_1 kx_f1 kx_2 kx_f2); have kx_0 := kx.cell 0; have kx_f0 := kx.frozen 0; have kx_1 := kx.cell 1; have kx_f1 := kx.frozen 1; have kx_2 := kx.cell 2; have kx_f2 := kx.frozen 2; simp only [List.set_cons_zero, List.set_cons_succ, List.getElem?_cons_zero, List.getElem?_cons_succ] at kx_0 kx_1 kx_2; (try clear lt_kx); have lt_kx := kx.lt
    clear hx
    have ky_0 := ky.cell 0; have ky_f0 := ky.frozen 0; have ky_1 := ky.cell 1; have ky_f1 := ky.frozen 1; have ky_2 := ky.cell 2; have ky_f2 := ky.frozen 2; simp only [List.set_cons_zero, List.set_cons_succ, List.getElem?_cons_zero, List.getElem?_cons_succ] at ky_0 ky_1 ky_2; have lt_ky := ky.lt
    go_wp2_with fail
    refine (p3 _ hm).mono ?_; rintro e v4 ⟨rfl, hx⟩
    replace hb := hb.step hx
    replace hm := hm.step hx
    replace kx := kx.step hx; (try clear kx_0 kx_f0 kx_1 kx_f1 kx_2 kx_f2); have kx_0 := kx.cell 0; have kx_f0 := kx.frozen 0; have kx_1 := kx.cell 1; have kx_f1 := kx.frozen 1; have kx_2 := kx.cell 2; have kx_f2 := kx.frozen 2; simp only [List.set_cons_zero, List.set_cons_succ, List.getElem?_cons_zero, List.getElem?_cons_succ] at kx_0 kx_1 kx_2; (try clear lt_kx); have lt_kx := kx.lt; replace ky := ky.step hx; (try clear ky_0 ky_f0 ky_1 ky_f1 ky_2 ky_f2); have ky_0 := ky.cell 0; have ky_f0 := ky.frozen 0; have ky_1 := ky.cell 1; have ky_f1 := ky.frozen 1; have ky_2 := ky.cell 2; have ky_f2 := ky.frozen 2; simp only [List.set_cons_zero, List.set_cons_succ, List.getElem?_cons_zero, List.getElem?_cons_succ] at ky_0 ky_1 ky_2; (try clear lt_ky); have lt_ky := ky.lt
    clear hx
    go_wp2_with fail
    (try clear kx_0 kx_f0 kx_1 kx_f1 kx_2 kx_f2 lt_kx) ; (try clear ky_0 ky_f0 ky_1 ky_f1 ky_2 ky_f2 lt_ky)
    clear kx ky p1 p2 p3
    by_cases hz : (aParse s.data.toList).2 = 0
    case neg =>
      obtain ⟨c, c0, kz⟩ := back_no s (by omega) hz
      clear hz
      unfold aV at kz
      refine (kz _ hm).mono ?_; rintro e v5 ⟨rfl, hx⟩
      replace hb := hb.step hx
      replace hm := hm.step hx
      clear hx
      go_wp2_with fail
      generalize hV : World.alloc v5 _ = v6
      have hx : Below v5.heap.size v5 v6 := by subst hV; (repeat (first | with_reducible exact Below.refl _ _ | with_reducible assumption | with_reducible refine Below.drew ?_ | with_reducible refine Below.drewN ?_ _ | with_reducible refine Below.alloc1 ?_ _ | with_reducible refine Below.setCell1 ?_ (by first | omega | (simp; done) | (simp; omega)) _ | with_reducible refine Below.step ?_ (by with_reducible assumption)))
      have q : Bk v6 v5.heap.size 24 [.string ⟨#[]⟩, .string ⟨#[]⟩, .string ⟨#[]⟩] := by subst hV; exact Bk.new v5 _ _
      clear hV
      replace hb := hb.step hx
      replace hm := hm.step hx
      clear hx
      have q_0 := q.cell 0; have q_f0 := q.frozen 0; have q_1 := q.cell 1; have q_f1 := q.frozen 1; have q_2 := q.cell 2; have q_f2 := q.frozen 2; simp only [List.set_cons_zero, List.set_cons_succ, List.getElem?_cons_zero, List.getElem?_cons_succ] at q_0 q_1 q_2; have lt_q := q.lt
      go_wp2_with fail
      refine (awake09 _ hm).mono ?_; rintro e v7 ⟨rfl, hx⟩
      replace hb := hb.step hx
      replace hm := hm.step hx
      clear hx
      go_wp2_with fail
      go_ret
      exact ⟨rfl, hb⟩
    obtain ⟨zn, zh, zr, u, b, hbz, k1, k2, k3, k4, k5, k6, k7⟩ := back_ok s (by omega) hz
    have ib : (b.size : Int) ≤ 33 := by omega
    clear hz hbz
    unfold aV at k1 k2 k3
    refine (k1 _ hm).mono ?_; rintro e v8 ⟨rfl, hx⟩
    replace hb := hb.step hx
    replace hm := hm.step hx
    clear hx
    go_wp2_with fail
    generalize hV : World.alloc v8 _ = v9
    have hx : Below v8.heap.size v8 v9 := by subst hV; (repeat (first | with_reducible exact Below.refl _ _ | with_reducible assumption | with_reducible refine Below.drew ?_ | with_reducible refine Below.drewN ?_ _ | with_reducible refine Below.alloc1 ?_ _ | with_reducible refine Below.setCell1 ?_ (by first | omega | (simp; done) | (simp; omega)) _ | with_reducible refine Below.step ?_ (by with_reducible assumption)))
    have q : Bk v9 v8.heap.size 24 [.string zn, .string zh, .string zr] := by subst hV; exact Bk.new v8 _ _
    clear hV
    replace hb := hb.step hx
    replace hm := hm.step hx
    clear hx
    have q_0 := q.cell 0; have q_f0 := q.frozen 0; have q_1 := q.cell 1; have q_f1 := q.frozen 1; have q_2 := q.cell 2; have q_f2 := q.frozen 2; simp only [List.set_cons_zero, List.set_cons_succ, List.getElem?_cons_zero, List.getElem?_cons_succ] at q_0 q_1 q_2; have lt_q := q.lt
    go_wp2_with fail
    refine (k2 _ hm).mono ?_; rintro e v10 ⟨rfl, hx⟩
    replace hb := hb.step hx
    replace hm := hm.step hx
    replace q := q.step hx; (try clear q_0 q_f0 q_1 q_f1 q_2 q_f2); have q_0 := q.cell 0; have q_f0 := q.frozen 0; have q_1 := q.cell 1; have q_f1 := q.frozen 1; have q_2 := q.cell 2; have q_f2 := q.frozen 2; simp only [List.set_cons_zero, List.set_cons_succ, List.getElem?_cons_zero, List.getElem?_cons_succ] at q_0 q_1 q_2; (try clear lt_q); have lt_q := q.lt
    clear hx
    go_wp2_with fail
    refine (k3 _ hm).mono ?_; rintro e v11 ⟨rfl, hx⟩
    replace hb := hb.step hx
    replace hm := hm.step hx
    replace q := q.step hx; (try clear q_0 q_f0 q_1 q_f1 q_2 q_f2); have q_0 := q.cell 0; have q_f0 := q.frozen 0; have q_1 := q.cell 1; have q_f1 := q.frozen 1; have q_2 := q.cell 2; have q_f2 := q.frozen 2; simp only [List.set_cons_zero, List.set_cons_succ, List.getElem?_cons_zero, List.getElem?_cons_succ] at q_0 q_1 q_2; (try clear lt_q); have lt_q := q.lt
    clear hx
    go_wp2_with fail
    generalize hV : World.alloc v11 _ = v12
    have hx : Below v11.heap.size v11 v12 := by subst hV; (repeat (first | with_reducible exact Below.refl _ _ | with_reducible assumption | with_reducible refine Below.drew ?_ | with_reducible refine Below.drewN ?_ _ | with_reducible refine Below.alloc1 ?_ _ | with_reducible refine Below.setCell1 ?_ (by first | omega | (simp; done) | (simp; omega)) _ | with_reducible refine Below.step ?_ (by with_reducible assumption)))
    have q2 : Bk v12 v11.heap.size 24 [.string zn, .string zh, .string zr] := by subst hV; exact Bk.new v11 _ _
    clear hV
    replace hb := hb.step hx
    replace hm := hm.step hx
    replace q := q.step hx; (try clear q_0 q_f0 q_1 q_f1 q_2 q_f2); have q_0 := q.cell 0; have q_f0 := q.frozen 0; have q_1 := q.cell 1; have q_f1 := q.frozen 1; have q_2 := q.cell 2; have q_f2 := q.frozen 2; simp only [List.set_cons_zero, List.set_cons_succ, List.getElem?_cons_zero, List.getElem?_cons_succ] at q_0 q_1 q_2; (try clear lt_q); have lt_q := q.lt
    clear hx
    have q2_0 := q2.cell 0; have q2_f0 := q2.frozen 0; have q2_1 := q2.cell 1; have q2_f1 := q2.frozen 1; have q2_2 := q2.cell 2; have q2_f2 := q2.frozen 2; simp only [List.set_cons_zero, List.set_cons_succ, List.getElem?_cons_zero, List.getElem?_cons_succ] at q2_0 q2_1 q2_2; have lt_q2 := q2.lt
    go_wp2_with fail
    refine (k4 _ hm).mono ?_; rintro e v13 ⟨rfl, hx⟩
    replace hb := hb.step hx
    replace hm := hm.step hx
    replace q := q.step hx; (try clear q_0 q_f0 q_1 q_f1 q_2 q_f2); have q_0 := q.cell 0; have q_f0 := q.frozen 0; have q_1 := q.cell 1; have q_f1 := q.frozen 1; have q_2 := q.cell 2; have q_f2 := q.frozen 2; simp only [List.set_cons_zero, List.set_cons_succ, List.getElem?_cons_zero, List.getElem?_cons_succ] at q_0 q_1 q_2; (try clear lt_q); have lt_q := q.lt; replace q2 := q2.step hx; (try clear q2_0 q2_f0 q2_1 q2_f1 q2_2 q2_f2); have q2_0 := q2.cell 0; have q2_f0 := q2.frozen 0; have q2_1 := q2.cell 1; have q2_f1 := q2.frozen 1; have q2_2 := q2.cell 2; have q2_f2 := q2.frozen 2; simp only [List.set_cons_zero, List.set_cons_succ, List.getElem?_cons_zero, List.getElem?_cons_succ] at q2_0 q2_1 q2_2; (try clear lt_q2); have lt_q2 := q2.lt
    clear hx
    go_wp2_with fail
    refine (k5 _ hm).mono ?_; rintro e v14 ⟨rfl, hx⟩
    replace hb := hb.step hx
    replace hm := hm.step hx
    replace q := q.step hx; (try clear q_0 q_f0 q_1 q_f1 q_2 q_f2); have q_0 := q.cell 0; have q_f0 := q.frozen 0; have q_1 := q.cell 1; have q_f1 := q.frozen 1; have q_2 := q.cell 2; have q_f2 := q.frozen 2; simp only [List.set_cons_zero, List.set_cons_succ, List.getElem?_cons_zero, List.getElem?_cons_succ] at q_0 q_1 q_2; (try clear lt_q); have lt_q := q.lt; replace q2 := q2.step hx; (try clear q2_0 q2_f0 q2_1 q2_f1 q2_2 q2_f2); have q2_0 := q2.cell 0; have q2_f0 := q2.frozen 0; have q2_1 := q2.cell 1; have q2_f1 := q2.frozen 1; have q2_2 := q2.cell 2; have q2_f2 := q2.frozen 2; simp only [List.set_cons_zero, List.set_cons_succ, List.getElem?_cons_zero, List.getElem?_cons_succ] at q2_0 q2_1 q2_2; (try clear lt_q2); have lt_q2 := q2.lt
    clear hx
    go_wp2_with fail
    refine (k6 _ hm).mono ?_; rintro e v15 ⟨rfl, hx⟩
    replace hb := hb.step hx
    replace hm := hm.step hx
    replace q := q.step hx; (try clear q_0 q_f0 q_1 q_f1 q_2 q_f2); have q_0 := q.cell 0; have q_f0 := q.frozen 0; have q_1 := q.cell 1; have q_f1 := q.frozen 1; have q_2 := q.cell 2; have q_f2 := q.frozen 2; simp only [List.set_cons_zero, List.set_cons_succ, List.getElem?_cons_zero, List.getElem?_cons_succ] at q_0 q_1 q_2; (try clear lt_q); have lt_q := q.lt; replace q2 := q2.step hx; (try clear q2_0 q2_f0 q2_1 q2_f1 q2_2 q2_f2); have q2_0 := q2.cell 0; have q2_f0 := q2.frozen 0; have q2_1 := q2.cell 1; have q2_f1 := q2.frozen 1; have q2_2 := q2.cell 2; have q2_f2 := q2.frozen 2; simp only [List.set_cons_zero, List.set_cons_succ, List.getElem?_cons_zero, List.getElem?_cons_succ] at q2_0 q2_1 q2_2; (try clear lt_q2); have lt_q2 := q2.lt
    clear hx
    go_wp2_with fail
    refine (k7 _ hm).mono ?_; rintro e v16 ⟨rfl, hx⟩
    replace hb := hb.step hx
    replace hm := hm.step hx
    replace q := q.step hx; (try clear q_0 q_f0 q_1 q_f1 q_2 q_f2); have q_0 := q.cell 0; have q_f0 := q.frozen 0; have q_1 := q.cell 1; have q_f1 := q.frozen 1; have q_2 := q.cell 2; have q_f2 := q.frozen 2; simp only [List.set_cons_zero, List.set_cons_succ, List.getElem?_cons_zero, List.getElem?_cons_succ] at q_0 q_1 q_2; (try clear lt_q); have lt_q := q.lt; replace q2 := q2.step hx; (try clear q2_0 q2_f0 q2_1 q2_f1 q2_2 q2_f2); have q2_0 := q2.cell 0; have q2_f0 := q2.frozen 0; have q2_1 := q2.cell 1; have q2_f1 := q2.frozen 1; have q2_2 := q2.cell 2; have q2_f2 := q2.frozen 2; simp only [List.set_cons_zero, List.set_cons_succ, List.getElem?_cons_zero, List.getElem?_cons_succ] at q2_0 q2_1 q2_2; (try clear lt_q2); have lt_q2 := q2.lt
    clear hx
    go_wp2_with fail
    refine (awake09 _ hm).mono ?_; rintro e v17 ⟨rfl, hx⟩
    replace hb := hb.step hx
    replace hm := hm.step hx
    replace q := q.step hx; (try clear q_0 q_f0 q_1 q_f1 q_2 q_f2); have q_0 := q.cell 0; have q_f0 := q.frozen 0; have q_1 := q.cell 1; have q_f1 := q.frozen 1; have q_2 := q.cell 2; have q_f2 := q.frozen 2; simp only [List.set_cons_zero, List.set_cons_succ, List.getElem?_cons_zero, List.getElem?_cons_succ] at q_0 q_1 q_2; (try clear lt_q); have lt_q := q.lt; replace q2 := q2.step hx; (try clear q2_0 q2_f0 q2_1 q2_f1 q2_2 q2_f2); have q2_0 := q2.cell 0; have q2_f0 := q2.frozen 0; have q2_1 := q2.cell 1; have q2_f1 := q2.frozen 1; have q2_2 := q2.cell 2; have q2_f2 := q2.frozen 2; simp only [List.set_cons_zero, List.set_cons_succ, List.getElem?_cons_zero, List.getElem?_cons_succ] at q2_0 q2_1 q2_2; (try clear lt_q2); have lt_q2 := q2.lt
    clear hx
    go_wp2_with fail
    go_ret
    exact ⟨rfl, hb⟩
  obtain ⟨c, c0, p1, p2, p3⟩ := print_no n h r (by omega) (by omega) (by omega) hc
  clear hc
  clear z0 z1 z2 z3
  unfold aV at p1 p2 p3
  unfold aV
  go_enter Try.func5, Try.ntmps5
  go_wp2_with fail
  generalize hV : World.alloc (World.alloc w _) _ = w1
  have hb : Below w.heap.size w w1 := by subst hV; (repeat (first | with_reducible exact Below.refl _ _ | with_reducible assumption | with_reducible refine Below.drew ?_ | with_reducible refine Below.drewN ?_ _ | with_reducible refine Below.alloc1 ?_ _ | with_reducible refine Below.setCell1 ?_ (by first | omega | (simp; done) | (simp; omega)) _ | with_reducible refine Below.step ?_ (by with_reducible assumption)))
  have kx : Bk w1 (w.heap.size + 1) 24 [.string n, .string h, .string r] := by subst hV; exact Bk.new' _ _ _ _ (by simp)
  clear hV
  replace hm := hm.step hb
  have kx_0 := kx.cell 0; have kx_f0 := kx.frozen 0; have kx_1 := kx.cell 1; have kx_f1 := kx.frozen 1; have kx_2 := kx.cell 2; have kx_f2 := kx.frozen 2; simp only [List.set_cons_zero, List.set_cons_succ, List.getElem?_cons_zero, List.getElem?_cons_succ] at kx_0 kx_1 kx_2; have lt_kx := kx.lt
  refine (p1 _ hm).mono ?_; rintro e v18 ⟨rfl, hx⟩
  replace hb := hb.step hx
  replace hm := hm.step hx
  replace kx := kx.step hx; (try clear kx_0 kx_f0 kx_1 kx_f1 kx_2 kx_f2); have kx_0 := kx.cell 0; have kx_f0 := kx.frozen 0; have kx_1 := kx.cell 1; have kx_f1 := kx.frozen 1; have kx_2 := kx.cell 2; have kx_f2 := kx.frozen 2; simp only [List.set_cons_zero, List.set_cons_succ, List.getElem?_cons_zero, List.getElem?_cons_succ] at kx_0 kx_1 kx_2; (try clear lt_kx); have lt_kx := kx.lt
  clear hx
  go_wp2_with fail
  refine (p2 _ hm).mono ?_; rintro e v19 ⟨rfl, hx⟩
  replace hb := hb.step hx
  replace hm := hm.step hx
  replace kx := kx.step hx; (try clear kx_0 kx_f0 kx_1 kx_f1 kx_2 kx_f2); have kx_0 := kx.cell 0; have kx_f0 := kx.frozen 0; have kx_1 := kx.cell 1; have kx_f1 := kx.frozen 1; have kx_2 := kx.cell 2; have kx_f2 := kx.frozen 2; simp only [List.set_cons_zero, List.set_cons_succ, List.getElem?_cons_zero, List.getElem?_cons_succ] at kx_0 kx_1 kx_2; (try clear lt_kx); have lt_kx := kx.lt
  clear hx
  go_wp2_with fail
  generalize hV : World.alloc v19 _ = v20
  have hx : Below v19.heap.size v19 v20 := by subst hV; (repeat (first | with_reducible exact Below.refl _ _ | with_reducible assumption | with_reducible refine Below.drew ?_ | with_reducible refine Below.drewN ?_ _ | with_reducible refine Below.alloc1 ?_ _ | with_reducible refine Below.setCell1 ?_ (by first | omega | (simp; done) | (simp; omega)) _ | with_reducible refine Below.step ?_ (by with_reducible assumption)))
  have ky : Bk v20 v19.heap.size 24 [.string ⟨#[]⟩, .string ⟨#[]⟩, .string ⟨#[]⟩] := by subst hV; exact Bk.new v19 _ _
  clear hV
  replace hb := hb.step hx
  replace hm := hm.step hx
  replace kx := kx.step hx; (try clear kx_0 kx_f0 kx_1 kx_f1 kx_2 kx_f2); have kx_0 := kx.cell 0; have kx_f0 := kx.frozen 0; have kx_1 := kx.cell 1; have kx_f1 := kx.frozen 1; have kx_2 := kx.cell 2; have kx_f2 := kx.frozen 2; simp only [List.set_cons_zero, List.set_cons_succ, List.getElem?_cons_zero, List.getElem?_cons_succ] at kx_0 kx_1 kx_2; (try clear lt_kx); have lt_kx := kx.lt
  clear hx
  have ky_0 := ky.cell 0; have ky_f0 := ky.frozen 0; have ky_1 := ky.cell 1; have ky_f1 := ky.frozen 1; have ky_2 := ky.cell 2; have ky_f2 := ky.frozen 2; simp only [List.set_cons_zero, List.set_cons_succ, List.getElem?_cons_zero, List.getElem?_cons_succ] at ky_0 ky_1 ky_2; have lt_ky := ky.lt
  go_wp2_with fail
  refine (p3 _ hm).mono ?_; rintro e v21 ⟨rfl, hx⟩
  replace hb := hb.step hx
  replace hm := hm.step hx
  replace kx := kx.step hx; (try clear kx_0 kx_f0 kx_1 kx_f1 kx_2 kx_f2); have kx_0 := kx.cell 0; have kx_f0 := kx.frozen 0; have kx_1 := kx.cell 1; have kx_f1 := kx.frozen 1; have kx_2 := kx.cell 2; have kx_f2 := kx.frozen 2; simp only [List.set_cons_zero, List.set_cons_succ, List.getElem?_cons_zero, List.getElem?_cons_succ] at kx_0 kx_1 kx_2; (try clear lt_kx); have lt_kx := kx.lt; replace ky := ky.step hx; (try clear ky_0 ky_f0 ky_1 ky_f1 ky_2 ky_f2); have ky_0 := ky.cell 0; have ky_f0 := ky.frozen 0; have ky_1 := ky.cell 1; have ky_f1 := ky.frozen 1; have ky_2 := ky.cell 2; have ky_f2 := ky.frozen 2; simp only [List.set_cons_zero, List.set_cons_succ, List.getElem?_cons_zero, List.getElem?_cons_succ] at ky_0 ky_1 ky_2; (try clear lt_ky); have lt_ky := ky.lt
  clear hx
  go_wp2_with fail
  (try clear kx_0 kx_f0 kx_1 kx_f1 kx_2 kx_f2 lt_kx) ; (try clear ky_0 ky_f0 ky_1 ky_f1 ky_2 ky_f2 lt_ky)
  clear kx ky p1 p2 p3
  by_cases hz : (aParse s.data.toList).2 = 0
  case neg =>
    obtain ⟨c, c0, kz⟩ := back_no s (by omega) hz
    clear hz
    unfold aV at kz
    refine (kz _ hm).mono ?_; rintro e v22 ⟨rfl, hx⟩
    replace hb := hb.step hx
    replace hm := hm.step hx
    clear hx
    go_wp2_with fail
    generalize hV : World.alloc v22 _ = v23
    have hx : Below v22.heap.size v22 v23 := by subst hV; (repeat (first | with_reducible exact Below.refl _ _ | with_reducible assumption | with_reducible refine Below.drew ?_ | with_reducible refine Below.drewN ?_ _ | with_reducible refine Below.alloc1 ?_ _ | with_reducible refine Below.setCell1 ?_ (by first | omega | (simp; done) | (simp; omega)) _ | with_reducible refine Below.step ?_ (by with_reducible assumption)))
    have q : Bk v23 v22.heap.size 24 [.string ⟨#[]⟩, .string ⟨#[]⟩, .string ⟨#[]⟩] := by subst hV; exact Bk.new v22 _ _
    clear hV
    replace hb := hb.step hx
    replace hm := hm.step hx
    clear hx
    have q_0 := q.cell 0; have q_f0 := q.frozen 0; have q_1 := q.cell 1; have q_f1 := q.frozen 1; have q_2 := q.cell 2; have q_f2 := q.frozen 2; simp only [List.set_cons_zero, List.set_cons_succ, List.getElem?_cons_zero, List.getElem?_cons_succ] at q_0 q_1 q_2; have lt_q := q.lt
    go_wp2_with fail
    refine (awake09 _ hm).mono ?_; rintro e v24 ⟨rfl, hx⟩
    replace hb := hb.step hx
    replace hm := hm.step hx
    clear hx
    go_wp2_with fail
    go_ret
    exact ⟨rfl, hb⟩
  obtain ⟨zn, zh, zr, u, b, hbz, k1, k2, k3, k4, k5, k6, k7⟩ := back_ok s (by omega) hz
  have ib : (b.size : Int) ≤ 33 := by omega
  clear hz hbz
  unfold aV at k1 k2 k3
  refine (k1 _ hm).mono ?_; rintro e v25 ⟨rfl, hx⟩
  replace hb := hb.step hx
  replace hm := hm.step hx
  clear hx
  go_wp2_with fail
  generalize hV : World.alloc v25 _ = v26
  have hx : Below v25.heap.size v25 v26 := by subst hV; (repeat (first | with_reducible exact Below.refl _ _ | with_reducible assumption | with_reducible refine Below.drew ?_ | with_reducible refine Below.drewN ?_ _ | with_reducible refine Below.alloc1 ?_ _ | with_reducible refine Below.setCell1 ?_ (by first | omega | (simp; done) | (simp; omega)) _ | with_reducible refine Below.step ?_ (by with_reducible assumption)))
  have q : Bk v26 v25.heap.size 24 [.string zn, .string zh, .string zr] := by subst hV; exact Bk.new v25 _ _
  clear hV
  replace hb := hb.step hx
  replace hm := hm.step hx
  clear hx
  have q_0 := q.cell 0; have q_f0 := q.frozen 0; have q_1 := q.cell 1; have q_f1 := q.frozen 1; have q_2 := q.cell 2; have q_f2 := q.frozen 2; simp only [List.set_cons_zero, List.set_cons_succ, List.getElem?_cons_zero, List.getElem?_cons_succ] at q_0 q_1 q_2; have lt_q := q.lt
  go_wp2_with fail
  refine (k2 _ hm).mono ?_; rintro e v27 ⟨rfl, hx⟩
  replace hb := hb.step hx
  replace hm := hm.step hx
  replace q := q.step hx; (try clear q_0 q_f0 q_1 q_f1 q_2 q_f2); have q_0 := q.cell 0; have q_f0 := q.frozen 0; have q_1 := q.cell 1; have q_f1 := q.frozen 1; have q_2 := q.cell 2; have q_f2 := q.frozen 2; simp only [List.set_cons_zero, List.set_cons_succ, List.getElem?_cons_zero, List.getElem?_cons_succ] at q_0 q_1 q_2; (try clear lt_q); have lt_q := q.lt
  clear hx
  go_wp2_with fail
  refine (k3 _ hm).mono ?_; rintro e v28 ⟨rfl, hx⟩
  replace hb := hb.step hx
  replace hm := hm.step hx
  replace q := q.step hx; (try clear q_0 q_f0 q_1 q_f1 q_2 q_f2); have q_0 := q.cell 0; have q_f0 := q.frozen 0; have q_1 := q.cell 1; have q_f1 := q.frozen 1; have q_2 := q.cell 2; have q_f2 := q.frozen 2; simp only [List.set_cons_zero, List.set_cons_succ, List.getElem?_cons_zero, List.getElem?_cons_succ] at q_0 q_1 q_2; (try clear lt_q); have lt_q := q.lt
  clear hx
  go_wp2_with fail
  generalize hV : World.alloc v28 _ = v29
  have hx : Below v28.heap.size v28 v29 := by subst hV; (repeat (first | with_reducible exact Below.refl _ _ | with_reducible assumption | with_reducible refine Below.drew ?_ | with_reducible refine Below.drewN ?_ _ | with_reducible refine Below.alloc1 ?_ _ | with_reducible refine Below.setCell1 ?_ (by first | omega | (simp; done) | (simp; omega)) _ | with_reducible refine Below.step ?_ (by with_reducible assumption)))
  have q2 : Bk v29 v28.heap.size 24 [.string zn, .string zh, .string zr] := by subst hV; exact Bk.new v28 _ _
  clear hV
  replace hb := hb.step hx
  replace hm := hm.step hx
  replace q := q.step hx; (try clear q_0 q_f0 q_1 q_f1 q_2 q_f2); have q_0 := q.cell 0; have q_f0 := q.frozen 0; have q_1 := q.cell 1; have q_f1 := q.frozen 1; have q_2 := q.cell 2; have q_f2 := q.frozen 2; simp only [List.set_cons_zero, List.set_cons_succ, List.getElem?_cons_zero, List.getElem?_cons_succ] at q_0 q_1 q_2; (try clear lt_q); have lt_q := q.lt
  clear hx
  have q2_0 := q2.cell 0; have q2_f0 := q2.frozen 0; have q2_1 := q2.cell 1; have q2_f1 := q2.frozen 1; have q2_2 := q2.cell 2; have q2_f2 := q2.frozen 2; simp only [List.set_cons_zero, List.set_cons_succ, List.getElem?_cons_zero, List.getElem?_cons_succ] at q2_0 q2_1 q2_2; have lt_q2 := q2.lt
  go_wp2_with fail
  refine (k4 _ hm).mono ?_; rintro e v30 ⟨rfl, hx⟩
  replace hb := hb.step hx
  replace hm := hm.step hx
  replace q := q.step hx; (try clear q_0 q_f0 q_1 q_f1 q_2 q_f2); have q_0 := q.cell 0; have q_f0 := q.frozen 0; have q_1 := q.cell 1; have q_f1 := q.frozen 1; have q_2 := q.cell 2; have q_f2 := q.frozen 2; simp only [List.set_cons_zero, List.set_cons_succ, List.getElem?_cons_zero, List.getElem?_cons_succ] at q_0 q_1 q_2; (try clear lt_q); have lt_q := q.lt; replace q2 := q2.step hx; (try clear q2_0 q2_f0 q2_1 q2_f1 q2_2 q2_f2); have q2_0 := q2.cell 0; have q2_f0 := q2.frozen 0; have q2_1 := q2.cell 1; have q2_f1 := q2.frozen 1; have q2_2 := q2.cell 2; have q2_f2 := q2.frozen 2; simp only [List.set_cons_zero, List.set_cons_succ, List.getElem?_cons_zero, List.getElem?_cons_succ] at q2_0 q2_1 q2_2; (try clear lt_q2); have lt_q2 := q2.lt
  clear hx
  go_wp2_with fail
  refine (k5 _ hm).mono ?_; rintro e v31 ⟨rfl, hx⟩
  replace hb := hb.step hx
  replace hm := hm.step hx
  replace q := q.step hx; (try clear q_0 q_f0 q_1 q_f1 q_2 q_f2); have q_0 := q.cell 0; have q_f0 := q.frozen 0; have q_1 := q.cell 1; have q_f1 := q.frozen 1; have q_2 := q.cell 2; have q_f2 := q.frozen 2; simp only [List.set_cons_zero, List.set_cons_succ, List.getElem?_cons_zero, List.getElem?_cons_succ] at q_0 q_1 q_2; (try clear lt_q); have lt_q := q.lt; replace q2 := q2.step hx; (try clear q2_0 q2_f0 q2_1 q2_f1 q2_2 q2_f2); have q2_0 := q2.cell 0; have q2_f0 := q2.frozen 0; have q2_1 := q2.cell 1; have q2_f1 := q2.frozen 1; have q2_2 := q2.cell 2; have q2_f2 := q2.frozen 2; simp only [List.set_cons_zero, List.set_cons_succ, List.getElem?_cons_zero, List.getElem?_cons_succ] at q2_0 q2_1 q2_2; (try clear lt_q2); have lt_q2 := q2.lt
  clear hx
  go_wp2_with fail
  refine (k6 _ hm).mono ?_; rintro e v32 ⟨rfl, hx⟩
  replace hb := hb.step hx
  replace hm := hm.step hx
  replace q := q.step hx; (try clear q_0 q_f0 q_1 q_f1 q_2 q_f2); have q_0 := q.cell 0; have q_f0 := q.frozen 0; have q_1 := q.cell 1; have q_f1 := q.frozen 1; have q_2 := q.cell 2; have q_f2 := q.frozen 2; simp only [List.set_cons_zero, List.set_cons_succ, List.getElem?_cons_zero, List.getElem?_cons_succ] at q_0 q_1 q_2; (try clear lt_q); have lt_q := q.lt; replace q2 := q2.step hx; (try clear q2_0 q2_f0 q2_1 q2_f1 q2_2 q2_f2); have q2_0 := q2.cell 0; have q2_f0 := q2.frozen 0; have q2_1 := q2.cell 1; have q2_f1 := q2.frozen 1; have q2_2 := q2.cell 2; have q2_f2 := q2.frozen 2; simp only [List.set_cons_zero, List.set_cons_succ, List.getElem?_cons_zero, List.getElem?_cons_succ] at q2_0 q2_1 q2_2; (try clear lt_q2); have lt_q2 := q2.lt
  clear hx
  go_wp2_with fail
  refine (k7 _ hm).mono ?_; rintro e v33 ⟨rfl, hx⟩
  replace hb := hb.step hx
  replace hm := hm.step hx
  replace q := q.step hx; (try clear q_0 q_f0 q_1 q_f1 q_2 q_f2); have q_0 := q.cell 0; have q_f0 := q.frozen 0; have q_1 := q.cell 1; have q_f1 := q.frozen 1; have q_2 := q.cell 2; have q_f2 := q.frozen 2; simp only [List.set_cons_zero, List.set_cons_succ, List.getElem?_cons_zero, List.getElem?_cons_succ] at q_0 q_1 q_2; (try clear lt_q); have lt_q := q.lt; replace q2 := q2.step hx; (try clear q2_0 q2_f0 q2_1 q2_f1 q2_2 q2_f2); have q2_0 := q2.cell 0; have q2_f0 := q2.frozen 0; have q2_1 := q2.cell 1; have q2_f1 := q2.frozen 1; have q2_2 := q2.cell 2; have q2_f2 := q2.frozen 2; simp only [List.set_cons_zero, List.set_cons_succ, List.getElem?_cons_zero, List.getElem?_cons_succ] at q2_0 q2_1 q2_2; (try clear lt_q2); have lt_q2 := q2.lt
  clear hx
  go_wp2_with fail
  refine (awake09 _ hm).mono ?_; rintro e v34 ⟨rfl, hx⟩
  replace hb := hb.step hx
  replace hm := hm.step hx
  replace q := q.step hx; (try clear q_0 q_f0 q_1 q_f1 q_2 q_f2); have q_0 := q.cell 0; have q_f0 := q.frozen 0; have q_1 := q.cell 1; have q_f1 := q.frozen 1; have q_2 := q.cell 2; have q_f2 := q.frozen 2; simp only [List.set_cons_zero, List.set_cons_succ, List.getElem?_cons_zero, List.getElem?_cons_succ] at q_0 q_1 q_2; (try clear lt_q); have lt_q := q.lt; replace q2 := q2.step hx; (try clear q2_0 q2_f0 q2_1 q2_f1 q2_2 q2_f2); have q2_0 := q2.cell 0; have q2_f0 := q2.frozen 0; have q2_1 := q2.cell 1; have q2_f1 := q2.frozen 1; have q2_2 := q2.cell 2; have q2_f2 := q2.frozen 2; simp only [List.set_cons_zero, List.set_cons_succ, List.getElem?_cons_zero, List.getElem?_cons_succ] at q2_0 q2_1 q2_2; (try clear lt_q2); have lt_q2 := q2.lt
  clear hx
  go_wp2_with fail
  go_ret
  exact ⟨rfl, hb⟩
end Go.Proofs.Ytmncjoihhdefcaa
