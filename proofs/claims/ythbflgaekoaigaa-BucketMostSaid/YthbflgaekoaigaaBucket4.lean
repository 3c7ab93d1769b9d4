/- bucket.Run: a closure takes a token of a bucket at each tick. -/
import Derived.Test.YthbflgaekoaigaaBucket3
import Derived.Deep.RegionHeld3
namespace Go.Proofs.Ythbflgaekoaigaa
open Go.RowKit
set_option linter.unusedSimpArgs false
set_option linter.unusedVariables false

theorem bucket_Take_tup (b r t a now n : Int) (hn : -9223372036854775808 ≤ n) (w : World) :
    Calls Try.prog 7 #[.agg #[.int .i64 b, .int .i64 r], .agg #[.int .i64 t, .int .i64 a], .int .i64 now, .int .i64 n] w fun e w' =>
      e = .returned (.tuple #[.agg #[.int .i64 (bTake b r t a now n).1.1, .int .i64 (bTake b r t a now n).1.2], .bool (bTake b r t a now n).2]) ∧ Below w.heap.size w w' := bucket_Take_any b r t a now n hn w
set_option maxHeartbeats 1000000 in
theorem bucket_taker1_any (now b r t a : Int) (C S T : Nat) (hC : C < S) (hS : T < S) (w : World)
    (kC : Bk w C 27 [.int .i64 b, .int .i64 r]) (kS : Bk w S 68 [.pointer (some ⟨T, 0, none⟩)]) (kT : Bk w T 28 [.int .i64 t, .int .i64 a]) :
    Calls Try.prog 33 #[.int .i64 now, .pointer (some ⟨C, 0, none⟩), .pointer (some ⟨S, 0, none⟩)] w fun e w' => e = .returned (.bool (bTake b r t a now 1).2) ∧
      Bk w' T 28 [.int .i64 (bTake b r t a now 1).1.1, .int .i64 (bTake b r t a now 1).1.2] ∧ w.grownBy w' (some T) := by
  have c1 := kC.cell 0
  have c2 := kC.cell 1
  have c3 := kS.cell 0
  have c4 := kT.cell 0
  have c5 := kT.cell 1
  have f1 := kT.frozen 0
  have f2 := kT.frozen 1
  have lS := kS.lt
  simp at c1 c2 c3 c4 c5
  have l0 : C < w.heap.size ∧ T < w.heap.size ∧ C < w.heap.size + 1 ∧ T < w.heap.size + 1 ∧ S < w.heap.size + 1 := by omega
  go_enter Try.func33, Try.ntmps33
  go_wp2_with fail
  have HS : Hid (∀ w' : World, Below (w.heap.size) w w' → (w'.cell? ⟨C, 0, none⟩ = some (.int .i64 b) ∧ w'.cell? ⟨C, 1, none⟩ = some (.int .i64 r) ∧ w'.cell? ⟨S, 0, none⟩ = some (.pointer (some ⟨T, 0, none⟩)) ∧ w'.cell? ⟨T, 0, none⟩ = some (.int .i64 t) ∧ w'.cell? ⟨T, 1, none⟩ = some (.int .i64 a)) ∧ w.heap.size ≤ w'.heap.size ∧ Below (w.heap.size) w w') := fun w' hB => ⟨⟨(hB.cell (p := ⟨C, 0, none⟩) (by dsimp only; omega)).trans (c1), (hB.cell (p := ⟨C, 1, none⟩) (by dsimp only; omega)).trans (c2), (hB.cell (p := ⟨S, 0, none⟩) (by dsimp only; omega)).trans (c3), (hB.cell (p := ⟨T, 0, none⟩) (by dsimp only; omega)).trans (c4), (hB.cell (p := ⟨T, 1, none⟩) (by dsimp only; omega)).trans (c5)⟩, hB.size, hB⟩; go_region_held3 (fun w' => (w'.cell? ⟨C, 0, none⟩ = some (.int .i64 b) ∧ w'.cell? ⟨C, 1, none⟩ = some (.int .i64 r) ∧ w'.cell? ⟨S, 0, none⟩ = some (.pointer (some ⟨T, 0, none⟩)) ∧ w'.cell? ⟨T, 0, none⟩ = some (.int .i64 t) ∧ w'.cell? ⟨T, 1, none⟩ = some (.int .i64 a)) ∧ w.heap.size ≤ w'.heap.size ∧ Below (w.heap.size) w w') ((go_split_ands; exact HS.out _ (by (repeat (first | with_reducible exact Below.refl _ _ | with_reducible assumption | with_reducible refine Below.drew ?_ | with_reducible refine Below.drewN ?_ _ | with_reducible refine Below.alloc ?_ (by first | omega | (simp; done) | (simp; omega)) _ | with_reducible refine Below.setCell ?_ (by first | omega | (simp; done) | (simp; omega)) _ | with_reducible refine Below.then_ ?_ (by with_reducible assumption) (by first | omega | (simp; done) | (simp; omega))))))) ((go_at_call 7; refine (bucket_Take_tup _ _ _ _ _ _ (by omega) _).mono ?_; rintro e w1 ⟨rfl, hb⟩; obtain ⟨hc_hb, hf_hb⟩ := bcell hb; have hz_hb := hb.size; (try simp at hz_hb); (have l1 : C < w1.heap.size ∧ T < w1.heap.size ∧ S < w1.heap.size := by omega)))
  all_goals
    have g1 : w1.frozen? ⟨T, 0, none⟩ = false := (hb.frozen (p := ⟨T, 0, none⟩) (by simp; omega)).trans (by go_simp)
    have g2 : w1.frozen? ⟨T, 1, none⟩ = false := (hb.frozen (p := ⟨T, 1, none⟩) (by simp; omega)).trans (by go_simp)
    have g3 : w1.cell? ⟨T, 0, none⟩ = some (.int .i64 t) := (hb.cell (p := ⟨T, 0, none⟩) (by simp; omega)).trans (by go_simp)
    have g4 : w1.cell? ⟨T, 1, none⟩ = some (.int .i64 a) := (hb.cell (p := ⟨T, 1, none⟩) (by simp; omega)).trans (by go_simp)
    have g5 : w1.cell? ⟨S, 0, none⟩ = some (.pointer (some ⟨T, 0, none⟩)) := (hb.cell (p := ⟨S, 0, none⟩) (by simp; omega)).trans (by go_simp)
    go_wp2_with fail
    have KT : Bk w1 T 28 [.int .i64 t, .int .i64 a] := by first | exact Bk.below (Bk.drew kT) hb (by first | omega | (simp; omega)) | exact Bk.below (Bk.drew (Bk.alloc kT _)) hb (by first | omega | (simp; omega))
    go_ret
    refine ⟨rfl, ?_, ?_⟩
    rotate_left
    · (repeat (first | with_reducible exact Gr.refl _ _ | with_reducible assumption | with_reducible refine Gr.drew ?_ | with_reducible refine Gr.drewN ?_ _ | with_reducible refine Gr.alloc ?_ _ | with_reducible refine Gr.set_ ?_ (by first | exact .inl rfl | (refine .inr ?_; first | omega | (simp; done) | (simp; omega))) _ | with_reducible refine Gr.step ?_ (by with_reducible assumption)))
  · exact ((KT.set_ 0 _).set_ 1 _).alloc _
  · exact ((((KT.far (p := ⟨w.heap.size, 0, none⟩) (by dsimp only; omega) _).far (p := ⟨w.heap.size, 1, none⟩) (by dsimp only; omega) _).set_ 0 _).set_ 1 _)

def bRun (b r : Int) (s : Int × Int) (l : List Int) : (Int × Int) × List Bool :=
  l.foldl (fun x now => ((bTake b r x.1.1 x.1.2 now 1).1, x.2 ++ [(bTake b r x.1.1 x.1.2 now 1).2])) (s, [])
theorem bRun_snoc (b r : Int) (s : Int × Int) (l : List Int) (now : Int) :
    bRun b r s (l ++ [now]) = ((bTake b r (bRun b r s l).1.1 (bRun b r s l).1.2 now 1).1, (bRun b r s l).2 ++ [(bTake b r (bRun b r s l).1.1 (bRun b r s l).1.2 now 1).2]) := by
  simp [bRun, List.foldl_append]
theorem take_snoc' {α : Type} (l : List α) (k : Nat) (h : k < l.length) : l.take (k + 1) = l.take k ++ [l[k]] := List.take_succ_eq_append_getElem h
theorem bRun_length (b r : Int) (s : Int × Int) (l : List Int) : (bRun b r s l).2.length = l.length := by
  unfold bRun
  suffices h : ∀ x : (Int × Int) × List Bool, (l.foldl (fun x now => ((bTake b r x.1.1 x.1.2 now 1).1, x.2 ++ [(bTake b r x.1.1 x.1.2 now 1).2])) x).2.length = x.2.length + l.length by simpa using h (s, [])
  induction l with
  | nil => intro x; rfl
  | cons a l ih => intro x; rw [List.foldl_cons, ih]; simp; omega
theorem bool_info : (Try.prog.info? 4).map (fun i => (i.zero, i.size, i.bytes)) = some (some (.bool false), 1, 1) := by kernel_rfl

theorem bucket_taker_any (b r : Int) (p : Addr) (w : World) :
    Calls Try.prog 32 #[.agg #[.int .i64 b, .int .i64 r], .pointer (some p)] w fun e w' =>
      e = .returned (.func (Fn.func 33) #[] #[.pointer (some ⟨w.heap.size, 0, none⟩), .pointer (some ⟨w.heap.size + 1, 0, none⟩)]) ∧
      (w.alloc (.cells #[.int .i64 b, .int .i64 r] 27)).alloc (.cells #[.pointer (some p)] 68) = w' := by
  go_enter Try.func32, Try.ntmps32
  go_wp2
  go_ret
  exact ⟨rfl, rfl⟩

set_option maxHeartbeats 1000000 in
theorem bucket_Run_any (b r t a : Int) (A : Option Addr) (c : Nat) (l : List Int) (hl : l.length ≤ 1000000) (w : World) (hA : Rd w w.heap.size A (l.map (Value.int .i64))) :
    Calls Try.prog 20 #[.agg #[.int .i64 b, .int .i64 r], .agg #[.int .i64 t, .int .i64 a], .slice A l.length c] w fun e w' => ∃ B d, e = .returned (.tuple #[.agg #[.int .i64 (bRun b r (t, a) l).1.1, .int .i64 (bRun b r (t, a) l).1.2], .slice B l.length d]) ∧
      Rd w' w'.heap.size B ((bRun b r (t, a) l).2.map Value.bool) ∧ Fr w.heap.size B ∧ Below w.heap.size w w' := by
  obtain ⟨i0, hi, hz0, hz1, hz2⟩ := info_parts bool_info
  go_enter Try.func20, Try.ntmps20
  go_wp2_with (go_at_call 32; refine (bucket_taker_any _ _ _ _).mono ?_; rintro e w1 ⟨rfl, rfl⟩)
  generalize hW : (World.alloc (World.alloc (World.alloc (World.alloc (World.alloc w _) _) _) _) _) = w1
  have hbel : Below w.heap.size w w1 := by subst hW; (repeat (first | with_reducible exact Below.refl _ _ | with_reducible assumption | with_reducible refine Below.drew ?_ | with_reducible refine Below.drewN ?_ _ | with_reducible refine Below.alloc1 ?_ _ | with_reducible refine Below.setCell1 ?_ (by first | omega | (simp; done) | (simp; omega)) _ | with_reducible refine Below.step ?_ (by with_reducible assumption)))
  have hsz : w1.heap.size = w.heap.size + 5 := by subst hW; simp
  have k0 : Bk w1 (w.heap.size + 1) 28 [.int .i64 t, .int .i64 a] := by
    subst hW; (repeat (first | with_reducible exact Bk.new' _ _ _ _ (by simp; done) | with_reducible assumption | with_reducible refine Bk.alloc ?_ _ | with_reducible refine Bk.drew ?_ | with_reducible refine Bk.drewN ?_ _ | with_reducible refine Bk.step ?_ (by with_reducible assumption) | with_reducible refine Bk.far ?_ (by first | omega | (simp; done) | (simp; omega)) _))
  have k1 : Bk w1 (w.heap.size + 1 + 1) 28 [.int .i64 0, .int .i64 0] := by
    subst hW; (repeat (first | with_reducible exact Bk.new' _ _ _ _ (by simp; done) | with_reducible assumption | with_reducible refine Bk.alloc ?_ _ | with_reducible refine Bk.drew ?_ | with_reducible refine Bk.drewN ?_ _ | with_reducible refine Bk.step ?_ (by with_reducible assumption) | with_reducible refine Bk.far ?_ (by first | omega | (simp; done) | (simp; omega)) _))
  have k2 : Bk w1 (w.heap.size + 1 + 1 + 1) 27 [.int .i64 b, .int .i64 r] := by
    subst hW; (repeat (first | with_reducible exact Bk.new' _ _ _ _ (by simp; done) | with_reducible assumption | with_reducible refine Bk.alloc ?_ _ | with_reducible refine Bk.drew ?_ | with_reducible refine Bk.drewN ?_ _ | with_reducible refine Bk.step ?_ (by with_reducible assumption) | with_reducible refine Bk.far ?_ (by first | omega | (simp; done) | (simp; omega)) _))
  have k3 : Bk w1 (w.heap.size + 1 + 1 + 1 + 1) 68 [.pointer (some ⟨w.heap.size + 1, 0, none⟩)] := by
    subst hW; (repeat (first | with_reducible exact Bk.new' _ _ _ _ (by simp; done) | with_reducible assumption | with_reducible refine Bk.alloc ?_ _ | with_reducible refine Bk.drew ?_ | with_reducible refine Bk.drewN ?_ _ | with_reducible refine Bk.step ?_ (by with_reducible assumption) | with_reducible refine Bk.far ?_ (by first | omega | (simp; done) | (simp; omega)) _))
  have HZ := hide hsz
  clear hW hsz
  go_loopw [9, 16] (fun o i wr => ∃ k : Nat, k ≤ l.length ∧ i = .int .i64 k ∧ (∃ A' c', o = .slice A' k c' ∧ wr.ownsRow (w.heap.size + 5) 4 1 (.slice A' k c') k ((bRun b r (t, a) (l.take k)).2.map Value.bool)) ∧
      Bk wr (w.heap.size + 1) 28 [.int .i64 (bRun b r (t, a) (l.take k)).1.1, .int .i64 (bRun b r (t, a) (l.take k)).1.2] ∧ Bk wr (w.heap.size + 1 + 1) 28 [.int .i64 0, .int .i64 0] ∧
      Bk wr (w.heap.size + 1 + 1 + 1) 27 [.int .i64 b, .int .i64 r] ∧ Bk wr (w.heap.size + 1 + 1 + 1 + 1) 68 [.pointer (some ⟨w.heap.size + 1, 0, none⟩)] ∧
      Below w.heap.size w wr ∧ w.heap.size + 5 ≤ wr.heap.size) (fun _ i _ => l.length - (intOf i).toNat)
  case atStart => exact ⟨0, Nat.zero_le _, rfl, ⟨none, 0, rfl, World.ownsRow_nil _ _ _ _⟩, k0, k1, k2, k3, hbel, by rw [HZ.out]; omega⟩
  case round =>
    obtain ⟨k, hk, rfl, ⟨A', c', rfl, hown⟩, j0, j1, j2, j3, hbr, hszr⟩ := hrel
    clear k0 k1 k2 k3 hbel HZ
    by_cases hlt : k < l.length
    · obtain ⟨ad, rfl, hadb, hca⟩ := hA.at_ (k := k) (by simpa using hlt)
      have hc1 : wr.cell? (ad.add k) = some (.int .i64 l[k]) := by rw [hbr.cell (by rw [add_block]; exact hadb), hca]; simp
      have HX := hide (bRun_snoc b r (t, a) (l.take k) l[k])
      clear hca hA
      generalize hx : bRun b r (t, a) (l.take k) = x at *
      have hw2 : wr.ownsRow (w.heap.size + 5) 4 1 (.slice A' k c') k (x.2.map Value.bool) := hown
      go_wp2_with fail
      refine (bucket_taker1_any _ _ _ _ _ _ _ _ (by omega) (by omega) _ j2 j3 j0).mono ?_; rintro e w2 ⟨rfl, q0, hg⟩
      have q1 := j1.gr hg (by omega)
      have q2 := j2.gr hg (by omega)
      have q3 := j3.gr hg (by omega)
      have hb2 : Below w.heap.size w w2 := hbr.trans (Gr.below (B := w.heap.size) hg (by omega) (by omega))
      have hown2 : w2.ownsRow (w.heap.size + 5) 4 1 (.slice A' k c') k (x.2.map Value.bool) := hown.kept hg (by
        right; intro e; have := hown.lt _ e; omega)
      have hz2' := hg.size
      go_wp2_with (at_builtin; refine wpList_app rfl (.tmp 20) (.tmp 24) 48 rfl (w.heap.size + 5) 4 i0 _ 1 1 Try.underlying48 hi hz0 hz1 hz2 rfl (by omega) A' k c' (x.2.map Value.bool) rfl (hown2.alloc _) ⟨w2.heap.size, 0, none⟩ 1 1 [.bool (bTake b r x.1.1 x.1.2 l[k] 1).2] rfl rfl (news_at (cs := [_])) (by simp [Value.oneCell']) (by unfold maxLen; omega) (by omega) (by simp; omega) (by omega) ?_; intro g cap w3 hown3 hb3)
      go_roundw
      case rel =>
        have e : bRun b r (t, a) (l.take (k + 1)) = ((bTake b r x.1.1 x.1.2 l[k] 1).1, x.2 ++ [(bTake b r x.1.1 x.1.2 l[k] 1).2]) := by
          rw [take_snoc' l k hlt]; exact HX.out
        have lt2 : w.heap.size + 5 ≤ w2.heap.size := by omega
        have h3 := hb3.size
        simp at h3
        have hnew : Below w2.heap.size w2 (w2.alloc (.cells #[.bool (bTake b r x.1.1 x.1.2 l[k] 1).2] 4)) := by (repeat (first | with_reducible exact Below.refl _ _ | with_reducible assumption | with_reducible refine Below.drew ?_ | with_reducible refine Below.drewN ?_ _ | with_reducible refine Below.alloc1 ?_ _ | with_reducible refine Below.setCell1 ?_ (by first | omega | (simp; done) | (simp; omega)) _ | with_reducible refine Below.step ?_ (by with_reducible assumption)))
        have hb3' : Below (w.heap.size + 5) w2 w3 := (hnew.mono lt2).trans hb3
        refine ⟨k + 1, by omega, by go_num, ?_⟩
        rw [e]
        refine ⟨⟨_, _, rfl, ?_⟩, q0.below hb3' (by omega), q1.below hb3' (by omega), q2.below hb3' (by omega), q3.below hb3' (by omega), hb2.trans (hb3'.mono (by omega)), by omega⟩
        simpa using hown3
      case measure => simp [intOf]; omega
    · have j0_0 := j0.cell 0; have j0_f0 := j0.frozen 0; have j0_1 := j0.cell 1; have j0_f1 := j0.frozen 1; simp only [List.set_cons_zero, List.set_cons_succ, List.getElem?_cons_zero, List.getElem?_cons_succ] at j0_0 j0_1
      have j1_0 := j1.cell 0; have j1_f0 := j1.frozen 0; have j1_1 := j1.cell 1; have j1_f1 := j1.frozen 1; simp only [List.set_cons_zero, List.set_cons_succ, List.getElem?_cons_zero, List.getElem?_cons_succ] at j1_0 j1_1
      rw [List.take_of_length_le (by omega)] at hown j0 j0_0 j0_1
      obtain rfl : k = l.length := by omega
      go_wp2_with fail
      exact bodyPost_ret (v := .tuple #[.agg #[.int .i64 (bRun b r (t, a) l).1.1, .int .i64 (bRun b r (t, a) l).1.2], .slice A' l.length c']) (by simp only [results, Try.results20]; go_simp) rfl
        ⟨A', c', rfl, own_rd (own_far (p := ⟨w.heap.size + 1 + 1, 1, none⟩) (own_far (p := ⟨w.heap.size + 1 + 1, 0, none⟩) hown (by dsimp only; omega) _) (by dsimp only; omega) _), (own_fr hown).mono (by omega), by (repeat (first | with_reducible exact Below.refl _ _ | with_reducible assumption | with_reducible refine Below.drew ?_ | with_reducible refine Below.drewN ?_ _ | with_reducible refine Below.alloc1 ?_ _ | with_reducible refine Below.setCell1 ?_ (by first | omega | (simp; done) | (simp; omega)) _ | with_reducible refine Below.step ?_ (by with_reducible assumption)))⟩
end Go.Proofs.Ythbflgaekoaigaa
