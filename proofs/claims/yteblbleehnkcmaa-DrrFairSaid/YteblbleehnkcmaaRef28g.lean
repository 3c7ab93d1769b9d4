/- callboylaw28.loads, callboyref28: Light, sizes. -/
import Derived.Test.YteblbleehnkcmaaRef28f
namespace Go.Proofs.Yteblbleehnkcmaa
open Go.RowKit Go.Sort
set_option linter.unusedSimpArgs false
set_option linter.unusedVariables false

theorem ld_info : (Try.prog.info? 64).map (fun i => (i.zero, i.size, i.bytes)) = some (some (.agg #[.int .i64 0, .slice none 0 0]), 2, 32) := by kernel_rfl
theorem ldR_snoc (l : List Ld) (k : Nat) (h : k < l.length) : ldR (l.take (k + 1)) = ldR (l.take k) ++ ldC l[k] := by
  show (l.take (k + 1)).flatMap ldC = (l.take k).flatMap ldC ++ ldC l[k]
  rw [take_snocL l k h, List.flatMap_append]; simp
set_option maxRecDepth 100000 in
set_option maxHeartbeats 8000000 in
theorem law_loads_any (A : Option Addr) (c : Nat) (l : List Ld) (w : World) (hl : l.length ≤ 1000) (ha : Lds w w.heap.size A l) :
    Calls Try.prog 10 #[.slice A l.length c] w fun e w' => ∃ B d, e = .returned (.slice B l.length d) ∧ Lds w' w'.heap.size B l ∧ Below w.heap.size w w' := by
  obtain ⟨iT, hi, hz0, hz1, hz2⟩ := info_parts ld_info
  go_enter Try.func10, Try.ntmps10
  go_wp2_with fail
  go_loopw [3, 4] (fun s i wr => ∃ k : Nat, k ≤ l.length ∧ i = .int .i64 k ∧ (∃ W cW, s = .slice W k cW ∧ wr.ownsRow w.heap.size 64 2 (.slice W k cW) k (ldR (l.take k))) ∧ w.heap.size ≤ wr.heap.size ∧ Below w.heap.size w wr) (fun _ i _ => l.length - (intOf i).toNat)
  case atStart => exact ⟨0, Nat.zero_le _, rfl, ⟨none, 0, rfl, ⟨by simp [ldR], .inl ⟨rfl, rfl⟩⟩⟩, Nat.le_refl _, by (repeat (first | with_reducible exact Below.refl _ _ | with_reducible assumption | with_reducible refine Below.drew ?_ | with_reducible refine Below.drewN ?_ _ | with_reducible refine Below.alloc1 ?_ _ | with_reducible refine Below.setCell1 ?_ (by first | omega | (simp; done) | (simp; omega)) _ | with_reducible refine Below.step ?_ (by with_reducible assumption)))⟩
  case round =>
    obtain ⟨k, hk, rfl, ⟨W, cW, rfl, own⟩, hbw, hb⟩ := hrel
    by_cases hlt : k < l.length
    · obtain ⟨ad, rfl, hadb, c1, c2⟩ := (ha.1.below hb).ld hlt
      have HSN := hide (ldR_snoc l k hlt)
      generalize l[k] = x at *
      have cq1 : ∀ d os, (grow (redrawn wr d) os).cell? (ad.add (k * 2)) = some (.int .i64 x.id) := fun d os => ((below_regrown wr d os).cell (by rw [add_block]; omega)).trans c1
      have cq2 : ∀ d os, (grow (redrawn wr d) os).cell? ⟨(ad.add (k * 2)).block, (ad.add (k * 2)).off + 1, none⟩ = some (.slice x.A x.xs.length x.c) := fun d os => ((below_regrown wr d os).cell (by dsimp only; rw [add_block]; omega)).trans c2
      go_wp2_with fail
      refine wp_region_mt 13 [(12, RowAt 1 (ldC x))] (by kernel_rfl) (by kernel_rfl) (by kernel_rfl) (by kernel_rfl) (sts_cons (sts_row _ _) sts_nil) (fun kq => ?_); (try dsimp only [List.append, List.take])
      (repeat (refine wpM_via (by kernel_rfl) ?_; go_big_quiet_step (fail); refine wpQuiet_nil ?_))
      (refine wpM_spec _ (RowAt 1 (ldC x)) (by kernel_rfl) (by kernel_rfl) rfl (later_some _) ?_ ?_; (focus (intro x hx hk; obtain ⟨px, rfl⟩ := hx; go_simp; (first | with_reducible refine mUpon_enter ?_ | with_reducible refine mUpon_value ?_); exact row_new (by simp [Go.Sort.grow]) rfl)); intro v hv K hK; obtain ⟨A2, c2', rfl⟩ := hv; go_big_quiet_op; refine hK _ ?_; clear hK K)
      refine wpM_nil ?_; intro wq hwq hfq; have hbq := below_of_class hwq; clear hwq kq; (try dsimp only [List.drop])
      have hrow := row_of hfq.1
      obtain ⟨ad2, rfl, hab, _⟩ := hrow (by simp [ldC])
      have hsq := hbq.size
      have own2 := own_below own hbq (Nat.le_refl _)
      replace hb : Below w.heap.size w wq := hb.step hbq
      clear hfq hbq own cq1 cq2 c1 c2
      refine wpList_app2 rfl (.tmp 11) (.tmp 23) 33 rfl w.heap.size 64 iT _ 2 32 Try.underlying33 hi hz0 hz1 hz2 rfl (by omega) W k cW (ldR (l.take k)) rfl own2 ad2 1 c2' (ldC x) rfl rfl (rd_hnews hrow) (by simp [Value.oneCell', ldC]) (by unfold maxLen; omega) (by omega) (by omega) (by omega) ?_
      intro g cap w7 own7 hb7 hgr7
      have hs7 := hb7.size
      replace hb : Below w.heap.size w w7 := hb.trans hb7
      clear hi hz0 hz1 hz2 iT own2 hrow hab hb7 hgr7
      go_wp2
      go_roundw
      case rel => exact ⟨k + 1, by omega, by go_num, ⟨_, cap, rfl, by rw [HSN.out]; exact own7⟩, by omega, hb⟩
      case measure => simp [intOf]; omega
    · have hkl : k = l.length := by omega
      subst hkl
      rw [List.take_length] at own
      go_wp2
      go_ret
      exact ⟨W, cW, rfl, ⟨own_rd own, fun x hx => ((ha.2.1 x hx).below hb).more hbw, ha.2.2⟩, hb⟩
def lLoop : Int → List Ld → Bool
  | _, [] => true
  | n, x :: r => if 70 < x.xs.length ∨ 400 < n then false else lLoop (n + x.xs.length) r
def lLight (l : List Ld) : Bool := if 70 < l.length then false else lLoop 0 l
theorem lLoop_ok {n : Int} {l : List Ld} (h : lLoop n l = true) : ∀ x ∈ l, x.xs.length ≤ 70 := by
  induction l generalizing n with
  | nil => simp
  | cons x r ih =>
    rw [lLoop] at h
    split at h
    · cases h
    · rename_i hc
      intro y hy
      rcases List.mem_cons.1 hy with rfl | hy
      · omega
      · exact ih h y hy
theorem lLight_ok {l : List Ld} (h : lLight l = true) : l.length ≤ 70 ∧ ∀ x ∈ l, x.xs.length ≤ 70 := by
  unfold lLight at h
  split at h
  · cases h
  · exact ⟨by omega, lLoop_ok h⟩
set_option maxRecDepth 100000 in
set_option maxHeartbeats 8000000 in
theorem ref_Light_any (A : Option Addr) (c : Nat) (l : List Ld) (w : World) (hl : l.length ≤ maxLen) (hx : ∀ x ∈ l, x.xs.length ≤ maxLen) (ha : Lds w w.heap.size A l) :
    Calls Try.prog 7 #[.slice A l.length c] w fun e w' => e = .returned (.bool (lLight l)) ∧ Below w.heap.size w w' := by
  unfold maxLen at hl hx
  have HX := hide hx
  clear hx
  by_cases h1 : 70 < l.length
  · have hr : lLight l = false := by unfold lLight; rw [if_pos h1]
    have g1 : (70 : Int) < (l.length : Int) := by omega
    go_enter Try.func7, Try.ntmps7
    go_wp2
    go_ret
    exact ⟨ret_bool hr.symm, by (repeat (first | with_reducible exact Below.refl _ _ | with_reducible assumption | with_reducible refine Below.drew ?_ | with_reducible refine Below.drewN ?_ _ | with_reducible refine Below.alloc1 ?_ _ | with_reducible refine Below.setCell1 ?_ (by first | omega | (simp; done) | (simp; omega)) _ | with_reducible refine Below.step ?_ (by with_reducible assumption)))⟩
  · have hr : lLight l = lLoop 0 l := by unfold lLight; rw [if_neg h1]
    have HR := hide hr
    have g1 : (l.length : Int) ≤ 70 := by omega
    clear hr h1
    generalize lLight l = R at *
    go_enter Try.func7, Try.ntmps7
    go_wp2_with fail
    go_loopw [3, 4] (fun n i wr => ∃ k : Nat, k ≤ l.length ∧ i = .int .i64 k ∧ (∃ v : Int, n = .int .i64 v ∧ 0 ≤ v ∧ v ≤ 470 ∧ Hid (R = lLoop v (l.drop k))) ∧ Below w.heap.size w wr) (fun _ i _ => l.length - (intOf i).toNat)
    case atStart => exact ⟨0, Nat.zero_le _, rfl, ⟨0, rfl, by omega, by omega, HR⟩, by (repeat (first | with_reducible exact Below.refl _ _ | with_reducible assumption | with_reducible refine Below.drew ?_ | with_reducible refine Below.drewN ?_ _ | with_reducible refine Below.alloc1 ?_ _ | with_reducible refine Below.setCell1 ?_ (by first | omega | (simp; done) | (simp; omega)) _ | with_reducible refine Below.step ?_ (by with_reducible assumption)))⟩
    case round =>
      clear HR
      obtain ⟨k, hk, rfl, ⟨v, rfl, hv0, hv1, HR⟩, hb⟩ := hrel
      by_cases hlt : k < l.length
      · obtain ⟨ad, rfl, hadb, c1, c2⟩ := (ha.1.below hb).ld hlt
        have hd := List.drop_eq_getElem_cons hlt
        have hr := HR.out
        rw [hd, lLoop] at hr
        replace HR := hide hr
        have hxl := HX.out _ (List.getElem_mem hlt)
        clear hr hd
        generalize l[k] = x at *
        by_cases h2 : 70 < x.xs.length
        · have hr := HR.out
          rw [if_pos (.inl h2)] at hr
          replace HR := hide hr
          have g2 : (70 : Int) < (x.xs.length : Int) := by omega
          clear hr h2
          go_wp2
          go_ret
          exact ⟨ret_bool HR.out.symm, by (repeat (first | with_reducible exact Below.refl _ _ | with_reducible assumption | with_reducible refine Below.drew ?_ | with_reducible refine Below.drewN ?_ _ | with_reducible refine Below.alloc1 ?_ _ | with_reducible refine Below.setCell1 ?_ (by first | omega | (simp; done) | (simp; omega)) _ | with_reducible refine Below.step ?_ (by with_reducible assumption)))⟩
        · have g2 : (x.xs.length : Int) ≤ 70 := by omega
          by_cases h3 : 400 < v
          · have hr := HR.out
            rw [if_pos (.inr h3)] at hr
            replace HR := hide hr
            clear hr h2
            go_wp2
            go_ret
            exact ⟨ret_bool HR.out.symm, by (repeat (first | with_reducible exact Below.refl _ _ | with_reducible assumption | with_reducible refine Below.drew ?_ | with_reducible refine Below.drewN ?_ _ | with_reducible refine Below.alloc1 ?_ _ | with_reducible refine Below.setCell1 ?_ (by first | omega | (simp; done) | (simp; omega)) _ | with_reducible refine Below.step ?_ (by with_reducible assumption)))⟩
          · have hr := HR.out
            rw [if_neg (by omega)] at hr
            replace HR := hide hr
            have g3 : v ≤ 400 := by omega
            clear hr h2 h3
            go_wp2
            go_roundw
            case rel => exact ⟨k + 1, by omega, by go_num, ⟨_, rfl, by omega, by omega, HR⟩, by (repeat (first | with_reducible exact Below.refl _ _ | with_reducible assumption | with_reducible refine Below.drew ?_ | with_reducible refine Below.drewN ?_ _ | with_reducible refine Below.alloc1 ?_ _ | with_reducible refine Below.setCell1 ?_ (by first | omega | (simp; done) | (simp; omega)) _ | with_reducible refine Below.step ?_ (by with_reducible assumption)))⟩
            case measure => simp [intOf]; omega
      · have hr := HR.out
        rw [List.drop_eq_nil_of_le (by omega), lLoop] at hr
        replace HR := hide hr
        clear hr
        go_wp2
        go_ret
        exact ⟨ret_bool HR.out.symm, by (repeat (first | with_reducible exact Below.refl _ _ | with_reducible assumption | with_reducible refine Below.drew ?_ | with_reducible refine Below.drewN ?_ _ | with_reducible refine Below.alloc1 ?_ _ | with_reducible refine Below.setCell1 ?_ (by first | omega | (simp; done) | (simp; omega)) _ | with_reducible refine Below.step ?_ (by with_reducible assumption)))⟩
set_option maxRecDepth 100000 in
set_option maxHeartbeats 8000000 in
theorem ref_sizes_any (A : Option Addr) (c : Nat) (l : List Ld) (id : Int) (w : World) (hl : l.length ≤ 1000) (ha : Lds w w.heap.size A l) :
    Calls Try.prog 35 #[.slice A l.length c, .int .i64 id] w fun e w' => e = .returned (.slice (dWait l id).A (dWait l id).xs.length (dWait l id).c) ∧ Below w.heap.size w w' := by
  go_enter Try.func35, Try.ntmps35
  go_wp2_with fail
  go_loopw [5] (fun i wr => ∃ k : Nat, k ≤ l.length ∧ i = .int .i64 k ∧ (∀ x ∈ l.take k, (x.id == id) = false) ∧ Below w.heap.size w wr) (fun i _ => l.length - (intOf i).toNat)
  case atStart => exact ⟨0, Nat.zero_le _, rfl, by simp, by (repeat (first | with_reducible exact Below.refl _ _ | with_reducible assumption | with_reducible refine Below.drew ?_ | with_reducible refine Below.drewN ?_ _ | with_reducible refine Below.alloc1 ?_ _ | with_reducible refine Below.setCell1 ?_ (by first | omega | (simp; done) | (simp; omega)) _ | with_reducible refine Below.step ?_ (by with_reducible assumption)))⟩
  case round =>
    obtain ⟨k, hk, rfl, ht, hb⟩ := hrel
    have HT := hide ht
    clear ht
    by_cases hlt : k < l.length
    · obtain ⟨ad, rfl, hadb, c1, c2⟩ := (ha.1.below hb).ld hlt
      by_cases hp : (l[k].id == id) = true
      · have hr : dWait l id = l[k] := by
          have h1 := idxI_at (p := fun f : Ld => f.id == id) hlt HT.out hp
          rcases dWait_cases l id with ⟨e, _⟩ | ⟨j, hj, e, e2⟩
          · rw [h1] at e; omega
          · rw [h1] at e
            have : k = j := by omega
            subst this; exact e2
        have hp2 : l[k].id = id := by simpa using hp
        have HR := hide hr
        clear hr
        go_wp2
        go_ret
        exact ⟨by rw [HR.out]; rfl, by (repeat (first | with_reducible exact Below.refl _ _ | with_reducible assumption | with_reducible refine Below.drew ?_ | with_reducible refine Below.drewN ?_ _ | with_reducible refine Below.alloc1 ?_ _ | with_reducible refine Below.setCell1 ?_ (by first | omega | (simp; done) | (simp; omega)) _ | with_reducible refine Below.step ?_ (by with_reducible assumption)))⟩
      · have hp' : (l[k].id == id) = false := by simpa using hp
        have hp2 : ¬ l[k].id = id := by simpa using hp
        have hn := none_take hlt HT.out hp'
        go_wp2
        go_roundw
        case rel => exact ⟨k + 1, by omega, by go_num, hn, by (repeat (first | with_reducible exact Below.refl _ _ | with_reducible assumption | with_reducible refine Below.drew ?_ | with_reducible refine Below.drewN ?_ _ | with_reducible refine Below.alloc1 ?_ _ | with_reducible refine Below.setCell1 ?_ (by first | omega | (simp; done) | (simp; omega)) _ | with_reducible refine Below.step ?_ (by with_reducible assumption)))⟩
        case measure => simp [intOf]; omega
    · have hr : dWait l id = ⟨0, none, 0, []⟩ := by
        have h1 := idxI_none (p := fun f : Ld => f.id == id) (l := l) (by have := HT.out; rwa [List.take_of_length_le (by omega)] at this)
        rcases dWait_cases l id with ⟨_, e⟩ | ⟨j, hj, e, e2⟩
        · exact e
        · rw [h1] at e; omega
      have HR := hide hr
      clear hr
      go_wp2
      go_ret
      exact ⟨by rw [HR.out]; rfl, by (repeat (first | with_reducible exact Below.refl _ _ | with_reducible assumption | with_reducible refine Below.drew ?_ | with_reducible refine Below.drewN ?_ _ | with_reducible refine Below.alloc1 ?_ _ | with_reducible refine Below.setCell1 ?_ (by first | omega | (simp; done) | (simp; omega)) _ | with_reducible refine Below.step ?_ (by with_reducible assumption)))⟩
end Go.Proofs.Yteblbleehnkcmaa
