/- Package wheel: one that is not there. The law's due; SameDue of the reference. -/
import Derived.Test.YtbljiohdfjmhfaaWh8
import Derived.Shelf.Abstract
import Derived.Lib.LazyBuf
namespace Go.Proofs.Ytbljiohdfjmhfaa
open Go.RowKit Go.Sort Go.Maps
set_option linter.unusedSimpArgs false
set_option linter.unusedVariables false

theorem wn_Next (w : World) : Calls Try.prog 23 #[.pointer none] w (fun e w' => e = .returned (.slice none 0 0) ∧ w = w') ∧ Calls Try.prog 19 #[.pointer none] w fun e w' => e = .returned (.tuple #[.int .i64 0, .bool false]) ∧ w = w' := by
  have h1 : Calls Try.prog 23 #[.pointer none] w (fun e w' => e = .returned (.slice none 0 0) ∧ w = w') := by
    go_enter Try.func23, Try.ntmps23
    go_wp2
    go_ret
    exact ⟨rfl, rfl⟩
  refine ⟨h1, ?_⟩
  go_enter Try.func19, Try.ntmps19
  go_wp2_with (go_at_call 23; refine h1.mono ?_; rintro e w' ⟨rfl, rfl⟩)
  go_ret2
  exact ⟨rfl, rfl⟩
theorem wn_When (w : World) (id : Int) : Calls Try.prog 21 #[.pointer none, .int .i64 id] w fun e w' => e = .returned (.tuple #[.int .i64 0, .bool false]) ∧ w = w' := by
  go_enter Try.func21, Try.ntmps21
  go_wp2
  go_ret2
  exact ⟨rfl, rfl⟩
theorem wn_Set (w : World) (id t : Int) : Calls Try.prog 17 #[.pointer none, .int .i64 id, .int .i64 t] w fun e w' => e = .returned (.int .i64 1) ∧ w = w' := by
  go_enter Try.func17, Try.ntmps17
  go_wp2
  go_ret
  exact ⟨rfl, rfl⟩
theorem wn_Stop (w : World) (id : Int) : Calls Try.prog 10 #[.pointer none, .int .i64 id] w fun e w' => e = .returned (.bool false) ∧ w = w' := by
  go_enter Try.func10, Try.ntmps10
  go_wp2
  go_ret
  exact ⟨rfl, rfl⟩
theorem wn_Go (w : World) (t : Int) : Calls Try.prog 14 #[.pointer none, .int .i64 t] w fun e w' => e = .returned (.slice none 0 0) ∧ w = w' := by
  go_enter Try.func14, Try.ntmps14
  go_wp2
  go_ret
  exact ⟨rfl, rfl⟩
theorem wn_Len (w : World) : Calls Try.prog 24 #[.pointer none] w fun e w' => e = .returned (.int .i64 0) ∧ w = w' := by
  go_enter Try.func24, Try.ntmps24
  go_wp2
  go_ret
  exact ⟨rfl, rfl⟩
theorem wn_Now (w : World) : Calls Try.prog 25 #[.pointer none] w fun e w' => e = .returned (.int .i64 0) ∧ w = w' := by
  go_enter Try.func25, Try.ntmps25
  go_wp2
  go_ret
  exact ⟨rfl, rfl⟩
theorem wn_Load (w : World) : Calls Try.prog 27 #[.pointer none] w fun e w' => e = .returned (.slice none 0 0) ∧ w = w' := by
  go_enter Try.func27, Try.ntmps27
  go_wp2
  go_ret
  exact ⟨rfl, rfl⟩

theorem rdue_info : (Try.prog.info? 65).map (fun i => (i.zero, i.size, i.bytes)) = some (some (duV (0, 0)), 2, 16) := by kernel_rfl
theorem due_any (w : World) (A : Option Addr) (c : Nat) (l : IL) (hl : l.length ≤ 1000) (ha : Rd w w.heap.size A (duR l)) :
    Calls Try.prog 13 #[.slice A l.length c] w fun e w' => ∃ B d, e = .returned (.slice B l.length d) ∧ w'.ownsRow w.heap.size 65 2 (.slice B l.length d) l.length (duR l) ∧ Below w.heap.size w w' := by
  obtain ⟨i0, hi0, hz0, hz1, hz2⟩ := info_parts rdue_info
  go_enter Try.func13, Try.ntmps13
  go_wp2
  go_loopw [3, 4] (fun o i wr => ∃ (k : Nat) (B : Option Addr) (d : Nat), k ≤ l.length ∧ i = .int .i64 k ∧ o = .slice B k d ∧ wr.ownsRow w.heap.size 65 2 (.slice B k d) k (duR (l.take k)) ∧ Below w.heap.size w wr) (fun _ i _ => l.length - (intOf i).toNat)
  case atStart => exact ⟨0, none, 0, Nat.zero_le _, rfl, rfl, World.ownsRow_nil _ _ _ _, by (repeat (first | with_reducible exact Below.refl _ _ | with_reducible assumption | with_reducible refine Below.drew ?_ | with_reducible refine Below.drewN ?_ _ | with_reducible refine Below.alloc1 ?_ _ | with_reducible refine Below.setCell1 ?_ (by first | omega | (simp; done) | (simp; omega)) _ | with_reducible refine Below.step ?_ (by with_reducible assumption)))⟩
  case round =>
    obtain ⟨k, B, d, hk, rfl, rfl, own, hb⟩ := hrel
    by_cases hlt : k < l.length
    · obtain ⟨ad, rfl, hadb, q0, q1⟩ := (ha.below hb).du hlt
      have hD := take_snocL l k hlt
      have HD := hide hD
      have sz := hb.size
      clear hD
      generalize l[k] = x at *
      obtain ⟨x1, x2⟩ := x
      simp only at q0 q1
      generalize hd : l.take k = D at *
      have HL := hide hd
      clear hd
      go_wp2_with (at_builtin; refine wpList_app2 rfl (.tmp 11) (.tmp 16) 28 rfl w.heap.size 65 i0 _ 2 16 Try.underlying28 hi0 hz0 hz1 hz2 rfl (by omega) B k d (duR D) rfl (own.alloc _) ⟨wr.heap.size, 0, none⟩ 1 1 [.int .i64 x1, .int .i64 x2] rfl rfl (news_atE (w := wr) (cs := [.int .i64 x1, .int .i64 x2]) (e := 65) rfl) (by simp [Value.oneCell']) (by unfold maxLen; omega) (by omega) (by simp; omega) (by omega) ?_; intro g2 cap w2 own2 hb2 hgr2)
      have hb3 : Below w.heap.size w w2 := (hb.alloc sz (.cells #[.int .i64 x1, .int .i64 x2] 65)).trans hb2
      go_roundw
      case rel => exact ⟨k + 1, _, cap, by omega, by go_num, rfl, by rw [HD.out]; simpa [duR] using own2, hb3⟩
      case measure => simp [intOf]; omega
    · have hkn : k = l.length := by omega
      subst hkn
      go_wp2
      go_ret
      rw [List.take_length] at own
      exact ⟨B, d, rfl, own, hb⟩

theorem rdue_neq (x y : Int × Int) (b : Bool) (hb : b = decide (x = y)) (w' : World) : (binOp .neq 65 (duV x) (duV y)).run Try.prog w' = .ok (.bool (!b)) w' := by
  subst hb
  obtain ⟨x0, x1⟩ := x
  obtain ⟨y0, y1⟩ := y
  have hS : Try.prog.underlying 65 = some (.struct (Try.prog.fieldsOf 65)) := by kernel_rfl
  have hp : Try.prog.stoodInHeld 65 = false := by kernel_rfl
  rw [run_neq_struct, show (10000 : Nat) = 9999 + 1 from rfl, run_equalIn_agg w' 9999 65 _ _ hS hp]
  simp only [Program.fieldsOf, Try.underlying65]
  go_simp
  by_cases h0 : x0 = y0 <;> by_cases h1 : x1 = y1 <;> simp_all
theorem SameDue_any (A B : Option Addr) (c d : Nat) (l m : IL) (w : World) (hl : l.length ≤ 1000) (ha : Rd w w.heap.size A (duR l)) (hb : Rd w w.heap.size B (duR m)) :
    Calls Try.prog 16 #[.slice A l.length c, .slice B m.length d] w fun e w' => e = .returned (.bool (decide (l = m))) ∧ ∃ n, w.drewN n = w' := by
  by_cases hlen : l.length = m.length
  · have hne : ((l.length : Int) != (m.length : Int)) = false := by rw [bne_eq_false_iff_eq]; omega
    have hlen' : l.length ≤ m.length ∧ m.length ≤ l.length := by omega
    have HL := hide hlen
    clear hlen
    go_enter Try.func16, Try.ntmps16
    go_wp2
    go_loopw [5] (fun i wr => ∃ k : Nat, k ≤ l.length ∧ i = .int .i64 k ∧ l.take k = m.take k ∧ ∃ n, w.drewN n = wr) (fun i _ => l.length - (intOf i).toNat)
    case atStart => exact ⟨0, Nat.zero_le _, rfl, rfl, 0, rfl⟩
    case round =>
      obtain ⟨k, hk, rfl, ht, n, rfl⟩ := hrel
      have HT := hide ht
      clear ht
      by_cases hlt : k < l.length
      · obtain ⟨ad, rfl, _, a0, a1⟩ := ha.du hlt
        have h2 : k < m.length := by omega
        obtain ⟨bd, rfl, _, b0, b1⟩ := hb.du h2
        have HE : Hid (l[k] = m[k] ↔ (l[k].1 = m[k].1 ∧ l[k].2 = m[k].2)) := by unfold Hid; exact Prod.ext_iff
        have HS := hide (take_eq_succ (α := Int × Int) l m k hlt h2 HT.out)
        by_cases he : l[k].1 = m[k].1 ∧ l[k].2 = m[k].2
        · obtain ⟨e1, e2⟩ := he
          have hs := HS.out (HE.out.2 ⟨e1, e2⟩)
          have HS2 := hide hs
          clear HS HE hs
          rw [← e1] at b0
          rw [← e2] at b1
          generalize l[k].1 = x1 at *
          generalize l[k].2 = x2 at *
          clear e1 e2
          go_wp2
          go_quiet (fail)
          go_wp2
          go_roundw
          case rel => exact ⟨k + 1, by omega, by go_num, HS2.out, _, rfl⟩
          case measure => simp [intOf]; omega
        · have hno : ¬ l = m := fun e => he (HE.out.1 (by subst e; rfl))
          clear HS HE
          have hq := fun W => rdue_neq l[k] m[k] false (by rw [eq_comm, decide_eq_false_iff_not]; intro e; exact he (by rw [e]; exact ⟨rfl, rfl⟩)) W
          simp only [Bool.not_false, duV] at hq
          clear he
          generalize l[k].1 = x1 at *
          generalize l[k].2 = x2 at *
          generalize m[k].1 = y1 at *
          generalize m[k].2 = y2 at *
          go_wp2
          go_quiet (fail)
          go_wp2
          go_ret
          exact ⟨ret_bool (by rw [eq_comm, decide_eq_false_iff_not]; exact hno), qt_trans ⟨_, rfl⟩ ⟨_, rfl⟩⟩
      · go_wp2
        go_ret
        refine ⟨ret_bool ?_, _, rfl⟩
        have h := HT.out
        rw [List.take_of_length_le (by omega), List.take_of_length_le (by omega)] at h
        rw [eq_comm, decide_eq_true_eq]
        exact h
  · have hne : ((l.length : Int) != (m.length : Int)) = true := by rw [bne_iff_ne]; omega
    go_enter Try.func16, Try.ntmps16
    go_wp2
    go_ret
    exact ⟨ret_bool (by rw [eq_comm, decide_eq_false_iff_not]; intro e; exact hlen (by rw [e])), 0, rfl⟩
end Go.Proofs.Ytbljiohdfjmhfaa
