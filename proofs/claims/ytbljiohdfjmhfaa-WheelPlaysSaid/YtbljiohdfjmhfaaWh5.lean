/- Package wheel: All, Next, Load. -/
import Derived.Test.YtbljiohdfjmhfaaSd
namespace Go.Proofs.Ytbljiohdfjmhfaa
open Go.RowKit Go.Sort Go.Maps
open Dn (ltP sorted_any)
set_option linter.unusedSimpArgs false
set_option linter.unusedVariables false

theorem filter_or {α : Type} (L : List α) (a b : α → Bool) (h : ∀ p ∈ L, a p = true → b p = false) : (L.filter a ++ L.filter b).Perm (L.filter (fun p => a p || b p)) := by
  induction L with
  | nil => exact .refl _
  | cons x L ih =>
    have ih := ih (fun p hp => h p (List.mem_cons_of_mem _ hp))
    have hx := h x (by simp)
    cases ha : a x <;> cases hb : b x
    · simpa [List.filter_cons, ha, hb] using ih
    · simp only [List.filter_cons, ha, hb, Bool.or_true, if_true, Bool.false_eq_true, if_false]
      exact List.perm_middle.trans (ih.cons x)
    · simp only [List.filter_cons, ha, hb, Bool.or_false, if_true, Bool.false_eq_true, if_false, List.cons_append]
      exact ih.cons x
    · rw [hx ha] at hb; cases hb
def cutL (n k : Nat) (now : Int) (L : IL) : IL := L.filter (fun p => decide (p.2 % (n : Int) < k) && decide (p.2 ≤ now))
theorem cut_step (n k : Nat) (now : Int) (L : IL) : (cutL n k now L ++ upL n k now L).Perm (cutL n (k + 1) now L) := by
  unfold cutL upL slotL
  rw [List.filter_filter]
  refine (filter_or L _ _ ?_).trans (.of_eq (List.filter_congr fun p _ => ?_))
  · intro p _ h
    simp only [Bool.and_eq_true, decide_eq_true_eq] at h
    have : ¬ (p.2 % (n : Int) = k) := by omega
    simp [this]
  · rw [Bool.eq_iff_iff]
    simp only [Bool.or_eq_true, Bool.and_eq_true, decide_eq_true_eq, beq_iff_eq]
    omega
theorem cut_all (n : Nat) (hn : 1 ≤ n) (now : Int) (L : IL) (h : ∀ p ∈ L, p.2 ≤ now) : cutL n n now L = L :=
  List.filter_eq_self.2 fun p hp => by
    have := Int.emod_lt_of_pos p.2 (b := (n : Int)) (by omega)
    simp [h p hp, this]
theorem cut_few (n k : Nat) (now : Int) (L : IL) : (cutL n k now L).length ≤ L.length := List.length_filter_le _ _

theorem wh_All (W : World) (g wm : Nat) (ad : Addr) (rs : List Nat) (S : WS) (h : Wh W g wm ad rs S) :
    Calls Try.prog 23 #[.pointer (some ⟨g, 0, none⟩)] W fun e w' => ∃ A c l, e = .returned (.slice A l.length c) ∧ l.Perm S.l ∧ l.Pairwise (fun p q => ¬ ltP q p) ∧ Rd w' w'.heap.size A (duR l) ∧ Fr W.heap.size A ∧ Below W.heap.size W w' := by
  obtain ⟨i0, hi0, hz0, hz1, hz2⟩ := info_parts due_info
  have few := h.few
  have hn := h.hn
  have hup := fun W' (hb : Below W.heap.size W W') i hi => wh_upto W' g wm ad rs S i hi 1099511627776 (h.step hb)
  have hcut := cut_all S.n hn.1 1099511627776 S.l (fun p hp => (h.ok p hp).2.2.2)
  have hok := h.ok
  obtain ⟨⟨c, hc⟩, h1, h2, h3, h4, h5, h6, h7, h8⟩ := h
  have c0 := hc.cell 0
  simp at c0
  have HO := hide hok
  have HC := hide hcut
  clear hok hcut h8
  go_enter Try.func23, Try.ntmps23
  go_wp2
  go_loopw [3, 12] (fun o i wr => ∃ (k : Nat) (l : IL) (A : Option Addr) (c : Nat), k ≤ S.n ∧ i = .int .i64 k ∧ o = .slice A l.length c ∧ wr.ownsRow W.heap.size 62 2 (.slice A l.length c) l.length (duR l) ∧
      l.Perm (cutL S.n k 1099511627776 S.l) ∧ Below W.heap.size W wr) (fun _ i _ => S.n - (intOf i).toNat)
  case atStart => exact ⟨0, [], none, 0, Nat.zero_le _, rfl, rfl, World.ownsRow_nil _ _ _ _, by
    have : cutL S.n 0 1099511627776 S.l = [] := List.filter_eq_nil_iff.2 fun p _ => by
      have := Int.emod_nonneg p.2 (b := (S.n : Int)) (by omega)
      simp; omega
    rw [this], by (repeat (first | with_reducible exact Below.refl _ _ | with_reducible assumption | with_reducible refine Below.drew ?_ | with_reducible refine Below.drewN ?_ _ | with_reducible refine Below.alloc1 ?_ _ | with_reducible refine Below.setCell1 ?_ (by first | omega | (simp; done) | (simp; omega)) _ | with_reducible refine Below.step ?_ (by with_reducible assumption)))⟩
  case round =>
    obtain ⟨k, l, A, c', hk, rfl, rfl, own, hp, hb⟩ := hrel
    have fl : l.length ≤ 256 := by have := hp.length_eq; have := cut_few S.n k 1099511627776 S.l; omega
    by_cases hlt : k < S.n
    · have hlt' : (k : Int) < S.n := by omega
      have hu := hup wr hb k hlt
      clear hup
      go_wp2_with fail
      refine hu.mono ?_
      rintro e w1 ⟨A1, c1, m, rfl, own1, hp1, hb1⟩
      have fm : m.length ≤ 256 := by have := hp1.length_eq; have := slotL_few (n := S.n) (i := k) (l := S.l); have := List.length_filter_le (fun p : Int × Int => decide (p.2 ≤ 1099511627776)) (slotL S.n k S.l); unfold upL at *; omega
      have hml := duR_length m
      have sz := hb.size
      have sz1 := hb1.size
      have own' : w1.ownsRow W.heap.size 62 2 (.slice A l.length c') l.length (duR l) := own_below own hb1 (Nat.le_refl _)
      go_wp2_with (first
        | (at_builtin; refine wpList_app3 rfl (.tmp 15) (.tmp 18) 40 rfl W.heap.size 62 i0 _ 2 16 Try.underlying40 hi0 hz0 hz1 hz2 rfl (by omega) A l.length c' (duR l) rfl own' A1 m.length c1 (duR m) w1.heap.size rfl (by omega) (own_rd own1) (duR_one _) (by unfold maxLen; omega) (by omega) (by omega) ?_; intro A2 cap w2 own2 hb2 hgr2)
        | go_in)
      have hb3 : Below W.heap.size W w2 := (hb.then_ hb1 sz).trans hb2
      go_roundw
      case rel => exact ⟨k + 1, l ++ m, A2, cap, by omega, by go_num, by rw [List.length_append], by rw [List.length_append]; simpa [duR] using own2, (hp.append hp1).trans (cut_step S.n k _ S.l), hb3⟩
      case measure => simp [intOf]; omega
    · have hkn : k = S.n := by omega
      have hlt' : ¬ ((k : Int) < S.n) := by omega
      clear hup
      subst hkn
      rw [HC.out] at hp
      have hst := sorted_any wr W.heap.size A c' l (fun p hpm => by have := HO.out p (hp.mem_iff.1 hpm); omega) (by omega) hb.size own
      have hfr := own_fr own
      go_wp2_with fail
      refine hst.mono ?_
      rintro e w1 ⟨l', rfl, p1, p2, p3, p4⟩
      go_wp2
      go_ret
      exact ⟨A, c', l', by rw [p1.length_eq]; rfl, p1.trans hp, p2, p3, hfr, hb.trans p4⟩
end Go.Proofs.Ytbljiohdfjmhfaa
