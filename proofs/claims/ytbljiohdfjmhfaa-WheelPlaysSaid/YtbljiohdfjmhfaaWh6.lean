/- Package wheel: Next, Load. -/
import Derived.Test.YtbljiohdfjmhfaaWh5
namespace Go.Proofs.Ytbljiohdfjmhfaa
open Go.RowKit Go.Sort Go.Maps
open Dn (ltP sorted_any)
set_option linter.unusedSimpArgs false
set_option linter.unusedVariables false

def SoL (l : IL) : Prop := l.Pairwise (fun p q => ¬ ltP q p)
theorem so_eq : ∀ {l m : IL}, l.Perm m → SoL l → SoL m → l = m
  | [], m, hp, _, _ => (List.nil_perm.1 hp).symm
  | a :: l, m, hp, hl, hm => by
    cases m with
    | nil => exact absurd hp.length_eq (by simp)
    | cons b m =>
      have h1 := List.pairwise_cons.1 hl
      have h2 := List.pairwise_cons.1 hm
      have e : a = b := by
        rcases List.mem_cons.1 (hp.mem_iff.1 (List.mem_cons_self ..)) with e | ha
        · exact e
        · rcases List.mem_cons.1 (hp.mem_iff.2 (List.mem_cons_self ..)) with e | hb
          · exact e.symm
          · have x := h2.1 a ha
            have y := h1.1 b hb
            unfold ltP at x y
            apply Prod.ext <;> omega
      subst e
      rw [so_eq (List.perm_cons a |>.1 hp) h1.2 h2.2]
theorem wh_AllS (W : World) (g wm : Nat) (ad : Addr) (rs : List Nat) (S : WS) (hs : SoL S.l) (h : Wh W g wm ad rs S) :
    Calls Try.prog 23 #[.pointer (some ⟨g, 0, none⟩)] W fun e w' => ∃ A c, e = .returned (.slice A S.l.length c) ∧ Rd w' w'.heap.size A (duR S.l) ∧ Fr W.heap.size A ∧ Below W.heap.size W w' :=
  (wh_All W g wm ad rs S h).mono fun e w' ⟨A, c, l, he, hp, hso, hr, hf, hb⟩ => by
    have := so_eq hp hso hs
    subst this
    exact ⟨A, c, he, hr, hf, hb⟩
theorem wh_Next (W : World) (g wm : Nat) (ad : Addr) (rs : List Nat) (S : WS) (hs : SoL S.l) (h : Wh W g wm ad rs S) :
    Calls Try.prog 19 #[.pointer (some ⟨g, 0, none⟩)] W fun e w' => e = .returned (.tuple #[.int .i64 (S.l.headD (0, 0)).2, .bool (!S.l.isEmpty)]) ∧ Below W.heap.size W w' := by
  have hall := wh_AllS W g wm ad rs S hs h
  cases hl : S.l with
  | nil =>
    rw [hl] at hall
    clear hs h
    go_enter Try.func19, Try.ntmps19
    go_wp2_with fail
    refine hall.mono ?_
    rintro e w1 ⟨A, c, rfl, hr, hf, hb⟩
    go_wp2
    go_ret2
    exact ⟨rfl, hb⟩
  | cons p l =>
    rw [hl] at hall
    clear hs h
    go_enter Try.func19, Try.ntmps19
    go_wp2_with fail
    refine hall.mono ?_
    rintro e w1 ⟨A, c, rfl, hr, hf, hb⟩
    obtain ⟨a, rfl, _, q0, q1⟩ := hr.du (k := 0) (by simp)
    have hne : ((((p :: l).length : Nat) : Int) == 0) = false := by simp; omega
    have hpos : 0 < (p :: l).length := by simp
    simp only [Nat.zero_mul, List.getElem_cons_zero] at q0 q1
    generalize (p :: l).length = n at *
    have hpos' : (0 : Int) < n := by omega
    have ea : a.add 0 = a := by simp [Addr.add]
    rw [ea] at q0 q1
    go_wp2
    go_ret2
    exact ⟨rfl, hb⟩
def loadL (n k : Nat) (l : IL) : List Int := (List.range k).map fun i => ((slotL n i l).length : Int)
theorem load_step (n k : Nat) (l : IL) : loadL n (k + 1) l = loadL n k l ++ [((slotL n k l).length : Int)] := by unfold loadL; rw [List.range_succ, List.map_append]; rfl
theorem int_info : (Try.prog.info? 3).map (fun i => (i.zero, i.size, i.bytes)) = some (some (.int .i64 0), 1, 8) := by kernel_rfl
theorem wh_Load (W : World) (g wm : Nat) (ad : Addr) (rs : List Nat) (S : WS) (h : Wh W g wm ad rs S) :
    Calls Try.prog 27 #[.pointer (some ⟨g, 0, none⟩)] W fun e w' => ∃ A c, e = .returned (.slice A S.n c) ∧ Rd w' w'.heap.size A (ints (loadL S.n S.n S.l)) ∧ Fr W.heap.size A ∧ Below W.heap.size W w' := by
  obtain ⟨i0, hi0, hz0, hz1, hz2⟩ := info_parts int_info
  have few := h.few
  have hn := h.hn
  have hat := fun i hi => h.at_ (i := i) hi
  obtain ⟨⟨c, hc⟩, h1, h2, h3, h4, h5, h6, h7, h8⟩ := h
  have c0 := hc.cell 0
  simp at c0
  clear h8
  go_enter Try.func27, Try.ntmps27
  go_wp2
  go_loopw [3, 13] (fun o i wr => ∃ (k : Nat) (A : Option Addr) (c : Nat), k ≤ S.n ∧ i = .int .i64 k ∧ o = .slice A k c ∧ wr.ownsRow W.heap.size 3 1 (.slice A k c) k (ints (loadL S.n k S.l)) ∧ Below W.heap.size W wr) (fun _ i _ => S.n - (intOf i).toNat)
  case atStart => exact ⟨0, none, 0, Nat.zero_le _, rfl, rfl, World.ownsRow_nil _ _ _ _, by (repeat (first | with_reducible exact Below.refl _ _ | with_reducible assumption | with_reducible refine Below.drew ?_ | with_reducible refine Below.drewN ?_ _ | with_reducible refine Below.alloc1 ?_ _ | with_reducible refine Below.setCell1 ?_ (by first | omega | (simp; done) | (simp; omega)) _ | with_reducible refine Below.step ?_ (by with_reducible assumption)))⟩
  case round =>
    obtain ⟨k, A, c', hk, rfl, rfl, own, hb⟩ := hrel
    by_cases hlt : k < S.n
    · have hlt' : (k : Int) < S.n := by omega
      obtain ⟨hr, hcell⟩ := hat k hlt
      have o9 : OwM wr rs[k] (slotL S.n k S.l) := (h4 k hr).step hb
      have hcell' : wr.cell? (ad.add k) = some (.map (some rs[k])) := (hb.cell (by
        rw [add_block]
        obtain ⟨a, e, hab, _⟩ := h2 (by intro e; rw [List.map_eq_nil_iff] at e; subst e; simp at hr)
        injection e with e; subst e; exact hab)).trans hcell
      have hstep := load_step S.n k S.l
      have sz := hb.size
      clear hcell hat h4
      generalize rs[k] = r at *
      generalize slotL S.n k S.l = L at *
      generalize loadL S.n k S.l = D at *
      go_wp2_with (first
        | (at_len; refine wm_len _ rfl _ rfl r _ rfl o9 ?_)
        | (at_builtin; refine wpList_app2 rfl (.tmp 17) (.tmp 20) 53 rfl W.heap.size 3 i0 _ 1 8 Try.underlying53 hi0 hz0 hz1 hz2 rfl (by omega) A k c' (ints D) rfl (own.alloc _) ⟨wr.heap.size, 0, none⟩ 1 1 [.int .i64 (L.length : Int)] rfl rfl (news_one rfl) (by simp [Value.oneCell']) (by unfold maxLen; omega) (by omega) (by simp; omega) (by omega) ?_; intro g2 cap w2 own2 hb2 hgr2)
        | go_in)
      have hb3 : Below W.heap.size W w2 := (hb.alloc sz (.cells #[.int .i64 (L.length : Int)] 3)).trans hb2
      go_roundw
      case rel => exact ⟨k + 1, _, cap, by omega, by go_num, rfl, by rw [hstep]; simpa using own2, hb3⟩
      case measure => simp [intOf]; omega
    · have hkn : k = S.n := by omega
      have hlt' : ¬ ((k : Int) < S.n) := by omega
      clear hat
      subst hkn
      go_wp2
      go_ret
      exact ⟨A, ⟨c', rfl⟩, own_rd own, own_fr own, hb⟩
end Go.Proofs.Ytbljiohdfjmhfaa
