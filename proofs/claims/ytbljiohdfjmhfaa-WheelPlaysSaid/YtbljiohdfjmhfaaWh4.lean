/- Package wheel: upto. -/
import Derived.Test.YtbljiohdfjmhfaaWh3
namespace Go.Proofs.Ytbljiohdfjmhfaa
open Go.RowKit Go.Sort Go.Maps
set_option linter.unusedSimpArgs false
set_option linter.unusedVariables false

abbrev duC (p : Int × Int) : List Value := [.int .i64 p.1, .int .i64 p.2]
abbrev duV (p : Int × Int) : Value := .agg #[.int .i64 p.1, .int .i64 p.2]
abbrev duR (l : IL) : List Value := l.flatMap duC
theorem duR_length (l : IL) : (duR l).length = 2 * l.length := by
  induction l with
  | nil => rfl
  | cons a l ih => simp only [duR, List.flatMap_cons, List.length_append, List.length_cons] at *; simp only [List.length_nil] at *; omega
theorem duR_one (l : IL) : ∀ u ∈ duR l, u.oneCell' = true := by
  intro u hu
  obtain ⟨x, _, hx⟩ := List.mem_flatMap.1 hu
  simp [duC] at hx
  rcases hx with rfl | rfl <;> simp [Value.oneCell']
theorem duR_get (l : IL) (k : Nat) (h : k < l.length) : (duR l)[k * 2]? = some (.int .i64 l[k].1) ∧ (duR l)[k * 2 + 1]? = some (.int .i64 l[k].2) := by
  induction l generalizing k with
  | nil => simp at h
  | cons a l ih =>
    cases k with
    | zero => simp [duR]
    | succ k =>
      have := ih k (by simpa using h)
      have e : ∀ j, (duR (a :: l))[(k + 1) * 2 + j]? = (duR l)[k * 2 + j]? := fun j => by
        rw [show (k + 1) * 2 + j = (k * 2 + j) + 2 by omega]
        simp [duR]
      have e0 := e 0
      simp only [Nat.add_zero] at e0
      rw [e0, e 1]
      simpa using this
theorem Rd.du {w : World} {B : Nat} {A : Option Addr} {l : IL} (h : Rd w B A (duR l)) {k : Nat} (hk : k < l.length) :
    ∃ ad, A = some ad ∧ ad.block < B ∧ w.cell? (ad.add (k * 2)) = some (.int .i64 l[k].1) ∧ w.cell? { block := (ad.add (k * 2)).block, off := (ad.add (k * 2)).off + 1 } = some (.int .i64 l[k].2) := by
  obtain ⟨ad, e, hb, hc⟩ := h (by intro e; have := duR_length l; rw [e] at this; simp at this; omega)
  obtain ⟨q0, q1⟩ := duR_get l k hk
  have f : ∀ (x : Addr) (i : Nat), i ≠ 0 → x.add i = { block := x.block, off := x.off + i } := fun x i hi => by simp [Addr.add, hi]
  exact ⟨ad, e, hb, hc _ _ q0, by rw [← f _ 1 (by omega), add_add']; exact hc _ _ q1⟩
theorem own_low {w : World} {base base' n size : Nat} {e : TypeId} {v : Value} {xs : List Value} (h : w.ownsRow base e size v n xs) (hb : base' ≤ base) : w.ownsRow base' e size v n xs := by
  obtain ⟨h1, h2⟩ := h
  refine ⟨h1, h2.imp id ?_⟩
  rintro ⟨g, cap, cur, hv, hg, hr⟩
  exact ⟨g, cap, cur, hv, by omega, hr⟩
theorem left_kept {W W' : World} {b r : Nat} (hb : W'.heap[b]? = W.heap[b]?) (hr : W'.heap[r]? = W.heap[r]?) : W'.rangeLeft b r = W.rangeLeft b r := by
  unfold World.rangeLeft; rw [hb, hr]
theorem RgM.lt {W : World} {b r : Nat} {l todo : IL} (h : RgM W b r l todo) : r < W.heap.size ∧ b < W.heap.size := by
  obtain ⟨es, left, cnt, h, hr⟩ := h; exact ⟨h.lt, h.owns.lt⟩
theorem RgM.below {W W' : World} {b r : Nat} {l todo : IL} (h : RgM W b r l todo) (hb : Below W.heap.size W W') : RgM W' b r l todo :=
  h.kept (row := none) ⟨hb.os, hb.tape, hb.output, hb.size, fun i hi _ => hb.block i hi⟩ (by simp) (by simp)
theorem due_info : (Try.prog.info? 62).map (fun i => (i.zero, i.size, i.bytes)) = some (some (duV (0, 0)), 2, 16) := by kernel_rfl
theorem news_atE {w : World} {cs : List Value} {e : TypeId} {b : Nat} (hb : b = w.heap.size) : ∀ j u, cs[j]? = some u → (w.alloc (.cells cs.toArray e)).cell? ((⟨b, 0, none⟩ : Addr).add j) = some u := by subst hb; exact news_at
def upL (n i : Nat) (now : Int) (l : IL) : IL := (slotL n i l).filter (fun p => decide (p.2 ≤ now))

set_option maxRecDepth 100000 in
theorem wh_upto (W : World) (g wm : Nat) (ad : Addr) (rs : List Nat) (S : WS) (i : Nat) (hi : i < S.n) (now : Int) (h : Wh W g wm ad rs S) :
    Calls Try.prog 29 #[.pointer (some ⟨g, 0, none⟩), .int .i64 (i : Int), .int .i64 now] W fun e w' => ∃ A c l, e = .returned (.slice A l.length c) ∧ w'.ownsRow W.heap.size 62 2 (.slice A l.length c) l.length (duR l) ∧ l.Perm (upL S.n i now S.l) ∧ Below W.heap.size W w' := by
  obtain ⟨i0, hi0, hz0, hz1, hz2⟩ := info_parts due_info
  have few := h.few
  have hat := h.at_ (i := i) hi
  obtain ⟨⟨c, hc⟩, h1, h2, h3, h4, h5, h6, h7, h8⟩ := h
  have c0 := hc.cell 0
  simp at c0
  obtain ⟨hr, hcell⟩ := hat
  have h9 := h4 i hr
  generalize hL : slotL S.n i S.l = L at *
  have fewL : L.length ≤ 256 := by rw [← hL]; have := slotL_few (n := S.n) (i := i) (l := S.l); omega
  have hLH := hide hL
  clear hL h4
  generalize rs[i] = b at *
  go_enter Try.func29, Try.ntmps29
  go_wp2_with (first
    | (at_range; refine wm_range _ rfl _ rfl b _ rfl h9 ?_; intro w0 hrg0 hg0 hs0)
    | go_in)
  go_frame
  go_loopw [7] (fun o wr => ∃ (seen todo : IL) (A : Option Addr) (c : Nat), o = .slice A (seen.filter (fun p => decide (p.2 ≤ now))).length c ∧ wr.ownsRow (W.heap.size + 1) 62 2 (.slice A (seen.filter (fun p => decide (p.2 ≤ now))).length c) (seen.filter (fun p => decide (p.2 ≤ now))).length (duR (seen.filter (fun p => decide (p.2 ≤ now)))) ∧
      RgM wr b W.heap.size L todo ∧ (seen ++ todo).Perm L ∧ Below W.heap.size W wr) (fun _ wr => wr.rangeLeft b W.heap.size)
  case atStart => exact ⟨[], L, none, 0, rfl, World.ownsRow_nil _ _ _ _, hrg0, .refl _, ⟨hg0.os, hg0.tape, hg0.output, hg0.size, fun k hk => hg0.block k hk (by simp)⟩⟩
  case round =>
    obtain ⟨seen, todo, A, c', rfl, own, hrg, hp, hb⟩ := hrel
    have fl : (seen.filter (fun p => decide (p.2 ≤ now))).length ≤ 256 := by
      have := List.length_filter_le (fun p : Int × Int => decide (p.2 ≤ now)) seen
      have := hp.length_eq; rw [List.length_append] at this; omega
    generalize hD : seen.filter (fun p => decide (p.2 ≤ now)) = D at *
    have HD := hide hD
    clear hD
    go_wp2_with (first
      | (at_next; refine wm_next _ rfl _ rfl b W.heap.size _ _ rfl hrg ?_ ?_)
      | go_in)
    · intro h0
      subst h0
      go_wp2
      go_ret
      refine ⟨A, c', D, rfl, own_low own (by omega), ?_, hb⟩
      rw [← HD.out]
      unfold upL
      rw [hLH.out]
      rw [List.append_nil] at hp
      exact hp.filter _
    · intro x v w1 hwx hwv hm hrg1 hlt hg1 hs1 hen
      have hb1 : Below W.heap.size W w1 := hb.trans ⟨hg1.os, hg1.tape, hg1.output, hg1.size, fun k hk => hg1.block k (by have := hb.size; omega) (by intro e; injection e with e; omega)⟩
      have own1 : w1.ownsRow (W.heap.size + 1) 62 2 (.slice A D.length c') D.length (duR D) := own.kept hg1 (.inr (by
        intro e; have := (own.lt _ e).1; omega))
      have hpe : (seen ++ [(x, v)] ++ todo.erase (x, v)).Perm L := by
        rw [List.append_assoc]
        exact (List.Perm.append_left seen (List.perm_cons_erase hm).symm).trans hp
      have sz1 := hrg1.lt
      by_cases hle : v ≤ now
      · go_wp2_with (first
          | (at_builtin; refine wpList_app2 rfl (.tmp 26) (.tmp 30) 40 rfl (W.heap.size + 1) 62 i0 _ 2 16 Try.underlying40 hi0 hz0 hz1 hz2 rfl (by omega) A D.length c' (duR D) rfl (own1.alloc _) ⟨wr.heap.size, 0, none⟩ 1 1 [.int .i64 x, .int .i64 v] rfl rfl (news_atE (w := w1) (cs := [.int .i64 x, .int .i64 v]) (e := 62) hs1.symm) (by simp [Value.oneCell']) (by unfold maxLen; omega) (by omega) (by simp; omega) (by omega) ?_; intro g2 cap w5 own5 hb5 hgr5)
          | go_in)
        have hb5' : Below W.heap.size W w5 := (hb1.alloc (by omega) (.cells #[.int .i64 x, .int .i64 v] 62)).trans (hb5.mono (by omega))
        have hrg2 : RgM (w1.alloc (.cells #[.int .i64 x, .int .i64 v] 62)) b W.heap.size L (todo.erase (x, v)) := hrg1.below ((Below.refl _ _).alloc1 _)
        have nb : some b ≠ (Value.slice A D.length c').ownBlock := hrg2.owm.ne_own (own1.alloc _)
        have nr : some W.heap.size ≠ (Value.slice A D.length c').ownBlock := by
          intro e
          have := (own1.lt _ e.symm).1
          omega
        have hrg5 : RgM w5 b W.heap.size L (todo.erase (x, v)) := hrg2.kept hgr5 nb nr
        have hl5 : w5.rangeLeft b W.heap.size = w1.rangeLeft b W.heap.size := left_kept
          ((hgr5.block b (by simp; omega) nb).trans (((Below.refl _ w1).alloc1 _).block b sz1.2)) ((hgr5.block _ (by simp; omega) nr).trans (((Below.refl _ w1).alloc1 _).block _ sz1.1))
        have e1 : (seen ++ [(x, v)]).filter (fun p => decide (p.2 ≤ now)) = D ++ [(x, v)] := by rw [List.filter_append, HD.out]; simp [hle]
        have e2 : duR (D ++ [(x, v)]) = duR D ++ duC (x, v) := by simp [duR]
        go_roundw
        case rel => exact ⟨seen ++ [(x, v)], todo.erase (x, v), _, cap, by rw [e1, List.length_append]; rfl, by rw [e1, e2, List.length_append]; exact own5, hrg5, hpe, hb5'⟩
        case measure => rw [hl5]; exact hlt
      · have e1 : (seen ++ [(x, v)]).filter (fun p => decide (p.2 ≤ now)) = D := by rw [List.filter_append, HD.out]; simp [hle]
        have hle' : now < v := by omega
        go_wp2
        go_roundw
        case rel => exact ⟨seen ++ [(x, v)], todo.erase (x, v), A, c', by rw [e1], by rw [e1]; exact own1, hrg1, hpe, hb1⟩
        case measure => exact hlt
end Go.Proofs.Ytbljiohdfjmhfaa
