/- Admit, the plain law: a stretch of asks. No program in sight. -/
import Derived.Test.YtolpiaehleefbaaSrcQ
import Derived.Test.YtolpiaehleefbaaAdm
namespace Go.Proofs.Ytolpiaehleefbaa
open Go.RowKit
set_option linter.unusedSimpArgs false
set_option linter.unusedVariables false

abbrev mkC (b1 r1 b2 r2 : Int) : AC := ⟨b1, r1, b2, r2, u3 50 75 90, u3 40 60 80, 5, uLo, uHi⟩
theorem mkC_usual : mkC 8 2 3 1 = aUsual := rfl
theorem usual_v : vCheck (u3 50 75 90) (u3 40 60 80) 5 = 0 := by decide
theorem usual_j : jCheck uLo uHi = 0 := by decide
theorem bCheck_good {b r : Int} (h : bGood b r = true) : bCheck b r = 0 := by simp [bCheck, h]
theorem aCheck_mk {b1 r1 b2 r2 : Int} (h1 : bGood b1 r1 = true) (h2 : bGood b2 r2 = true) : aCheck (mkC b1 r1 b2 r2) = 0 := by
  unfold aCheck mkC; dsimp only
  rw [bCheck_good h1, bCheck_good h2, usual_v, usual_j]; rfl
def atsOf (ins : List (Int × Int)) (s : Nat) : List Int := (ins.filter (fun p => p.1 == (s : Int))).map (·.2)
theorem atsOf_snoc (ins : List (Int × Int)) (s : Nat) (N : Int) : atsOf (ins ++ [((s : Int), N)]) = upd (atsOf ins) s (atsOf ins s ++ [N]) := by
  funext j
  unfold upd
  split
  · rename_i h; subst h; simp [atsOf, List.filter_append]
  · rename_i h
    have : (((s : Int) == (j : Int)) = false) := by simp; omega
    simp [atsOf, List.filter_append, this]
theorem vIn_mk {n a b : Int} (h1 : a ≤ n) (h2 : n ≤ b) : vIn n a b = true := by simp [vIn, h1, h2]
theorem vFine_mk18 {l s v : Int} (h1 : 0 ≤ l ∧ l ≤ 3) (h2 : 0 ≤ s ∧ s ≤ 1099511627776) (h3 : -1 ≤ v ∧ v ≤ 1099511627776) : vFine l s v = true := by
  simp [vFine, vIn, h1, h2, h3]
theorem vStep_fine {up dn : Nat → Int} {hold l s v load N : Int} (hf : vFine l s v = true) (hs : s ≤ N) (hv : v ≤ N) (h0 : 0 ≤ N) (hN : N ≤ 1099511627776) :
    vFine (vStep up dn hold l s v load N).1 (vStep up dn hold l s v load N).2.1 (vStep up dn hold l s v load N).2.2 = true ∧ (vStep up dn hold l s v load N).2.1 ≤ N ∧ (vStep up dn hold l s v load N).2.2 ≤ N := by
  unfold vStep
  split
  · obtain ⟨hl, h2, h3⟩ := vFine_t hf
    have hn : vHeld N (max s v) 1099511627776 = N := by unfold vHeld; omega
    rw [hn]
    have hA := (vAsked_le up (vHeld load 0 100) l.toNat)
    have hA2 := hA.2 (by omega)
    have hw : -1 ≤ (if v = -1 then N else v) ∧ (if v = -1 then N else v) ≤ N := by split <;> omega
    generalize hq : vStep1 up dn hold l.toNat s v (vHeld load 0 100) N = q
    unfold vStep1 at hq
    generalize vAsked up (vHeld load 0 100) l.toNat = Z at *
    generalize (if v = -1 then N else v) = V at *
    split at hq
    · subst hq; exact ⟨vFine_mk18 (by dsimp only; omega) (by dsimp only; omega) (by dsimp only; omega), Int.le_refl _, by dsimp only; omega⟩
    split at hq
    · subst hq; exact ⟨vFine_mk18 (by dsimp only; omega) (by dsimp only; omega) (by dsimp only; omega), hs, by dsimp only; omega⟩
    split at hq
    · subst hq
      exact ⟨vFine_mk18 (by dsimp only; omega) (by dsimp only; omega) (by dsimp only; omega), hs, by dsimp only; omega⟩
    · rename_i hz _
      subst hq; exact ⟨vFine_mk18 (by dsimp only; omega) (by dsimp only; omega) (by dsimp only; omega), Int.le_refl _, by dsimp only; omega⟩
  · exact ⟨hf, hs, hv⟩
theorem hint_in {l : Int} (h : 0 ≤ l ∧ l ≤ 3) (draw : Int) : jWithin uLo uHi l (jHint uLo uHi l draw) = true := by
  have hm : jMay uLo uHi l = true := by simp [jMay, jIn, h, usual_j]
  have hr := jCheck_t usual_j (k := l.toNat) (by omega)
  have hb := hBelow_bd (n := draw) (show 1 ≤ uHi l.toNat - uLo l.toNat + 1 by omega)
  unfold jWithin jHint
  rw [hm, if_pos rfl]
  simp [jIn]; omega
structure Rn (b1 r1 b2 r2 : Int) (x : AS) (ins : List (Int × Int)) (N : Int) (k : Nat) (f : Nat → Int × Int) : Prop where
  g1 : bGood b1 r1 = true
  g2 : bGood b2 r2 = true
  hN : 0 ≤ N ∧ N ≤ 256 * (k : Int)
  ha : bFine b1 r1 x.t x.a = true ∧ x.a ≤ N
  kp : Kept b1 r1 x.t x.a N (ins.map (·.2))
  jn : Jn b2 r2 N x.es f (atsOf ins)
  fu : ∀ s, s < 10 → atsOf ins s = [] → f s = (b2, 0)
  hv : vFine x.l x.s x.v = true
  hs : x.s ≤ N ∧ x.v ≤ N
  le : x.le = (ins.length : Int)
  se : 0 ≤ x.se ∧ x.le + x.se ≤ k
  hin : ∀ p ∈ ins, ∃ s : Nat, s < 10 ∧ p.1 = (s : Int)
section
variable {b1 r1 b2 r2 : Int} {x : AS} {ins : List (Int × Int)} {N : Int} {k : Nat} {f : Nat → Int × Int}
theorem Rn.fine (h : Rn b1 r1 b2 r2 x ins N k f) (hk : k ≤ 1000) : aFine (mkC b1 r1 b2 r2) x = 0 := by
  unfold aFine
  rw [aCheck_mk h.g1 h.g2, if_neg (by simp)]
  have h1 : aGood (mkC b1 r1 b2 r2) x = true := by
    have hl := h.le; have hs := h.se
    unfold aGood
    rw [vIn_mk (by omega) (by omega), vIn_mk hs.1 (by omega), h.hv]
    simp only [mkC, Bool.true_and]
    exact h.ha.1
  rw [h1, if_neg (by simp)]
  exact h.jn.hk
theorem Rn.init (g1 : bGood b1 r1 = true) (g2 : bGood b2 r2 = true) : Rn b1 r1 b2 r2 ⟨b1, 0, [], 0, 0, -1, 0, 0⟩ [] 0 0 (fun _ => (b2, 0)) := by
  obtain ⟨⟨hb1, hb2⟩, hr1, hr2⟩ := bGood_t g1
  refine ⟨g1, g2, by omega, ⟨bFine_mk hb1 hb2 hr1 hr2 (by dsimp only; omega) (Int.le_refl _) (Int.le_refl _) (by dsimp only; omega), Int.le_refl _⟩, fun j hj => by simp at hj, ?_, fun s _ _ => rfl, show vFine 0 0 (-1) = true from rfl, by dsimp only; omega, rfl, by dsimp only; omega, by simp⟩
  exact Jn.init g2
theorem Rn.grows (h : Rn b1 r1 b2 r2 x ins N k f) (hk : k ≤ 1000) {g : Int} (h0 : 0 ≤ g) (h1 : g ≤ 255) : Rn b1 r1 b2 r2 x ins (N + g) (k + 1) f := by
  have hN := h.hN; have hs := h.hs; have hse := h.se
  exact ⟨h.g1, h.g2, by omega, ⟨h.ha.1, by have := h.ha.2; omega⟩, h.kp.grows h.ha.1 h.ha.2 h0 (by omega), h.jn.grows h0 (by omega), h.fu, h.hv, by omega, h.le, by omega, h.hin⟩
theorem Rn.tick (h : Rn b1 r1 b2 r2 x ins N k f) (hk : k ≤ 1000) (load : Int) : Rn b1 r1 b2 r2 (aTick (mkC b1 r1 b2 r2) x load N) ins N k f := by
  have hN := h.hN; have hs := h.hs
  have hv := vStep_fine (up := u3 50 75 90) (dn := u3 40 60 80) (hold := 5) (load := load) h.hv hs.1 hs.2 hN.1 (by omega)
  unfold aTick
  rw [if_pos (h.fine hk)]
  exact ⟨h.g1, h.g2, h.hN, h.ha, h.kp, h.jn, h.fu, hv.1, hv.2, h.le, h.se, h.hin⟩
theorem Rn.sends (h : Rn b1 r1 b2 r2 x ins N k f) (hk : k ≤ 1000) : Rn b1 r1 b2 r2 (aSend (mkC b1 r1 b2 r2) x N) ins N (k + 1) f ∧ (aSend (mkC b1 r1 b2 r2) x N).le = x.le ∧ (aSend (mkC b1 r1 b2 r2) x N).se = x.se + 1 := by
  have hN := h.hN; have hse := h.se; have hle := h.le
  have e : min (x.se + 1) 1099511627776 = x.se + 1 := by omega
  unfold aSend
  rw [e]
  exact ⟨⟨h.g1, h.g2, by omega, h.ha, h.kp, h.jn.clean, h.fu, h.hv, h.hs, h.le, by dsimp only; omega, h.hin⟩, rfl, rfl⟩
theorem aAsk_send {c : AC} {x : AS} {src now draw E : Int} (hf : aFine c x = 0) (hw : aWould c x src now = E) (h2 : E ≠ 2) (h0 : E ≠ 0) : aAsk c x src now draw = (aSend c x now, E, jHint c.lo c.hi x.l draw) := by
  unfold aAsk; rw [if_neg (by simp [hf]), hw, if_neg h2, if_neg h0]
theorem aAsk_let {c : AC} {x : AS} {src now draw : Int} (hf : aFine c x = 0) (hw : aWould c x src now = 0) : aAsk c x src now draw = (aLet c x src now, 0, 0) := by
  unfold aAsk; rw [if_neg (by simp [hf]), hw, if_neg (by simp), if_pos rfl]
theorem Rn.ask (h : Rn b1 r1 b2 r2 x ins N k f) (hk : k ≤ 1000) {s : Nat} (hs : s < 10) :
    (aWould (mkC b1 r1 b2 r2) x s N = 0 ∧ vAllows x.l 0 = true ∧ 1 ≤ bLevel b1 r1 x.t x.a N ∧ (aLet (mkC b1 r1 b2 r2) x s N).le = x.le + 1 ∧ (aLet (mkC b1 r1 b2 r2) x s N).se = x.se ∧
      ∃ f', Rn b1 r1 b2 r2 (aLet (mkC b1 r1 b2 r2) x s N) (ins ++ [((s : Int), N)]) N (k + 1) f') ∨
    (∃ E, aWould (mkC b1 r1 b2 r2) x s N = E ∧ E ≠ 2 ∧ E ≠ 0 ∧ (E = 15 → vAllows x.l 0 = false) ∧ (E = 14 → 0 < bLevel b1 r1 x.t x.a N → ins ≠ [])) := by
  have hf := h.fine hk
  have hN := h.hN
  have hsrc : vIn (s : Int) 0 65535 = true := vIn_mk (by omega) (by omega)
  have hw : aWould (mkC b1 r1 b2 r2) x s N = if vAllows x.l 0 = false then 15 else if bLevel b1 r1 x.t x.a N = 0 then 14 else (eTake b2 r2 x.es s N).2 := by
    unfold aWould; rw [if_neg (by simp [hf]), hsrc, if_neg (by simp)]
  cases hA : vAllows x.l 0
  · right
    exact ⟨15, by rw [hw, if_pos hA], by omega, by omega, fun _ => rfl, by omega⟩
  · rw [hA, if_neg (by simp)] at hw
    by_cases hb : bLevel b1 r1 x.t x.a N = 0
    · right
      exact ⟨14, by rw [hw, if_pos hb], by omega, by omega, by omega, fun _ h0 => by omega⟩
    · rw [if_neg hb] at hw
      have hbT := bLevel_f (now := N) h.ha.1
      have hbd := bT_bd (now := N) h.ha.1
      rcases h.jn.step hN.1 (by omega) hs with ⟨e, _, _⟩ | ⟨e, e2, _⟩ | ⟨t, e, e2, hj⟩
      · right; exact ⟨7, by rw [hw, e], by omega, by omega, by omega, by omega⟩
      · right
        refine ⟨14, by rw [hw, e], by omega, by omega, by omega, fun _ _ hn => ?_⟩
        have h1 := h.fu s hs (by rw [hn]; rfl)
        obtain ⟨⟨hb1, hb2⟩, hr1, hr2⟩ := bGood_t h.g2
        have hfi : bFine b2 r2 b2 0 = true := bFine_mk hb1 hb2 hr1 hr2 (by omega) (Int.le_refl _) (Int.le_refl _) (by omega)
        have hT : bT b2 r2 b2 0 N = b2 := by
          have h2 := Int.mul_nonneg (show 0 ≤ bA 0 N - 0 by have := bA_bd (a := 0) (now := N) (by omega); omega) hr1
          unfold bT; omega
        rw [h1] at e2
        rw [bTake_yes (n := 1) (by omega) hfi (by omega)] at e2
        simp at e2
      · left
        have e3 : min (x.le + 1) 1099511627776 = x.le + 1 := by have := h.se; omega
        rcases take_one h.kp h.ha.1 h.ha.2 hN.1 (by omega) with ⟨q1, q2, q3, q4, q5⟩ | ⟨q1, q2⟩
        · refine ⟨by rw [hw, e], rfl, by omega, ?_, rfl, upd f s (t, N), ?_⟩
          · unfold aLet; exact e3
          · have hse := h.se; have hle := h.le
            unfold aLet
            dsimp only [mkC]
            rw [q2, e3]
            refine ⟨h.g1, h.g2, by omega, ⟨q3, Int.le_refl _⟩, ?_, ?_, fun j hj he => ?_, h.hv, h.hs, ?_, ?_, ?_⟩
            · rw [List.map_append]; exact q5
            · rw [atsOf_snoc]; exact hj
            · rw [atsOf_snoc] at he
              by_cases ej : j = s
              · subst ej; rw [upd_same] at he; simp at he
              · rw [upd_ne _ _ ej] at he ⊢; exact h.fu j hj he
            · simp [hle]
            · dsimp only; omega
            · intro p hp
              rcases List.mem_append.1 hp with hp | hp
              · exact h.hin p hp
              · simp at hp; subst hp; exact ⟨s, hs, rfl⟩
        · omega
theorem eCheck_len {b r : Int} {l : List En} (h : eCheck b r l = 0) : l.length ≤ 1000 := by
  unfold eCheck at h
  split at h
  · contradiction
  split at h
  · omega
  · omega
theorem Rn.asks (h : Rn b1 r1 b2 r2 x ins N k f) (hk : k ≤ 990) {s : Nat} (hs : s < 10) (draw : Int) : ∃ y E H, aAsk (mkC b1 r1 b2 r2) x s N draw = (y, E, H) ∧ aWould (mkC b1 r1 b2 r2) x s N = E ∧ aFine (mkC b1 r1 b2 r2) y = 0 ∧ y.le + y.se = x.le + x.se + 1 ∧
    ((0 ≤ x.le ∧ x.le ≤ 1000) ∧ (0 ≤ x.se ∧ x.se ≤ 1000) ∧ (0 ≤ y.le ∧ y.le ≤ 1000) ∧ 0 ≤ y.se ∧ y.se ≤ 1000) ∧ y.es.length ≤ 1000 ∧
    ((E = 0 ∧ H = 0 ∧ vAllows x.l 0 = true ∧ 1 ≤ bLevel b1 r1 x.t x.a N ∧ y.le = x.le + 1 ∧ ∃ f', Rn b1 r1 b2 r2 y (ins ++ [((s : Int), N)]) N (k + 1) f') ∨
      (E ≠ 0 ∧ jWithin uLo uHi x.l H = true ∧ (E = 15 → vAllows x.l 0 = false) ∧ (E = 14 → 0 < bLevel b1 r1 x.t x.a N → ins ≠ []) ∧ Rn b1 r1 b2 r2 y ins N (k + 1) f)) := by
  have hse := h.se
  have hle := h.le
  rcases h.ask (by omega) hs with ⟨e1, e2, e3, e4, e5, f', hr⟩ | ⟨E, e1, e2, e3, e4, e5⟩
  · exact ⟨_, _, _, aAsk_let (h.fine (by omega)) e1, e1, hr.fine (by omega), by omega, by omega, eCheck_len hr.jn.hk, .inl ⟨rfl, rfl, e2, e3, e4, f', hr⟩⟩
  · obtain ⟨hr, q1, q2⟩ := h.sends (by omega)
    exact ⟨_, _, _, aAsk_send (h.fine (by omega)) e1 e2 e3, e1, hr.fine (by omega), by omega, by omega, eCheck_len hr.jn.hk, .inr ⟨e3, hint_in (vFine_t h.hv).1 _, e4, e5, hr⟩⟩
/-- of all that were let in from i on: no more than may be, of all and of each -/
theorem Rn.all (h : Rn b1 r1 b2 r2 x ins N k f) (hk : k ≤ 1000) (i : Nat) (hi : i < ins.length) : (ins.length : Int) - i ≤ bMost b1 r1 (N - ins[i].2) := by
  have hN := h.hN
  have := h.kp.most h.ha.1 (by omega) i (by simpa using hi)
  simpa using this
def cnt (ins : List (Int × Int)) (i j : Nat) : Nat := (((ins.take j).drop i).filter (fun p => p.1 == (ins.getD i (0, 0)).1)).length
theorem cnt_start (ins : List (Int × Int)) (i : Nat) : cnt ins i i = 0 := by simp [cnt, List.drop_take]
theorem cnt_step {ins : List (Int × Int)} {i j : Nat} (hij : i ≤ j) (hj : j < ins.length) : cnt ins i (j + 1) = cnt ins i j + (if ins[j].1 == (ins.getD i (0, 0)).1 then 1 else 0) := by
  unfold cnt
  rw [List.take_succ_eq_append_getElem hj, List.drop_append_of_le_length (by simp; omega), List.filter_append]
  simp only [List.length_append, List.filter_cons, List.filter_nil]
  split <;> simp
theorem cnt_le (ins : List (Int × Int)) (i j : Nat) : cnt ins i j ≤ ins.length := by
  unfold cnt
  refine Nat.le_trans (List.length_filter_le _ _) ?_
  simp; omega
theorem Rn.each (h : Rn b1 r1 b2 r2 x ins N k f) (hk : k ≤ 1000) (i : Nat) (hi : i < ins.length) : (cnt ins i ins.length : Int) ≤ bMost b2 r2 (N - ins[i].2) := by
  have hN := h.hN
  obtain ⟨s, hs, e⟩ := h.hin ins[i] (List.getElem_mem hi)
  have hg : (ins.getD i (0, 0)) = ins[i] := by simp [List.getD, hi]
  have hsp : ins = ins.take i ++ ins.drop i := (List.take_append_drop i ins).symm
  have h1 : atsOf ins s = ((ins.take i).filter (fun p => p.1 == (s : Int))).map (·.2) ++ ((ins.drop i).filter (fun p => p.1 == (s : Int))).map (·.2) := by
    rw [← List.map_append, ← List.filter_append, List.take_append_drop]; rfl
  have h2 : (ins.drop i).filter (fun p => p.1 == (s : Int)) = ins[i] :: (ins.drop (i + 1)).filter (fun p => p.1 == (s : Int)) := by
    rw [List.drop_eq_getElem_cons hi, List.filter_cons, if_pos (by simp [e])]
  have h3 : cnt ins i ins.length = ((ins.drop i).filter (fun p => p.1 == (s : Int))).length := by
    unfold cnt; rw [List.take_length, hg, e]
  generalize hq : ((ins.take i).filter (fun p => p.1 == (s : Int))).map (·.2) = A at h1
  have hlen : (atsOf ins s).length = A.length + cnt ins i ins.length := by rw [h1, h3]; simp
  have hpos : 0 < cnt ins i ins.length := by rw [h3, h2]; simp
  have hlt : A.length < (atsOf ins s).length := by omega
  have hat : (atsOf ins s)[A.length] = ins[i].2 := by
    have : (atsOf ins s)[A.length]? = some ins[i].2 := by rw [h1, h2]; simp
    rw [List.getElem?_eq_getElem hlt] at this
    exact Option.some.inj this
  have := (h.jn.kp s hs).most (h.jn.hf s hs).1 (by omega) A.length hlt
  rw [hat] at this
  omega
end
theorem hint_draw {l : Int} (h : 0 ≤ l ∧ l ≤ 3) (draw : Int) : jHint uLo uHi l draw - uLo l.toNat = draw % jWidth uLo uHi l := by
  have hm : jMay uLo uHi l = true := by simp [jMay, jIn, h, usual_j]
  have hr := jCheck_t usual_j (k := l.toNat) (by omega)
  unfold jHint jWidth
  rw [hm, if_pos rfl, if_pos rfl, hBelow_pos (by omega)]
  omega
end Go.Proofs.Ytolpiaehleefbaa
