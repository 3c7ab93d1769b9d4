/- Package table: home, next, find. -/
import Derived.Test.YtpnhdbejkdoceaaTbQ
import Derived.Test.YtpnhdbejkdoceaaRel4
import Derived.Test.YtpnhdbejkdoceaaKeep
import Derived.Deep.DeepCutAuto
import Derived.Scope
namespace Go.Proofs.Ytpnhdbejkdoceaa
open Go.RowKit Go.Sort
set_option linter.unusedSimpArgs false
set_option linter.unusedVariables false

abbrev tsC (x : TS) : List Value := [.string x.k, .int .i64 x.v, .bool x.live]
abbrev tsR (l : List TS) : List Value := l.flatMap tsC
theorem tsR_length (l : List TS) : (tsR l).length = 3 * l.length := by
  induction l with
  | nil => rfl
  | cons a l ih => simp only [tsR, List.flatMap_cons, List.length_append, List.length_cons] at *; simp only [List.length_nil] at *; omega
theorem tsR_get (l : List TS) (p : Nat) (h : p < l.length) : (tsR l)[p * 3]? = some (.string (gt l p).k) ∧ (tsR l)[p * 3 + 1]? = some (.int .i64 (gt l p).v) ∧ (tsR l)[p * 3 + 2]? = some (.bool (gt l p).live) := by
  rw [gt_get h]
  induction l generalizing p with
  | nil => simp at h
  | cons a l ih =>
    cases p with
    | zero => simp [tsR]
    | succ p =>
      have := ih p (by simpa using h)
      have e : ∀ j, (tsR (a :: l))[(p + 1) * 3 + j]? = (tsR l)[p * 3 + j]? := fun j => by
        rw [show (p + 1) * 3 + j = (p * 3 + j) + 3 by omega]
        simp [tsR]
      have e0 := e 0
      simp only [Nat.add_zero] at e0
      rw [e0, e 1, e 2]
      simpa using this
theorem tsR_set (l : List TS) (p : Nat) (x : TS) (h : p < l.length) : ((((tsR l).set (p * 3) (.string x.k)).set (p * 3 + 1) (.int .i64 x.v)).set (p * 3 + 2) (.bool x.live)) = tsR (l.set p x) := by
  induction l generalizing p with
  | nil => simp at h
  | cons a l ih =>
    cases p with
    | zero => simp [tsR]
    | succ p =>
      have := ih p (by simpa using h)
      rw [show (p + 1) * 3 = p * 3 + 1 + 1 + 1 by omega, show p * 3 + 1 + 1 + 1 + 1 = (p * 3 + 1) + 1 + 1 + 1 by omega, show p * 3 + 1 + 1 + 1 + 2 = (p * 3 + 2) + 1 + 1 + 1 by omega]
      simp only [tsR, List.flatMap_cons, tsC, List.cons_append, List.nil_append, List.set_cons_succ] at this ⊢
      rw [this]
theorem tsR_val (l : List TS) (p : Nat) (v : Int) (h : p < l.length) : (tsR l).set (p * 3 + 1) (.int .i64 v) = tsR (l.set p ⟨(gt l p).k, v, (gt l p).live⟩) := by
  rw [← tsR_set l p _ h]
  obtain ⟨h0, h1, h2⟩ := tsR_get l p h
  apply List.ext_getElem?
  intro j
  have hl := tsR_length l
  simp only [List.getElem?_set, List.length_set]
  by_cases e2 : p * 3 + 2 = j
  · subst e2
    rw [if_neg (by omega), if_pos rfl, if_pos (by omega), h2]
  · rw [if_neg e2]
    by_cases e1 : p * 3 + 1 = j
    · rw [if_pos e1, if_pos e1]
    · rw [if_neg e1, if_neg e1]
      by_cases e0 : p * 3 = j
      · rw [if_pos e0, if_pos (by omega), ← e0, h0]
      · rw [if_neg e0]
/-- a table in memory -/
structure Tb (W : World) (gT gS : Nat) (l : List TS) (m : Nat) : Prop where
  tab : Bk W gT 59 [.slice (some ⟨gS, 0, none⟩) l.length l.length, .int .i64 m]
  row : Bk W gS 62 (tsR l)
  ne : gT ≠ gS
  n : 2 ≤ l.length ∧ l.length ≤ 256
  ks : ∀ p, (gt l p).k.size ≤ 64
section
variable {W W' : World} {gT gS : Nat} {l : List TS} {m : Nat}
theorem Tb.step (h : Tb W gT gS l m) (hb : Below W.heap.size W W') : Tb W' gT gS l m := ⟨h.tab.step hb, h.row.step hb, h.ne, h.n, h.ks⟩
theorem Tb.at_ (h : Tb W gT gS l m) {p : Nat} (hp : p < l.length) : W.cell? ⟨gS, p * 3, none⟩ = some (.string (gt l p).k) ∧ W.cell? ⟨gS, p * 3 + 1, none⟩ = some (.int .i64 (gt l p).v) ∧ W.cell? ⟨gS, p * 3 + 2, none⟩ = some (.bool (gt l p).live) := by
  obtain ⟨h0, h1, h2⟩ := tsR_get l p hp
  exact ⟨(h.row.cell _).trans h0, (h.row.cell _).trans h1, (h.row.cell _).trans h2⟩
end
theorem hOf_bdT (s : List UInt8) : 0 ≤ hOf s ∧ hOf s ≤ 4294967295 := by
  unfold hOf hMore
  have : ∀ (l : List UInt8) (h : Int), (0 ≤ h ∧ h ≤ 4294967295) → 0 ≤ l.foldl mix32 h ∧ l.foldl mix32 h ≤ 4294967295 := by
    intro l
    induction l with
    | nil => intro h hh; exact hh
    | cons b l ih =>
      intro h _
      refine ih _ ?_
      unfold mix32
      rw [IntKind.wrap_u32]; omega
  exact this s _ (by omega)
theorem hm_eq {n : Nat} (hn : 1 ≤ n) (k : ByteArray) : hBelow (hOf k.data.toList) (n : Int) = (hm n k : Int) := by
  unfold hm
  have h : 0 ≤ hBelow (hOf k.data.toList) (n : Int) := by
    unfold hBelow
    rw [if_neg (by omega)]
    exact Int.emod_nonneg _ (by omega)
  omega
theorem nx_eq {n a : Nat} (ha : a < n) : Int.tmod ((a : Int) + 1) n = (nx n a : Int) := by
  rw [Int.tmod_eq_emod_of_nonneg (by omega)]
  unfold nx
  split
  · rename_i h
    rw [show (a : Int) + 1 = n by omega]
    simp
  · rw [Int.emod_eq_of_lt (by omega) (by omega)]; omega
theorem ds_eq {n h p : Nat} (hh : h < n) (hp : p < n) : Int.tmod ((p : Int) - h + n) n = (ds n h p : Int) := by
  rw [Int.tmod_eq_emod_of_nonneg (by omega)]
  unfold ds
  split
  · rw [show (p : Int) - h + n = ((p - h : Nat) : Int) + n by omega, Int.add_emod_right, Int.emod_eq_of_lt (by omega) (by omega)]
  · rw [Int.emod_eq_of_lt (by omega) (by omega)]; omega

theorem tb_home (W : World) (gT gS : Nat) (l : List TS) (m : Nat) (k : ByteArray) (hk : k.size ≤ 1000) (h : Tb W gT gS l m) :
    Calls Try.prog 36 #[.pointer (some ⟨gT, 0, none⟩), .string k] W fun e w' => e = .returned (.int .i64 (hm l.length k)) ∧ Below W.heap.size W w' := by
  have c0 := h.tab.cell 0
  simp at c0
  have hlt := h.tab.lt
  have hn := h.n
  have hb := hOf_bdT k.data.toList
  have he := hm_eq (n := l.length) (by omega) k
  have hOf1 := fun W => hash_Of_any k (by unfold maxLen; omega) W
  have hSl := fun W => hash_Slot_any (hOf k.data.toList) (l.length : Int) hb.1 hb.2 (by omega) W
  rw [he] at hSl
  generalize hOf k.data.toList = z at *
  clear he h
  go_enter Try.func36, Try.ntmps36
  go_wp2_with fail
  refine wp_region_m [(1, only (.int .u32 z)), (7, only (.int .i64 (hm l.length k)))] (by kernel_rfl) (by kernel_rfl) (by kernel_rfl) (by kernel_rfl) (sts_cons (sts_only _) (sts_cons (sts_only _) sts_nil)) (fun kq => ?_); (try dsimp only [List.append])
  (repeat (refine wpM_via (by kernel_rfl) ?_; go_big_quiet_step (fail); refine wpQuiet_nil ?_))
  (refine wpM_only _ (.int .u32 z) (by kernel_rfl) (by kernel_rfl) rfl (later_some _) ?_ ?_; (focus (intro x hx hk; obtain ⟨px, rfl⟩ := hx; go_simp; (first | with_reducible refine mUpon_enter ?_ | with_reducible refine mUpon_value ?_); go_at_call 16; exact (hOf1 _).mo)); intro K hK; go_big_quiet_op; refine hK _ ?_; clear hK K)
  (repeat (refine wpM_via (by kernel_rfl) ?_; go_big_quiet_step (fail); refine wpQuiet_nil ?_))
  (refine wpM_only _ (.int .i64 (hm l.length k)) (by kernel_rfl) (by kernel_rfl) rfl (later_some _) ?_ ?_; (focus (intro x hx hk; obtain ⟨px, rfl⟩ := hx; go_simp; (first | with_reducible refine mUpon_enter ?_ | with_reducible refine mUpon_value ?_); go_at_call 13; exact (hSl _).mos)); intro K hK; go_big_quiet_op; refine hK _ ?_; clear hK K)
  (repeat (refine wpM_via (by kernel_rfl) ?_; go_big_quiet_step (fail); refine wpQuiet_nil ?_))
  refine wpM_nil ?_; intro wq hwq hfq; have hbq := below_of_class hwq; clear hwq kq; (try dsimp only [List.drop])
  go_wp2
  go_ret
  exact ⟨rfl, hbq⟩
theorem tb_next (W : World) (gT gS : Nat) (l : List TS) (m : Nat) (a : Nat) (ha : a < l.length) (h : Tb W gT gS l m) :
    Calls Try.prog 30 #[.pointer (some ⟨gT, 0, none⟩), .int .i64 a] W fun e w' => e = .returned (.int .i64 (nx l.length a)) ∧ W = w' := by
  have c0 := h.tab.cell 0
  simp at c0
  have hn := h.n
  have he := nx_eq ha
  generalize nx l.length a = z at *
  clear h
  go_enter Try.func30, Try.ntmps30
  go_wp2
  go_ret
  exact ⟨rfl, rfl⟩
theorem txt_beq (x y : ByteArray) : (x.toList == y.toList) = decide (x = y) := by
  rw [ByteArray.toList_eq, ByteArray.toList_eq]
  by_cases h : x = y
  · subst h; simp
  · rw [decide_eq_false h, beq_eq_false_iff_ne]
    intro c
    apply h
    obtain ⟨⟨a⟩⟩ := x
    obtain ⟨⟨b⟩⟩ := y
    simp only at c
    rw [c]
theorem fnd_lt (l : List TS) (k : ByteArray) : ∀ (f a : Nat), a < l.length → (fnd l k f a).1 < l.length
  | 0, a, h => h
  | f + 1, a, h => by
    unfold fnd
    split
    · exact h
    · split
      · exact h
      · exact fnd_lt l k f _ (nx_lt h)
theorem fnd_step (l : List TS) (k : ByteArray) (j p : Nat) (hj : j < l.length) : fnd l k (l.length - j) p = if (gt l p).live = false then (p, false) else if (gt l p).k = k then (p, true) else fnd l k (l.length - (j + 1)) (nx l.length p) := by
  rw [show l.length - j = (l.length - (j + 1)) + 1 by omega]
  rfl
set_option maxHeartbeats 4000000 in
theorem tb_find (W : World) (gT gS : Nat) (l : List TS) (m : Nat) (k : ByteArray) (hk : k.size ≤ 1000) (h : Tb W gT gS l m) :
    Calls Try.prog 27 #[.pointer (some ⟨gT, 0, none⟩), .string k] W fun e w' => e = .returned (.tuple #[.int .i64 (fnd0 l k).1, .bool (fnd0 l k).2]) ∧ Below W.heap.size W w' := by
  have hn := h.n
  have hH := tb_home W gT gS l m k hk h
  have hml := hm_lt (n := l.length) (by omega) k
  have hN := fun W p hp h => tb_next W gT gS l m p hp h
  have HR := hide (show fnd0 l k = fnd l k l.length (hm l.length k) from rfl)
  generalize fnd0 l k = R at *
  generalize hm l.length k = h0 at *
  go_enter Try.func27, Try.ntmps27
  go_wp2_with fail
  refine wp_scope_straight ?_
  go_wp2_with fail
  refine hH.mono ?_
  rintro e w1 ⟨rfl, hb1⟩
  have h1 := h.step hb1
  have c0 := h1.tab.cell 0
  simp at c0
  have hlt := h1.tab.lt
  clear hH
  go_wp2_with fail
  refine wp_label ?_
  go_wp2_with fail
  go_loopw [6, 7, 17] (fun a fd i wr => ∃ j p : Nat, j ≤ l.length ∧ p < l.length ∧ i = .int .i64 j ∧ a = .int .i64 p ∧ fd = .bool false ∧ Hid (R = fnd l k (l.length - j) p) ∧ Below W.heap.size W wr) (fun _ _ i _ => l.length - (intOf i).toNat)
  case atStart => exact ⟨0, h0, Nat.zero_le _, hml, rfl, rfl, rfl, HR, hb1⟩
  case round =>
    obtain ⟨j, p, hj, hp, rfl, rfl, rfl, HF, hb⟩ := hrel
    have hT := h.step hb
    have d0 := hT.tab.cell 0
    simp at d0
    have hltd := hT.tab.lt
    have hlts := hT.row.lt
    clear c0 hlt
    by_cases hjl : j < l.length
    · have hjl' : (j : Int) < l.length := by omega
      have hpI : (p : Int) < l.length := by omega
      have HS := hide (fnd_step l k j p hjl)
      obtain ⟨e0, e1, e2⟩ := hT.at_ hp
      have hN2 := fun W p hb hp => hN W p hp (h.step hb)
      have hnx := nx_lt hp
      clear hN
      generalize gt l p = x at *
      obtain ⟨xk, xv, xl⟩ := x
      simp only at e0 e1 e2 HS
      cases xl with
      | false =>
        have HR2 := hide (show R = (p, false) by rw [HF.out, HS.out]; rfl)
        clear HF HS hT
        go_wp2
        (try simp only [Exit.noGoto, Exit.inBlock, Exit.then])
        go_ret2
        exact ⟨by rw [HR2.out]; rfl, by (repeat (first | with_reducible exact Below.refl _ _ | with_reducible assumption | with_reducible refine Below.drew ?_ | with_reducible refine Below.drewN ?_ _ | with_reducible refine Below.alloc1 ?_ _ | with_reducible refine Below.setCell1 ?_ (by first | omega | (simp; done) | (simp; omega)) _ | with_reducible refine Below.step ?_ (by with_reducible assumption)))⟩
      | true =>
        by_cases hxk : xk = k
        · have HR2 := hide (show R = (p, true) by rw [HF.out, HS.out, if_neg (by simp), if_pos hxk])
          clear HF HS hT
          subst hxk
          go_wp2
          (try simp only [Exit.noGoto, Exit.inBlock, Exit.then])
          go_ret2
          exact ⟨by rw [HR2.out]; rfl, by (repeat (first | with_reducible exact Below.refl _ _ | with_reducible assumption | with_reducible refine Below.drew ?_ | with_reducible refine Below.drewN ?_ _ | with_reducible refine Below.alloc1 ?_ _ | with_reducible refine Below.setCell1 ?_ (by first | omega | (simp; done) | (simp; omega)) _ | with_reducible refine Below.step ?_ (by with_reducible assumption)))⟩
        · have HR2 := hide (show R = fnd l k (l.length - (j + 1)) (nx l.length p) by rw [HF.out, HS.out, if_neg (by simp), if_neg hxk])
          have hbe : (xk.toList == k.toList) = false := by rw [txt_beq]; simpa using hxk
          clear HF HS hT
          go_wp2_with fail
          refine (hN2 _ p (by (repeat (first | with_reducible exact Below.refl _ _ | with_reducible assumption | with_reducible refine Below.drew ?_ | with_reducible refine Below.drewN ?_ _ | with_reducible refine Below.alloc1 ?_ _ | with_reducible refine Below.setCell1 ?_ (by first | omega | (simp; done) | (simp; omega)) _ | with_reducible refine Below.step ?_ (by with_reducible assumption)))) hp).mono ?_
          rintro e w2 ⟨rfl, rfl⟩
          generalize nx l.length p = p2 at *
          go_wp2
          go_roundw
          case rel => exact ⟨j + 1, p2, by omega, hnx, by go_num, rfl, rfl, HR2, by (repeat (first | with_reducible exact Below.refl _ _ | with_reducible assumption | with_reducible refine Below.drew ?_ | with_reducible refine Below.drewN ?_ _ | with_reducible refine Below.alloc1 ?_ _ | with_reducible refine Below.setCell1 ?_ (by first | omega | (simp; done) | (simp; omega)) _ | with_reducible refine Below.step ?_ (by with_reducible assumption)))⟩
          case measure => simp [intOf]; omega
    · have hje : j = l.length := by omega
      have HR2 := hide (show R = (p, false) by rw [HF.out, hje, Nat.sub_self]; rfl)
      have hjn : ¬ (j : Int) < l.length := by omega
      clear HF hje hT
      go_wp2
      (try simp only [Exit.noGoto, Exit.inBlock, Exit.then])
      go_ret2
      exact ⟨by rw [HR2.out]; rfl, by (repeat (first | with_reducible exact Below.refl _ _ | with_reducible assumption | with_reducible refine Below.drew ?_ | with_reducible refine Below.drewN ?_ _ | with_reducible refine Below.alloc1 ?_ _ | with_reducible refine Below.setCell1 ?_ (by first | omega | (simp; done) | (simp; omega)) _ | with_reducible refine Below.step ?_ (by with_reducible assumption)))⟩
end Go.Proofs.Ytpnhdbejkdoceaa
