/- The reference's wheel (callboyref15): what it is in plain words; New, Stop. -/
import Derived.Test.YtbljiohdfjmhfaaWh4
import Derived.Test.YtbljiohdfjmhfaaApp
import Derived.Test.YtbljiohdfjmhfaaKeep
import Derived.Test.YtbljiohdfjmhfaaRel4
namespace Go.Proofs.Ytbljiohdfjmhfaa
open Go.RowKit Go.Sort Go.Maps
set_option linter.unusedSimpArgs false
set_option linter.unusedVariables false

abbrev rwV (n : Nat) (now : Int) (A : Option Addr) (k c : Nat) : Value := .agg #[.int .i64 n, .int .i64 now, .slice A k c]
theorem rd_info : (Try.prog.info? 65).map (fun i => (i.zero, i.size, i.bytes)) = some (some (duV (0, 0)), 2, 16) := by kernel_rfl
theorem own_capR {w : World} {base : Nat} {e : TypeId} {size n c m : Nat} {A : Option Addr} {xs : List Value} (h : w.ownsRow base e size (.slice A n c) m xs) : m ≤ c ∧ c ≤ 9223372036854775807 := by
  rcases h.2 with ⟨h0, e⟩ | ⟨g, cap, cur, e, _, _, hc, hm, _⟩
  · injection h0 with _ _ h0; omega
  · injection e with _ _ e; subst e; exact ⟨hc, hm⟩
theorem drop_lt (id : Int) (l : IL) : decide ((dropK id l).length < l.length) = (lookK id l).isSome := by
  cases h : lookK id l with
  | none => rw [dropK_self (lookK_none h)]; simp
  | some v =>
    have := lookK_some h
    simp only [Option.isSome_some, decide_eq_true_eq]
    unfold dropK
    rw [List.length_filter_lt_length_iff_exists]
    exact ⟨_, this, by simp⟩
theorem drop_next (id : Int) (l : IL) (k : Nat) (h : k < l.length) : dropK id (l.take (k + 1)) = dropK id (l.take k) ++ (if l[k].1 = id then [] else [l[k]]) := by
  rw [take_snocL l k h]
  unfold dropK
  rw [List.filter_append]
  by_cases e : l[k].1 = id <;> simp [e]

/-- what is due later -/
def Ltr (u t : Int) (q : Int × Int) : Prop := t < q.2 ∨ (t = q.2 ∧ u < q.1)
def SoR (l : IL) : Prop := l.Pairwise (fun p q => Ltr p.1 p.2 q)
theorem part_at (f : Int × Int → Bool) (l : IL) (k : Nat) (h1 : ∀ p ∈ l.take k, f p = true) (h2 : ∀ p ∈ l.drop k, f p = false) : l.take k = l.filter f ∧ l.drop k = l.filter (fun p => !f p) := by
  have e : l = l.take k ++ l.drop k := (List.take_append_drop k l).symm
  constructor
  · conv => rhs; rw [e, List.filter_append, List.filter_eq_self.2 h1, List.filter_eq_nil_iff.2 (fun p hp => by rw [h2 p hp]; simp)]
    simp
  · conv => rhs; rw [e, List.filter_append, List.filter_eq_nil_iff.2 (fun p hp => by rw [h1 p hp]; simp), List.filter_eq_self.2 (fun p hp => by rw [h2 p hp]; rfl)]
    simp
theorem so_from {l : IL} (h : SoR l) {k : Nat} (hk : k < l.length) : ∀ p ∈ l.drop k, p = l[k] ∨ Ltr l[k].1 l[k].2 p := by
  have h2 := List.Pairwise.sublist (List.drop_sublist k l) h
  rw [List.drop_eq_getElem_cons hk] at h2 ⊢
  intro p hp
  rcases List.mem_cons.1 hp with e | hp
  · exact .inl e
  · exact .inr ((List.pairwise_cons.1 h2).1 p hp)
theorem so_late {l : IL} (h : SoR l) {k : Nat} (t : Int) (hk : k = l.length ∨ ∃ h : k < l.length, t < l[k].2) : ∀ p ∈ l.drop k, t < p.2 := by
  rcases hk with rfl | ⟨hk, hlt⟩
  · simp
  · intro p hp
    rcases so_from h hk p hp with e | e
    · rw [e]; exact hlt
    · unfold Ltr at e; omega
theorem so_ins {l : IL} (h : SoR l) (id t : Int) (hid : ∀ p ∈ l, p.1 ≠ id) {k : Nat} (h1 : ∀ p ∈ l.take k, p.2 < t ∨ (p.2 = t ∧ p.1 < id)) (hk : k = l.length ∨ ∃ h : k < l.length, ¬ (l[k].2 < t ∨ (l[k].2 = t ∧ l[k].1 < id))) :
    SoR (l.take k ++ (id, t) :: l.drop k) ∧ (l.take k ++ (id, t) :: l.drop k).Perm ((id, t) :: l) := by
  have h2 : ∀ p ∈ l.drop k, Ltr id t p := by
    rcases hk with rfl | ⟨hk, hno⟩
    · simp
    · intro p hp
      have hne := hid p (List.mem_of_mem_drop hp)
      rcases so_from h hk p hp with e | e
      · rw [← e] at hno; unfold Ltr; omega
      · have hne2 := hid l[k] (List.getElem_mem hk)
        unfold Ltr at *; omega
  have e : l = l.take k ++ l.drop k := (List.take_append_drop k l).symm
  constructor
  · unfold SoR at *
    rw [e, List.pairwise_append] at h
    rw [List.pairwise_append, List.pairwise_cons]
    refine ⟨h.1, ⟨h2, h.2.1⟩, fun p hp q hq => ?_⟩
    rcases List.mem_cons.1 hq with rfl | hq
    · have := h1 p hp; unfold Ltr; simp only; omega
    · exact h.2.2 p hp q hq
  · refine List.perm_middle.trans ?_
    rw [← e]
theorem so_filter {l : IL} (h : SoR l) (f : Int × Int → Bool) : SoR (l.filter f) := List.Pairwise.filter f h
def SameB (A A2 : Option Addr) : Prop := ∀ a2, A2 = some a2 → ∃ a, A = some a ∧ a2.block = a.block
theorem SameB.fr {A A2 : Option Addr} (h : SameB A A2) {lo : Nat} (f : Fr lo A) : Fr lo A2 := fun a2 e => by
  obtain ⟨a, e2, e3⟩ := h a2 e
  rw [e3]; exact f a e2
theorem SameB.ty {A A2 : Option Addr} (h : SameB A A2) {w : World} {T : TypeId} (f : TyA w T A) : TyA w T A2 := fun a2 e => by
  obtain ⟨a, e2, e3⟩ := h a2 e
  rw [e3]; exact f a e2
theorem SameB.refl (A : Option Addr) : SameB A A := fun a e => ⟨a, e, rfl⟩
/-- l[k:] of a slice that may be nil, and where it lies -/
theorem from_runF {P : Program} {t e : TypeId} {size : Nat} (ht : P.underlying t = some (.slice e)) (he : P.elem t = e) (hs : ∀ W, (sizeOf e).run P W = .ok size W) (A : Option Addr) (k n c : Nat) (hk : k ≤ n) (hn : n ≤ c) :
    ∃ A2, (∀ w B xs, Rd w B A xs → xs.length = n * size → Rd w B A2 (xs.drop (k * size))) ∧ SameB A A2 ∧ (∀ W, (Instr.slice t (.slice A n c) (some (.int .i64 (k : Int))) none none).run P W = .ok (.slice A2 (n - k) (c - k)) W) ∧ (∀ W, (Instr.sliceAt t (.slice A n c) (some (.int .i64 (k : Int))) none none).run P W = .ok (.slice A2 (n - k) (c - k)) W) := by
  have hu : P.underlying t = some (.slice (P.elem t)) := by rw [he]; exact ht
  have hb : ∃ A2, (∀ w B xs, Rd w B A xs → xs.length = n * size → Rd w B A2 (xs.drop (k * size))) ∧ SameB A A2 ∧ (∀ W, (Instr.slice t (.slice A n c) (some (.int .i64 (k : Int))) none none).run P W = .ok (.slice A2 (n - k) (c - k)) W) := by
    by_cases h1 : c = k
    · refine ⟨A, fun w B xs _ hl => ?_, SameB.refl A, fun W => ?_⟩
      · rw [List.drop_eq_nil_of_le (by rw [hl, show n = k by omega]; exact Nat.le_refl _)]; exact Rd.nil
      · rw [run_slice_l (ht := hu) (h0 := by omega) (h1 := by omega), he, hs]
        simp [sliced, h1]
    · refine ⟨A.map (fun a : Addr => a.add (k * size)), fun w B xs h hl => ?_, fun ad e => ?_, fun W => ?_⟩
      · cases A with
        | none =>
          have : xs = [] := Classical.byContradiction fun hne => by obtain ⟨ad, e, _⟩ := h hne; cases e
          rw [this, List.drop_nil]; exact Rd.nil
        | some ad => exact h.drop _
      · cases A with
        | none => cases e
        | some a => injection e with e; subst e; exact ⟨a, rfl, add_block _ _⟩
      · rw [run_slice_l (ht := hu) (h0 := by omega) (h1 := by omega), he, hs]
        simp [sliced, h1]
  obtain ⟨A2, h1, h2, h3⟩ := hb
  exact ⟨A2, h1, h2, h3, fun W => (run_sliceAt_slice W _ _ _ _ _ hu).trans (h3 W)⟩
theorem duR_take (l : IL) (k : Nat) : (duR l).take (k * 2) = duR (l.take k) := by
  induction l generalizing k with
  | nil => simp
  | cons a l ih =>
    cases k with
    | zero => simp
    | succ k =>
      have := ih k
      simp only [duR, List.flatMap_cons, List.take_succ_cons, duC] at *
      rw [show (k + 1) * 2 = k * 2 + 1 + 1 by omega]
      simp only [List.cons_append, List.nil_append, List.take_succ_cons, this]
theorem duR_drop (l : IL) (k : Nat) : (duR l).drop (k * 2) = duR (l.drop k) := by
  induction l generalizing k with
  | nil => simp
  | cons a l ih =>
    cases k with
    | zero => simp
    | succ k =>
      have := ih k
      simp only [duR, List.flatMap_cons, List.drop_succ_cons, duC] at *
      rw [show (k + 1) * 2 = k * 2 + 1 + 1 by omega]
      simp only [List.cons_append, List.nil_append, List.drop_succ_cons, this]

theorem Rd.farA {w : World} {A : Option Addr} {xs : List Value} (h : Rd w w.heap.size A xs) {p : Addr} (hn : ∀ ad, A = some ad → p.block < ad.block) (u : Value) : Rd (w.setCell p u) (w.setCell p u).heap.size A xs := fun hx => by
  obtain ⟨ad, e, hb, hc⟩ := h hx
  refine ⟨ad, e, by simpa [World.setCell] using hb, fun j v hj => ?_⟩
  have h1 := hc j v hj
  have h2 := Below.heap_setCell w p u ad.block (by have := hn ad e; omega)
  unfold World.cell? at h1 ⊢
  rw [add_block] at h1 ⊢
  rw [h2]; exact h1
theorem rw_New (n : Nat) (hn : 1 ≤ n ∧ n ≤ 32) (w : World) :
    Calls Try.prog 9 #[.int .i64 n] w fun e w' => e = .returned (.tuple #[rwV n 0 none 0 0, .int .i64 0]) ∧ Below w.heap.size w w' := by
  go_enter Try.func9, Try.ntmps9
  go_wp2
  exact bodyPost_ret (v := .tuple #[rwV n 0 none 0 0, .int .i64 0]) (by simp only [results, Try.results9]; go_simp) rfl ⟨rfl, by (repeat (first | with_reducible exact Below.refl _ _ | with_reducible assumption | with_reducible refine Below.drew ?_ | with_reducible refine Below.drewN ?_ _ | with_reducible refine Below.alloc1 ?_ _ | with_reducible refine Below.setCell1 ?_ (by first | omega | (simp; done) | (simp; omega)) _ | with_reducible refine Below.step ?_ (by with_reducible assumption)))⟩
theorem rw_New_bad (s : Int) (hr : ¬ (1 ≤ s ∧ s ≤ 32)) (w : World) :
    Calls Try.prog 9 #[.int .i64 s] w fun e w' => e = .returned (.tuple #[rwV 0 0 none 0 0, .int .i64 8]) ∧ Below w.heap.size w w' := by
  have cs : s < 1 ∨ (1 ≤ s ∧ 32 < s) := by omega
  clear hr
  rcases cs with q | ⟨q1, q2⟩
  all_goals
    go_enter Try.func9, Try.ntmps9
    go_wp2
    exact bodyPost_ret (v := .tuple #[rwV 0 0 none 0 0, .int .i64 8]) (by simp only [results, Try.results9]; go_simp) rfl ⟨rfl, by (repeat (first | with_reducible exact Below.refl _ _ | with_reducible assumption | with_reducible refine Below.drew ?_ | with_reducible refine Below.drewN ?_ _ | with_reducible refine Below.alloc1 ?_ _ | with_reducible refine Below.setCell1 ?_ (by first | omega | (simp; done) | (simp; omega)) _ | with_reducible refine Below.step ?_ (by with_reducible assumption)))⟩

theorem rw_Stop (n : Nat) (now id : Int) (A : Option Addr) (c : Nat) (l : IL) (hl : l.length ≤ 1000) (w : World) (hA : Rd w w.heap.size A (duR l)) :
    Calls Try.prog 11 #[rwV n now A l.length c, .int .i64 id] w fun e w' => ∃ B d, e = .returned (.tuple #[rwV n now B (dropK id l).length d, .bool (lookK id l).isSome]) ∧ (dropK id l).length ≤ d ∧ d ≤ 9223372036854775807 ∧ Rd w' w'.heap.size B (duR (dropK id l)) ∧ Fr w.heap.size B ∧ Below w.heap.size w w' ∧ TyA w' 65 B := by
  obtain ⟨i0, hi0, hz0, hz1, hz2⟩ := info_parts rd_info
  have HL := hide (drop_lt id l)
  go_enter Try.func11, Try.ntmps11
  go_wp2_with fail
  generalize hV : World.alloc (World.alloc w _) _ = w1
  have hb1 : Below w.heap.size w w1 := by subst hV; (repeat (first | with_reducible exact Below.refl _ _ | with_reducible assumption | with_reducible refine Below.drew ?_ | with_reducible refine Below.drewN ?_ _ | with_reducible refine Below.alloc1 ?_ _ | with_reducible refine Below.setCell1 ?_ (by first | omega | (simp; done) | (simp; omega)) _ | with_reducible refine Below.step ?_ (by with_reducible assumption)))
  have hs1 : w1.heap.size = w.heap.size + 1 + 1 := by subst hV; simp
  have k0 : Bk w1 w.heap.size 30 [.int .i64 n, .int .i64 now, .slice A l.length c] := by subst hV; (repeat (first | with_reducible exact Bk.new' _ _ _ _ (by simp; done) | with_reducible assumption | with_reducible refine Bk.alloc ?_ _ | with_reducible refine Bk.drew ?_ | with_reducible refine Bk.drewN ?_ _ | with_reducible refine Bk.step ?_ (by with_reducible assumption) | with_reducible refine Bk.far ?_ (by first | omega | (simp; done) | (simp; omega)) _))
  have k1 : Bk w1 (w.heap.size + 1) 30 [.int .i64 0, .int .i64 0, .slice none 0 0] := by subst hV; (repeat (first | with_reducible exact Bk.new' _ _ _ _ (by simp; done) | with_reducible assumption | with_reducible refine Bk.alloc ?_ _ | with_reducible refine Bk.drew ?_ | with_reducible refine Bk.drewN ?_ _ | with_reducible refine Bk.step ?_ (by with_reducible assumption) | with_reducible refine Bk.far ?_ (by first | omega | (simp; done) | (simp; omega)) _))
  have r1 := hA.step hb1
  clear hV hA
  have k0_0 := k0.cell 0; have k0_f0 := k0.frozen 0; have k0_1 := k0.cell 1; have k0_f1 := k0.frozen 1; have k0_2 := k0.cell 2; have k0_f2 := k0.frozen 2; simp only [List.set_cons_zero, List.set_cons_succ, List.getElem?_cons_zero, List.getElem?_cons_succ] at k0_0 k0_1 k0_2; have lt_k0 := k0.lt; have k1_0 := k1.cell 0; have k1_f0 := k1.frozen 0; have k1_1 := k1.cell 1; have k1_f1 := k1.frozen 1; have k1_2 := k1.cell 2; have k1_f2 := k1.frozen 2; simp only [List.set_cons_zero, List.set_cons_succ, List.getElem?_cons_zero, List.getElem?_cons_succ] at k1_0 k1_1 k1_2; have lt_k1 := k1.lt
  go_loopw [6, 7] (fun o i wr => ∃ (k : Nat) (M : IL) (B : Option Addr) (d : Nat), k ≤ l.length ∧ i = .int .i64 k ∧ o = .slice B M.length d ∧ Hid (M = dropK id (l.take k)) ∧ wr.ownsRow w1.heap.size 65 2 (.slice B M.length d) M.length (duR M) ∧ Below w1.heap.size w1 wr) (fun _ i _ => l.length - (intOf i).toNat)
  case atStart => exact ⟨0, [], none, 0, Nat.zero_le _, rfl, rfl, rfl, World.ownsRow_nil _ _ _ _, Below.refl _ _⟩
  case round =>
    obtain ⟨k, M, B, d, hk, rfl, rfl, HM, own, hb⟩ := hrel
    have HN := hide (show M.length ≤ k by
      rw [HM.out]
      have := List.length_filter_le (fun p : Int × Int => p.1 != id) (l.take k)
      have h2 : (l.take k).length ≤ k := by rw [List.length_take]; omega
      exact Nat.le_trans this h2)
    (try clear k0_0 k0_f0 k0_1 k0_f1 k0_2 k0_f2 lt_k0) ; (try clear k1_0 k1_f0 k1_1 k1_f1 k1_2 k1_f2 lt_k1)
    have m0 := k0.step hb
    have m1 := k1.step hb
    have m0_0 := m0.cell 0; have m0_f0 := m0.frozen 0; have m0_1 := m0.cell 1; have m0_f1 := m0.frozen 1; have m0_2 := m0.cell 2; have m0_f2 := m0.frozen 2; simp only [List.set_cons_zero, List.set_cons_succ, List.getElem?_cons_zero, List.getElem?_cons_succ] at m0_0 m0_1 m0_2; have lt_m0 := m0.lt; have m1_0 := m1.cell 0; have m1_f0 := m1.frozen 0; have m1_1 := m1.cell 1; have m1_f1 := m1.frozen 1; have m1_2 := m1.cell 2; have m1_f2 := m1.frozen 2; simp only [List.set_cons_zero, List.set_cons_succ, List.getElem?_cons_zero, List.getElem?_cons_succ] at m1_0 m1_1 m1_2; have lt_m1 := m1.lt
    have sz := hb.size
    by_cases hlt : k < l.length
    · obtain ⟨ad, rfl, hab, q0, q1⟩ := (r1.step hb).du hlt
      have HD := hide (drop_next id l k hlt)
      have hM := HN.out
      clear k0 k1
      generalize l[k] = x at *
      obtain ⟨x1, x2⟩ := x
      simp only at q0 q1 HD
      by_cases he : x1 = id
      · have hbn : (x1 != id) = false := by simpa using he
        have HE := hide (show M = dropK id (l.take (k + 1)) by rw [HD.out, if_pos he, List.append_nil]; exact HM.out)
        clear HD HM he
        go_wp2
        go_roundw
        case rel => exact ⟨k + 1, M, B, d, by omega, by go_num, rfl, HE, own, by (repeat (first | with_reducible exact Below.refl _ _ | with_reducible assumption | with_reducible refine Below.drew ?_ | with_reducible refine Below.drewN ?_ _ | with_reducible refine Below.alloc1 ?_ _ | with_reducible refine Below.setCell1 ?_ (by first | omega | (simp; done) | (simp; omega)) _ | with_reducible refine Below.step ?_ (by with_reducible assumption)))⟩
        case measure => simp [intOf]; omega
      · have hbn : (x1 != id) = true := by simpa using he
        have HE := hide (show M ++ [(x1, x2)] = dropK id (l.take (k + 1)) by rw [HD.out, if_neg he, ← HM.out])
        clear HD HM he
        go_wp2_with (at_builtin; refine wpList_app2 rfl (.tmp 24) (.tmp 30) 28 rfl w1.heap.size 65 i0 _ 2 16 Try.underlying28 hi0 hz0 hz1 hz2 rfl (by omega) B M.length d (duR M) rfl (own.alloc _) ⟨wr.heap.size, 0, none⟩ 1 1 [.int .i64 x1, .int .i64 x2] rfl rfl (news_atE (w := wr) (cs := [.int .i64 x1, .int .i64 x2]) (e := 65) rfl) (by simp [Value.oneCell']) (by unfold maxLen; omega) (by omega) (by simp; omega) (by omega) ?_; intro g2 cap w2 own2 hb2 hgr2)
        have hb3 : Below w1.heap.size w1 w2 := (hb.alloc sz (.cells #[.int .i64 x1, .int .i64 x2] 65)).trans hb2
        go_roundw
        case rel => exact ⟨k + 1, M ++ [(x1, x2)], _, cap, by omega, by go_num, by rw [List.length_append]; rfl, HE, by rw [List.length_append]; simpa [duR] using own2, hb3⟩
        case measure => simp [intOf]; omega
    · have hkn : k = l.length := by omega
      have hw := hb1.size
      have HT : Hid (M = dropK id l) := by unfold Hid; rw [HM.out, hkn, List.take_length]
      have HS : Hid (decide (M.length < l.length) = (lookK id l).isSome) := by unfold Hid; rw [HT.out]; exact HL.out
      have HQ : Hid (decide ((M.length : Int) < (l.length : Int)) = decide (M.length < l.length)) := by unfold Hid; rw [decide_eq_decide]; omega
      have hbe := hb1.step hb
      have hcap := own_capR own
      clear HL HM k0 k1 hkn
      go_wp2
      refine bodyPost_ret (v := .tuple #[rwV n now B M.length d, .bool (decide ((M.length : Int) < (l.length : Int)))]) (by simp only [results, Try.results11]; go_simp) rfl ?_
      rw [HQ.out, HS.out, ← HT.out]
      exact ⟨B, d, rfl, hcap.1, hcap.2, by
        refine own_rd (base := w1.heap.size) (e := 65) (size := 2) (n := M.length) (c := d) ?_
        repeat (refine own_far ?_ (by first | omega | (simp; done) | (simp; omega)) _)
        exact own, fun ad e => by have := own_fr own ad e; omega, by (repeat (first | with_reducible exact Below.refl _ _ | with_reducible assumption | with_reducible refine Below.drew ?_ | with_reducible refine Below.drewN ?_ _ | with_reducible refine Below.alloc1 ?_ _ | with_reducible refine Below.setCell1 ?_ (by first | omega | (simp; done) | (simp; omega)) _ | with_reducible refine Below.step ?_ (by with_reducible assumption))), by
        repeat (refine TyA.setc ?_ _ _)
        exact own_ty own⟩
end Go.Proofs.Ytbljiohdfjmhfaa
