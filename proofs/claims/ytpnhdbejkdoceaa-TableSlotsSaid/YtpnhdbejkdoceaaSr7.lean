/- Package table: slices.SortFunc by strings.Compare of the keys (All's order). -/
import Derived.Test.YtpnhdbejkdoceaaTb5
import Derived.Test.YtpnhdbejkdoceaaReD
import Derived.Test.YtpnhdbejkdoceaaApp
import Derived.Test.YtpnhdbejkdoceaaSort
import Derived.Test.YtpnhdbejkdoceaaShelf
namespace Go.Proofs.Ytpnhdbejkdoceaa
open Go.RowKit Go.Sort
set_option linter.unusedSimpArgs false
set_option linter.unusedVariables false
abbrev EL := List (ByteArray × Int)
abbrev enC7 (p : ByteArray × Int) : List Value := [.string p.1, .int .i64 p.2]
abbrev enR7 (l : EL) : List Value := l.flatMap enC7
theorem enR7_length (l : EL) : (enR7 l).length = 2 * l.length := by
  induction l with
  | nil => rfl
  | cons a l ih => simp only [enR7, List.flatMap_cons, List.length_append, List.length_cons] at *; simp only [List.length_nil] at *; omega
theorem enR7_get (l : EL) (k : Nat) (h : k < l.length) : (enR7 l)[k * 2]? = some (.string l[k].1) ∧ (enR7 l)[k * 2 + 1]? = some (.int .i64 l[k].2) := by
  induction l generalizing k with
  | nil => simp at h
  | cons a l ih =>
    cases k with
    | zero => simp [enR7]
    | succ k =>
      have := ih k (by simpa using h)
      have e : ∀ j, (enR7 (a :: l))[(k + 1) * 2 + j]? = (enR7 l)[k * 2 + j]? := fun j => by
        rw [show (k + 1) * 2 + j = (k * 2 + j) + 2 by omega]
        simp [enR7]
      have e0 := e 0
      simp only [Nat.add_zero] at e0
      rw [e0, e 1]
      simpa using this
theorem Rd.en7 {w : World} {B : Nat} {A : Option Addr} {l : EL} (h : Rd w B A (enR7 l)) {k : Nat} (hk : k < l.length) :
    ∃ ad, A = some ad ∧ ad.block < B ∧ w.cell? (ad.add (k * 2)) = some (.string l[k].1) ∧ w.cell? { block := (ad.add (k * 2)).block, off := (ad.add (k * 2)).off + 1 } = some (.int .i64 l[k].2) := by
  obtain ⟨ad, e, hb, hc⟩ := h (by intro e; have := enR7_length l; rw [e] at this; simp at this; omega)
  obtain ⟨q0, q1⟩ := enR7_get l k hk
  have f : ∀ (x : Addr) (i : Nat), i ≠ 0 → x.add i = { block := x.block, off := x.off + i } := fun x i hi => by simp [Addr.add, hi]
  exact ⟨ad, e, hb, hc _ _ q0, by rw [← f _ 1 (by omega), add_add']; exact hc _ _ q1⟩
/-! the order of texts -/
def lexB : List UInt8 → List UInt8 → Prop
  | [], [] => False
  | [], _ :: _ => True
  | _ :: _, [] => False
  | a :: xs, b :: bs => a.toNat < b.toNat ∨ (a.toNat = b.toNat ∧ lexB xs bs)
theorem cb_lex : ∀ (a b : List UInt8), Lib.compareBytes a b < 0 ↔ lexB a b
  | [], [] => by simp [Lib.compareBytes, lexB]
  | [], _ :: _ => by simp [Lib.compareBytes, lexB]
  | _ :: _, [] => by simp [Lib.compareBytes, lexB]
  | a :: xs, b :: bs => by
    have ih := cb_lex xs bs
    unfold Lib.compareBytes lexB
    by_cases h1 : a < b
    · have := UInt8.lt_iff_toNat_lt.1 h1
      simp [h1, this]
    · have n1 : ¬ a.toNat < b.toNat := fun c => h1 (UInt8.lt_iff_toNat_lt.2 c)
      by_cases h2 : b < a
      · have := UInt8.lt_iff_toNat_lt.1 h2
        have n3 : ¬ a.toNat = b.toNat := by omega
        simp [h1, h2, n1, n3]
      · have n2 : ¬ b.toNat < a.toNat := fun c => h2 (UInt8.lt_iff_toNat_lt.2 c)
        have n3 : a.toNat = b.toNat := by omega
        simp [h1, h2, n1, n3, ih]
theorem lex_irr : ∀ a : List UInt8, ¬ lexB a a
  | [] => by simp [lexB]
  | a :: xs => by
    have := lex_irr xs
    unfold lexB
    rintro (h | ⟨_, h⟩)
    · omega
    · exact this h
theorem lex_trans : ∀ (a b c : List UInt8), lexB a b → lexB b c → lexB a c
  | [], [], c, h, _ => by simp [lexB] at h
  | [], _ :: _, [], _, h => by simp [lexB] at h
  | [], _ :: _, _ :: _, _, _ => by simp [lexB]
  | _ :: _, [], c, h, _ => by simp [lexB] at h
  | _ :: _, _ :: _, [], _, h => by simp [lexB] at h
  | a :: xs, b :: bs, c :: cs, h1, h2 => by
    have ih := lex_trans xs bs cs
    unfold lexB at h1 h2 ⊢
    rcases h1 with h1 | ⟨h1, x1⟩ <;> rcases h2 with h2 | ⟨h2, x2⟩
    · left; omega
    · left; omega
    · left; omega
    · right; exact ⟨by omega, ih x1 x2⟩
theorem lex_ntrans : ∀ (a b c : List UInt8), ¬ lexB a b → ¬ lexB b c → ¬ lexB a c
  | [], [], c, _, h => h
  | [], _ :: _, c, h, _ => by simp [lexB] at h
  | _ :: _, [], [], _, _ => by simp [lexB]
  | _ :: _, [], _ :: _, _, h => by simp [lexB] at h
  | _ :: _, _ :: _, [], _, _ => by simp [lexB]
  | a :: xs, b :: bs, c :: cs, h1, h2 => by
    have ih := lex_ntrans xs bs cs
    unfold lexB at h1 h2 ⊢
    simp only [not_or, not_and] at h1 h2
    rintro (h | ⟨h, x⟩)
    · omega
    · have e1 : a.toNat = b.toNat := by omega
      have e2 : b.toNat = c.toNat := by omega
      exact ih (h1.2 e1) (h2.2 e2) x
theorem lex_total : ∀ (a b : List UInt8), ¬ lexB a b → ¬ lexB b a → a = b
  | [], [], _, _ => rfl
  | [], _ :: _, h, _ => by simp [lexB] at h
  | _ :: _, [], _, h => by simp [lexB] at h
  | a :: xs, b :: bs, h1, h2 => by
    have ih := lex_total xs bs
    unfold lexB at h1 h2
    simp only [not_or, not_and] at h1 h2
    have e1 : a.toNat = b.toNat := by omega
    rw [ih (h1.2 e1) (h2.2 e1.symm), UInt8.toNat_inj.1 e1]
end Go.Proofs.Ytpnhdbejkdoceaa
namespace Go.Proofs.Ytpnhdbejkdoceaa.Dn
open Go.RowKit Go.Sort
set_option linter.unusedSimpArgs false
set_option linter.unusedVariables false
abbrev DK := ByteArray × Int
def enD (x : DK) : List Value := [.string x.1, .int .i64 x.2]
def cfD (x y : DK) : Int := Lib.compareBytes x.1.data.toList y.1.data.toList
def ltP (p q : DK) : Prop := lexB p.1.data.toList q.1.data.toList
theorem cmp_any (x y : DK) (W : World) : Calls Try.prog 25 #[.agg #[.string x.1, .int .i64 x.2], .agg #[.string y.1, .int .i64 y.2]] W fun e w' => e = .returned (.int .i64 (cfD x y)) ∧ ∃ q os', w' = grow (W.drewN q) os' := by
  obtain ⟨a, s⟩ := x
  obtain ⟨b, t⟩ := y
  have hcon := fun W => Try.strings_Compare a b W
  unfold cfD
  simp only
  generalize Lib.compareBytes a.data.toList b.data.toList = r at hcon ⊢
  have hL : Later W ((W.alloc (.cells #[.string a, .int .i64 s] 60)).alloc (.cells #[.string b, .int .i64 t] 60)) := later_of ⟨by (repeat (first | with_reducible exact Below.refl _ _ | with_reducible assumption | with_reducible refine Below.drew ?_ | with_reducible refine Below.drewN ?_ _ | with_reducible refine Below.alloc1 ?_ _ | with_reducible refine Below.setCell1 ?_ (by first | omega | (simp; done) | (simp; omega)) _ | with_reducible refine Below.step ?_ (by with_reducible assumption))), Nat.le_refl _⟩
  go_enter Try.func25, Try.ntmps25
  go_wp2_with fail
  refine (hcon _).mono ?_
  rintro e w' ⟨rfl, rfl⟩
  go_wp2
  go_ret
  refine ⟨rfl, ?_⟩
  obtain ⟨p, hp⟩ := hL
  refine ⟨p.d - W.drawn, p.os, ?_⟩
  rw [hp]
  unfold grow redrawn World.drewN
  simp only
  rw [Nat.add_sub_of_le p.h]
theorem ltD (x y : DK) : ltOf cfD x y = true ↔ ltP x y := by
  unfold ltOf cfD ltP
  rw [decide_eq_true_iff, cb_lex]
theorem ltDf (x y : DK) : ltOf cfD x y = false ↔ ¬ ltP x y := by
  rw [← ltD]; simp
theorem swoD : SWO (ltOf cfD) where
  irrefl x := by rw [ltDf]; exact lex_irr _
  trans x y z h1 h2 := by rw [ltD] at *; exact lex_trans _ _ _ h1 h2
  ntrans x y z h1 h2 := by rw [ltDf] at *; exact lex_ntrans _ _ _ h1 h2
theorem holds_own {w : World} {base g c : Nat} {l : EL} (own : w.ownsRow base 60 2 (.slice (some ⟨g, 0, none⟩) l.length c) l.length (enR7 l)) :
    HoldsK enD 2 w g 0 l.toArray := by
  obtain ⟨cur, hg, hc, _⟩ := own_row own
  have hrd := own.cells (g := g) rfl
  intro j hj
  rw [size_flatK] at hj
  have hj' : j < l.length * 2 := by simpa using hj
  refine ⟨?_, ?_⟩
  · have hq : j / 2 < l.length := by omega
    obtain ⟨q0, q1⟩ := enR7_get l (j / 2) hq
    have e : (flatK enD 2 l.toArray)[j]! = (enC7 l[j / 2])[j % 2]! := by
      rw [get_flatK _ _ _ _ hj]
      have : l.toArray[j / 2]! = l[j / 2] := by simp [hq]
      rw [this]; rfl
    have h2 : (enR7 l)[j]? = some ((enC7 l[j / 2])[j % 2]!) := by
      have key : ∀ r, r < 2 → (enR7 l)[j / 2 * 2 + r]? = some ((enC7 l[j / 2])[r]!) := fun r hr => by
        match r, hr with
        | 0, _ => exact q0
        | 1, _ => exact q1
      have := key (j % 2) (by omega)
      rwa [show j / 2 * 2 + j % 2 = j by omega] at this
    have := hrd j _ h2
    rw [e]
    have ea : (⟨g, 0, none⟩ : Addr).add j = ⟨g, 0 + j, none⟩ := by unfold Addr.add; split <;> simp_all
    rw [ea] at this
    exact this
  · simp [World.frozen?, hc]
theorem rd_holds {w : World} {g : Nat} {d : Array DK} (hg : g < w.heap.size) (h : HoldsK enD 2 w g 0 d) : Rd w w.heap.size (some ⟨g, 0, none⟩) (enR7 (d.toList)) := fun _ => ⟨_, rfl, hg, fun j v hj => by
  have hlt : j < (enR7 (d.toList)).length := (List.getElem?_eq_some_iff.1 hj).1
  rw [enR7_length] at hlt
  have hq : j / 2 < (d.toList).length := by omega
  have hq' : j / 2 < d.size := by simpa using hq
  have hc := h.cell hq' (c := j % 2) (by omega)
  obtain ⟨q0, q1⟩ := enR7_get _ _ hq
  have e1 : (d.toList)[j / 2] = d[j / 2]! := by simp [hq']
  rw [e1] at q0 q1
  have ea : (⟨g, 0, none⟩ : Addr).add j = ⟨g, 0 + j / 2 * 2 + j % 2, none⟩ := by
    rw [show 0 + j / 2 * 2 + j % 2 = j by omega]; unfold Addr.add; split <;> simp_all
  have key : ∀ r, r < 2 → (enR7 (d.toList))[j / 2 * 2 + r]? = some ((enC7 (d[j / 2]!))[r]!) := fun r hr => by
    match r, hr with
    | 0, _ => exact q0
    | 1, _ => exact q1
  have h2 := key (j % 2) (by omega)
  rw [show j / 2 * 2 + j % 2 = j by omega, hj] at h2
  rw [ea, hc.1, h2]; rfl⟩
theorem below_sort {w : World} {base g n : Nat} {d : Array DK} {os : Array Obj} (hb : base ≤ g) (hs : base ≤ w.heap.size) : Go.RowKit.Below base w (sortWorldK enD 2 w g 0 n d os) := by
  refine ⟨rfl, rfl, rfl, size_sortWorldK_c enD 2 w g 0 n d os, fun k hk => ?_⟩
  have hkw : k < w.heap.size := by omega
  unfold sortWorldK grow putRowK putRow mapBlock
  simp only [ahead]
  rw [Array.getElem?_append_left (by simpa using hkw)]
  simp [Array.getElem?_modify]
  omega

theorem ins_none (p : Option Addr) (cap : Nat) (fv : Value) (w : World) :
    Calls Try.prog 37 #[.slice p 0 cap, .int .i64 0, .int .i64 0, fv] w fun e w' => e = .returned (.tuple #[]) ∧ w' = w := by
  go_enter Try.func37, Try.ntmps37
  go_wp2
  refine wp_loop_rounds 1 ?_
  rw [rounds_succ]
  go_wp2
  go_end0
  exact ⟨rfl, rfl⟩
theorem pdq_none (p : Option Addr) (cap : Nat) (lim : Int) (fv : Value) (w : World) :
    Calls Try.prog 33 #[.slice p 0 cap, .int .i64 0, .int .i64 0, .int .i64 lim, fv] w fun e w' => e = .returned (.tuple #[]) ∧ w' = w := by
  go_enter Try.func33, Try.ntmps33
  go_wp2
  refine wp_loop_rounds 1 ?_
  rw [rounds_succ]
  go_wp2_with (go_at_call 37; refine (ins_none _ _ _ _).mono ?_; rintro e w' ⟨rfl, rfl⟩)
  (try simp only [Exit.inBlock, Exit.then]); refine bodyPost_ret (results_none rfl _ _ _) rfl ?_
  exact ⟨rfl, rfl⟩
theorem sortFunc_none (p : Option Addr) (cap : Nat) (fv : Value) (w : World) :
    Calls Try.prog 24 #[.slice p 0 cap, fv] w fun e w' => e = .returned (.tuple #[]) ∧ w' = w := by
  have hl : Calls Try.prog 34 #[.int .u64 0] w fun e w' => e = .returned (.int .i64 (Lib.bitLen 0 : Nat)) ∧ w' = w := Any.bits_Len (SlLaysF0.n15.bits (P := Try.prog) (ρ := Try.sortL_ren) { Try.sortL with }) 0 w (by omega) (by omega)
  generalize (Lib.bitLen 0 : Nat) = q at hl
  go_enter Try.func24, Try.ntmps24
  go_wp2_with (first | (go_at_call 34; refine hl.mono ?_; rintro e w' ⟨rfl, rfl⟩) | (go_at_call 33; refine (pdq_none _ _ _ _ _).mono ?_; rintro e w' ⟨rfl, rfl⟩))
  go_end0
  exact ⟨rfl, rfl⟩
theorem sort_any (w : World) (base : Nat) (A : Option Addr) (c : Nat) (l : EL) (hl : l.length ≤ 10000) (hbase : base ≤ w.heap.size) (own : w.ownsRow base 60 2 (.slice A l.length c) l.length (enR7 l)) :
    Calls Try.prog 24 #[.slice A l.length c, .func (.func 25) #[] #[]] w fun e w' => ∃ l', e = .returned (.tuple #[]) ∧ l'.Perm l ∧ l'.Pairwise (fun p q => ¬ ltP q p) ∧ Rd w' w'.heap.size A (enR7 l') ∧ Go.RowKit.Below base w w' := by
  cases A with
  | none =>
    have hl0 : l = [] := by
      rcases l with _ | ⟨a, l⟩
      · rfl
      · obtain ⟨g, cc, hv, _⟩ := own_some own (by simp)
        injection hv with h1; cases h1
    subst hl0
    refine (sortFunc_none none c _ w).mono ?_
    rintro e w' ⟨rfl, rfl⟩
    exact ⟨[], rfl, .refl _, .nil, Rd.nil, Go.RowKit.Below.refl _ _⟩
  | some ad =>
    obtain ⟨g, rfl, hgb, hgs⟩ : ∃ g, ad = ⟨g, 0, none⟩ ∧ base ≤ g ∧ g < w.heap.size := by
      have h1 := own_blk own ad rfl
      rcases own.2 with ⟨h0, _⟩ | ⟨g, cap, cur, hv, hb, hg, _⟩
      · injection h0 with h0; cases h0
      · injection hv with hv; injection hv with hv; exact ⟨g, hv, by rw [hv] at h1; exact h1.1, by rw [hv] at h1; exact h1.2⟩
    have hH := holds_own own
    have eg : ∀ args w, (callFunc 25 args).run Try.prog w = .ok (.enter 25 args) w := enters_of Try.func25 (by kernel_rfl) rfl
    have hcon := AnyQ.slices_SortFunc Try.sortL 2 Try.isAgg60 Try.sizeOf60 enD (fun _ => rfl) (fun x v hv => by simp [enD] at hv; rcases hv with rfl | rfl <;> rfl) cfD swoD 25 #[] g 0 c l.toArray w eg (fun _ _ _ _ x y => cmp_any x y _) hH hgs (by simp; omega)
    change Calls Try.prog 24 _ _ _ at hcon
    have hsz : l.toArray.size = l.length := by simp
    have hpost : ∀ w' d' n os, PermIn 0 l.toArray.size l.toArray d' → SortedIn (ltOf cfD) 0 l.toArray.size d' → w' = sortWorldK enD 2 w g 0 n d' os →
        ∃ l', l'.Perm l ∧ l'.Pairwise (fun p q => ¬ ltP q p) ∧ Rd w' w'.heap.size (some ⟨g, 0, none⟩) (enR7 l') ∧ Go.RowKit.Below base w w' := by
      rintro w' d' n os hp hs rfl
      obtain ⟨p1, _, p3⟩ := hp
      have e1 : d'.extract 0 l.toArray.size = d' := by rw [← p1]; simp
      have e2 : l.toArray.extract 0 l.toArray.size = l.toArray := by simp [List.take_of_length_le]
      rw [e1, e2] at p3
      refine ⟨d'.toList, p3, ?_, rd_holds (Nat.lt_of_lt_of_le hgs (size_sortWorldK_c enD 2 w g 0 n d' os)) (holdsK_sortWorldK_c enD 2 w g 0 _ d' n os hH hgs p1), below_sort hgb hbase⟩
      rw [List.pairwise_iff_getElem]
      intro i j hi hj hij
      have hi' : i < d'.size := by simpa using hi
      have hj' : j < d'.size := by simpa using hj
      have := hs i j (Nat.zero_le _) hij (by rw [← p1]; exact hj')
      rw [ltDf] at this
      simpa [hi', hj'] using this
    rw [hsz] at hcon
    refine hcon.mono ?_
    rintro e w' ⟨rfl, d', n, os, hp, hs, rfl⟩
    obtain ⟨l', r1, r2, r3, r4⟩ := hpost _ d' n os (by rw [hsz]; exact hp) (by rw [hsz]; exact hs) rfl
    exact ⟨l', rfl, r1, r2, r3, r4⟩
end Go.Proofs.Ytpnhdbejkdoceaa.Dn
