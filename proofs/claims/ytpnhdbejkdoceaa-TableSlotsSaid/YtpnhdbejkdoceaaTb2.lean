/- Package table: Len, Full, Where, Get, Put, Add, New. -/
import Derived.Test.YtpnhdbejkdoceaaTb1
namespace Go.Proofs.Ytpnhdbejkdoceaa
open Go.RowKit Go.Sort
set_option linter.unusedSimpArgs false
set_option linter.unusedVariables false

/-- only the blocks of fp, and new ones, have turned -/
structure FpW (fp : List Nat) (a b : World) : Prop where
  os : b.os = a.os
  tape : b.tape = a.tape
  output : b.output = a.output
  size : a.heap.size ≤ b.heap.size
  block : ∀ i, i < a.heap.size → i ∉ fp → b.heap[i]? = a.heap[i]?
theorem FpW.refl (fp : List Nat) (a : World) : FpW fp a a := ⟨rfl, rfl, rfl, Nat.le_refl _, fun _ _ _ => rfl⟩
theorem FpW.trans {fp : List Nat} {a b c : World} (h : FpW fp a b) (k : FpW fp b c) : FpW fp a c :=
  ⟨k.os.trans h.os, k.tape.trans h.tape, k.output.trans h.output, Nat.le_trans h.size k.size, fun i hi hn => (k.block i (Nat.lt_of_lt_of_le hi h.size) hn).trans (h.block i hi hn)⟩
theorem FpW.below {fp : List Nat} {a b c : World} (h : FpW fp a b) (k : Below b.heap.size b c) : FpW fp a c :=
  h.trans ⟨k.os, k.tape, k.output, k.size, fun i hi _ => k.block i hi⟩
theorem FpW.of {fp : List Nat} {a b : World} (k : Below a.heap.size a b) : FpW fp a b := (FpW.refl fp a).below k
theorem FpW.gr {fp : List Nat} {a b c : World} {g : Nat} (h : FpW fp a b) (k : b.grownBy c (some g)) (hg : g ∈ fp) : FpW fp a c :=
  h.trans ⟨k.os, k.tape, k.output, k.size, fun i hi hn => k.block i hi (by intro e; injection e with e; exact hn (e ▸ hg))⟩
theorem FpW.toBelow {fp : List Nat} {a b : World} {B : Nat} (h : FpW fp a b) (hB : B ≤ a.heap.size) (hf : ∀ i ∈ fp, B ≤ i) : Below B a b :=
  ⟨h.os, h.tape, h.output, h.size, fun i hi => h.block i (by omega) (fun hm => by have := hf i hm; omega)⟩
theorem FpW.rd {fp : List Nat} {a b : World} {A : Option Addr} {xs : List Value} (h : FpW fp a b) (hr : Rd a a.heap.size A xs) (hn : ∀ ad, A = some ad → ad.block ∉ fp) : Rd b b.heap.size A xs := fun hx => by
  obtain ⟨ad, e, hb, hc⟩ := hr hx
  refine ⟨ad, e, Nat.lt_of_lt_of_le hb h.size, fun j v hj => ?_⟩
  have h2 := hc j v hj
  unfold World.cell? at h2 ⊢
  rw [add_block, h.block ad.block hb (hn ad e)]
  rwa [add_block] at h2

theorem Bk.fp {fp : List Nat} {a b : World} {g : Nat} {t : TypeId} {cs : List Value} (h : Bk a g t cs) (f : FpW fp a b) (hn : g ∉ fp) : Bk b g t cs := (f.block g h.lt hn).trans h
theorem FpW.set_ {fp : List Nat} {a b : World} (h : FpW fp a b) {p : Addr} (hp : p.block ∈ fp) (u : Value) : FpW fp a (b.setCell p u) :=
  h.trans ⟨rfl, rfl, rfl, by simp [World.setCell], fun i hi hn => Below.heap_setCell _ _ _ _ (by intro e; exact hn (e ▸ hp))⟩
section
variable {W W' : World} {gT gS : Nat} {l : List TS} {m : Nat}
theorem Tb.val (h : Tb W gT gS l m) {p : Nat} (hp : p < l.length) (v : Int) : Tb (W.setCell ⟨gS, p * 3 + 1, none⟩ (.int .i64 v)) gT gS (l.set p ⟨(gt l p).k, v, (gt l p).live⟩) m where
  tab := by rw [List.length_set]; exact h.tab.far h.ne _
  row := by rw [← tsR_val l p v hp]; exact h.row.set_ _ _
  ne := h.ne
  n := by rw [List.length_set]; exact h.n
  ks q := by
    rw [gt_set l p q _ hp]
    split
    · rename_i e; simp only; exact h.ks p
    · exact h.ks q
theorem Tb.slot (h : Tb W gT gS l m) {p : Nat} (hp : p < l.length) (x : TS) (hx : x.k.size ≤ 64) : Tb (((W.setCell ⟨gS, p * 3, none⟩ (.string x.k)).setCell ⟨gS, p * 3 + 1, none⟩ (.int .i64 x.v)).setCell ⟨gS, p * 3 + 2, none⟩ (.bool x.live)) gT gS (l.set p x) m where
  tab := by rw [List.length_set]; exact ((h.tab.far h.ne _).far h.ne _).far h.ne _
  row := by rw [← tsR_set l p x hp]; exact ((h.row.set_ _ _).set_ _ _).set_ _ _
  ne := h.ne
  n := by rw [List.length_set]; exact h.n
  ks q := by
    rw [gt_set l p q _ hp]
    split
    · exact hx
    · exact h.ks q
theorem Tb.many (h : Tb W gT gS l m) (m' : Nat) : Tb (W.setCell ⟨gT, 1, none⟩ (.int .i64 m')) gT gS l m' where
  tab := h.tab.set_ 1 _
  row := h.row.far (Ne.symm h.ne) _
  ne := h.ne
  n := h.n
  ks := h.ks
end
def full (l : List TS) (m : Nat) : Bool := decide (l.length * 3 / 4 ≤ m)

theorem tb_Len (W : World) (gT gS : Nat) (l : List TS) (m : Nat) (h : Tb W gT gS l m) :
    Calls Try.prog 8 #[.pointer (some ⟨gT, 0, none⟩)] W fun e w' => e = .returned (.int .i64 m) ∧ W = w' := by
  have c0 := h.tab.cell 1
  simp at c0
  go_enter Try.func8, Try.ntmps8
  go_wp2
  go_ret
  exact ⟨rfl, rfl⟩
theorem tb_Full (W : World) (gT gS : Nat) (l : List TS) (m : Nat) (h : Tb W gT gS l m) :
    Calls Try.prog 9 #[.pointer (some ⟨gT, 0, none⟩)] W fun e w' => e = .returned (.bool (full l m)) ∧ Below W.heap.size W w' := by
  have c0 := h.tab.cell 0
  have c1 := h.tab.cell 1
  have hn := h.n
  have hlt := h.tab.lt
  simp at c0 c1
  have hq : Int.tdiv ((l.length : Int) * 3) 4 = ((l.length * 3 / 4 : Nat) : Int) := by rw [Int.tdiv_eq_ediv_of_nonneg (by omega)]; omega
  have hr : decide ((((l.length * 3 / 4 : Nat) : Nat) : Int) ≤ (m : Int)) = full l m := by unfold full; rw [decide_eq_decide]; omega
  have hz : l.length * 3 / 4 ≤ 1000 := by omega
  generalize full l m = r at *
  generalize l.length * 3 / 4 = z at *
  have hw := IntWalk.i64_in (z : Int) (by omega)
  clear h
  go_enter Try.func9, Try.ntmps9
  go_wp2_with fail
  (refine wp_region_qb (by kernel_rfl) (by kernel_rfl) (fun kq => ?_); (try dsimp only [List.append]); (repeat (go_big_quiet_step ((fail)))); refine wpQuiet_nil ?_; intro wq hwq; have hbq := below_of_class hwq; clear hwq kq)
  go_wp2
  go_ret
  exact ⟨ret_bool (by simpa using hr), hbq⟩
theorem tb_held (n : Int) (w : World) : Calls Try.prog 32 #[.int .i64 n] w fun e w' => e = .returned (.int .i64 (min (max n (-1099511627776)) 1099511627776)) ∧ w = w' := by
  go_enter Try.func32, Try.ntmps32
  go_wp2
  go_ret
  exact ⟨ret_int (by omega), rfl⟩
theorem tb_Where (W : World) (gT gS : Nat) (l : List TS) (m : Nat) (k : ByteArray) (hk : k.size ≤ 1000) (h : Tb W gT gS l m) :
    Calls Try.prog 11 #[.pointer (some ⟨gT, 0, none⟩), .string k] W fun e w' => e = .returned (.int .i64 (if (fnd0 l k).2 then ((fnd0 l k).1 : Int) else -1)) ∧ Below W.heap.size W w' := by
  have hF := tb_find W gT gS l m k hk h
  generalize fnd0 l k = R at *
  obtain ⟨p, f⟩ := R
  simp only at hF ⊢
  cases f
  all_goals
    go_enter Try.func11, Try.ntmps11
    go_wp2_with fail
    refine hF.mono ?_
    rintro e w1 ⟨rfl, hb1⟩
    go_wp2
    go_ret
    exact ⟨rfl, hb1⟩
theorem tb_Get (W : World) (gT gS : Nat) (l : List TS) (m : Nat) (k : ByteArray) (hk : k.size ≤ 1000) (h : Tb W gT gS l m) :
    Calls Try.prog 18 #[.pointer (some ⟨gT, 0, none⟩), .string k] W fun e w' => e = .returned (.tuple #[.int .i64 (if (fnd0 l k).2 then (gt l (fnd0 l k).1).v else 0), .bool (fnd0 l k).2]) ∧ Below W.heap.size W w' := by
  have hF := tb_find W gT gS l m k hk h
  have hp : (fnd0 l k).1 < l.length := fnd_lt l k _ _ (hm_lt (by have := h.n; omega) k)
  generalize fnd0 l k = R at *
  obtain ⟨p, f⟩ := R
  simp only at hF hp ⊢
  cases f
  · simp only [Bool.false_eq_true, if_false]
    go_enter Try.func18, Try.ntmps18
    go_wp2_with fail
    refine hF.mono ?_
    rintro e w1 ⟨rfl, hb1⟩
    go_wp2
    go_ret2
    exact ⟨rfl, hb1⟩
  · simp only [if_true]
    go_enter Try.func18, Try.ntmps18
    go_wp2_with fail
    refine hF.mono ?_
    rintro e w1 ⟨rfl, hb1⟩
    have h1 := h.step hb1
    have c0 := h1.tab.cell 0
    simp at c0
    obtain ⟨e0, e1, e2⟩ := h1.at_ hp
    have hpI : (p : Int) < l.length := by omega
    obtain ⟨v, hv⟩ : ∃ v, (gt l p).v = v := ⟨_, rfl⟩
    rw [hv] at e1
    have HV := hide hv
    clear h1 h hF hv
    go_wp2
    go_ret2
    exact ⟨by rw [HV.out]; rfl, hb1⟩
/-- what putting leaves, and answers -/
def pPut (l : List TS) (m : Nat) (k : ByteArray) (v : Int) : List TS × Nat × Int :=
  if 64 < k.size then (l, m, 5) else if (fnd0 l k).2 = true then (l.set (fnd0 l k).1 ⟨(gt l (fnd0 l k).1).k, v, (gt l (fnd0 l k).1).live⟩, m, 0) else if full l m = true then (l, m, 7) else (l.set (fnd0 l k).1 ⟨k, v, true⟩, m + 1, 0)
set_option maxHeartbeats 4000000 in
theorem tb_Put (W : World) (gT gS : Nat) (l : List TS) (m : Nat) (k : ByteArray) (v : Int) (hk : k.size ≤ 1000) (hm : m ≤ 1000) (h : Tb W gT gS l m) :
    Calls Try.prog 17 #[.pointer (some ⟨gT, 0, none⟩), .string k, .int .i64 v] W fun e w' => e = .returned (.int .i64 (pPut l m k v).2.2) ∧ Tb w' gT gS (pPut l m k v).1 (pPut l m k v).2.1 ∧ FpW [gT, gS] W w' := by
  have HR := hide (show pPut l m k v = if 64 < k.size then (l, m, 5) else if (fnd0 l k).2 = true then (l.set (fnd0 l k).1 ⟨(gt l (fnd0 l k).1).k, v, (gt l (fnd0 l k).1).live⟩, m, 0) else if full l m = true then (l, m, 7) else (l.set (fnd0 l k).1 ⟨k, v, true⟩, m + 1, 0) from rfl)
  generalize pPut l m k v = R at *
  by_cases h64 : 64 < k.size
  · have HS := hide (show R = (l, m, 5) by rw [HR.out, if_pos h64])
    have h64' : (64 : Int) < k.size := by omega
    clear HR
    go_enter Try.func17, Try.ntmps17
    go_wp2
    go_ret
    rw [HS.out]
    exact ⟨rfl, h, FpW.refl _ _⟩
  · have h64' : ¬ (64 : Int) < k.size := by omega
    have h64n : k.size ≤ 64 := by omega
    have hF := tb_find W gT gS l m k hk h
    have hFu := fun W h => tb_Full W gT gS l m h
    have hp : (fnd0 l k).1 < l.length := fnd_lt l k _ _ (hm_lt (by have := h.n; omega) k)
    replace HR := hide (HR.out.trans (if_neg h64))
    generalize fnd0 l k = F at *
    obtain ⟨p, f⟩ := F
    simp only at hF hp HR
    have hpI : (p : Int) < l.length := by omega
    cases f
    · generalize full l m = fu at *
      cases fu
      · have HS := hide (show R = (l.set p ⟨k, v, true⟩, m + 1, 0) by rw [HR.out]; rfl)
        clear HR h64
        go_enter Try.func17, Try.ntmps17
        go_wp2_with fail
        refine hF.mono ?_
        rintro e w1 ⟨rfl, hb1⟩
        have h1 := h.step hb1
        go_wp2_with fail
        refine (hFu _ h1).mono ?_
        rintro e w2 ⟨rfl, hb2⟩
        have h2 := h1.step hb2
        have hbe := hb1.step hb2
        have c0 := h2.tab.cell 0
        have c1 := h2.tab.cell 1
        simp at c0 c1
        obtain ⟨e0, e1, e2⟩ := h2.at_ hp
        have f0 := h2.row.frozen (p * 3)
        have f1 := h2.row.frozen (p * 3 + 1)
        have f2 := h2.row.frozen (p * 3 + 2)
        have fT := h2.tab.frozen 1
        have hne := h.ne
        have h3 := (h2.slot hp ⟨k, v, true⟩ h64n).many (m + 1)
        have f3 : FpW [gT, gS] W ((((w2.setCell ⟨gS, p * 3, none⟩ (.string k)).setCell ⟨gS, p * 3 + 1, none⟩ (.int .i64 v)).setCell ⟨gS, p * 3 + 2, none⟩ (.bool true)).setCell ⟨gT, 1, none⟩ (.int .i64 ((m + 1 : Nat) : Int))) := ((((FpW.of hbe).set_ (by simp) _).set_ (by simp) _).set_ (by simp) _).set_ (by simp) _
        clear h h1 h2 hF hFu
        go_wp2
        go_ret
        rw [HS.out]
        exact ⟨rfl, h3, f3⟩
      · have HS := hide (show R = (l, m, 7) by rw [HR.out]; rfl)
        clear HR h64
        go_enter Try.func17, Try.ntmps17
        go_wp2_with fail
        refine hF.mono ?_
        rintro e w1 ⟨rfl, hb1⟩
        have h1 := h.step hb1
        go_wp2_with fail
        refine (hFu _ h1).mono ?_
        rintro e w2 ⟨rfl, hb2⟩
        have h2 := h1.step hb2
        have hbe := hb1.step hb2
        clear hF hFu
        go_wp2
        go_ret
        rw [HS.out]
        exact ⟨rfl, h2, FpW.of hbe⟩
    · have HS := hide (show R = (l.set p ⟨(gt l p).k, v, (gt l p).live⟩, m, 0) by rw [HR.out]; rfl)
      clear HR h64
      go_enter Try.func17, Try.ntmps17
      go_wp2_with fail
      refine hF.mono ?_
      rintro e w1 ⟨rfl, hb1⟩
      have h1 := h.step hb1
      have c0 := h1.tab.cell 0
      simp at c0
      obtain ⟨e0, e1, e2⟩ := h1.at_ hp
      have f1 := h1.row.frozen (p * 3 + 1)
      have h3 := h1.val hp v
      have f3 : FpW [gT, gS] W (w1.setCell ⟨gS, p * 3 + 1, none⟩ (.int .i64 v)) := (FpW.of hb1).set_ (by simp) _
      clear h h1 hF hFu
      go_wp2
      go_ret
      rw [HS.out]
      exact ⟨rfl, h3, f3⟩
end Go.Proofs.Ytpnhdbejkdoceaa
