/- Package wheel: what lies where (Wh); Len, Now, When, Stop, Set. -/
import Derived.Test.YtbljiohdfjmhfaaWm
namespace Go.Proofs.Ytbljiohdfjmhfaa
open Go.RowKit Go.Sort Go.Maps
set_option linter.unusedSimpArgs false
set_option linter.unusedVariables false

/-- only the blocks of fp, and new ones, have turned -/
structure FpW (fp : List Nat) (a b : World) : Prop where
  os : b.os = a.os
  tape : b.tape = a.tape
  output : b.output = a.output
  size : a.heap.size ≤ b.heap.size
  block : ∀ i, i < a.heap.size → i ∉ fp → b.heap[i]? = a.heap[i]?
theorem FpW.refl (fp : List Nat) (a : World) : FpW fp a a := ⟨rfl, rfl, rfl, Nat.le_refl _, fun _ _ _ => rfl⟩
theorem FpW.trans {fp : List Nat} {a b c : World} (h : FpW fp a b) (k : FpW fp b c) : FpW fp a c :=
  ⟨k.os.trans h.os, k.tape.trans h.tape, k.output.trans h.output, Nat.le_trans h.size k.size, fun i hi hn => (k.block i (Nat.lt_of_lt_of_le hi h.size) hn).trans (h.block i hi hn)⟩
theorem FpW.below {fp : List Nat} {a b c : World} (h : FpW fp a b) (k : Below b.heap.size b c) : FpW fp a c :=
  h.trans ⟨k.os, k.tape, k.output, k.size, fun i hi _ => k.block i hi⟩
theorem FpW.of {fp : List Nat} {a b : World} (k : Below a.heap.size a b) : FpW fp a b := (FpW.refl fp a).below k
theorem FpW.gr {fp : List Nat} {a b c : World} {g : Nat} (h : FpW fp a b) (k : b.grownBy c (some g)) (hg : g ∈ fp) : FpW fp a c :=
  h.trans ⟨k.os, k.tape, k.output, k.size, fun i hi hn => k.block i hi (by intro e; injection e with e; exact hn (e ▸ hg))⟩
theorem FpW.toBelow {fp : List Nat} {a b : World} {B : Nat} (h : FpW fp a b) (hB : B ≤ a.heap.size) (hf : ∀ i ∈ fp, B ≤ i) : Below B a b :=
  ⟨h.os, h.tape, h.output, h.size, fun i hi => h.block i (by omega) (fun hm => by have := hf i hm; omega)⟩
theorem FpW.rd {fp : List Nat} {a b : World} {A : Option Addr} {xs : List Value} (h : FpW fp a b) (hr : Rd a a.heap.size A xs) (hn : ∀ ad, A = some ad → ad.block ∉ fp) : Rd b b.heap.size A xs := fun hx => by
  obtain ⟨ad, e, hb, hc⟩ := hr hx
  refine ⟨ad, e, Nat.lt_of_lt_of_le hb h.size, fun j v hj => ?_⟩
  have h2 := hc j v hj
  unfold World.cell? at h2 ⊢
  rw [add_block, h.block ad.block hb (hn ad e)]
  rwa [add_block] at h2

structure WS where
  n : Nat
  now : Int
  l : IL
def slotL (n i : Nat) (l : IL) : IL := l.filter (fun p => p.2 % (n : Int) == (i : Int))
def whereL (n : Nat) (l : IL) : IL := l.map (fun p => (p.1, p.2 % (n : Int)))
def fpOf (g wm : Nat) (ad : Addr) (rs : List Nat) : List Nat := g :: wm :: ad.block :: rs
structure Wh (W : World) (g wm : Nat) (ad : Addr) (rs : List Nat) (S : WS) : Prop where
  blk : ∃ c, Bk W g 69 [.slice (some ad) S.n c, .map (some wm), .int .i64 S.now]
  len : rs.length = S.n
  row : Rd W W.heap.size (some ad) (rs.map fun r => .map (some r))
  whr : OwM W wm (whereL S.n S.l)
  slt : ∀ i (h : i < rs.length), OwM W rs[i] (slotL S.n i S.l)
  nd : (fpOf g wm ad rs).Nodup
  hn : 1 ≤ S.n ∧ S.n ≤ 32
  hnow : 0 ≤ S.now ∧ S.now ≤ 1099511627776
  ok : ∀ p ∈ S.l, 0 ≤ p.1 ∧ p.1 ≤ 255 ∧ S.now < p.2 ∧ p.2 ≤ 1099511627776

section
variable {W W' : World} {g wm : Nat} {ad : Addr} {rs : List Nat} {S : WS}
theorem Wh.nodup (h : Wh W g wm ad rs S) : (S.l.map (·.1)).Nodup := by
  have := h.whr.nodup
  unfold whereL at this
  rwa [List.map_map] at this
theorem Wh.frame {fp : List Nat} (h : Wh W g wm ad rs S) (hf : FpW fp W W') (hd : ∀ i ∈ fpOf g wm ad rs, i ∉ fp) : Wh W' g wm ad rs S := by
  obtain ⟨⟨c, hc⟩, h1, h2, h3, h4, h5, h6, h7, h8⟩ := h
  refine ⟨⟨c, (hf.block g hc.lt (hd g (by simp [fpOf]))).trans hc⟩, h1, hf.rd h2 (by rintro a e; injection e with e; subst e; exact hd _ (by simp [fpOf])), h3.block (hf.block _ h3.lt (hd _ (by simp [fpOf]))), fun i hi => (h4 i hi).block (hf.block _ (h4 i hi).lt (hd _ (by simp [fpOf]))), h5, h6, h7, h8⟩
theorem Wh.step (h : Wh W g wm ad rs S) (hb : Below W.heap.size W W') : Wh W' g wm ad rs S := h.frame (fp := []) (FpW.of hb) (by simp)
theorem slotL_perm {n i : Nat} {l m : IL} (h : l.Perm m) : (slotL n i l).Perm (slotL n i m) := h.filter _
theorem Wh.perm {l : IL} (h : Wh W g wm ad rs S) (hp : S.l.Perm l) : Wh W g wm ad rs { S with l := l } := by
  obtain ⟨h0, h1, h2, h3, h4, h5, h6, h7, h8⟩ := h
  exact ⟨h0, h1, h2, h3.perm (hp.map _), fun i hi => (h4 i hi).perm (slotL_perm hp), h5, h6, h7, fun p hm => h8 p (hp.mem_iff.2 hm)⟩
theorem Wh.lt (h : Wh W g wm ad rs S) : ∀ i ∈ fpOf g wm ad rs, i < W.heap.size := by
  intro i hi
  obtain ⟨⟨c, hc⟩, h1, h2, h3, h4, h5, h6, h7, h8⟩ := h
  simp only [fpOf, List.mem_cons] at hi
  rcases hi with rfl | rfl | rfl | hi
  · exact hc.lt
  · exact h3.lt
  · obtain ⟨a, e, hb, _⟩ := h2 (by intro e; rw [List.map_eq_nil_iff] at e; subst e; simp at h1; omega)
    injection e with e; subst e; exact hb
  · obtain ⟨j, hj, rfl⟩ := List.getElem_of_mem hi
    exact (h4 j hj).lt
theorem pigeon : ∀ (n : Nat) (l : List Int), l.Nodup → (∀ x ∈ l, 0 ≤ x ∧ x < n) → l.length ≤ n
  | 0, l, _, h => by
    cases l with
    | nil => simp
    | cons a l => have := h a (by simp); omega
  | n + 1, l, hn, h => by
    have h1 := pigeon n (l.filter (fun x => x != (n : Int))) (List.filter_sublist.nodup hn) (fun x hx => by
      obtain ⟨hx, hne⟩ := List.mem_filter.1 hx
      have := h x hx
      simp at hne
      omega)
    have h2 : l.length ≤ (l.filter (fun x => x != (n : Int))).length + 1 := by
      have e : (l.filter (fun x => x == (n : Int))).length ≤ 1 := by
        rw [← List.countP_eq_length_filter]
        exact List.nodup_iff_count.1 hn _
      have := List.length_eq_countP_add_countP (fun x => x == (n : Int)) (l := l)
      rw [List.countP_eq_length_filter, List.countP_eq_length_filter] at this
      have e2 : l.filter (fun x => decide ¬(x == (n : Int)) = true) = l.filter (fun x => x != (n : Int)) := List.filter_congr fun x _ => by simp only [bne]; cases (x == (n : Int)) <;> simp
      rw [e2] at this
      omega
    omega
theorem Wh.few (h : Wh W g wm ad rs S) : S.l.length ≤ 256 := by
  have := pigeon 256 (S.l.map (·.1)) h.nodup (fun x hx => by
    obtain ⟨p, hp, rfl⟩ := List.mem_map.1 hx
    have := h.ok p hp
    omega)
  simpa using this
theorem slotL_few {n i : Nat} {l : IL} : (slotL n i l).length ≤ l.length := List.length_filter_le _ _
theorem dropK_length (k : Int) (l : IL) : (dropK k l).length ≤ l.length := List.length_filter_le _ _

theorem lookK_where (n : Nat) (k : Int) (l : IL) : lookK k (whereL n l) = (lookK k l).map (· % (n : Int)) := by
  induction l with
  | nil => rfl
  | cons p l ih =>
    unfold lookK whereL at *
    rw [List.map_cons, List.find?_cons, List.find?_cons]
    by_cases hp : p.1 = k
    · simp [hp]
    · simp only [beq_eq_false_iff_ne.2 hp]
      exact ih
theorem lookK_slot {n i : Nat} {k v : Int} {l : IL} (hn : (l.map (·.1)).Nodup) (h : lookK k l = some v) (hi : v % (n : Int) = i) : lookK k (slotL n i l) = some v :=
  lookK_mem ((List.filter_sublist.map _).nodup hn) (List.mem_filter.2 ⟨lookK_some h, by simp [hi]⟩)
theorem slotL_drop (n i : Nat) (k : Int) (l : IL) : slotL n i (dropK k l) = dropK k (slotL n i l) := by
  unfold slotL dropK
  rw [List.filter_filter, List.filter_filter]
  exact List.filter_congr fun x _ => by rw [Bool.and_comm]
theorem whereL_drop (n : Nat) (k : Int) (l : IL) : whereL n (dropK k l) = dropK k (whereL n l) := by
  unfold whereL dropK
  rw [List.filter_map]; rfl
theorem dropK_self {k : Int} {l : IL} (h : ∀ p ∈ l, p.1 ≠ k) : dropK k l = l := List.filter_eq_self.2 fun p hp => by simpa using h p hp
theorem dropK_gone (k : Int) (l : IL) : ∀ p ∈ dropK k l, p.1 ≠ k := fun p hp => by simpa using (List.mem_filter.1 hp).2
theorem slot_other {n i j : Nat} {k v : Int} {l : IL} (hn : (l.map (·.1)).Nodup) (h : (k, v) ∈ l) (hi : v % (n : Int) = i) (hj : j ≠ i) : dropK k (slotL n j l) = slotL n j l := by
  refine dropK_self fun p hp e => ?_
  obtain ⟨hp, hs⟩ := List.mem_filter.1 hp
  obtain ⟨a, b⟩ := p
  simp only at e; subst e
  rw [mem_one hn hp h] at hs
  simp [hi] at hs
  omega
theorem rem_pos {a : Int} {n : Nat} (ha : 0 ≤ a) : Int.tmod a n = a % (n : Int) := Int.tmod_eq_emod_of_nonneg ha
theorem mod_nat {a : Int} {n : Nat} (hn : 1 ≤ n) : ∃ i : Nat, a % (n : Int) = i ∧ i < n :=
  ⟨(a % n).toNat, (Int.toNat_of_nonneg (Int.emod_nonneg _ (by omega))).symm, by have := Int.emod_lt_of_pos a (b := (n : Int)) (by omega); have := Int.emod_nonneg a (b := (n : Int)) (by omega); omega⟩
theorem Wh.at_ (h : Wh W g wm ad rs S) {i : Nat} (hi : i < S.n) : ∃ (hr : i < rs.length), W.cell? (ad.add i) = some (.map (some rs[i])) := by
  have hr : i < rs.length := by rw [h.len]; exact hi
  obtain ⟨a, e, _, hc⟩ := h.row (by intro e; rw [List.map_eq_nil_iff] at e; subst e; simp at hr)
  injection e with e; subst e
  exact ⟨hr, hc i _ (by simp [hr])⟩
theorem nd_inj {α : Type} {l : List α} (h : l.Nodup) {i j : Nat} (hi : i < l.length) (hj : j < l.length) (e : l[i] = l[j]) : i = j := by
  have hp := List.pairwise_iff_getElem.1 h
  rcases Nat.lt_trichotomy i j with c | c | c
  · exact absurd e (hp i j hi hj c)
  · exact c
  · exact absurd e.symm (hp j i hj hi c)
/-- the blocks of the maps are not the others -/
theorem nd_parts (h : (fpOf g wm ad rs).Nodup) : g ≠ wm ∧ g ≠ ad.block ∧ g ∉ rs ∧ wm ≠ ad.block ∧ wm ∉ rs ∧ ad.block ∉ rs ∧ rs.Nodup := by
  simp only [fpOf, List.nodup_cons, List.mem_cons, not_or] at h
  obtain ⟨⟨a, b, c⟩, ⟨d, e⟩, f, k⟩ := h
  exact ⟨a, b, c, d, e, f, k⟩

end

theorem wh_Len (W : World) (g wm : Nat) (ad : Addr) (rs : List Nat) (S : WS) (h : Wh W g wm ad rs S) :
    Calls Try.prog 24 #[.pointer (some ⟨g, 0, none⟩)] W fun e w' => e = .returned (.int .i64 S.l.length) ∧ Below W.heap.size W w' := by
  obtain ⟨⟨c, hc⟩, h1, h2, h3, h4, h5, h6, h7, h8⟩ := h
  have c0 := hc.cell 1
  simp at c0
  go_enter Try.func24, Try.ntmps24
  go_wp2_with (first | (at_len; refine wm_len _ rfl _ rfl wm _ rfl h3 ?_) | go_in)
  go_ret
  exact ⟨ret_int (by simp [whereL]), by (repeat (first | with_reducible exact Below.refl _ _ | with_reducible assumption | with_reducible refine Below.drew ?_ | with_reducible refine Below.drewN ?_ _ | with_reducible refine Below.alloc1 ?_ _ | with_reducible refine Below.setCell1 ?_ (by first | omega | (simp; done) | (simp; omega)) _ | with_reducible refine Below.step ?_ (by with_reducible assumption)))⟩
theorem wh_Now (W : World) (g wm : Nat) (ad : Addr) (rs : List Nat) (S : WS) (h : Wh W g wm ad rs S) :
    Calls Try.prog 25 #[.pointer (some ⟨g, 0, none⟩)] W fun e w' => e = .returned (.int .i64 S.now) ∧ Below W.heap.size W w' := by
  obtain ⟨⟨c, hc⟩, h1, h2, h3, h4, h5, h6, h7, h8⟩ := h
  have c0 := hc.cell 2
  simp at c0
  go_enter Try.func25, Try.ntmps25
  go_wp2
  go_ret
  exact ⟨rfl, by (repeat (first | with_reducible exact Below.refl _ _ | with_reducible assumption | with_reducible refine Below.drew ?_ | with_reducible refine Below.drewN ?_ _ | with_reducible refine Below.alloc1 ?_ _ | with_reducible refine Below.setCell1 ?_ (by first | omega | (simp; done) | (simp; omega)) _ | with_reducible refine Below.step ?_ (by with_reducible assumption)))⟩
theorem wh_When (W : World) (g wm : Nat) (ad : Addr) (rs : List Nat) (S : WS) (id : Int) (hid : (Lit.int .i64 id).wf = true) (h : Wh W g wm ad rs S) :
    Calls Try.prog 21 #[.pointer (some ⟨g, 0, none⟩), .int .i64 id] W fun e w' => e = .returned (.tuple #[.int .i64 ((lookK id S.l).getD 0), .bool (lookK id S.l).isSome]) ∧ Below W.heap.size W w' := by
  have hnd := h.nodup
  have hat := fun i hi => h.at_ (i := i) hi
  obtain ⟨⟨c, hc⟩, h1, h2, h3, h4, h5, h6, h7, h8⟩ := h
  have c0 := hc.cell 0
  have c1 := hc.cell 1
  simp at c0 c1
  have hw := lookK_where S.n id S.l
  cases hl : lookK id S.l with
  | none =>
    rw [hl] at hw
    have e1 : (lookK id (whereL S.n S.l)).getD 0 = 0 := by rw [hw]; rfl
    have e2 : (lookK id (whereL S.n S.l)).isSome = false := by rw [hw]; rfl
    clear hw
    go_enter Try.func21, Try.ntmps21
    go_wp2_with (first | (at_lookup; refine wm_ok _ rfl _ _ rfl wm _ rfl h3 id rfl hid ?_; rw [e1, e2]) | go_in)
    go_ret2
    exact ⟨rfl, by (repeat (first | with_reducible exact Below.refl _ _ | with_reducible assumption | with_reducible refine Below.drew ?_ | with_reducible refine Below.drewN ?_ _ | with_reducible refine Below.alloc1 ?_ _ | with_reducible refine Below.setCell1 ?_ (by first | omega | (simp; done) | (simp; omega)) _ | with_reducible refine Below.step ?_ (by with_reducible assumption)))⟩
  | some v =>
    rw [hl] at hw
    have hv := h8 _ (lookK_some hl)
    obtain ⟨i, hi, hin⟩ := mod_nat (a := v) (n := S.n) (by omega)
    have e1 : (lookK id (whereL S.n S.l)).getD 0 = i := by rw [hw]; exact hi
    have e2 : (lookK id (whereL S.n S.l)).isSome = true := by rw [hw]; rfl
    clear hw
    obtain ⟨hr, hcell⟩ := hat i hin
    have e3 : (lookK id (slotL S.n i S.l)).getD 0 = v := by rw [lookK_slot hnd hl hi]; rfl
    have h9 := h4 i hr
    generalize rs[i] = r at *
    go_enter Try.func21, Try.ntmps21
    go_wp2_with (first | (at_lookup; refine wm_ok _ rfl _ _ rfl wm _ rfl h3 id rfl hid ?_; rw [e1, e2]) | (at_lookup; refine wm_look _ rfl _ _ rfl r _ rfl h9 id rfl hid ?_; rw [e3]) | go_in)
    go_ret2
    exact ⟨rfl, by (repeat (first | with_reducible exact Below.refl _ _ | with_reducible assumption | with_reducible refine Below.drew ?_ | with_reducible refine Below.drewN ?_ _ | with_reducible refine Below.alloc1 ?_ _ | with_reducible refine Below.setCell1 ?_ (by first | omega | (simp; done) | (simp; omega)) _ | with_reducible refine Below.step ?_ (by with_reducible assumption)))⟩
theorem wh_Stop (W : World) (g wm : Nat) (ad : Addr) (rs : List Nat) (S : WS) (id : Int) (hid : (Lit.int .i64 id).wf = true) (h : Wh W g wm ad rs S) :
    Calls Try.prog 10 #[.pointer (some ⟨g, 0, none⟩), .int .i64 id] W fun e w' => e = .returned (.bool (lookK id S.l).isSome) ∧ Wh w' g wm ad rs { S with l := dropK id S.l } ∧ FpW (fpOf g wm ad rs) W w' := by
  have hnd := h.nodup
  have hat := fun i hi => h.at_ (i := i) hi
  have hh := h
  obtain ⟨⟨c, hc⟩, h1, h2, h3, h4, h5, h6, h7, h8⟩ := h
  have c0 := hc.cell 0
  have c1 := hc.cell 1
  simp at c0 c1
  have hw := lookK_where S.n id S.l
  cases hl : lookK id S.l with
  | none =>
    rw [hl] at hw
    have e1 : (lookK id (whereL S.n S.l)).getD 0 = 0 := by rw [hw]; rfl
    have e2 : (lookK id (whereL S.n S.l)).isSome = false := by rw [hw]; rfl
    clear hw
    go_enter Try.func10, Try.ntmps10
    go_wp2_with (first | (at_lookup; refine wm_ok _ rfl _ _ rfl wm _ rfl h3 id rfl hid ?_; rw [e1, e2]) | go_in)
    go_ret
    exact ⟨rfl, by rw [dropK_self (lookK_none hl)]; exact hh, FpW.refl _ _⟩
  | some v =>
    rw [hl] at hw
    have hm := lookK_some hl
    have hv := h8 _ hm
    obtain ⟨i, hi, hin⟩ := mod_nat (a := v) (n := S.n) (by omega)
    have e1 : (lookK id (whereL S.n S.l)).getD 0 = i := by rw [hw]; exact hi
    have e2 : (lookK id (whereL S.n S.l)).isSome = true := by rw [hw]; rfl
    clear hw
    obtain ⟨hr, hcell⟩ := hat i hin
    have h9 := h4 i hr
    obtain ⟨n1, n2, n3, n4, n5, n6, n7⟩ := nd_parts h5
    have hrm : rs[i] ∈ rs := List.getElem_mem hr
    have m1 : g ≠ rs[i] := fun e => n3 (e ▸ hrm)
    have m2 : wm ≠ rs[i] := fun e => n5 (e ▸ hrm)
    have hri : ∀ j (hj : j < rs.length), rs[j] = rs[i] → j = i := fun j hj e => nd_inj n7 hj hr e
    generalize hre : rs[i] = r at *
    go_enter Try.func10, Try.ntmps10
    go_wp2_with (first
      | (at_lookup; refine wm_ok _ rfl _ _ rfl wm _ rfl h3 id rfl hid ?_; rw [e1, e2])
      | (at_delete; refine wm_del _ rfl _ _ rfl r _ rfl h9 id rfl hid ?_; intro w1 o1 g1 s1; have k1 := hc.gr g1 m1; have c1' := k1.cell 1; simp at c1'; have o3 := h3.kept g1 (by intro e; injection e with e; exact m2 e))
      | (at_delete; refine wm_del _ rfl _ _ rfl wm _ rfl o3 id rfl hid ?_; intro w2 o2 g2 s2)
      | go_in)
    go_ret
    have f1 : FpW (fpOf g wm ad rs) W w1 := (FpW.refl _ W).gr g1 (by simp [fpOf, hrm])
    have f2 : FpW (fpOf g wm ad rs) W w2 := f1.gr g2 (by simp [fpOf])
    have b2 : ∀ j, j < W.heap.size → j ≠ r → j ≠ wm → w2.heap[j]? = W.heap[j]? := fun j hj a b =>
      (g2.block j (by omega) (by intro e; injection e with e; exact b e)).trans (g1.block j hj (by intro e; injection e with e; exact a e))
    refine ⟨rfl, ⟨⟨c, (b2 g hc.lt m1 n1).trans hc⟩, h1, ?_, by rw [whereL_drop]; exact o2, fun j hj => ?_, h5, h6, h7, fun p hp => h8 p (List.mem_filter.1 hp).1⟩, f2⟩
    · exact (FpW.rd (fp := [r, wm]) ⟨f2.os, f2.tape, f2.output, f2.size, fun j hj hn => b2 j hj (by intro e; exact hn (by simp [e])) (by intro e; exact hn (by simp [e]))⟩ h2 (by
        rintro a e; injection e with e; subst e
        simp only [List.mem_cons, List.not_mem_nil, or_false, not_or]
        exact ⟨fun e => n6 (e ▸ hrm), fun e => n4 e.symm⟩))
    · by_cases hji : j = i
      · subst hji
        rw [hre, slotL_drop]
        exact o1.kept g2 (by intro e; injection e with e; exact m2 e.symm)
      · have a1 : rs[j] ≠ r := fun e => hji (hri j hj e)
        have a2 : rs[j] ≠ wm := fun e => n5 (e ▸ List.getElem_mem hj)
        rw [slotL_drop, slot_other hnd hm hi hji]
        exact (h4 j hj).block (b2 _ (h4 j hj).lt a1 a2)
end Go.Proofs.Ytbljiohdfjmhfaa
