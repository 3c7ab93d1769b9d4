/- The walk of PoolOnce. -/
import Derived.Test.YtnmpighdkdffbaaAwake03
import Derived.Test.YtnmpighdkdffbaaPoolR
import Derived.Test.YtnmpighdkdffbaaRel4
import Derived.Deep.DeepCutAuto
namespace Go.Proofs.Ytnmpighdkdffbaa
open Go.RowKit Go.Sort
set_option linter.unusedSimpArgs false
set_option linter.unusedVariables false

theorem apart_grown {w w' : World} {base base' H g : Nat} {t : TypeId} {size n : Nat} {v u : Value} {xs : List Value} {A : Option Addr} {c m : Nat} (hu : w.ownsRow base t size u n xs) (hd : ∀ j, v.ownBlock = some j → u.ownBlock ≠ some j) (hH : w.heap.size = H) (hg : v.ownBlock = some g ∨ g = H) :
    ∀ j, (Value.slice (some ⟨g, 0, none⟩) m c).ownBlock = some j → u.ownBlock ≠ some j := by
  intro j hj hk
  simp only [Value.ownBlock, Option.some.injEq] at hj
  subst hj
  rcases hg with hg | hg
  · exact hd _ hg hk
  · have := (hu.lt _ hk).2; omega
theorem apart_new {w : World} {base : Nat} {t : TypeId} {size n n' : Nat} {v u : Value} {xs ys : List Value} {w' : World} {base' : Nat} (hu : w.ownsRow base t size u n xs) (hv : w'.ownsRow base' t size v n' ys) (hb : w.heap.size ≤ base') : ∀ j, v.ownBlock = some j → u.ownBlock ≠ some j := by
  intro j hj hk
  have h1 := (hu.lt _ hk).2
  have h2 := (hv.lt _ hj).1
  omega
theorem apart_symm {v u : Value} (h : ∀ j, v.ownBlock = some j → u.ownBlock ≠ some j) : ∀ j, u.ownBlock = some j → v.ownBlock ≠ some j := fun j hj hk => h j hk hj
theorem ints_snoc (l : List Int) (x : Int) : ints (l ++ [x]) = ints l ++ [.int .i64 x] := by simp [ints]
theorem ints_append (l m : List Int) : ints (l ++ m) = ints l ++ ints m := by simp [ints]
theorem ints_take (l : List Int) (k : Nat) : ints (l.take k) = (ints l).take k := by simp [ints, List.map_take]
theorem ints_drop (l : List Int) (k : Nat) : ints (l.drop k) = (ints l).drop k := by simp [ints, List.map_drop]

theorem pool_Check_st (V : Value) (l : List Cl) (f : List Int) (w : World) (hl : l.length ≤ 1000) (hf : f.length ≤ 1000) (hV : StAt w V l f) (h0 : pCheck l f = 0) :
    Calls Try.prog 22 #[V] w fun e w' => e = .returned (.int .i64 0) ∧ Below w.heap.size w w' := by
  obtain ⟨A, c, B, d, rfl, hd, ha, hb⟩ := hV
  exact (pool_Check_any A B c d l f w hl hf hd ha hb).lit (by rw [h0])
theorem Rd.kept_fr {w w' : World} {lo B : Nat} {A : Option Addr} {xs : List Value} {v : Value} (h : Rd w B A xs) (hf : Fr lo A) (hB : B ≤ w.heap.size) (hg : w.grownBy w' v.ownBlock) (hv : ∀ j, v.ownBlock = some j → j < lo) : Rd w' B A xs := fun hn => by
  obtain ⟨ad, e, hb, hc⟩ := h hn
  have h1 := hf ad e
  refine ⟨ad, e, hb, fun j u hu => ?_⟩
  have hbk : w'.heap[(ad.add j).block]? = w.heap[(ad.add j).block]? := by rw [add_block]; exact hg.block ad.block (by omega) (fun e2 => by have := hv _ e2.symm; omega)
  rw [World.cell?_of_block hbk]
  exact hc j u hu
theorem StFr.kept {lo : Nat} {w w' : World} {V : Value} {l : List Cl} {f : List Int} {v : Value} (h : StFr lo w V l f) (hg : w.grownBy w' v.ownBlock) (hv : ∀ j, v.ownBlock = some j → j < lo) : StFr lo w' V l f := by
  obtain ⟨A, c, B, d, e, hd, ha, hb, fa, fb⟩ := h
  exact ⟨A, c, B, d, e, hd, (ha.kept_fr fa (Nat.le_refl _) hg hv).more hg.size, (hb.kept_fr fb (Nat.le_refl _) hg hv).more hg.size, fa, fb⟩
theorem own_kept {w w' : World} {base : Nat} {e : TypeId} {size : Nat} {v u : Value} {n : Nat} {xs : List Value} (h : w.ownsRow base e size v n xs) (hg : w.grownBy w' u.ownBlock) (hne : ∀ j, u.ownBlock = some j → v.ownBlock ≠ some j) : w'.ownsRow base e size v n xs := by
  refine ⟨h.1, ?_⟩
  rcases h.2 with h2 | ⟨g, cap, cur, rfl, hb, hh, r⟩
  · exact .inl h2
  · refine .inr ⟨g, cap, cur, rfl, hb, ?_, r⟩
    rw [hg.block g (Array.getElem?_eq_some_iff.1 hh).1 (fun e => hne g e.symm rfl)]
    exact hh
theorem rd_hnews {w : World} {B : Nat} {ad : Addr} {xs : List Value} (h : Rd w B (some ad) xs) : ∀ j u, xs[j]? = some u → w.cell? (ad.add j) = some u := by
  intro j u hu
  obtain ⟨ad', e, _, hc⟩ := h (by rintro h0; rw [h0] at hu; simp at hu)
  injection e with e; subst e
  exact hc j u hu
theorem own_nil {w : World} {base : Nat} {e : TypeId} {size : Nat} : w.ownsRow base e size (.slice none 0 0) 0 [] := ⟨by simp, .inl ⟨rfl, rfl⟩⟩

set_option maxRecDepth 100000 in
set_option maxHeartbeats 16000000 in
theorem PoolOnce_walk (a : Int) (ha : 0 ≤ a ∧ a ≤ 255) (Aa : Option Addr) (ca : Nat) (acts : List Int) (hal : acts.length ≤ maxLen) (hab : ∀ x ∈ acts, 0 ≤ x ∧ x ≤ 255) (w : World) (hA : Rd w w.heap.size Aa (acts.map (Value.int .u8))) :
    Calls Try.prog 5 #[.int .u8 a, .slice Aa acts.length ca] w fun e w' => e = .returned (.bool true) ∧ Below w.heap.size w w' := by
  unfold maxLen at hal
  by_cases h150 : acts.length ≤ 150
  · obtain ⟨m0, hm⟩ : ∃ m0 : Nat, a % 64 = m0 := ⟨(a % 64).toNat, by omega⟩
    have hm64 : m0 < 64 := by omega
    have g150 : (acts.length : Int) ≤ 150 := by omega
    obtain ⟨iT, hi, hz0, hz1, hz2⟩ := info_parts pint_info
    have HAB := hide hab
    have hNew := fun W => pool_New_yes (m0 + 1) W (by omega) (by omega)
    rw [show ((m0 + 1 : Nat) : Int) = 1 + m0 by omega] at hNew
    have HO := hide (Once.new (m0 + 1) (by omega) (by omega))
    generalize newL (m0 + 1) = l0 at *
    generalize downs (m0 + 1) (m0 + 1) = f0 at *
    clear hab
    go_enter Try.func5, Try.ntmps5
    go_wp2_with fail
    refine (hNew _).mono ?_; rintro e x0 ⟨V0, rfl, s0, hx0⟩
    clear hNew
    obtain ⟨A, c, B, d, rfl, r0⟩ := s0
    replace r0 : StAt x0 (stV A l0.length c B f0.length d) l0 f0 := ⟨A, c, B, d, rfl, r0.1, r0.2.1, r0.2.2.1⟩
    go_upto_region 7 with fail
    generalize hV : World.alloc x0 _ = w1
    have hy : Below x0.heap.size x0 w1 := by subst hV; (repeat (first | with_reducible exact Below.refl _ _ | with_reducible assumption | with_reducible refine Below.drew ?_ | with_reducible refine Below.drewN ?_ _ | with_reducible refine Below.alloc1 ?_ _ | with_reducible refine Below.setCell1 ?_ (by first | omega | (simp; done) | (simp; omega)) _ | with_reducible refine Below.step ?_ (by with_reducible assumption)))
    have k0 : Bk w1 x0.heap.size 30 (stC A l0.length c B f0.length d) := by subst hV; (repeat (first | with_reducible exact Bk.new' _ _ _ _ (by simp; done) | with_reducible assumption | with_reducible refine Bk.alloc ?_ _ | with_reducible refine Bk.drew ?_ | with_reducible refine Bk.drewN ?_ _ | with_reducible refine Bk.step ?_ (by with_reducible assumption) | with_reducible refine Bk.far ?_ (by first | omega | (simp; done) | (simp; omega)) _))
    replace r0 := r0.step hy
    have hb1 : Below w.heap.size w w1 := hx0.then_ hy hx0.size
    have hS : w.heap.size ≤ x0.heap.size := hx0.size
    clear hV hy hx0
    generalize x0.heap.size = S at *
    go_wp2_with fail
    go_loopw [8, 9, 10, 11] (fun vL vA vH i wr => ∃ (k : Nat) (l : List Cl) (f hs vs al : List Int) (qs : List Nat) (A : Option Addr) (c : Nat) (B : Option Addr) (d : Nat) (A1 : Option Addr) (c1 : Nat) (A2 : Option Addr) (c2 : Nat) (A3 : Option Addr) (c3 : Nat),
      k ≤ acts.length ∧ i = .int .i64 k ∧ vL = .slice A1 hs.length c1 ∧ vA = .slice A2 al.length c2 ∧ vH = .slice A3 vs.length c3 ∧ Hid (Once (m0 + 1) k l f hs vs al qs) ∧ al.length ≤ k ∧
      wr.ownsRow (S + 1) 3 1 (.slice A1 hs.length c1) hs.length (ints hs) ∧ wr.ownsRow (S + 1) 3 1 (.slice A2 al.length c2) al.length (ints al) ∧ wr.ownsRow (S + 1) 3 1 (.slice A3 vs.length c3) vs.length (ints vs) ∧
      (∀ j, (Value.slice A1 hs.length c1).ownBlock = some j → (Value.slice A2 al.length c2).ownBlock ≠ some j) ∧ (∀ j, (Value.slice A1 hs.length c1).ownBlock = some j → (Value.slice A3 vs.length c3).ownBlock ≠ some j) ∧ (∀ j, (Value.slice A2 al.length c2).ownBlock = some j → (Value.slice A3 vs.length c3).ownBlock ≠ some j) ∧
      Bk wr S 30 (stC A l.length c B f.length d) ∧ StAt wr (stV A l.length c B f.length d) l f ∧ Below w.heap.size w wr) (fun _ _ _ i _ => acts.length - (intOf i).toNat)
    case atStart => exact ⟨0, l0, f0, [], [], [], [], A, c, B, d, none, 0, none, 0, none, 0, Nat.zero_le _, rfl, rfl, rfl, rfl, HO, Nat.zero_le _, own_nil, own_nil, own_nil, (fun j h => by cases h), (fun j h => by cases h), (fun j h => by cases h), k0, r0, hb1⟩
    case round =>
      clear k0 r0 HO hb1
      obtain ⟨k, l, f, hs, vs, al, qs, A', c', B', d', A1, c1, A2, c2, A3, c3, hk, rfl, rfl, rfl, rfl, HO, hak, oL, oA, oV, d12, d13, d23, j0, r1, hbr⟩ := hrel
      have hl64 := HO.out.ok.n
      have hl1000 : l.length ≤ 1000 := by omega
      have hf1000 : f.length ≤ 900 := by have := HO.out.ok.count; have h2 : l.countP pSpare ≤ l.length := List.countP_le_length; omega
      have hroom := HO.out.room (by omega)
      have hlens := HO.out.hlen
      have hvh : vs.length = hs.length := by omega
      have hhs : hs.length ≤ 64 := by have := HO.out.len; omega
      have hvs : vs.length ≤ 64 := by omega
      have HVH := hide hvh
      have HRM := hide hroom
      clear hvh hlens hroom hl64
      have j0_0 := j0.cell 0; have j0_f0 := j0.frozen 0; have j0_1 := j0.cell 1; have j0_f1 := j0.frozen 1; simp only [List.set_cons_zero, List.set_cons_succ, List.getElem?_cons_zero, List.getElem?_cons_succ] at j0_0 j0_1; have lt_j0 := j0.lt
      by_cases hlt : k < acts.length
      · obtain ⟨ad, rfl, hadb, hca⟩ := (hA.below hbr).at_ (k := k) (by simpa using hlt)
        have hc1 : wr.cell? (ad.add k) = some (.int .u8 acts[k]) := by rw [hca]; simp
        have hz := HAB.out _ (List.getElem_mem hlt)
        clear hca
        generalize acts[k] = z at *
        by_cases h6 : z % 10 < 6
        · by_cases hf0 : f = []
          · as_aux_lemma =>
            subst hf0
            have hT := fun (W : World) (s : StAt W (stV A' l.length c' B' 0 d') l []) => pool_Take_any _ l [] k W hl1000 (by simp) s
            simp only [pTake_full HO.out.ok] at hT
            have hn : (1 : Int) + m0 ≤ hs.length := by have := HRM.out; simp only [List.length_nil] at this; omega
            have HN := hide HO.out.keep
            clear HO
            go_wp2_with fail
            refine (hT _ r1).mono ?_; rintro e x1 ⟨V1, rfl, s1, hx1⟩
            clear hT
            obtain ⟨A7, c7, B7, d7, rfl, s1⟩ := s1
            replace s1 : StFr wr.heap.size x1 (stV A7 l.length c7 B7 0 d7) l [] := ⟨A7, c7, B7, d7, rfl, s1⟩
            have hSw := j0.lt
            have hbs : Below w.heap.size w x1 := hbr.step hx1
            replace j0 := j0.step hx1; (try clear j0_0 j0_f0 j0_1 j0_f1); have j0_0 := j0.cell 0; have j0_f0 := j0.frozen 0; have j0_1 := j0.cell 1; have j0_f1 := j0.frozen 1; simp only [List.set_cons_zero, List.set_cons_succ, List.getElem?_cons_zero, List.getElem?_cons_succ] at j0_0 j0_1; (try clear lt_j0); have lt_j0 := j0.lt
            replace oL := own_below oL hx1 (Nat.le_refl _); replace oA := own_below oA hx1 (Nat.le_refl _); replace oV := own_below oV hx1 (Nat.le_refl _)
            clear hx1 r1 hbr
            go_upto_region 13 with fail
            generalize hV : World.alloc x1 _ = w2
            have hy : Below x1.heap.size x1 w2 := by subst hV; (repeat (first | with_reducible exact Below.refl _ _ | with_reducible assumption | with_reducible refine Below.drew ?_ | with_reducible refine Below.drewN ?_ _ | with_reducible refine Below.alloc1 ?_ _ | with_reducible refine Below.setCell1 ?_ (by first | omega | (simp; done) | (simp; omega)) _ | with_reducible refine Below.step ?_ (by with_reducible assumption)))
            have kX : Bk w2 x1.heap.size 30 (stC A7 l.length c7 B7 0 d7) := by subst hV; (repeat (first | with_reducible exact Bk.new' _ _ _ _ (by simp; done) | with_reducible assumption | with_reducible refine Bk.alloc ?_ _ | with_reducible refine Bk.drew ?_ | with_reducible refine Bk.drewN ?_ _ | with_reducible refine Bk.step ?_ (by with_reducible assumption) | with_reducible refine Bk.far ?_ (by first | omega | (simp; done) | (simp; omega)) _))
            clear hV
            replace j0 := j0.step hy; (try clear j0_0 j0_f0 j0_1 j0_f1); have j0_0 := j0.cell 0; have j0_f0 := j0.frozen 0; have j0_1 := j0.cell 1; have j0_f1 := j0.frozen 1; simp only [List.set_cons_zero, List.set_cons_succ, List.getElem?_cons_zero, List.getElem?_cons_succ] at j0_0 j0_1; (try clear lt_j0); have lt_j0 := j0.lt
            replace hbs : Below w.heap.size w w2 := hbs.step hy
            replace s1 := s1.step hy
            replace oL := own_below oL hy (Nat.le_refl _); replace oA := own_below oA hy (Nat.le_refl _); replace oV := own_below oV hy (Nat.le_refl _)
            have kX_0 := kX.cell 0; have kX_f0 := kX.frozen 0; have kX_1 := kX.cell 1; have kX_f1 := kX.frozen 1; simp only [List.set_cons_zero, List.set_cons_succ, List.getElem?_cons_zero, List.getElem?_cons_succ] at kX_0 kX_1; have lt_kX := kX.lt
            clear hy
            go_upto_region 33 with fail
            (try clear j0_0 j0_f0 j0_1 j0_f1 lt_j0) ; (try clear kX_0 kX_f0 kX_1 kX_f1 lt_kX)
            generalize hV : World.setCell (World.setCell w2 _ _) _ _ = w3
            have hb6 : Below w.heap.size w w3 := by subst hV; exact (hbs.setCell (by dsimp only; omega) _).setCell (by dsimp only; omega) _
            have j6 : Bk w3 S 30 (stC A7 l.length c7 B7 0 d7) := by subst hV; exact (j0.set_ 0 _).set_ 1 _
            have s6 : StAt w3 (stV A7 l.length c7 B7 0 d7) l [] := by subst hV; exact ((s1.set1 (p := ⟨S, 0, none⟩) hSw _).set1 (p := ⟨S, 1, none⟩) hSw _).at_
            have p1 : w3.ownsRow (S + 1) 3 1 (.slice A1 hs.length c1) hs.length (ints hs) := by subst hV; refine own_far (own_far oL ?_ _) ?_ _ <;> (dsimp only; omega)
            have p2 : w3.ownsRow (S + 1) 3 1 (.slice A2 al.length c2) al.length (ints al) := by subst hV; refine own_far (own_far oA ?_ _) ?_ _ <;> (dsimp only; omega)
            have p3 : w3.ownsRow (S + 1) 3 1 (.slice A3 vs.length c3) vs.length (ints vs) := by subst hV; refine own_far (own_far oV ?_ _) ?_ _ <;> (dsimp only; omega)
            have HO6 := HN
            have hal6 : al.length ≤ k + 1 := by omega
            have e12 := d12
            have e13 := d13
            have e23 := d23
            clear hV HN oL oA oV j0 kX s1 hbs d12 d13 d23
            have hlc : l.length ≤ 1000 := by have := HO6.out.ok.n; omega
            have hfc : ([] : List Int).length ≤ 1000 := by simp
            have hchk := HO6.out.ok.chk
            have hus : ((pHandles l ([] : List Int)).length : Int) = ((hs.length : Nat) : Int) := by rw [HO6.out.used, ← (rfl : hs.length = hs.length)]
            have hLn : ((l.length : Int) != 1 + (m0 : Int)) = false := by rw [bne_eq_false_iff_eq]; have := HO6.out.len; omega
            have hvn : vs.length = hs.length := by have := HO6.out.hlen; have e1 := (rfl : hs.length = hs.length); have e2 := (rfl : vs.length = vs.length); omega
            have hC := fun (W : World) s => pool_Check_st (stV A7 l.length c7 B7 ([] : List Int).length d7) l ([] : List Int) W hlc hfc s hchk
            have hU := fun (W : World) s => (pool_Used_any (stV A7 l.length c7 B7 ([] : List Int).length d7) l ([] : List Int) W hlc hfc s).lit (v' := .int .i64 ((hs.length : Nat) : Int)) (by rw [hus])
            have HUS := hide hus
            have HVN := hide hvn
            clear hus hvn hchk
            have j6_0 := j6.cell 0; have j6_f0 := j6.frozen 0; have j6_1 := j6.cell 1; have j6_f1 := j6.frozen 1; simp only [List.set_cons_zero, List.set_cons_succ, List.getElem?_cons_zero, List.getElem?_cons_succ] at j6_0 j6_1; have lt_j6 := j6.lt
            go_wp2_with fail
            refine (hC _ s6).mono ?_; rintro e v1 ⟨rfl, hv1⟩
            replace j6 := j6.step hv1; (try clear j6_0 j6_f0 j6_1 j6_f1); have j6_0 := j6.cell 0; have j6_f0 := j6.frozen 0; have j6_1 := j6.cell 1; have j6_f1 := j6.frozen 1; simp only [List.set_cons_zero, List.set_cons_succ, List.getElem?_cons_zero, List.getElem?_cons_succ] at j6_0 j6_1; (try clear lt_j6); have lt_j6 := j6.lt
            replace s6 := s6.step hv1; replace p1 := own_below p1 hv1 (Nat.le_refl _); replace p2 := own_below p2 hv1 (Nat.le_refl _); replace p3 := own_below p3 hv1 (Nat.le_refl _)
            replace hb6 : Below w.heap.size w v1 := hb6.step hv1
            clear hv1 hC
            go_wp2_with fail
            refine (hU _ s6).mono ?_; rintro e v2 ⟨rfl, hv2⟩
            replace j6 := j6.step hv2; (try clear j6_0 j6_f0 j6_1 j6_f1); have j6_0 := j6.cell 0; have j6_f0 := j6.frozen 0; have j6_1 := j6.cell 1; have j6_f1 := j6.frozen 1; simp only [List.set_cons_zero, List.set_cons_succ, List.getElem?_cons_zero, List.getElem?_cons_succ] at j6_0 j6_1; (try clear lt_j6); have lt_j6 := j6.lt
            replace s6 := s6.step hv2; replace p1 := own_below p1 hv2 (Nat.le_refl _); replace p2 := own_below p2 hv2 (Nat.le_refl _); replace p3 := own_below p3 hv2 (Nat.le_refl _)
            replace hb6 : Below w.heap.size w v2 := hb6.step hv2
            clear hv2 hU
            go_wp2_with fail
            (try clear j6_0 j6_f0 j6_1 j6_f1 lt_j6)
            go_loopw [22] (fun i wr => ∃ j : Nat, j ≤ hs.length ∧ i = .int .i64 j ∧ wr.ownsRow (S + 1) 3 1 (.slice A1 (hs.length) c1) (hs.length) (ints (hs)) ∧ wr.ownsRow (S + 1) 3 1 (.slice A2 (al.length) c2) (al.length) (ints (al)) ∧ wr.ownsRow (S + 1) 3 1 (.slice A3 (vs.length) c3) (vs.length) (ints (vs)) ∧ Bk wr S 30 (stC A7 l.length c7 B7 ([] : List Int).length d7) ∧ StAt wr (stV A7 l.length c7 B7 ([] : List Int).length d7) l ([] : List Int) ∧ Below w.heap.size w wr) (fun i _ => hs.length - (intOf i).toNat)
            case atStart => exact ⟨0, Nat.zero_le _, rfl, p1, p2, p3, j6, s6, hb6⟩
            case round =>
              clear p1 p2 p3 j6 s6 hb6
              obtain ⟨j, hj, rfl, p1, p2, p3, j6, s6, hb6⟩ := hrel
              have j6_0 := j6.cell 0; have j6_f0 := j6.frozen 0; have j6_1 := j6.cell 1; have j6_f1 := j6.frozen 1; simp only [List.set_cons_zero, List.set_cons_succ, List.getElem?_cons_zero, List.getElem?_cons_succ] at j6_0 j6_1; have lt_j6 := j6.lt
              by_cases hjl : j < hs.length
              · obtain ⟨G1, pad1, e1, _, hG1c, b1⟩ := own_bk p1 (by omega)
                obtain ⟨G3, pad3, e3, _, hG3c, b3⟩ := own_bk p3 (by have := HVN.out; omega)
                have hjH : j < (hs).length := by have := (rfl : hs.length = hs.length); omega
                obtain ⟨vv, hvv, hget⟩ := HO6.out.get hjH
                have x1 : wr.cell? ⟨G1, j, none⟩ = some (.int .i64 (hs)[j]) := by rw [b1.cell, List.getElem?_append_left (by simp only [List.length_map]; exact hjH), List.getElem?_map, List.getElem?_eq_getElem hjH]; rfl
                have x3 : wr.cell? ⟨G3, j, none⟩ = some (.int .i64 vv) := by
                  have hjV : j < (vs).length := (List.getElem?_eq_some_iff.1 hvv).1
                  rw [b3.cell, List.getElem?_append_left (by simp only [List.length_map]; exact hjV), List.getElem?_map, hvv]; rfl
                have hG := fun (W : World) s => pool_Get_any (stV A7 l.length c7 B7 ([] : List Int).length d7) l ([] : List Int) (hs)[j] W hlc hfc (HO6.out.bound hjH) s
                rw [hget] at hG
                clear hget hvv
                generalize (hs)[j] = hh at *
                have y1 := b1.lt
                have y3 := b3.lt
                have i1 : (j : Int) < ((hs.length : Nat) : Int) := by omega
                have i3 : (j : Int) < ((vs.length : Nat) : Int) := by have := HVN.out; omega
                subst e1 e3
                go_upto_region 38 with fail
                (refine wp_region_qb (by kernel_rfl) (by kernel_rfl) (fun kq => ?_); (try dsimp only [List.append]); (repeat (go_big_quiet_step (((go_at_call 18; exact (hG _ (s6.step (below_regrown _ _ _))).qb))))); refine wpQuiet_nil ?_; intro wq hwq; have hbq := below_of_class hwq; clear hwq kq)
                replace j6 := j6.step hbq; (try clear j6_0 j6_f0 j6_1 j6_f1); have j6_0 := j6.cell 0; have j6_f0 := j6.frozen 0; have j6_1 := j6.cell 1; have j6_f1 := j6.frozen 1; simp only [List.set_cons_zero, List.set_cons_succ, List.getElem?_cons_zero, List.getElem?_cons_succ] at j6_0 j6_1; (try clear lt_j6); have lt_j6 := j6.lt
                replace s6 := s6.step hbq; replace p1 := own_below p1 hbq (Nat.le_refl _); replace p2 := own_below p2 hbq (Nat.le_refl _); replace p3 := own_below p3 hbq (Nat.le_refl _)
                replace hb6 : Below w.heap.size w wq := hb6.step hbq
                replace b3 := b3.step hbq
                have x3' : wq.cell? ⟨G3, j, none⟩ = some (.int .i64 vv) := (hbq.cell (p := ⟨G3, j, none⟩) y3).trans x3
                clear hbq x1 x3 hG
                go_wp2
                go_roundw
                case rel => exact ⟨j + 1, by omega, by go_num, p1, p2, p3, j6, s6, hb6⟩
                case measure => simp [intOf]; omega
              · go_wp2
                go_roundw
                case rel => exact ⟨k + 1, l, ([] : List Int), hs, vs, al, qs, A7, c7, B7, d7, A1, c1, A2, c2, A3, c3, by omega, by go_num, by rw [(rfl : hs.length = hs.length)], by rw [(rfl : al.length = al.length)], by rw [(rfl : vs.length = vs.length)], HO6, hal6, by rw [← (rfl : hs.length = hs.length)]; exact p1, by rw [← (rfl : al.length = al.length)]; exact p2, by rw [← (rfl : vs.length = vs.length)]; exact p3, by rw [← (rfl : hs.length = hs.length), ← (rfl : al.length = al.length)]; exact e12, by rw [← (rfl : hs.length = hs.length), ← (rfl : vs.length = vs.length)]; exact e13, by rw [← (rfl : al.length = al.length), ← (rfl : vs.length = vs.length)]; exact e23, j6, s6, hb6⟩
                case measure => simp [intOf]; omega
          · as_aux_lemma =>
            obtain ⟨f1, q, rfl⟩ := last_of' HO.out.ok hf0
            obtain ⟨hq, hne, e1, O'⟩ := HO.out.take (k : Int)
            have hn : (hs.length : Int) < 1 + m0 := by have := HRM.out; simp only [List.length_append, List.length_singleton] at this; omega
            have hf11 : f1.length ≤ 1000 := by simp only [List.length_append] at hf1000; omega
            have hT := fun (W : World) (s : StAt W (stV A' l.length c' B' (f1 ++ [(q : Int)]).length d') l (f1 ++ [(q : Int)])) => pool_Take_any _ l (f1 ++ [(q : Int)]) k W hl1000 (by omega) s
            simp only [e1] at hT
            have hlenq : (f1 ++ [(q : Int)]).length = f1.length + 1 := by simp
            simp only [hlenq] at hT
            rw [hlenq] at r1 j0
            (try clear j0_0 j0_f0 j0_1 j0_f1 lt_j0)
            have j0_0 := j0.cell 0; have j0_f0 := j0.frozen 0; have j0_1 := j0.cell 1; have j0_f1 := j0.frozen 1; simp only [List.set_cons_zero, List.set_cons_succ, List.getElem?_cons_zero, List.getElem?_cons_succ] at j0_0 j0_1; have lt_j0 := j0.lt
            clear e1 hf0 HO hlenq
            have HN := hide O'
            have HNE := hide hne
            clear O' hne
            generalize l.set q _ = L at *
            generalize l[q].gen * 64 + (q : Int) = h at *
            have bL := fun j hj => (oL.lt j hj).2
            have bA := fun j hj => (oA.lt j hj).2
            have bV := fun j hj => (oV.lt j hj).2
            go_wp2_with fail
            refine (hT _ r1).mono ?_; rintro e x1 ⟨V1, rfl, s1, hx1⟩
            clear hT
            obtain ⟨A7, c7, B7, d7, rfl, s1⟩ := s1
            replace s1 : StFr wr.heap.size x1 (stV A7 L.length c7 B7 f1.length d7) L f1 := ⟨A7, c7, B7, d7, rfl, s1⟩
            have hSw := j0.lt
            have hbs : Below w.heap.size w x1 := hbr.step hx1
            replace j0 := j0.step hx1; (try clear j0_0 j0_f0 j0_1 j0_f1); have j0_0 := j0.cell 0; have j0_f0 := j0.frozen 0; have j0_1 := j0.cell 1; have j0_f1 := j0.frozen 1; simp only [List.set_cons_zero, List.set_cons_succ, List.getElem?_cons_zero, List.getElem?_cons_succ] at j0_0 j0_1; (try clear lt_j0); have lt_j0 := j0.lt
            replace oL := own_below oL hx1 (Nat.le_refl _); replace oA := own_below oA hx1 (Nat.le_refl _); replace oV := own_below oV hx1 (Nat.le_refl _)
            clear hx1 r1 hbr
            go_upto_region 13 with fail
            generalize hV : World.alloc x1 _ = w2
            have hy : Below x1.heap.size x1 w2 := by subst hV; (repeat (first | with_reducible exact Below.refl _ _ | with_reducible assumption | with_reducible refine Below.drew ?_ | with_reducible refine Below.drewN ?_ _ | with_reducible refine Below.alloc1 ?_ _ | with_reducible refine Below.setCell1 ?_ (by first | omega | (simp; done) | (simp; omega)) _ | with_reducible refine Below.step ?_ (by with_reducible assumption)))
            have kX : Bk w2 x1.heap.size 30 (stC A7 L.length c7 B7 f1.length d7) := by subst hV; (repeat (first | with_reducible exact Bk.new' _ _ _ _ (by simp; done) | with_reducible assumption | with_reducible refine Bk.alloc ?_ _ | with_reducible refine Bk.drew ?_ | with_reducible refine Bk.drewN ?_ _ | with_reducible refine Bk.step ?_ (by with_reducible assumption) | with_reducible refine Bk.far ?_ (by first | omega | (simp; done) | (simp; omega)) _))
            clear hV
            replace j0 := j0.step hy; (try clear j0_0 j0_f0 j0_1 j0_f1); have j0_0 := j0.cell 0; have j0_f0 := j0.frozen 0; have j0_1 := j0.cell 1; have j0_f1 := j0.frozen 1; simp only [List.set_cons_zero, List.set_cons_succ, List.getElem?_cons_zero, List.getElem?_cons_succ] at j0_0 j0_1; (try clear lt_j0); have lt_j0 := j0.lt
            replace hbs : Below w.heap.size w w2 := hbs.step hy
            replace s1 := s1.step hy
            replace oL := own_below oL hy (Nat.le_refl _); replace oA := own_below oA hy (Nat.le_refl _); replace oV := own_below oV hy (Nat.le_refl _)
            generalize x1.heap.size = X at *
            clear hy
            go_wp2_with fail
            (try clear j0_0 j0_f0 j0_1 j0_f1 lt_j0)
            go_loopw [15] (fun i wr => ∃ j : Nat, j ≤ al.length ∧ i = .int .i64 j ∧ wr = w2) (fun i _ => al.length - (intOf i).toNat)
            case atStart => exact ⟨0, Nat.zero_le _, rfl, rfl⟩
            case round =>
              obtain ⟨j, hj, rfl, rfl⟩ := hrel
              by_cases hjl : j < al.length
              · obtain ⟨G2, pad2, e2, _, hG2c, b2⟩ := own_bk oA (by omega)
                have xa : wr.cell? ⟨G2, j, none⟩ = some (.int .i64 al[j]) := by rw [b2.cell, List.getElem?_append_left (by simp only [List.length_map]; exact hjl), List.getElem?_map, List.getElem?_eq_getElem hjl]; rfl
                have hah : (al[j] == h) = false := by rw [beq_eq_false_iff_ne]; exact HNE.out _ (List.getElem_mem hjl)
                have i1 : (j : Int) < (al.length : Int) := by omega
                generalize al[j] = aj at *
                have hlt9 := b2.lt
                subst e2
                go_wp2
                go_roundw
                case rel =>
                  refine ⟨j + 1, by omega, by go_num, ?_⟩
                  first | rfl | trivial
                case measure => simp [intOf]; omega
              · obtain ⟨w2, rfl⟩ : ∃ w2 : World, w2 = wr := ⟨_, rfl⟩
                have i1 : (al.length : Int) ≤ j := by omega
                have hS2 := j0.lt
                go_upto_region 22 with (at_builtin; first | (refine wpList_lies rfl (.tmp 80) (.tmp 82) 23 rfl (S + 1) 3 iT _ 1 8 Try.underlying23 hi hz0 hz1 hz2 rfl (by omega) (.slice A1 hs.length c1) hs.length (ints hs) rfl (oL.alloc _) ⟨w2.heap.size, 0, none⟩ 1 1 [.int .i64 h] rfl rfl (news_at (cs := [_])) (by simp [Value.oneCell']) (by omega) (by unfold maxLen; omega) (by omega) (by simp; omega) (w2.heap.size + 1) (by simp) ?_; intro g1 cap1 u1 q1 gr1 at1 lt1; (have oA1 := own_kept (oA.alloc (.cells #[.int .i64 h] 3)) gr1 d12); (have oV1 := own_kept (oV.alloc (.cells #[.int .i64 h] 3)) gr1 d13); (have dd12 := apart_grown (m := hs.length + 1) (c := cap1) (w' := u1) (base' := 0) (A := none) (oA.alloc (.cells #[.int .i64 h] 3)) d12 (by simp) at1); (have dd13 := apart_grown (m := hs.length + 1) (c := cap1) (w' := u1) (base' := 0) (A := none) (oV.alloc (.cells #[.int .i64 h] 3)) d13 (by simp) at1); (have hx1 := gr1.size); simp at hx1) | (refine wpList_lies rfl (.tmp 84) (.tmp 86) 23 rfl (S + 1) 3 iT _ 1 8 Try.underlying23 hi hz0 hz1 hz2 rfl (by omega) (.slice A2 al.length c2) al.length (ints al) rfl (oA1.alloc _) ⟨u1.heap.size, 0, none⟩ 1 1 [.int .i64 h] rfl rfl (news_at (cs := [_])) (by simp [Value.oneCell']) (by omega) (by unfold maxLen; omega) (by omega) (by simp; omega) (u1.heap.size + 1) (by simp) ?_; intro g2 cap2 u2 q2 gr2 at2 lt2; (have oL2 := own_kept (q1.alloc (.cells #[.int .i64 h] 3)) gr2 (apart_symm dd12)); (have oV2 := own_kept (oV1.alloc (.cells #[.int .i64 h] 3)) gr2 d23); (have ee21 := apart_grown (m := al.length + 1) (c := cap2) (w' := u2) (base' := 0) (A := none) (q1.alloc (.cells #[.int .i64 h] 3)) (apart_symm dd12) (by simp) at2); (have ee23 := apart_grown (m := al.length + 1) (c := cap2) (w' := u2) (base' := 0) (A := none) (oV1.alloc (.cells #[.int .i64 h] 3)) d23 (by simp) at2); (have hx2 := gr2.size); simp at hx2) | (refine wpList_lies rfl (.tmp 88) (.tmp 90) 23 rfl (S + 1) 3 iT _ 1 8 Try.underlying23 hi hz0 hz1 hz2 rfl (by omega) (.slice A3 vs.length c3) vs.length (ints vs) rfl (oV2.alloc _) ⟨u2.heap.size, 0, none⟩ 1 1 [.int .i64 (k : Int)] rfl rfl (news_at (cs := [_])) (by simp [Value.oneCell']) (by omega) (by unfold maxLen; omega) (by omega) (by simp; omega) (u2.heap.size + 1) (by simp) ?_; intro g3 cap3 u3 q3 gr3 at3 lt3; (have oL3 := own_kept (oL2.alloc (.cells #[.int .i64 (k : Int)] 3)) gr3 (apart_symm dd13)); (have oA3 := own_kept (q2.alloc (.cells #[.int .i64 (k : Int)] 3)) gr3 (apart_symm ee23)); (have ff31 := apart_grown (m := vs.length + 1) (c := cap3) (w' := u3) (base' := 0) (A := none) (oL2.alloc (.cells #[.int .i64 (k : Int)] 3)) (apart_symm dd13) (by simp) at3); (have ff32 := apart_grown (m := vs.length + 1) (c := cap3) (w' := u3) (base' := 0) (A := none) (q2.alloc (.cells #[.int .i64 (k : Int)] 3)) (apart_symm ee23) (by simp) at3); (have hx3 := gr3.size); simp at hx3))
                have hb7 : Below (S + 1) w2 u3 := (((Below.refl (S + 1) w2).alloc (by omega) (.cells #[.int .i64 h] 3)).grown gr1 (by simp; omega) (fun j hj => (oL.lt j hj).1)).trans ((((Below.refl (S + 1) u1).alloc (by omega) (.cells #[.int .i64 h] 3)).grown gr2 (by simp; omega) (fun j hj => (oA.lt j hj).1)).trans (((Below.refl (S + 1) u2).alloc (by omega) (.cells #[.int .i64 (k : Int)] 3)).grown gr3 (by simp; omega) (fun j hj => (oV.lt j hj).1)))
                replace j0 := j0.below hb7 (by omega)
                replace hbs : Below w.heap.size w u3 := hbs.trans (hb7.mono (by omega))
                have nX1 := own_ne oL kX (by decide)
                have nX2 := own_ne oA kX (by decide)
                have nX3 := own_ne oV kX (by decide)
                have kX3 := (((((kX.alloc (.cells #[.int .i64 h] 3)).kept gr1 nX1).alloc (.cells #[.int .i64 h] 3)).kept gr2 nX2).alloc (.cells #[.int .i64 (k : Int)] 3)).kept gr3 nX3
                have s3 := ((((((s1.step ((Below.refl _ _).alloc1 (.cells #[.int .i64 h] 3))).kept gr1 bL).step ((Below.refl _ _).alloc1 (.cells #[.int .i64 h] 3))).kept gr2 bA).step ((Below.refl _ _).alloc1 (.cells #[.int .i64 (k : Int)] 3))).kept gr3 bV)
                clear oL oA oV oA1 oV1 oL2 oV2 q1 q2 gr1 gr2 gr3 at1 at2 at3 hb7 nX1 nX2 nX3 kX s1 d12 d13 d23 dd12 ee23
                generalize hAL : (some (⟨g1, 0, none⟩ : Addr)) = AL at *
                generalize hAA : (some (⟨g2, 0, none⟩ : Addr)) = AA at *
                generalize hAV : (some (⟨g3, 0, none⟩ : Addr)) = AV at *
                clear hAL hAA hAV
                have j0_0 := j0.cell 0; have j0_f0 := j0.frozen 0; have j0_1 := j0.cell 1; have j0_f1 := j0.frozen 1; simp only [List.set_cons_zero, List.set_cons_succ, List.getElem?_cons_zero, List.getElem?_cons_succ] at j0_0 j0_1; have lt_j0 := j0.lt; have kX3_0 := kX3.cell 0; have kX3_f0 := kX3.frozen 0; have kX3_1 := kX3.cell 1; have kX3_f1 := kX3.frozen 1; simp only [List.set_cons_zero, List.set_cons_succ, List.getElem?_cons_zero, List.getElem?_cons_succ] at kX3_0 kX3_1; have lt_kX3 := kX3.lt
                go_upto_region 33 with fail
                (try clear j0_0 j0_f0 j0_1 j0_f1 lt_j0) ; (try clear kX3_0 kX3_f0 kX3_1 kX3_f1 lt_kX3)
                generalize hV : World.setCell (World.setCell u3 _ _) _ _ = w3
                have hb6 : Below w.heap.size w w3 := by subst hV; exact (hbs.setCell (by dsimp only; omega) _).setCell (by dsimp only; omega) _
                have j6 : Bk w3 S 30 (stC A7 L.length c7 B7 f1.length d7) := by subst hV; exact (j0.set_ 0 _).set_ 1 _
                have s6 : StAt w3 (stV A7 L.length c7 B7 f1.length d7) L f1 := by subst hV; exact ((s3.set1 (p := ⟨S, 0, none⟩) hSw _).set1 (p := ⟨S, 1, none⟩) hSw _).at_
                have p1 : w3.ownsRow (S + 1) 3 1 (.slice AL (hs.length + 1) cap1) (hs.length + 1) (ints (hs ++ [h])) := by subst hV; rw [ints_snoc]; refine own_far (own_far oL3 ?_ _) ?_ _ <;> (dsimp only; omega)
                have p2 : w3.ownsRow (S + 1) 3 1 (.slice AA (al.length + 1) cap2) (al.length + 1) (ints (al ++ [h])) := by subst hV; rw [ints_snoc]; refine own_far (own_far oA3 ?_ _) ?_ _ <;> (dsimp only; omega)
                have p3 : w3.ownsRow (S + 1) 3 1 (.slice AV (vs.length + 1) cap3) (vs.length + 1) (ints (vs ++ [(k : Int)])) := by subst hV; rw [ints_snoc]; refine own_far (own_far q3 ?_ _) ?_ _ <;> (dsimp only; omega)
                have HO6 := HN
                have hal6 : (al ++ [h]).length ≤ k + 1 := by simp; omega
                have e12 := apart_symm ee21
                have e13 := apart_symm ff31
                have e23 := apart_symm ff32
                clear hV HN oL3 oA3 q3 j0 kX3 s3 hbs ee21 ff31 ff32
                have hlc : L.length ≤ 1000 := by have := HO6.out.ok.n; omega
                have hfc : f1.length ≤ 1000 := by omega
                have hchk := HO6.out.ok.chk
                have hus : ((pHandles L f1).length : Int) = (((hs.length + 1) : Nat) : Int) := by rw [HO6.out.used, ← (show hs.length + 1 = (hs ++ [h]).length by simp)]
                have hLn : ((L.length : Int) != 1 + (m0 : Int)) = false := by rw [bne_eq_false_iff_eq]; have := HO6.out.len; omega
                have hvn : (vs.length + 1) = (hs.length + 1) := by have := HO6.out.hlen; have e1 := (show hs.length + 1 = (hs ++ [h]).length by simp); have e2 := (show vs.length + 1 = (vs ++ [(k : Int)]).length by simp); omega
                have hC := fun (W : World) s => pool_Check_st (stV A7 L.length c7 B7 f1.length d7) L f1 W hlc hfc s hchk
                have hU := fun (W : World) s => (pool_Used_any (stV A7 L.length c7 B7 f1.length d7) L f1 W hlc hfc s).lit (v' := .int .i64 (((hs.length + 1) : Nat) : Int)) (by rw [hus])
                have HUS := hide hus
                have HVN := hide hvn
                clear hus hvn hchk
                have j6_0 := j6.cell 0; have j6_f0 := j6.frozen 0; have j6_1 := j6.cell 1; have j6_f1 := j6.frozen 1; simp only [List.set_cons_zero, List.set_cons_succ, List.getElem?_cons_zero, List.getElem?_cons_succ] at j6_0 j6_1; have lt_j6 := j6.lt
                go_wp2_with fail
                refine (hC _ s6).mono ?_; rintro e v1 ⟨rfl, hv1⟩
                replace j6 := j6.step hv1; (try clear j6_0 j6_f0 j6_1 j6_f1); have j6_0 := j6.cell 0; have j6_f0 := j6.frozen 0; have j6_1 := j6.cell 1; have j6_f1 := j6.frozen 1; simp only [List.set_cons_zero, List.set_cons_succ, List.getElem?_cons_zero, List.getElem?_cons_succ] at j6_0 j6_1; (try clear lt_j6); have lt_j6 := j6.lt
                replace s6 := s6.step hv1; replace p1 := own_below p1 hv1 (Nat.le_refl _); replace p2 := own_below p2 hv1 (Nat.le_refl _); replace p3 := own_below p3 hv1 (Nat.le_refl _)
                replace hb6 : Below w.heap.size w v1 := hb6.step hv1
                clear hv1 hC
                go_wp2_with fail
                refine (hU _ s6).mono ?_; rintro e v2 ⟨rfl, hv2⟩
                replace j6 := j6.step hv2; (try clear j6_0 j6_f0 j6_1 j6_f1); have j6_0 := j6.cell 0; have j6_f0 := j6.frozen 0; have j6_1 := j6.cell 1; have j6_f1 := j6.frozen 1; simp only [List.set_cons_zero, List.set_cons_succ, List.getElem?_cons_zero, List.getElem?_cons_succ] at j6_0 j6_1; (try clear lt_j6); have lt_j6 := j6.lt
                replace s6 := s6.step hv2; replace p1 := own_below p1 hv2 (Nat.le_refl _); replace p2 := own_below p2 hv2 (Nat.le_refl _); replace p3 := own_below p3 hv2 (Nat.le_refl _)
                replace hb6 : Below w.heap.size w v2 := hb6.step hv2
                clear hv2 hU
                go_wp2_with fail
                (try clear j6_0 j6_f0 j6_1 j6_f1 lt_j6)
                go_loopw [22] (fun i wr => ∃ j : Nat, j ≤ (hs.length + 1) ∧ i = .int .i64 j ∧ wr.ownsRow (S + 1) 3 1 (.slice AL ((hs.length + 1)) cap1) ((hs.length + 1)) (ints ((hs ++ [h]))) ∧ wr.ownsRow (S + 1) 3 1 (.slice AA ((al.length + 1)) cap2) ((al.length + 1)) (ints ((al ++ [h]))) ∧ wr.ownsRow (S + 1) 3 1 (.slice AV ((vs.length + 1)) cap3) ((vs.length + 1)) (ints ((vs ++ [(k : Int)]))) ∧ Bk wr S 30 (stC A7 L.length c7 B7 f1.length d7) ∧ StAt wr (stV A7 L.length c7 B7 f1.length d7) L f1 ∧ Below w.heap.size w wr) (fun i _ => (hs.length + 1) - (intOf i).toNat)
                case atStart => exact ⟨0, Nat.zero_le _, rfl, p1, p2, p3, j6, s6, hb6⟩
                case round =>
                  clear p1 p2 p3 j6 s6 hb6
                  obtain ⟨j, hj, rfl, p1, p2, p3, j6, s6, hb6⟩ := hrel
                  have j6_0 := j6.cell 0; have j6_f0 := j6.frozen 0; have j6_1 := j6.cell 1; have j6_f1 := j6.frozen 1; simp only [List.set_cons_zero, List.set_cons_succ, List.getElem?_cons_zero, List.getElem?_cons_succ] at j6_0 j6_1; have lt_j6 := j6.lt
                  by_cases hjl : j < (hs.length + 1)
                  · obtain ⟨G1, pad1, e1, _, hG1c, b1⟩ := own_bk p1 (by omega)
                    obtain ⟨G3, pad3, e3, _, hG3c, b3⟩ := own_bk p3 (by have := HVN.out; omega)
                    have hjH : j < ((hs ++ [h])).length := by have := (show hs.length + 1 = (hs ++ [h]).length by simp); omega
                    obtain ⟨vv, hvv, hget⟩ := HO6.out.get hjH
                    have x1 : wr.cell? ⟨G1, j, none⟩ = some (.int .i64 ((hs ++ [h]))[j]) := by rw [b1.cell, List.getElem?_append_left (by simp only [List.length_map]; exact hjH), List.getElem?_map, List.getElem?_eq_getElem hjH]; rfl
                    have x3 : wr.cell? ⟨G3, j, none⟩ = some (.int .i64 vv) := by
                      have hjV : j < ((vs ++ [(k : Int)])).length := (List.getElem?_eq_some_iff.1 hvv).1
                      rw [b3.cell, List.getElem?_append_left (by simp only [List.length_map]; exact hjV), List.getElem?_map, hvv]; rfl
                    have hG := fun (W : World) s => pool_Get_any (stV A7 L.length c7 B7 f1.length d7) L f1 ((hs ++ [h]))[j] W hlc hfc (HO6.out.bound hjH) s
                    rw [hget] at hG
                    clear hget hvv
                    generalize ((hs ++ [h]))[j] = hh at *
                    have y1 := b1.lt
                    have y3 := b3.lt
                    have i1 : (j : Int) < (((hs.length + 1) : Nat) : Int) := by omega
                    have i3 : (j : Int) < (((vs.length + 1) : Nat) : Int) := by have := HVN.out; omega
                    subst e1 e3
                    go_upto_region 38 with fail
                    (refine wp_region_qb (by kernel_rfl) (by kernel_rfl) (fun kq => ?_); (try dsimp only [List.append]); (repeat (go_big_quiet_step (((go_at_call 18; exact (hG _ (s6.step (below_regrown _ _ _))).qb))))); refine wpQuiet_nil ?_; intro wq hwq; have hbq := below_of_class hwq; clear hwq kq)
                    replace j6 := j6.step hbq; (try clear j6_0 j6_f0 j6_1 j6_f1); have j6_0 := j6.cell 0; have j6_f0 := j6.frozen 0; have j6_1 := j6.cell 1; have j6_f1 := j6.frozen 1; simp only [List.set_cons_zero, List.set_cons_succ, List.getElem?_cons_zero, List.getElem?_cons_succ] at j6_0 j6_1; (try clear lt_j6); have lt_j6 := j6.lt
                    replace s6 := s6.step hbq; replace p1 := own_below p1 hbq (Nat.le_refl _); replace p2 := own_below p2 hbq (Nat.le_refl _); replace p3 := own_below p3 hbq (Nat.le_refl _)
                    replace hb6 : Below w.heap.size w wq := hb6.step hbq
                    replace b3 := b3.step hbq
                    have x3' : wq.cell? ⟨G3, j, none⟩ = some (.int .i64 vv) := (hbq.cell (p := ⟨G3, j, none⟩) y3).trans x3
                    clear hbq x1 x3 hG
                    go_wp2
                    go_roundw
                    case rel => exact ⟨j + 1, by omega, by go_num, p1, p2, p3, j6, s6, hb6⟩
                    case measure => simp [intOf]; omega
                  · go_wp2
                    go_roundw
                    case rel => exact ⟨k + 1, L, f1, (hs ++ [h]), (vs ++ [(k : Int)]), (al ++ [h]), (qs ++ [q]), A7, c7, B7, d7, AL, cap1, AA, cap2, AV, cap3, by omega, by go_num, by rw [(show hs.length + 1 = (hs ++ [h]).length by simp)], by rw [(show al.length + 1 = (al ++ [h]).length by simp)], by rw [(show vs.length + 1 = (vs ++ [(k : Int)]).length by simp)], HO6, hal6, by rw [← (show hs.length + 1 = (hs ++ [h]).length by simp)]; exact p1, by rw [← (show al.length + 1 = (al ++ [h]).length by simp)]; exact p2, by rw [← (show vs.length + 1 = (vs ++ [(k : Int)]).length by simp)]; exact p3, by rw [← (show hs.length + 1 = (hs ++ [h]).length by simp), ← (show al.length + 1 = (al ++ [h]).length by simp)]; exact e12, by rw [← (show hs.length + 1 = (hs ++ [h]).length by simp), ← (show vs.length + 1 = (vs ++ [(k : Int)]).length by simp)]; exact e13, by rw [← (show al.length + 1 = (al ++ [h]).length by simp), ← (show vs.length + 1 = (vs ++ [(k : Int)]).length by simp)]; exact e23, j6, s6, hb6⟩
                    case measure => simp [intOf]; omega
        · have h6' : 6 ≤ z % 10 := by omega
          clear h6
          by_cases hh0 : hs.length = 0
          · as_aux_lemma =>
            have hz0' : (hs.length : Int) ≤ 0 := by omega
            clear hh0
            have HO6 := hide HO.out.keep
            clear HO
            go_upto_region 33 with fail
            (try clear j0_0 j0_f0 j0_1 j0_f1 lt_j0)
            have j6 := j0
            have s6 := r1
            have p1 := oL
            have p2 := oA
            have p3 := oV
            have e12 := d12
            have e13 := d13
            have e23 := d23
            have hb6 := hbr
            have hal6 : al.length ≤ k + 1 := by omega
            clear j0 r1 oL oA oV d12 d13 d23 hbr
            have hlc : l.length ≤ 1000 := by have := HO6.out.ok.n; omega
            have hfc : f.length ≤ 1000 := by omega
            have hchk := HO6.out.ok.chk
            have hus : ((pHandles l f).length : Int) = ((hs.length : Nat) : Int) := by rw [HO6.out.used, ← (rfl : hs.length = hs.length)]
            have hLn : ((l.length : Int) != 1 + (m0 : Int)) = false := by rw [bne_eq_false_iff_eq]; have := HO6.out.len; omega
            have hvn : vs.length = hs.length := by have := HO6.out.hlen; have e1 := (rfl : hs.length = hs.length); have e2 := (rfl : vs.length = vs.length); omega
            have hC := fun (W : World) s => pool_Check_st (stV A' l.length c' B' f.length d') l f W hlc hfc s hchk
            have hU := fun (W : World) s => (pool_Used_any (stV A' l.length c' B' f.length d') l f W hlc hfc s).lit (v' := .int .i64 ((hs.length : Nat) : Int)) (by rw [hus])
            have HUS := hide hus
            have HVN := hide hvn
            clear hus hvn hchk
            have j6_0 := j6.cell 0; have j6_f0 := j6.frozen 0; have j6_1 := j6.cell 1; have j6_f1 := j6.frozen 1; simp only [List.set_cons_zero, List.set_cons_succ, List.getElem?_cons_zero, List.getElem?_cons_succ] at j6_0 j6_1; have lt_j6 := j6.lt
            go_wp2_with fail
            refine (hC _ s6).mono ?_; rintro e v1 ⟨rfl, hv1⟩
            replace j6 := j6.step hv1; (try clear j6_0 j6_f0 j6_1 j6_f1); have j6_0 := j6.cell 0; have j6_f0 := j6.frozen 0; have j6_1 := j6.cell 1; have j6_f1 := j6.frozen 1; simp only [List.set_cons_zero, List.set_cons_succ, List.getElem?_cons_zero, List.getElem?_cons_succ] at j6_0 j6_1; (try clear lt_j6); have lt_j6 := j6.lt
            replace s6 := s6.step hv1; replace p1 := own_below p1 hv1 (Nat.le_refl _); replace p2 := own_below p2 hv1 (Nat.le_refl _); replace p3 := own_below p3 hv1 (Nat.le_refl _)
            replace hb6 : Below w.heap.size w v1 := hb6.step hv1
            clear hv1 hC
            go_wp2_with fail
            refine (hU _ s6).mono ?_; rintro e v2 ⟨rfl, hv2⟩
            replace j6 := j6.step hv2; (try clear j6_0 j6_f0 j6_1 j6_f1); have j6_0 := j6.cell 0; have j6_f0 := j6.frozen 0; have j6_1 := j6.cell 1; have j6_f1 := j6.frozen 1; simp only [List.set_cons_zero, List.set_cons_succ, List.getElem?_cons_zero, List.getElem?_cons_succ] at j6_0 j6_1; (try clear lt_j6); have lt_j6 := j6.lt
            replace s6 := s6.step hv2; replace p1 := own_below p1 hv2 (Nat.le_refl _); replace p2 := own_below p2 hv2 (Nat.le_refl _); replace p3 := own_below p3 hv2 (Nat.le_refl _)
            replace hb6 : Below w.heap.size w v2 := hb6.step hv2
            clear hv2 hU
            go_wp2_with fail
            (try clear j6_0 j6_f0 j6_1 j6_f1 lt_j6)
            go_loopw [22] (fun i wr => ∃ j : Nat, j ≤ hs.length ∧ i = .int .i64 j ∧ wr.ownsRow (S + 1) 3 1 (.slice A1 (hs.length) c1) (hs.length) (ints (hs)) ∧ wr.ownsRow (S + 1) 3 1 (.slice A2 (al.length) c2) (al.length) (ints (al)) ∧ wr.ownsRow (S + 1) 3 1 (.slice A3 (vs.length) c3) (vs.length) (ints (vs)) ∧ Bk wr S 30 (stC A' l.length c' B' f.length d') ∧ StAt wr (stV A' l.length c' B' f.length d') l f ∧ Below w.heap.size w wr) (fun i _ => hs.length - (intOf i).toNat)
            case atStart => exact ⟨0, Nat.zero_le _, rfl, p1, p2, p3, j6, s6, hb6⟩
            case round =>
              clear p1 p2 p3 j6 s6 hb6
              obtain ⟨j, hj, rfl, p1, p2, p3, j6, s6, hb6⟩ := hrel
              have j6_0 := j6.cell 0; have j6_f0 := j6.frozen 0; have j6_1 := j6.cell 1; have j6_f1 := j6.frozen 1; simp only [List.set_cons_zero, List.set_cons_succ, List.getElem?_cons_zero, List.getElem?_cons_succ] at j6_0 j6_1; have lt_j6 := j6.lt
              by_cases hjl : j < hs.length
              · obtain ⟨G1, pad1, e1, _, hG1c, b1⟩ := own_bk p1 (by omega)
                obtain ⟨G3, pad3, e3, _, hG3c, b3⟩ := own_bk p3 (by have := HVN.out; omega)
                have hjH : j < (hs).length := by have := (rfl : hs.length = hs.length); omega
                obtain ⟨vv, hvv, hget⟩ := HO6.out.get hjH
                have x1 : wr.cell? ⟨G1, j, none⟩ = some (.int .i64 (hs)[j]) := by rw [b1.cell, List.getElem?_append_left (by simp only [List.length_map]; exact hjH), List.getElem?_map, List.getElem?_eq_getElem hjH]; rfl
                have x3 : wr.cell? ⟨G3, j, none⟩ = some (.int .i64 vv) := by
                  have hjV : j < (vs).length := (List.getElem?_eq_some_iff.1 hvv).1
                  rw [b3.cell, List.getElem?_append_left (by simp only [List.length_map]; exact hjV), List.getElem?_map, hvv]; rfl
                have hG := fun (W : World) s => pool_Get_any (stV A' l.length c' B' f.length d') l f (hs)[j] W hlc hfc (HO6.out.bound hjH) s
                rw [hget] at hG
                clear hget hvv
                generalize (hs)[j] = hh at *
                have y1 := b1.lt
                have y3 := b3.lt
                have i1 : (j : Int) < ((hs.length : Nat) : Int) := by omega
                have i3 : (j : Int) < ((vs.length : Nat) : Int) := by have := HVN.out; omega
                subst e1 e3
                go_upto_region 38 with fail
                (refine wp_region_qb (by kernel_rfl) (by kernel_rfl) (fun kq => ?_); (try dsimp only [List.append]); (repeat (go_big_quiet_step (((go_at_call 18; exact (hG _ (s6.step (below_regrown _ _ _))).qb))))); refine wpQuiet_nil ?_; intro wq hwq; have hbq := below_of_class hwq; clear hwq kq)
                replace j6 := j6.step hbq; (try clear j6_0 j6_f0 j6_1 j6_f1); have j6_0 := j6.cell 0; have j6_f0 := j6.frozen 0; have j6_1 := j6.cell 1; have j6_f1 := j6.frozen 1; simp only [List.set_cons_zero, List.set_cons_succ, List.getElem?_cons_zero, List.getElem?_cons_succ] at j6_0 j6_1; (try clear lt_j6); have lt_j6 := j6.lt
                replace s6 := s6.step hbq; replace p1 := own_below p1 hbq (Nat.le_refl _); replace p2 := own_below p2 hbq (Nat.le_refl _); replace p3 := own_below p3 hbq (Nat.le_refl _)
                replace hb6 : Below w.heap.size w wq := hb6.step hbq
                replace b3 := b3.step hbq
                have x3' : wq.cell? ⟨G3, j, none⟩ = some (.int .i64 vv) := (hbq.cell (p := ⟨G3, j, none⟩) y3).trans x3
                clear hbq x1 x3 hG
                go_wp2
                go_roundw
                case rel => exact ⟨j + 1, by omega, by go_num, p1, p2, p3, j6, s6, hb6⟩
                case measure => simp [intOf]; omega
              · go_wp2
                go_roundw
                case rel => exact ⟨k + 1, l, f, hs, vs, al, qs, A', c', B', d', A1, c1, A2, c2, A3, c3, by omega, by go_num, by rw [(rfl : hs.length = hs.length)], by rw [(rfl : al.length = al.length)], by rw [(rfl : vs.length = vs.length)], HO6, hal6, by rw [← (rfl : hs.length = hs.length)]; exact p1, by rw [← (rfl : al.length = al.length)]; exact p2, by rw [← (rfl : vs.length = vs.length)]; exact p3, by rw [← (rfl : hs.length = hs.length), ← (rfl : al.length = al.length)]; exact e12, by rw [← (rfl : hs.length = hs.length), ← (rfl : vs.length = vs.length)]; exact e13, by rw [← (rfl : al.length = al.length), ← (rfl : vs.length = vs.length)]; exact e23, j6, s6, hb6⟩
                case measure => simp [intOf]; omega
          · as_aux_lemma =>
            have hhp : 0 < hs.length := by omega
            obtain ⟨zd, hzd⟩ : ∃ zd : Nat, z / 10 = zd := ⟨(z / 10).toNat, by omega⟩
            obtain ⟨J, hJ⟩ : ∃ J : Nat, (zd : Int) % (hs.length : Int) = J := ⟨((zd : Int) % (hs.length : Int)).toNat, by have := Int.emod_nonneg (zd : Int) (show (hs.length : Int) ≠ 0 by omega); omega⟩
            have hJl : J < hs.length := by have := Int.emod_lt_of_pos (zd : Int) (show (0 : Int) < hs.length by omega); omega
            obtain ⟨l', f', e1, e2, O'⟩ := HO.out.give hJl (by omega)
            have hbd := HO.out.bound hJl
            have hl' : l'.length ≤ 1000 := by have := O'.ok.n; omega
            have hf' : f'.length ≤ 1000 := by have := O'.ok.count; have h2 : l'.countP pSpare ≤ l'.length := List.countP_le_length; omega
            have hG1 := fun (W : World) s => pool_Give_any (stV A' l.length c' B' f.length d') l f hs[J] W hl1000 (by omega) hbd s
            have hG2 := fun (V : Value) (W : World) s => pool_Give_any V l' f' hs[J] W hl' hf' hbd s
            simp only [e1] at hG1
            simp only [e2] at hG2
            clear e1 e2 HO
            have HN := hide O'
            clear O'
            obtain ⟨G1, pad1, eA1, _, hG1c, b1⟩ := own_bk oL hhp
            have xh : wr.cell? ⟨G1, J, none⟩ = some (.int .i64 hs[J]) := by rw [b1.cell, List.getElem?_append_left (by simp only [List.length_map]; exact hJl), List.getElem?_map, List.getElem?_eq_getElem hJl]; rfl
            have xl := b1.lt
            generalize hs[J] = h at *
            subst eA1
            clear b1 hh0
            have i1 : (J : Int) < (hs.length : Int) := by omega
            have ip : (0 : Int) < (hs.length : Int) := by omega
            go_wp2_with fail
            rw [hJ]
            have bA := fun j hj => (oA.lt j hj).2
            have bV := fun j hj => (oV.lt j hj).2
            refine (hG1 _ r1).mono ?_; rintro e x1 ⟨V1, rfl, s1, hx1⟩
            clear hG1
            obtain ⟨A7, c7, B7, d7, rfl, s1⟩ := s1
            replace s1 : StFr wr.heap.size x1 (stV A7 l'.length c7 B7 f'.length d7) l' f' := ⟨A7, c7, B7, d7, rfl, s1⟩
            have hSw := j0.lt
            have hbs : Below w.heap.size w x1 := hbr.step hx1
            replace j0 := j0.step hx1; (try clear j0_0 j0_f0 j0_1 j0_f1); have j0_0 := j0.cell 0; have j0_f0 := j0.frozen 0; have j0_1 := j0.cell 1; have j0_f1 := j0.frozen 1; simp only [List.set_cons_zero, List.set_cons_succ, List.getElem?_cons_zero, List.getElem?_cons_succ] at j0_0 j0_1; (try clear lt_j0); have lt_j0 := j0.lt
            replace oL := own_below oL hx1 (Nat.le_refl _); replace oA := own_below oA hx1 (Nat.le_refl _); replace oV := own_below oV hx1 (Nat.le_refl _)
            clear hx1 r1 hbr xh xl
            go_wp2_with fail
            generalize hV : World.alloc x1 _ = w2
            have hy : Below x1.heap.size x1 w2 := by subst hV; (repeat (first | with_reducible exact Below.refl _ _ | with_reducible assumption | with_reducible refine Below.drew ?_ | with_reducible refine Below.drewN ?_ _ | with_reducible refine Below.alloc1 ?_ _ | with_reducible refine Below.setCell1 ?_ (by first | omega | (simp; done) | (simp; omega)) _ | with_reducible refine Below.step ?_ (by with_reducible assumption)))
            have kX : Bk w2 x1.heap.size 30 (stC A7 l'.length c7 B7 f'.length d7) := by subst hV; (repeat (first | with_reducible exact Bk.new' _ _ _ _ (by simp; done) | with_reducible assumption | with_reducible refine Bk.alloc ?_ _ | with_reducible refine Bk.drew ?_ | with_reducible refine Bk.drewN ?_ _ | with_reducible refine Bk.step ?_ (by with_reducible assumption) | with_reducible refine Bk.far ?_ (by first | omega | (simp; done) | (simp; omega)) _))
            clear hV
            replace j0 := j0.step hy; (try clear j0_0 j0_f0 j0_1 j0_f1); have j0_0 := j0.cell 0; have j0_f0 := j0.frozen 0; have j0_1 := j0.cell 1; have j0_f1 := j0.frozen 1; simp only [List.set_cons_zero, List.set_cons_succ, List.getElem?_cons_zero, List.getElem?_cons_succ] at j0_0 j0_1; (try clear lt_j0); have lt_j0 := j0.lt
            replace hbs : Below w.heap.size w w2 := hbs.step hy
            replace s1 := s1.step hy
            replace oL := own_below oL hy (Nat.le_refl _); replace oA := own_below oA hy (Nat.le_refl _); replace oV := own_below oV hy (Nat.le_refl _)
            have kX_0 := kX.cell 0; have kX_f0 := kX.frozen 0; have kX_1 := kX.cell 1; have kX_f1 := kX.frozen 1; simp only [List.set_cons_zero, List.set_cons_succ, List.getElem?_cons_zero, List.getElem?_cons_succ] at kX_0 kX_1; have lt_kX := kX.lt
            clear hy
            generalize x1.heap.size = X at *
            refine (hG2 _ _ s1.at_).mono ?_; rintro e x2 ⟨V2, rfl, s2, hx2⟩
            clear hG2
            obtain ⟨A9, c9, B9, d9, rfl, _⟩ := s2
            replace j0 := j0.step hx2; (try clear j0_0 j0_f0 j0_1 j0_f1); have j0_0 := j0.cell 0; have j0_f0 := j0.frozen 0; have j0_1 := j0.cell 1; have j0_f1 := j0.frozen 1; simp only [List.set_cons_zero, List.set_cons_succ, List.getElem?_cons_zero, List.getElem?_cons_succ] at j0_0 j0_1; (try clear lt_j0); have lt_j0 := j0.lt; replace kX := kX.step hx2; (try clear kX_0 kX_f0 kX_1 kX_f1); have kX_0 := kX.cell 0; have kX_f0 := kX.frozen 0; have kX_1 := kX.cell 1; have kX_f1 := kX.frozen 1; simp only [List.set_cons_zero, List.set_cons_succ, List.getElem?_cons_zero, List.getElem?_cons_succ] at kX_0 kX_1; (try clear lt_kX); have lt_kX := kX.lt
            replace hbs : Below w.heap.size w x2 := hbs.step hx2
            replace s1 := s1.step hx2
            replace oL := own_below oL hx2 (Nat.le_refl _); replace oA := own_below oA hx2 (Nat.le_refl _); replace oV := own_below oV hx2 (Nat.le_refl _)
            clear hx2
            go_upto_region 30 with fail
            generalize hV : World.alloc x2 _ = w4
            have hy : Below x2.heap.size x2 w4 := by subst hV; (repeat (first | with_reducible exact Below.refl _ _ | with_reducible assumption | with_reducible refine Below.drew ?_ | with_reducible refine Below.drewN ?_ _ | with_reducible refine Below.alloc1 ?_ _ | with_reducible refine Below.setCell1 ?_ (by first | omega | (simp; done) | (simp; omega)) _ | with_reducible refine Below.step ?_ (by with_reducible assumption)))
            clear hV
            replace j0 := j0.step hy; (try clear j0_0 j0_f0 j0_1 j0_f1); have j0_0 := j0.cell 0; have j0_f0 := j0.frozen 0; have j0_1 := j0.cell 1; have j0_f1 := j0.frozen 1; simp only [List.set_cons_zero, List.set_cons_succ, List.getElem?_cons_zero, List.getElem?_cons_succ] at j0_0 j0_1; (try clear lt_j0); have lt_j0 := j0.lt; replace kX := kX.step hy; (try clear kX_0 kX_f0 kX_1 kX_f1); have kX_0 := kX.cell 0; have kX_f0 := kX.frozen 0; have kX_1 := kX.cell 1; have kX_f1 := kX.frozen 1; simp only [List.set_cons_zero, List.set_cons_succ, List.getElem?_cons_zero, List.getElem?_cons_succ] at kX_0 kX_1; (try clear lt_kX); have lt_kX := kX.lt
            replace hbs : Below w.heap.size w w4 := hbs.step hy
            replace s1 := s1.step hy
            replace oL := own_below oL hy (Nat.le_refl _); replace oA := own_below oA hy (Nat.le_refl _); replace oV := own_below oV hy (Nat.le_refl _)
            clear hy
            (try clear j0_0 j0_f0 j0_1 j0_f1 lt_j0) ; (try clear kX_0 kX_f0 kX_1 kX_f1 lt_kX)
            have rL := own_rd oL
            have hJc : J ≤ c1 := by omega
            have hJ1c : J + 1 ≤ c1 := by omega
            refine wp_region_mt 9 [(0, NoRow w4.heap.size 3), (4, OwnAtR w4.heap.size 3 1 J (ints (hs.take J)))] (by kernel_rfl) (by kernel_rfl) (by kernel_rfl) (by kernel_rfl) (sts_cons (sts_noRow _ _) (sts_cons (sts_ownR _ _ _ _ _) sts_nil)) (fun kq => ?_); (try dsimp only [List.append, List.take])
            (refine wpM_spec _ (NoRow w4.heap.size 3) (by kernel_rfl) (by kernel_rfl) rfl (later_some _) ?_ ?_; (focus (intro x hx hk; obtain ⟨px, rfl⟩ := hx; go_simp; (first | with_reducible refine mUpon_enter ?_ | with_reducible refine mUpon_value ?_); exact noRow_new (by simp [Go.Sort.grow]) rfl (by simp [Go.Sort.grow, redrawn]))); intro v hv K hK; obtain ⟨gN, rfl, hgN⟩ := hv; go_big_quiet_op; refine hK _ ?_; clear hK K)
            (repeat (refine wpM_via (by kernel_rfl) ?_; go_big_quiet_step (fail); refine wpQuiet_nil ?_))
            (refine wpM_spec _ (OwnAtR w4.heap.size 3 1 J (ints (hs.take J))) (by kernel_rfl) (by kernel_rfl) rfl (later_some _) ?_ ?_; (focus (intro x hx hk; obtain ⟨px, rfl⟩ := hx; exact mUpon_app0 (.tmp 127) (.tmp 130) 23 rfl 3 iT _ 1 8 Try.underlying23 hi hz0 hz1 hz2 rfl (by omega) gN w4.heap.size (below_regrown w4 _ _).size hgN (noRow_of (base := w4.heap.size) (hk.1 (by kernel_rfl))) rfl ⟨G1, 0, none⟩ J c1 (ints (hs.take J)) rfl (by simp; omega) (rd_hnews (by rw [ints_take]; exact (rL.step (below_regrown w4 px.d px.os)).take J)) (fun u hu => by obtain ⟨x, _, rfl⟩ := List.mem_map.1 hu; rfl) (by unfold maxLen; omega) (by omega))); intro v hv K hK; obtain ⟨A8, c8, rfl⟩ := hv; go_big_quiet_op; refine hK _ ?_; clear hK K)
            (repeat (refine wpM_via (by kernel_rfl) ?_; go_big_quiet_step (fail); refine wpQuiet_nil ?_))
            refine wpM_nil ?_; intro wq hwq hfq; have hbq := below_of_class hwq; clear hwq kq; (try dsimp only [List.drop])
            have o8 := own_ofR (base := w4.heap.size) hfq.1
            have hz4 := hbq.size
            have rLq := (rL.step hbq).drop (J + 1)
            clear hfq
            have hdL : ∀ j u, (ints (hs.drop (J + 1)))[j]? = some u → wq.cell? ((if c1 = J + 1 then (⟨G1, 0, none⟩ : Addr) else ⟨G1, J + 1, none⟩).add j) = some u := by
              intro j u hu
              have h9 := rd_hnews rLq j u (by rw [← ints_drop]; exact hu)
              by_cases h8 : c1 = J + 1
              · have h7 : (hs.drop (J + 1)) = [] := List.drop_eq_nil_of_le (by omega)
                rw [h7] at hu
                simp at hu
              · rw [if_neg h8]
                have e9 : (⟨G1, 0, none⟩ : Addr).add (J + 1) = ⟨G1, J + 1, none⟩ := by simp [Addr.add]
                rw [e9] at h9
                exact h9
            go_upto_region 31 with (at_builtin; go_loud (refine wpList_append_own _ rfl (.tmp 131) (.tmp 135) 23 rfl w4.heap.size 3 iT _ 1 8 Try.underlying23 hi hz0 hz1 hz2 rfl (by omega) (.slice A8 J c8) J (ints (hs.take J)) rfl o8 (if c1 = J + 1 then ⟨G1, 0, none⟩ else ⟨G1, J + 1, none⟩) (hs.length - (J + 1)) (c1 - (J + 1)) (ints (hs.drop (J + 1))) (by by_cases h9 : c1 = J + 1 <;> simp [Act.eval, h9]) (by simp) hdL (fun u hu => by obtain ⟨x, _, rfl⟩ := List.mem_map.1 hu; rfl) (by unfold maxLen; omega) (by omega) hz4 ?_); intro v' u1 h2 h3 h4)
            have oAw := oA
            have hS4 : S < w4.heap.size := j0.lt
            have hbu : Below w4.heap.size w4 u1 := hbq.trans ((Below.refl w4.heap.size wq).grown h3 hz4 (fun j hj => (o8.lt j hj).1))
            obtain ⟨A9, c9, rfl⟩ := own_form h2
            rw [← ints_append] at h2
            have hsu := hbu.size
            replace oA := own_below oA hbu (Nat.le_refl _); replace oV := own_below oV hbu (Nat.le_refl _)
            have e12 := apart_new oAw h2 (Nat.le_refl _)
            replace j0 := j0.step hbu
            replace kX := kX.step hbu
            replace s1 := s1.step hbu
            replace hbs : Below w.heap.size w u1 := hbs.step hbu
            have oLn := own_mono (base' := S + 1) h2 (by omega)
            clear hbq hbu h2 h3 h4 o8 rL rLq oL hz4 oAw d12 d13 d23
            have hvp : 0 < vs.length := by have := HVH.out; omega
            obtain ⟨G3, pad3, eA3, _, hG3c, b3⟩ := own_bk oV hvp
            subst eA3
            have rV := own_rd oV
            have hJv : J < vs.length := by have := HVH.out; omega
            have hJc3 : J ≤ c3 := by omega
            have hJ1c3 : J + 1 ≤ c3 := by omega
            clear b3
            refine wp_region_mt 9 [(0, NoRow u1.heap.size 3), (4, OwnAtR u1.heap.size 3 1 J (ints (vs.take J)))] (by kernel_rfl) (by kernel_rfl) (by kernel_rfl) (by kernel_rfl) (sts_cons (sts_noRow _ _) (sts_cons (sts_ownR _ _ _ _ _) sts_nil)) (fun kq => ?_); (try dsimp only [List.append, List.take])
            (refine wpM_spec _ (NoRow u1.heap.size 3) (by kernel_rfl) (by kernel_rfl) rfl (later_some _) ?_ ?_; (focus (intro x hx hk; obtain ⟨px, rfl⟩ := hx; go_simp; (first | with_reducible refine mUpon_enter ?_ | with_reducible refine mUpon_value ?_); exact noRow_new (by simp [Go.Sort.grow]) rfl (by simp [Go.Sort.grow, redrawn]))); intro v hv K hK; obtain ⟨gM, rfl, hgM⟩ := hv; go_big_quiet_op; refine hK _ ?_; clear hK K)
            (repeat (refine wpM_via (by kernel_rfl) ?_; go_big_quiet_step (fail); refine wpQuiet_nil ?_))
            (refine wpM_spec _ (OwnAtR u1.heap.size 3 1 J (ints (vs.take J))) (by kernel_rfl) (by kernel_rfl) rfl (later_some _) ?_ ?_; (focus (intro x hx hk; obtain ⟨px, rfl⟩ := hx; exact mUpon_app0 (.tmp 137) (.tmp 140) 23 rfl 3 iT _ 1 8 Try.underlying23 hi hz0 hz1 hz2 rfl (by omega) gM u1.heap.size (below_regrown u1 _ _).size hgM (noRow_of (base := u1.heap.size) (hk.1 (by kernel_rfl))) rfl ⟨G3, 0, none⟩ J c3 (ints (vs.take J)) rfl (by simp; omega) (rd_hnews (by rw [ints_take]; exact (rV.step (below_regrown u1 px.d px.os)).take J)) (fun u hu => by obtain ⟨x, _, rfl⟩ := List.mem_map.1 hu; rfl) (by unfold maxLen; omega) (by omega))); intro v hv K hK; obtain ⟨A8, c8, rfl⟩ := hv; go_big_quiet_op; refine hK _ ?_; clear hK K)
            (repeat (refine wpM_via (by kernel_rfl) ?_; go_big_quiet_step (fail); refine wpQuiet_nil ?_))
            refine wpM_nil ?_; intro wq hwq hfq; have hbq := below_of_class hwq; clear hwq kq; (try dsimp only [List.drop])
            have o8 := own_ofR (base := u1.heap.size) hfq.1
            have hz4 := hbq.size
            have rVq := (rV.step hbq).drop (J + 1)
            clear hfq
            have hdV : ∀ j u, (ints (vs.drop (J + 1)))[j]? = some u → wq.cell? ((if c3 = J + 1 then (⟨G3, 0, none⟩ : Addr) else ⟨G3, J + 1, none⟩).add j) = some u := by
              intro j u hu
              have h9 := rd_hnews rVq j u (by rw [← ints_drop]; exact hu)
              by_cases h8 : c3 = J + 1
              · have h7 : (vs.drop (J + 1)) = [] := List.drop_eq_nil_of_le (by omega)
                rw [h7] at hu
                simp at hu
              · rw [if_neg h8]
                have e9 : (⟨G3, 0, none⟩ : Addr).add (J + 1) = ⟨G3, J + 1, none⟩ := by simp [Addr.add]
                rw [e9] at h9
                exact h9
            go_upto_region 32 with (at_builtin; refine wpList_append_own _ rfl (.tmp 141) (.tmp 145) 23 rfl u1.heap.size 3 iT _ 1 8 Try.underlying23 hi hz0 hz1 hz2 rfl (by omega) (.slice A8 J c8) J (ints (vs.take J)) rfl o8 (if c3 = J + 1 then ⟨G3, 0, none⟩ else ⟨G3, J + 1, none⟩) (vs.length - (J + 1)) (c3 - (J + 1)) (ints (vs.drop (J + 1))) (by by_cases h9 : c3 = J + 1 <;> simp [Act.eval, h9]) (by simp) hdV (fun u hu => by obtain ⟨x, _, rfl⟩ := List.mem_map.1 hu; rfl) (by unfold maxLen; omega) (by omega) hz4 ?_; intro v' u2 h2 h3 h4)
            have hbu : Below u1.heap.size u1 u2 := hbq.trans ((Below.refl u1.heap.size wq).grown h3 hz4 (fun j hj => (o8.lt j hj).1))
            obtain ⟨AV, cap3, rfl⟩ := own_form h2
            rw [← ints_append] at h2
            have e13 := apart_symm (apart_new oLn h2 (Nat.le_refl _))
            have e23 := apart_symm (apart_new oA h2 (Nat.le_refl _))
            replace oA := own_below oA hbu (Nat.le_refl _); replace oLn := own_below oLn hbu (Nat.le_refl _)
            have hsu2 := hbu.size
            replace j0 := j0.step hbu
            replace kX := kX.step hbu
            replace s1 := s1.step hbu
            replace hbs : Below w.heap.size w u2 := hbs.step hbu
            have oVn := own_mono (base' := S + 1) h2 (by omega)
            clear hbq hbu h2 h3 h4 o8 rV rVq oV hz4
            have hNL : ∃ nl : Nat, nl = J + (hs.length - (J + 1)) := ⟨_, rfl⟩
            have hNV : ∃ nv : Nat, nv = J + (vs.length - (J + 1)) := ⟨_, rfl⟩
            obtain ⟨nl, hNL⟩ := hNL
            obtain ⟨nv, hNV⟩ := hNV
            rw [← hNL] at oLn e12 e13 ⊢
            rw [← hNV] at oVn e13 e23 ⊢
            have HNL := hide hNL
            have HNV := hide hNV
            have hnl64 : nl ≤ 64 := by omega
            have hnv64 : nv ≤ 64 := by omega
            clear hNL hNV
            have j0_0 := j0.cell 0; have j0_f0 := j0.frozen 0; have j0_1 := j0.cell 1; have j0_f1 := j0.frozen 1; simp only [List.set_cons_zero, List.set_cons_succ, List.getElem?_cons_zero, List.getElem?_cons_succ] at j0_0 j0_1; have lt_j0 := j0.lt; have kX_0 := kX.cell 0; have kX_f0 := kX.frozen 0; have kX_1 := kX.cell 1; have kX_f1 := kX.frozen 1; simp only [List.set_cons_zero, List.set_cons_succ, List.getElem?_cons_zero, List.getElem?_cons_succ] at kX_0 kX_1; have lt_kX := kX.lt
            go_upto_region 33 with fail
            (try clear j0_0 j0_f0 j0_1 j0_f1 lt_j0) ; (try clear kX_0 kX_f0 kX_1 kX_f1 lt_kX)
            generalize hV : World.setCell (World.setCell u2 _ _) _ _ = w3
            have hb6 : Below w.heap.size w w3 := by subst hV; exact (hbs.setCell (by dsimp only; omega) _).setCell (by dsimp only; omega) _
            have j6 : Bk w3 S 30 (stC A7 l'.length c7 B7 f'.length d7) := by subst hV; exact (j0.set_ 0 _).set_ 1 _
            have s6 : StAt w3 (stV A7 l'.length c7 B7 f'.length d7) l' f' := by subst hV; exact ((s1.set1 (p := ⟨S, 0, none⟩) hSw _).set1 (p := ⟨S, 1, none⟩) hSw _).at_
            have p1 : w3.ownsRow (S + 1) 3 1 (.slice A9 nl c9) nl (ints (hs.take J ++ hs.drop (J + 1))) := by subst hV; refine own_far (own_far oLn ?_ _) ?_ _ <;> (dsimp only; omega)
            have p2 : w3.ownsRow (S + 1) 3 1 (.slice A2 al.length c2) al.length (ints al) := by subst hV; refine own_far (own_far oA ?_ _) ?_ _ <;> (dsimp only; omega)
            have p3 : w3.ownsRow (S + 1) 3 1 (.slice AV nv cap3) nv (ints (vs.take J ++ vs.drop (J + 1))) := by subst hV; refine own_far (own_far oVn ?_ _) ?_ _ <;> (dsimp only; omega)
            have HO6 := HN
            have hal6 : al.length ≤ k + 1 := by omega
            clear hV HN oLn oA oVn j0 kX s1 hbs
            (try generalize (if c1 = J + 1 then (_ : Option Addr) else _) = qa)
            (try generalize (if c3 = J + 1 then (_ : Option Addr) else _) = qb)
            (try generalize (if c1 = J + 1 then (_ : Addr) else _) = qa)
            (try generalize (if c3 = J + 1 then (_ : Addr) else _) = qb)
            have hlc : l'.length ≤ 1000 := by have := HO6.out.ok.n; omega
            have hfc : f'.length ≤ 1000 := hf'
            have hchk := HO6.out.ok.chk
            have hus : ((pHandles l' f').length : Int) = ((nl : Nat) : Int) := by rw [HO6.out.used, ← (show nl = (hs.take J ++ hs.drop (J + 1)).length by have := HNL.out; simp; omega)]
            have hLn : ((l'.length : Int) != 1 + (m0 : Int)) = false := by rw [bne_eq_false_iff_eq]; have := HO6.out.len; omega
            have hvn : nv = nl := by have := HO6.out.hlen; have e1 := (show nl = (hs.take J ++ hs.drop (J + 1)).length by have := HNL.out; simp; omega); have e2 := (show nv = (vs.take J ++ vs.drop (J + 1)).length by have := HNV.out; simp; omega); omega
            have hC := fun (W : World) s => pool_Check_st (stV A7 l'.length c7 B7 f'.length d7) l' f' W hlc hfc s hchk
            have hU := fun (W : World) s => (pool_Used_any (stV A7 l'.length c7 B7 f'.length d7) l' f' W hlc hfc s).lit (v' := .int .i64 ((nl : Nat) : Int)) (by rw [hus])
            have HUS := hide hus
            have HVN := hide hvn
            clear hus hvn hchk
            have j6_0 := j6.cell 0; have j6_f0 := j6.frozen 0; have j6_1 := j6.cell 1; have j6_f1 := j6.frozen 1; simp only [List.set_cons_zero, List.set_cons_succ, List.getElem?_cons_zero, List.getElem?_cons_succ] at j6_0 j6_1; have lt_j6 := j6.lt
            go_wp2_with fail
            refine (hC _ s6).mono ?_; rintro e v1 ⟨rfl, hv1⟩
            replace j6 := j6.step hv1; (try clear j6_0 j6_f0 j6_1 j6_f1); have j6_0 := j6.cell 0; have j6_f0 := j6.frozen 0; have j6_1 := j6.cell 1; have j6_f1 := j6.frozen 1; simp only [List.set_cons_zero, List.set_cons_succ, List.getElem?_cons_zero, List.getElem?_cons_succ] at j6_0 j6_1; (try clear lt_j6); have lt_j6 := j6.lt
            replace s6 := s6.step hv1; replace p1 := own_below p1 hv1 (Nat.le_refl _); replace p2 := own_below p2 hv1 (Nat.le_refl _); replace p3 := own_below p3 hv1 (Nat.le_refl _)
            replace hb6 : Below w.heap.size w v1 := hb6.step hv1
            clear hv1 hC
            go_wp2_with fail
            refine (hU _ s6).mono ?_; rintro e v2 ⟨rfl, hv2⟩
            replace j6 := j6.step hv2; (try clear j6_0 j6_f0 j6_1 j6_f1); have j6_0 := j6.cell 0; have j6_f0 := j6.frozen 0; have j6_1 := j6.cell 1; have j6_f1 := j6.frozen 1; simp only [List.set_cons_zero, List.set_cons_succ, List.getElem?_cons_zero, List.getElem?_cons_succ] at j6_0 j6_1; (try clear lt_j6); have lt_j6 := j6.lt
            replace s6 := s6.step hv2; replace p1 := own_below p1 hv2 (Nat.le_refl _); replace p2 := own_below p2 hv2 (Nat.le_refl _); replace p3 := own_below p3 hv2 (Nat.le_refl _)
            replace hb6 : Below w.heap.size w v2 := hb6.step hv2
            clear hv2 hU
            go_wp2_with fail
            (try clear j6_0 j6_f0 j6_1 j6_f1 lt_j6)
            go_loopw [22] (fun i wr => ∃ j : Nat, j ≤ nl ∧ i = .int .i64 j ∧ wr.ownsRow (S + 1) 3 1 (.slice A9 (nl) c9) (nl) (ints ((hs.take J ++ hs.drop (J + 1)))) ∧ wr.ownsRow (S + 1) 3 1 (.slice A2 (al.length) c2) (al.length) (ints (al)) ∧ wr.ownsRow (S + 1) 3 1 (.slice AV (nv) cap3) (nv) (ints ((vs.take J ++ vs.drop (J + 1)))) ∧ Bk wr S 30 (stC A7 l'.length c7 B7 f'.length d7) ∧ StAt wr (stV A7 l'.length c7 B7 f'.length d7) l' f' ∧ Below w.heap.size w wr) (fun i _ => nl - (intOf i).toNat)
            case atStart => exact ⟨0, Nat.zero_le _, rfl, p1, p2, p3, j6, s6, hb6⟩
            case round =>
              clear p1 p2 p3 j6 s6 hb6
              obtain ⟨j, hj, rfl, p1, p2, p3, j6, s6, hb6⟩ := hrel
              have j6_0 := j6.cell 0; have j6_f0 := j6.frozen 0; have j6_1 := j6.cell 1; have j6_f1 := j6.frozen 1; simp only [List.set_cons_zero, List.set_cons_succ, List.getElem?_cons_zero, List.getElem?_cons_succ] at j6_0 j6_1; have lt_j6 := j6.lt
              by_cases hjl : j < nl
              · obtain ⟨G1, pad1, e1, _, hG1c, b1⟩ := own_bk p1 (by omega)
                obtain ⟨G3, pad3, e3, _, hG3c, b3⟩ := own_bk p3 (by have := HVN.out; omega)
                have hjH : j < ((hs.take J ++ hs.drop (J + 1))).length := by have := (show nl = (hs.take J ++ hs.drop (J + 1)).length by have := HNL.out; simp; omega); omega
                obtain ⟨vv, hvv, hget⟩ := HO6.out.get hjH
                have x1 : wr.cell? ⟨G1, j, none⟩ = some (.int .i64 ((hs.take J ++ hs.drop (J + 1)))[j]) := by rw [b1.cell, List.getElem?_append_left (by simp only [List.length_map]; exact hjH), List.getElem?_map, List.getElem?_eq_getElem hjH]; rfl
                have x3 : wr.cell? ⟨G3, j, none⟩ = some (.int .i64 vv) := by
                  have hjV : j < ((vs.take J ++ vs.drop (J + 1))).length := (List.getElem?_eq_some_iff.1 hvv).1
                  rw [b3.cell, List.getElem?_append_left (by simp only [List.length_map]; exact hjV), List.getElem?_map, hvv]; rfl
                have hG := fun (W : World) s => pool_Get_any (stV A7 l'.length c7 B7 f'.length d7) l' f' ((hs.take J ++ hs.drop (J + 1)))[j] W hlc hfc (HO6.out.bound hjH) s
                rw [hget] at hG
                clear hget hvv
                generalize ((hs.take J ++ hs.drop (J + 1)))[j] = hh at *
                have y1 := b1.lt
                have y3 := b3.lt
                have i1 : (j : Int) < ((nl : Nat) : Int) := by omega
                have i3 : (j : Int) < ((nv : Nat) : Int) := by have := HVN.out; omega
                subst e1 e3
                go_upto_region 38 with fail
                (refine wp_region_qb (by kernel_rfl) (by kernel_rfl) (fun kq => ?_); (try dsimp only [List.append]); (repeat (go_big_quiet_step (((go_at_call 18; exact (hG _ (s6.step (below_regrown _ _ _))).qb))))); refine wpQuiet_nil ?_; intro wq hwq; have hbq := below_of_class hwq; clear hwq kq)
                replace j6 := j6.step hbq; (try clear j6_0 j6_f0 j6_1 j6_f1); have j6_0 := j6.cell 0; have j6_f0 := j6.frozen 0; have j6_1 := j6.cell 1; have j6_f1 := j6.frozen 1; simp only [List.set_cons_zero, List.set_cons_succ, List.getElem?_cons_zero, List.getElem?_cons_succ] at j6_0 j6_1; (try clear lt_j6); have lt_j6 := j6.lt
                replace s6 := s6.step hbq; replace p1 := own_below p1 hbq (Nat.le_refl _); replace p2 := own_below p2 hbq (Nat.le_refl _); replace p3 := own_below p3 hbq (Nat.le_refl _)
                replace hb6 : Below w.heap.size w wq := hb6.step hbq
                replace b3 := b3.step hbq
                have x3' : wq.cell? ⟨G3, j, none⟩ = some (.int .i64 vv) := (hbq.cell (p := ⟨G3, j, none⟩) y3).trans x3
                clear hbq x1 x3 hG
                go_wp2
                go_roundw
                case rel => exact ⟨j + 1, by omega, by go_num, p1, p2, p3, j6, s6, hb6⟩
                case measure => simp [intOf]; omega
              · go_wp2
                go_roundw
                case rel => exact ⟨k + 1, l', f', (hs.take J ++ hs.drop (J + 1)), (vs.take J ++ vs.drop (J + 1)), al, (qs.take J ++ qs.drop (J + 1)), A7, c7, B7, d7, A9, c9, A2, c2, AV, cap3, by omega, by go_num, by rw [(show nl = (hs.take J ++ hs.drop (J + 1)).length by have := HNL.out; simp; omega)], by rw [(rfl : al.length = al.length)], by rw [(show nv = (vs.take J ++ vs.drop (J + 1)).length by have := HNV.out; simp; omega)], HO6, hal6, by rw [← (show nl = (hs.take J ++ hs.drop (J + 1)).length by have := HNL.out; simp; omega)]; exact p1, by rw [← (rfl : al.length = al.length)]; exact p2, by rw [← (show nv = (vs.take J ++ vs.drop (J + 1)).length by have := HNV.out; simp; omega)]; exact p3, by rw [← (show nl = (hs.take J ++ hs.drop (J + 1)).length by have := HNL.out; simp; omega), ← (rfl : al.length = al.length)]; exact e12, by rw [← (show nl = (hs.take J ++ hs.drop (J + 1)).length by have := HNL.out; simp; omega), ← (show nv = (vs.take J ++ vs.drop (J + 1)).length by have := HNV.out; simp; omega)]; exact e13, by rw [← (rfl : al.length = al.length), ← (show nv = (vs.take J ++ vs.drop (J + 1)).length by have := HNV.out; simp; omega)]; exact e23, j6, s6, hb6⟩
                case measure => simp [intOf]; omega
      · have hle : (acts.length : Int) ≤ k := by omega
        go_wp2_with fail
        refine (awake03 _).mono ?_; rintro e x9 ⟨rfl, hx9⟩
        go_wp2
        go_ret
        exact ⟨rfl, hbr.step hx9⟩
  · have hgt : (150 : Int) < acts.length := by omega
    go_enter Try.func5, Try.ntmps5
    go_wp2_with fail
    refine (awake03 _).mono ?_; rintro e x9 ⟨rfl, hx9⟩
    go_wp2
    go_ret
    exact ⟨rfl, by (repeat (first | with_reducible exact Below.refl _ _ | with_reducible assumption | with_reducible refine Below.drew ?_ | with_reducible refine Below.drewN ?_ _ | with_reducible refine Below.alloc1 ?_ _ | with_reducible refine Below.setCell1 ?_ (by first | omega | (simp; done) | (simp; omega)) _ | with_reducible refine Below.step ?_ (by with_reducible assumption)))⟩
end Go.Proofs.Ytnmpighdkdffbaa
