/- The reference's wheel (callboyref15): Set. -/
import Derived.Test.YtbljiohdfjmhfaaRf15b
import Derived.Deep.RegionLawGrows
import Derived.Deep.DeepCutAuto
namespace Go.Proofs.Ytbljiohdfjmhfaa
open Go.RowKit Go.Sort Go.Maps
set_option linter.unusedSimpArgs false
set_option linter.unusedVariables false

theorem rowN {W w7 : World} {cs : List Value} {e : TypeId} (hg : (W.alloc (.cells cs.toArray e)).grownBy w7 none) : Rd w7 w7.heap.size (some ⟨W.heap.size, 0, none⟩) cs := by
  have h := (hg.block W.heap.size (by simp) (by simp)).trans (Bk.new W e cs)
  exact Bk.rd (t := e) h
theorem step_appR {P : Program} {w : World} {ops : Array Oper} {o : Oper} {a : Act} {K : Act → World → Prop} {Q : Exit → Act → World → Prop} {E : Prop} (hgd : o.guard = none) (s x : Operand) (t : TypeId)
    (ho : o.op = .call { callee := .builtin .append, args := #[s, x], argTypes := #[t, t] })
    (base : Nat) (e : TypeId) (i : TypeInfo) (z : Value) (size bytes : Nat) (ht : P.underlying t = some (.slice e)) (hi : P.info? e = some i) (hz : i.zero = some z)
    (hsize : i.size = size) (hby : i.bytes = bytes) (hzs : z.cells.size = size) (hsz : 0 < size)
    (A : Option Addr) (n c : Nat) (xs : List Value) (hs : a.eval s = .slice A n c) (hown : w.ownsRow base e size (.slice A n c) n xs)
    (X : Option Addr) (m c' : Nat) (news : List Value) (B : Nat) (hx : a.eval x = .slice X m c') (hl : news.length = m * size) (hnews : Rd w B X news) (h1 : ∀ u ∈ news, u.oneCell' = true)
    (h63 : n + m ≤ maxLen) (hbytes : (n + m) * bytes ≤ 140737488355328) (hbase : base ≤ w.heap.size)
    (h : ∀ A' cap w', w'.ownsRow base e size (.slice A' (n + m) cap) (n + m) (xs ++ news) → Below base w w' → w.grownBy w' (Value.slice A n c).ownBlock → K (a.put o.dst (.slice A' (n + m) cap)) w') :
    if Region.wanted o (yielded ops a.tmps) = true then Oper.wp P o a w K Q else E := by
  have hw : Region.wanted o (yielded ops a.tmps) = true := by simp [Region.wanted, hgd]
  rw [if_pos hw]
  rcases X with _ | ad
  · have hn : news = [] := Classical.byContradiction fun hne => by
      obtain ⟨ad, e, _⟩ := hnews hne
      cases e
    subst hn
    have hm : m = 0 := by
      rcases Nat.eq_zero_or_pos m with h | h
      · exact h
      · have := Nat.mul_pos h hsz; simp at hl; omega
    subst hm
    have hnc : n ≤ c := by
      rcases hown.2 with ⟨hv, hn⟩ | ⟨g, cap, cur, hv, _, _, hle, _⟩
      · omega
      · cases hv; exact hle
    have hrun := fun ty => run_append_nothing (P := P) w t t ty e i ht hi A n c hnc (.slice none 0 c') (Src.ofNil w ht c')
    unfold Oper.wp
    simp [execOp, ho, resolve, invoke, builtin, hs, hx, hrun, Result.andThen]
    exact h A c w (by simpa using hown) (Below.refl _ _) (Gr.refl w _)
  · refine wp_append_own w s x t ho base e i z size bytes ht hi hz hsize hby hzs hsz (.slice A n c) n xs hs hown ad m c' news hx hl ?_ h1 h63 hbytes hbase fun v' w' h2 h3 _ => ?_
    · intro j u hu
      obtain ⟨ad', e, _, hc⟩ := hnews (by rintro h0; rw [h0] at hu; simp at hu)
      injection e with e; subst e
      exact hc j u hu
    · obtain ⟨A', cap, rfl⟩ := own_form h2
      exact h A' cap w' h2 ((Below.refl base w).grown h3 hbase (fun k hk => (hown.lt k hk).1)) h3
theorem rw_Set_no (n : Nat) (now id t : Int) (A : Option Addr) (k c : Nat) (hno : setOk id t now = false) (w : World) :
    Calls Try.prog 18 #[rwV n now A k c, .int .i64 id, .int .i64 t] w fun e w' => e = .returned (.tuple #[rwV n now A k c, .int .i64 8]) ∧ Below w.heap.size w w' := by
  have cs : id < 0 ∨ (0 ≤ id ∧ 255 < id) ∨ (0 ≤ id ∧ id ≤ 255 ∧ t ≤ now) ∨ (0 ≤ id ∧ id ≤ 255 ∧ now < t ∧ 1099511627776 < t) := by
    simp [setOk] at hno
    omega
  clear hno
  rcases cs with q | ⟨q1, q2⟩ | ⟨q1, q2, q3⟩ | ⟨q1, q2, q3, q4⟩
  all_goals
    go_enter Try.func18, Try.ntmps18
    go_wp2
    exact bodyPost_ret (v := .tuple #[rwV n now A k c, .int .i64 8]) (by simp only [results, Try.results18]; go_simp) rfl ⟨rfl, by (repeat (first | with_reducible exact Below.refl _ _ | with_reducible assumption | with_reducible refine Below.drew ?_ | with_reducible refine Below.drewN ?_ _ | with_reducible refine Below.alloc1 ?_ _ | with_reducible refine Below.setCell1 ?_ (by first | omega | (simp; done) | (simp; omega)) _ | with_reducible refine Below.step ?_ (by with_reducible assumption)))⟩

set_option maxHeartbeats 4000000 in
set_option maxRecDepth 100000 in
theorem rw_Set (n : Nat) (now id t : Int) (A : Option Addr) (c : Nat) (l : IL) (hs : SoR l) (hl : l.length ≤ 900) (hok : setOk id t now = true) (w : World) (hA : Rd w w.heap.size A (duR l)) :
    Calls Try.prog 18 #[rwV n now A l.length c, .int .i64 id, .int .i64 t] w fun e w' => ∃ B d m, e = .returned (.tuple #[rwV n now B m.length d, .int .i64 0]) ∧ SoR m ∧ m.Perm ((id, t) :: dropK id l) ∧ m.length ≤ d ∧ d ≤ 9223372036854775807 ∧ Rd w' w'.heap.size B (duR m) ∧ Fr w.heap.size B ∧ Below w.heap.size w w' ∧ TyA w' 65 B := by
  obtain ⟨i0, hi0, hz0, hz1, hz2⟩ := info_parts rd_info
  have hS := fun W (hb : Below w.heap.size w W) => rw_Stop n now id A c l (by omega) W ((hA.below hb).more hb.size)
  have hsz : ∀ W, (sizeOf 65).run Try.prog W = .ok 2 W := fun W => by kernel_rfl
  have hel : Try.prog.elem 28 = 65 := by kernel_rfl
  have HO := hide (show SoR (dropK id l) from so_filter hs _)
  have HG := hide (dropK_gone id l)
  have hml : (dropK id l).length ≤ 900 := Nat.le_trans (List.length_filter_le _ _) hl
  simp only [setOk, Bool.and_eq_true, decide_eq_true_eq] at hok
  obtain ⟨⟨⟨q1, q2⟩, q3⟩, q4⟩ := hok
  clear hs hA
  generalize dropK id l = m at *
  go_enter Try.func18, Try.ntmps18
  go_wp2_with fail
  generalize hV : World.alloc (World.alloc w _) _ = w1
  have hb1 : Below w.heap.size w w1 := by subst hV; (repeat (first | with_reducible exact Below.refl _ _ | with_reducible assumption | with_reducible refine Below.drew ?_ | with_reducible refine Below.drewN ?_ _ | with_reducible refine Below.alloc1 ?_ _ | with_reducible refine Below.setCell1 ?_ (by first | omega | (simp; done) | (simp; omega)) _ | with_reducible refine Below.step ?_ (by with_reducible assumption)))
  have hs1 : w1.heap.size = w.heap.size + 1 + 1 := by subst hV; simp
  have k0 : Bk w1 w.heap.size 30 [.int .i64 n, .int .i64 now, .slice A l.length c] := by subst hV; (repeat (first | with_reducible exact Bk.new' _ _ _ _ (by simp; done) | with_reducible assumption | with_reducible refine Bk.alloc ?_ _ | with_reducible refine Bk.drew ?_ | with_reducible refine Bk.drewN ?_ _ | with_reducible refine Bk.step ?_ (by with_reducible assumption) | with_reducible refine Bk.far ?_ (by first | omega | (simp; done) | (simp; omega)) _))
  have k1 : Bk w1 (w.heap.size + 1) 30 [.int .i64 0, .int .i64 0, .slice none 0 0] := by subst hV; (repeat (first | with_reducible exact Bk.new' _ _ _ _ (by simp; done) | with_reducible assumption | with_reducible refine Bk.alloc ?_ _ | with_reducible refine Bk.drew ?_ | with_reducible refine Bk.drewN ?_ _ | with_reducible refine Bk.step ?_ (by with_reducible assumption) | with_reducible refine Bk.far ?_ (by first | omega | (simp; done) | (simp; omega)) _))
  clear hV
  refine (hS _ hb1).mono ?_
  rintro e w2 ⟨B, d, rfl, hd1, hd2, rB, fB, hx, _⟩
  clear hS
  replace k0 := k0.step hx
  replace k1 := k1.step hx
  replace hb1 := hb1.step hx
  have fA : ∀ ad, B = some ad → w.heap.size < ad.block := fun ad e => by have := fB ad e; omega
  replace fB : Fr w.heap.size B := fB.mono (by omega)
  clear hx hs1
  have k0_0 := k0.cell 0; have k0_f0 := k0.frozen 0; have k0_1 := k0.cell 1; have k0_f1 := k0.frozen 1; have k0_2 := k0.cell 2; have k0_f2 := k0.frozen 2; simp only [List.set_cons_zero, List.set_cons_succ, List.getElem?_cons_zero, List.getElem?_cons_succ] at k0_0 k0_1 k0_2; have lt_k0 := k0.lt; have k1_0 := k1.cell 0; have k1_f0 := k1.frozen 0; have k1_1 := k1.cell 1; have k1_f1 := k1.frozen 1; have k1_2 := k1.cell 2; have k1_f2 := k1.frozen 2; simp only [List.set_cons_zero, List.set_cons_succ, List.getElem?_cons_zero, List.getElem?_cons_succ] at k1_0 k1_1 k1_2; have lt_k1 := k1.lt
  go_wp2_with fail
  generalize hV : World.setCell _ _ _ = w3
  replace hb1 : Below w.heap.size w w3 := by subst hV; (repeat (first | with_reducible exact Below.refl _ _ | with_reducible assumption | with_reducible refine Below.drew ?_ | with_reducible refine Below.drewN ?_ _ | with_reducible refine Below.alloc1 ?_ _ | with_reducible refine Below.setCell1 ?_ (by first | omega | (simp; done) | (simp; omega)) _ | with_reducible refine Below.step ?_ (by with_reducible assumption)))
  have k3 : Bk w3 w.heap.size 30 [.int .i64 n, .int .i64 now, .slice B m.length d] := by subst hV; exact ((k0.set_ 0 _).set_ 1 _).set_ 2 _
  have k4 : Bk w3 (w.heap.size + 1) 30 [.int .i64 0, .int .i64 0, .slice none 0 0] := by subst hV; exact ((k1.far (by simp) _).far (by simp) _).far (by simp) _
  replace rB : Rd w3 w3.heap.size B (duR m) := by subst hV; exact ((rB.farA fA _).farA fA _).farA fA _
  (try clear k0_0 k0_f0 k0_1 k0_f1 k0_2 k0_f2 lt_k0) ; (try clear k1_0 k1_f0 k1_1 k1_f1 k1_2 k1_f2 lt_k1)
  clear hV k0 k1
  have hs3 := hb1.size
  have k3_0 := k3.cell 0; have k3_f0 := k3.frozen 0; have k3_1 := k3.cell 1; have k3_f1 := k3.frozen 1; have k3_2 := k3.cell 2; have k3_f2 := k3.frozen 2; simp only [List.set_cons_zero, List.set_cons_succ, List.getElem?_cons_zero, List.getElem?_cons_succ] at k3_0 k3_1 k3_2; have lt_k3 := k3.lt; have k4_0 := k4.cell 0; have k4_f0 := k4.frozen 0; have k4_1 := k4.cell 1; have k4_f1 := k4.frozen 1; have k4_2 := k4.cell 2; have k4_f2 := k4.frozen 2; simp only [List.set_cons_zero, List.set_cons_succ, List.getElem?_cons_zero, List.getElem?_cons_succ] at k4_0 k4_1 k4_2; have lt_k4 := k4.lt
  go_loopw [8] (fun i wr => ∃ k : Nat, k ≤ m.length ∧ i = .int .i64 k ∧ (∀ p ∈ m.take k, p.2 < t ∨ (p.2 = t ∧ p.1 < id)) ∧ wr = w3) (fun i _ => m.length - (intOf i).toNat)
  case atStart => exact ⟨0, Nat.zero_le _, rfl, by simp, rfl⟩
  case round =>
    obtain ⟨k, hk, rfl, hno, rfl⟩ := hrel
    have HN := hide hno
    clear hno
    by_cases hlt : k < m.length ∧ (m[k]!.2 < t ∨ (m[k]!.2 = t ∧ m[k]!.1 < id))
    · obtain ⟨hlt, hle⟩ := hlt
      obtain ⟨ad, rfl, hab, x0, x1⟩ := rB.du hlt
      have HS := hide (take_snocL m k hlt)
      rw [getElem!_pos m k hlt] at hle
      generalize m[k] = x at *
      obtain ⟨y1, y2⟩ := x
      simp only at x0 x1 hle
      have HL := hide hle
      rcases hle with hle | ⟨rfl, hle⟩
      all_goals
        go_wp2
        go_roundw
        case rel => exact ⟨k + 1, by omega, by go_num, by
          rw [HS.out]
          intro p hp
          rcases List.mem_append.1 hp with hp | hp
          · exact HN.out p hp
          · simp only [List.mem_singleton] at hp; subst hp; exact HL.out, by first | rfl | trivial⟩
        case measure => simp [intOf]; omega
    · have HK : Hid (k = m.length ∨ ∃ h : k < m.length, ¬ (m[k].2 < t ∨ (m[k].2 = t ∧ m[k].1 < id))) := by
        unfold Hid
        by_cases h : k < m.length
        · refine .inr ⟨h, fun c => hlt ⟨h, ?_⟩⟩
          rw [getElem!_pos m k h]
          exact c
        · exact .inl (by omega)
      have HP := hide (so_ins HO.out id t HG.out HN.out HK.out)
      obtain ⟨st1, st2⟩ := to_runA Try.underlying28 hel hsz B k m.length d (k : Int) rfl (by omega)
      obtain ⟨A2, hA2, hF2, sf1, sf2⟩ := from_runF Try.underlying28 hel hsz B k m.length d hk hd1
      clear hsz hel
      have hways : (∃ h : k < m.length, t < m[k].2) ∨ (∃ h : k < m.length, m[k].2 = t ∧ id < m[k].1) ∨ k = m.length := by
        rcases HK.out with e | ⟨h, e⟩
        · exact .inr (.inr e)
        · have := HG.out m[k] (List.getElem_mem h)
          by_cases hc : t < m[k].2
          · exact .inl ⟨h, hc⟩
          · exact .inr (.inl ⟨h, by omega, by omega⟩)
      clear hlt HK
      rcases hways with ⟨hkl, hgt⟩ | ⟨hkl, het, hgt⟩ | hke
      · obtain ⟨ad, rfl, hab, x0, x1⟩ := rB.du hkl
        generalize m[k] = x at *
        obtain ⟨y1, y2⟩ := x
        simp only at x0 x1 hgt
        go_upto_region 8 with fail
        clear x0 x1 hab
        have hRt := hide (fun W (h : Below wr.heap.size wr W) => show Rd W wr.heap.size (some ad) (duR (m.take k)) by rw [← duR_take]; exact (rB.below h).take _)
        have hRd := hide (fun W (h : Below wr.heap.size wr W) => show Rd W wr.heap.size A2 (duR (m.drop k)) by rw [← duR_drop]; exact hA2 _ _ _ (rB.below h) (by rw [duR_length]; omega))
        have hlt1 := hide (show (duR (m.take k)).length = k * 2 by rw [duR_length, List.length_take]; omega)
        have hld1 := hide (show (duR (m.drop k)).length = (m.length - k) * 2 by rw [duR_length, List.length_drop]; omega)
        clear hA2 rB
        go_upto_region 8 with fail
        go_region_law (first
          | (refine step_appR rfl (.tmp 70) (.tmp 74) 28 rfl wr.heap.size 65 i0 _ 2 16 Try.underlying28 hi0 hz0 hz1 hz2 rfl (by omega) none 0 0 [] (by simp [Act.eval, Act.put]) (World.ownsRow_nil _ _ _ _) (some ad) k d (duR (m.take k)) wr.heap.size (by simp [Act.eval, Act.put]) hlt1.out (hRt.out _ (by (repeat (first | with_reducible exact Below.refl _ _ | with_reducible assumption | with_reducible refine Below.drew ?_ | with_reducible refine Below.drewN ?_ _ | with_reducible refine Below.alloc1 ?_ _ | with_reducible refine Below.setCell1 ?_ (by first | omega | (simp; done) | (simp; omega)) _ | with_reducible refine Below.step ?_ (by with_reducible assumption))))) (duR_one _) (by unfold maxLen; omega) (by omega) (by simp) ?_; intro A7 cap7 w7 own7 hb7 hg7; (have hz7 : Below wr.heap.size wr w7 := Below.trans (by (repeat (first | with_reducible exact Below.refl _ _ | with_reducible assumption | with_reducible refine Below.drew ?_ | with_reducible refine Below.drewN ?_ _ | with_reducible refine Below.alloc1 ?_ _ | with_reducible refine Below.setCell1 ?_ (by first | omega | (simp; done) | (simp; omega)) _ | with_reducible refine Below.step ?_ (by with_reducible assumption)))) hb7); (have k37 := k3.step hz7); have k37_0 := k37.cell 0; have k37_f0 := k37.frozen 0; have k37_1 := k37.cell 1; have k37_f1 := k37.frozen 1; have k37_2 := k37.cell 2; have k37_f2 := k37.frozen 2; simp only [List.set_cons_zero, List.set_cons_succ, List.getElem?_cons_zero, List.getElem?_cons_succ] at k37_0 k37_1 k37_2; have lt_k37 := k37.lt; (have own7z : w7.ownsRow wr.heap.size 65 2 (.slice A7 k cap7) k (duR (m.take k)) := by simpa using own7); (try have rB7 := rowN (W := wr.drew) (cs := duC (id, t)) (e := 65) hg7))
          | (refine step_appR rfl (.tmp 75) (.tmp 79) 28 rfl wr.heap.size 65 i0 _ 2 16 Try.underlying28 hi0 hz0 hz1 hz2 rfl (by omega) A7 k cap7 (duR (m.take k)) (by simp [Act.eval, Act.put]) own7z (some ⟨wr.heap.size, 0, none⟩) 1 1 (duC (id, t)) w7.heap.size (by simp [Act.eval, Act.put]) rfl rB7 (by simp [Value.oneCell']) (by unfold maxLen; omega) (by omega) (by have := hz7.size; omega) ?_; intro A8 cap8 w8 own8 hb8 hg8; (have hz8 : Below wr.heap.size wr w8 := hz7.trans hb8); (have k38 := k3.step hz8); have k38_0 := k38.cell 0; have k38_f0 := k38.frozen 0; have k38_1 := k38.cell 1; have k38_f1 := k38.frozen 1; have k38_2 := k38.cell 2; have k38_f2 := k38.frozen 2; simp only [List.set_cons_zero, List.set_cons_succ, List.getElem?_cons_zero, List.getElem?_cons_succ] at k38_0 k38_1 k38_2; have lt_k38 := k38.lt)
          | (refine step_appR rfl (.tmp 75) (.tmp 79) 28 rfl wr.heap.size 65 i0 _ 2 16 Try.underlying28 hi0 hz0 hz1 hz2 rfl (by omega) A7 k cap7 (duR (m.take k)) (by simp [Act.eval, Act.put]) (own7z.alloc _) (some ⟨w7.heap.size, 0, none⟩) 1 1 (duC (id, t)) (w7.heap.size + 1) (by simp [Act.eval, Act.put]) rfl ((Bk.new w7 65 (duC (id, t))).rd.more (by simp)) (by simp [Value.oneCell']) (by unfold maxLen; omega) (by omega) (by have := hz7.size; simp; omega) ?_; intro A8 cap8 w8 own8 hb8 hg8; (have hz8 : Below wr.heap.size wr w8 := (hz7.alloc1 _).trans hb8); (have k38 := k3.step hz8); have k38_0 := k38.cell 0; have k38_f0 := k38.frozen 0; have k38_1 := k38.cell 1; have k38_f1 := k38.frozen 1; have k38_2 := k38.cell 2; have k38_f2 := k38.frozen 2; simp only [List.set_cons_zero, List.set_cons_succ, List.getElem?_cons_zero, List.getElem?_cons_succ] at k38_0 k38_1 k38_2; have lt_k38 := k38.lt)
          | (refine step_appR rfl (.tmp 80) (.tmp 84) 28 rfl wr.heap.size 65 i0 _ 2 16 Try.underlying28 hi0 hz0 hz1 hz2 rfl (by omega) A8 (k + 1) cap8 (duR (m.take k) ++ duC (id, t)) (by simp [Act.eval, Act.put]) own8 A2 (m.length - k) (d - k) (duR (m.drop k)) wr.heap.size (by simp [Act.eval, Act.put]) hld1.out (hRd.out _ hz8) (duR_one _) (by unfold maxLen; omega) (by omega) (by have := hz8.size; omega) ?_; intro A9 cap9 w9 own9 hb9 hg9; (have hz9 : Below wr.heap.size wr w9 := hz8.trans hb9); (have k39 := k3.step hz9); (have k49 := k4.step hz9); have k39_0 := k39.cell 0; have k39_f0 := k39.frozen 0; have k39_1 := k39.cell 1; have k39_f1 := k39.frozen 1; have k39_2 := k39.cell 2; have k39_f2 := k39.frozen 2; simp only [List.set_cons_zero, List.set_cons_succ, List.getElem?_cons_zero, List.getElem?_cons_succ] at k39_0 k39_1 k39_2; have lt_k39 := k39.lt; have k49_0 := k49.cell 0; have k49_f0 := k49.frozen 0; have k49_1 := k49.cell 1; have k49_f1 := k49.frozen 1; have k49_2 := k49.cell 2; have k49_f2 := k49.frozen 2; simp only [List.set_cons_zero, List.set_cons_succ, List.getElem?_cons_zero, List.getElem?_cons_succ] at k49_0 k49_1 k49_2; have lt_k49 := k49.lt))
        all_goals
          go_wp2
          refine bodyPost_ret (v := .tuple #[rwV n now A9 (k + 1 + (m.length - k)) cap9, .int .i64 0]) (by simp only [results, Try.results18]; go_simp) rfl ?_
          have hcap := own_capR own9
          have hlen : (m.take k ++ (id, t) :: m.drop k).length = k + 1 + (m.length - k) := by simp only [List.length_append, List.length_take, List.length_cons, List.length_drop]; omega
          have hrow : duR (m.take k ++ (id, t) :: m.drop k) = duR (m.take k) ++ duC (id, t) ++ duR (m.drop k) := by simp [duR]
          refine ⟨A9, cap9, m.take k ++ (id, t) :: m.drop k, by rw [hlen], HP.out.1, HP.out.2, by rw [hlen]; exact hcap.1, hcap.2, ?_, fun ad e => by have := own_fr own9 ad e; omega, ?_, ?_⟩
          · rw [hrow]
            refine own_rd (base := wr.heap.size) (e := 65) (size := 2) (n := k + 1 + (m.length - k)) (c := cap9) ?_
            repeat (refine own_far ?_ (by first | omega | (simp; done) | (simp; omega)) _)
            exact own9
          · have hbe := hb1.step hz9
            (repeat (first | with_reducible exact Below.refl _ _ | with_reducible assumption | with_reducible refine Below.drew ?_ | with_reducible refine Below.drewN ?_ _ | with_reducible refine Below.alloc1 ?_ _ | with_reducible refine Below.setCell1 ?_ (by first | omega | (simp; done) | (simp; omega)) _ | with_reducible refine Below.step ?_ (by with_reducible assumption)))
          · repeat (refine TyA.setc ?_ _ _)
            exact own_ty own9
      · obtain ⟨ad, rfl, hab, x0, x1⟩ := rB.du hkl
        generalize m[k] = x at *
        obtain ⟨y1, y2⟩ := x
        simp only at x0 x1 hgt het
        rw [het] at x1
        clear het
        go_upto_region 8 with fail
        clear x0 x1 hab
        have hRt := hide (fun W (h : Below wr.heap.size wr W) => show Rd W wr.heap.size (some ad) (duR (m.take k)) by rw [← duR_take]; exact (rB.below h).take _)
        have hRd := hide (fun W (h : Below wr.heap.size wr W) => show Rd W wr.heap.size A2 (duR (m.drop k)) by rw [← duR_drop]; exact hA2 _ _ _ (rB.below h) (by rw [duR_length]; omega))
        have hlt1 := hide (show (duR (m.take k)).length = k * 2 by rw [duR_length, List.length_take]; omega)
        have hld1 := hide (show (duR (m.drop k)).length = (m.length - k) * 2 by rw [duR_length, List.length_drop]; omega)
        clear hA2 rB
        go_upto_region 8 with fail
        go_region_law (first
          | (refine step_appR rfl (.tmp 70) (.tmp 74) 28 rfl wr.heap.size 65 i0 _ 2 16 Try.underlying28 hi0 hz0 hz1 hz2 rfl (by omega) none 0 0 [] (by simp [Act.eval, Act.put]) (World.ownsRow_nil _ _ _ _) (some ad) k d (duR (m.take k)) wr.heap.size (by simp [Act.eval, Act.put]) hlt1.out (hRt.out _ (by (repeat (first | with_reducible exact Below.refl _ _ | with_reducible assumption | with_reducible refine Below.drew ?_ | with_reducible refine Below.drewN ?_ _ | with_reducible refine Below.alloc1 ?_ _ | with_reducible refine Below.setCell1 ?_ (by first | omega | (simp; done) | (simp; omega)) _ | with_reducible refine Below.step ?_ (by with_reducible assumption))))) (duR_one _) (by unfold maxLen; omega) (by omega) (by simp) ?_; intro A7 cap7 w7 own7 hb7 hg7; (have hz7 : Below wr.heap.size wr w7 := Below.trans (by (repeat (first | with_reducible exact Below.refl _ _ | with_reducible assumption | with_reducible refine Below.drew ?_ | with_reducible refine Below.drewN ?_ _ | with_reducible refine Below.alloc1 ?_ _ | with_reducible refine Below.setCell1 ?_ (by first | omega | (simp; done) | (simp; omega)) _ | with_reducible refine Below.step ?_ (by with_reducible assumption)))) hb7); (have k37 := k3.step hz7); have k37_0 := k37.cell 0; have k37_f0 := k37.frozen 0; have k37_1 := k37.cell 1; have k37_f1 := k37.frozen 1; have k37_2 := k37.cell 2; have k37_f2 := k37.frozen 2; simp only [List.set_cons_zero, List.set_cons_succ, List.getElem?_cons_zero, List.getElem?_cons_succ] at k37_0 k37_1 k37_2; have lt_k37 := k37.lt; (have own7z : w7.ownsRow wr.heap.size 65 2 (.slice A7 k cap7) k (duR (m.take k)) := by simpa using own7); (try have rB7 := rowN (W := wr.drew) (cs := duC (id, t)) (e := 65) hg7))
          | (refine step_appR rfl (.tmp 75) (.tmp 79) 28 rfl wr.heap.size 65 i0 _ 2 16 Try.underlying28 hi0 hz0 hz1 hz2 rfl (by omega) A7 k cap7 (duR (m.take k)) (by simp [Act.eval, Act.put]) own7z (some ⟨wr.heap.size, 0, none⟩) 1 1 (duC (id, t)) w7.heap.size (by simp [Act.eval, Act.put]) rfl rB7 (by simp [Value.oneCell']) (by unfold maxLen; omega) (by omega) (by have := hz7.size; omega) ?_; intro A8 cap8 w8 own8 hb8 hg8; (have hz8 : Below wr.heap.size wr w8 := hz7.trans hb8); (have k38 := k3.step hz8); have k38_0 := k38.cell 0; have k38_f0 := k38.frozen 0; have k38_1 := k38.cell 1; have k38_f1 := k38.frozen 1; have k38_2 := k38.cell 2; have k38_f2 := k38.frozen 2; simp only [List.set_cons_zero, List.set_cons_succ, List.getElem?_cons_zero, List.getElem?_cons_succ] at k38_0 k38_1 k38_2; have lt_k38 := k38.lt)
          | (refine step_appR rfl (.tmp 75) (.tmp 79) 28 rfl wr.heap.size 65 i0 _ 2 16 Try.underlying28 hi0 hz0 hz1 hz2 rfl (by omega) A7 k cap7 (duR (m.take k)) (by simp [Act.eval, Act.put]) (own7z.alloc _) (some ⟨w7.heap.size, 0, none⟩) 1 1 (duC (id, t)) (w7.heap.size + 1) (by simp [Act.eval, Act.put]) rfl ((Bk.new w7 65 (duC (id, t))).rd.more (by simp)) (by simp [Value.oneCell']) (by unfold maxLen; omega) (by omega) (by have := hz7.size; simp; omega) ?_; intro A8 cap8 w8 own8 hb8 hg8; (have hz8 : Below wr.heap.size wr w8 := (hz7.alloc1 _).trans hb8); (have k38 := k3.step hz8); have k38_0 := k38.cell 0; have k38_f0 := k38.frozen 0; have k38_1 := k38.cell 1; have k38_f1 := k38.frozen 1; have k38_2 := k38.cell 2; have k38_f2 := k38.frozen 2; simp only [List.set_cons_zero, List.set_cons_succ, List.getElem?_cons_zero, List.getElem?_cons_succ] at k38_0 k38_1 k38_2; have lt_k38 := k38.lt)
          | (refine step_appR rfl (.tmp 80) (.tmp 84) 28 rfl wr.heap.size 65 i0 _ 2 16 Try.underlying28 hi0 hz0 hz1 hz2 rfl (by omega) A8 (k + 1) cap8 (duR (m.take k) ++ duC (id, t)) (by simp [Act.eval, Act.put]) own8 A2 (m.length - k) (d - k) (duR (m.drop k)) wr.heap.size (by simp [Act.eval, Act.put]) hld1.out (hRd.out _ hz8) (duR_one _) (by unfold maxLen; omega) (by omega) (by have := hz8.size; omega) ?_; intro A9 cap9 w9 own9 hb9 hg9; (have hz9 : Below wr.heap.size wr w9 := hz8.trans hb9); (have k39 := k3.step hz9); (have k49 := k4.step hz9); have k39_0 := k39.cell 0; have k39_f0 := k39.frozen 0; have k39_1 := k39.cell 1; have k39_f1 := k39.frozen 1; have k39_2 := k39.cell 2; have k39_f2 := k39.frozen 2; simp only [List.set_cons_zero, List.set_cons_succ, List.getElem?_cons_zero, List.getElem?_cons_succ] at k39_0 k39_1 k39_2; have lt_k39 := k39.lt; have k49_0 := k49.cell 0; have k49_f0 := k49.frozen 0; have k49_1 := k49.cell 1; have k49_f1 := k49.frozen 1; have k49_2 := k49.cell 2; have k49_f2 := k49.frozen 2; simp only [List.set_cons_zero, List.set_cons_succ, List.getElem?_cons_zero, List.getElem?_cons_succ] at k49_0 k49_1 k49_2; have lt_k49 := k49.lt))
        all_goals
          go_wp2
          refine bodyPost_ret (v := .tuple #[rwV n now A9 (k + 1 + (m.length - k)) cap9, .int .i64 0]) (by simp only [results, Try.results18]; go_simp) rfl ?_
          have hcap := own_capR own9
          have hlen : (m.take k ++ (id, t) :: m.drop k).length = k + 1 + (m.length - k) := by simp only [List.length_append, List.length_take, List.length_cons, List.length_drop]; omega
          have hrow : duR (m.take k ++ (id, t) :: m.drop k) = duR (m.take k) ++ duC (id, t) ++ duR (m.drop k) := by simp [duR]
          refine ⟨A9, cap9, m.take k ++ (id, t) :: m.drop k, by rw [hlen], HP.out.1, HP.out.2, by rw [hlen]; exact hcap.1, hcap.2, ?_, fun ad e => by have := own_fr own9 ad e; omega, ?_, ?_⟩
          · rw [hrow]
            refine own_rd (base := wr.heap.size) (e := 65) (size := 2) (n := k + 1 + (m.length - k)) (c := cap9) ?_
            repeat (refine own_far ?_ (by first | omega | (simp; done) | (simp; omega)) _)
            exact own9
          · have hbe := hb1.step hz9
            (repeat (first | with_reducible exact Below.refl _ _ | with_reducible assumption | with_reducible refine Below.drew ?_ | with_reducible refine Below.drewN ?_ _ | with_reducible refine Below.alloc1 ?_ _ | with_reducible refine Below.setCell1 ?_ (by first | omega | (simp; done) | (simp; omega)) _ | with_reducible refine Below.step ?_ (by with_reducible assumption)))
          · repeat (refine TyA.setc ?_ _ _)
            exact own_ty own9
      · have hkn : ¬ (k : Int) < (m.length : Int) := by omega
        clear hke
        go_upto_region 8 with fail
        have hRt := hide (fun W (h : Below wr.heap.size wr W) => show Rd W wr.heap.size B (duR (m.take k)) by rw [← duR_take]; exact (rB.below h).take _)
        have hRd := hide (fun W (h : Below wr.heap.size wr W) => show Rd W wr.heap.size A2 (duR (m.drop k)) by rw [← duR_drop]; exact hA2 _ _ _ (rB.below h) (by rw [duR_length]; omega))
        have hlt1 := hide (show (duR (m.take k)).length = k * 2 by rw [duR_length, List.length_take]; omega)
        have hld1 := hide (show (duR (m.drop k)).length = (m.length - k) * 2 by rw [duR_length, List.length_drop]; omega)
        clear hA2 rB
        go_upto_region 8 with fail
        go_region_law (first
          | (refine step_appR rfl (.tmp 70) (.tmp 74) 28 rfl wr.heap.size 65 i0 _ 2 16 Try.underlying28 hi0 hz0 hz1 hz2 rfl (by omega) none 0 0 [] (by simp [Act.eval, Act.put]) (World.ownsRow_nil _ _ _ _) B k d (duR (m.take k)) wr.heap.size (by simp [Act.eval, Act.put]) hlt1.out (hRt.out _ (by (repeat (first | with_reducible exact Below.refl _ _ | with_reducible assumption | with_reducible refine Below.drew ?_ | with_reducible refine Below.drewN ?_ _ | with_reducible refine Below.alloc1 ?_ _ | with_reducible refine Below.setCell1 ?_ (by first | omega | (simp; done) | (simp; omega)) _ | with_reducible refine Below.step ?_ (by with_reducible assumption))))) (duR_one _) (by unfold maxLen; omega) (by omega) (by simp) ?_; intro A7 cap7 w7 own7 hb7 hg7; (have hz7 : Below wr.heap.size wr w7 := Below.trans (by (repeat (first | with_reducible exact Below.refl _ _ | with_reducible assumption | with_reducible refine Below.drew ?_ | with_reducible refine Below.drewN ?_ _ | with_reducible refine Below.alloc1 ?_ _ | with_reducible refine Below.setCell1 ?_ (by first | omega | (simp; done) | (simp; omega)) _ | with_reducible refine Below.step ?_ (by with_reducible assumption)))) hb7); (have k37 := k3.step hz7); have k37_0 := k37.cell 0; have k37_f0 := k37.frozen 0; have k37_1 := k37.cell 1; have k37_f1 := k37.frozen 1; have k37_2 := k37.cell 2; have k37_f2 := k37.frozen 2; simp only [List.set_cons_zero, List.set_cons_succ, List.getElem?_cons_zero, List.getElem?_cons_succ] at k37_0 k37_1 k37_2; have lt_k37 := k37.lt; (have own7z : w7.ownsRow wr.heap.size 65 2 (.slice A7 k cap7) k (duR (m.take k)) := by simpa using own7); (try have rB7 := rowN (W := wr.drew) (cs := duC (id, t)) (e := 65) hg7))
          | (refine step_appR rfl (.tmp 75) (.tmp 79) 28 rfl wr.heap.size 65 i0 _ 2 16 Try.underlying28 hi0 hz0 hz1 hz2 rfl (by omega) A7 k cap7 (duR (m.take k)) (by simp [Act.eval, Act.put]) own7z (some ⟨wr.heap.size, 0, none⟩) 1 1 (duC (id, t)) w7.heap.size (by simp [Act.eval, Act.put]) rfl rB7 (by simp [Value.oneCell']) (by unfold maxLen; omega) (by omega) (by have := hz7.size; omega) ?_; intro A8 cap8 w8 own8 hb8 hg8; (have hz8 : Below wr.heap.size wr w8 := hz7.trans hb8); (have k38 := k3.step hz8); have k38_0 := k38.cell 0; have k38_f0 := k38.frozen 0; have k38_1 := k38.cell 1; have k38_f1 := k38.frozen 1; have k38_2 := k38.cell 2; have k38_f2 := k38.frozen 2; simp only [List.set_cons_zero, List.set_cons_succ, List.getElem?_cons_zero, List.getElem?_cons_succ] at k38_0 k38_1 k38_2; have lt_k38 := k38.lt)
          | (refine step_appR rfl (.tmp 75) (.tmp 79) 28 rfl wr.heap.size 65 i0 _ 2 16 Try.underlying28 hi0 hz0 hz1 hz2 rfl (by omega) A7 k cap7 (duR (m.take k)) (by simp [Act.eval, Act.put]) (own7z.alloc _) (some ⟨w7.heap.size, 0, none⟩) 1 1 (duC (id, t)) (w7.heap.size + 1) (by simp [Act.eval, Act.put]) rfl ((Bk.new w7 65 (duC (id, t))).rd.more (by simp)) (by simp [Value.oneCell']) (by unfold maxLen; omega) (by omega) (by have := hz7.size; simp; omega) ?_; intro A8 cap8 w8 own8 hb8 hg8; (have hz8 : Below wr.heap.size wr w8 := (hz7.alloc1 _).trans hb8); (have k38 := k3.step hz8); have k38_0 := k38.cell 0; have k38_f0 := k38.frozen 0; have k38_1 := k38.cell 1; have k38_f1 := k38.frozen 1; have k38_2 := k38.cell 2; have k38_f2 := k38.frozen 2; simp only [List.set_cons_zero, List.set_cons_succ, List.getElem?_cons_zero, List.getElem?_cons_succ] at k38_0 k38_1 k38_2; have lt_k38 := k38.lt)
          | (refine step_appR rfl (.tmp 80) (.tmp 84) 28 rfl wr.heap.size 65 i0 _ 2 16 Try.underlying28 hi0 hz0 hz1 hz2 rfl (by omega) A8 (k + 1) cap8 (duR (m.take k) ++ duC (id, t)) (by simp [Act.eval, Act.put]) own8 A2 (m.length - k) (d - k) (duR (m.drop k)) wr.heap.size (by simp [Act.eval, Act.put]) hld1.out (hRd.out _ hz8) (duR_one _) (by unfold maxLen; omega) (by omega) (by have := hz8.size; omega) ?_; intro A9 cap9 w9 own9 hb9 hg9; (have hz9 : Below wr.heap.size wr w9 := hz8.trans hb9); (have k39 := k3.step hz9); (have k49 := k4.step hz9); have k39_0 := k39.cell 0; have k39_f0 := k39.frozen 0; have k39_1 := k39.cell 1; have k39_f1 := k39.frozen 1; have k39_2 := k39.cell 2; have k39_f2 := k39.frozen 2; simp only [List.set_cons_zero, List.set_cons_succ, List.getElem?_cons_zero, List.getElem?_cons_succ] at k39_0 k39_1 k39_2; have lt_k39 := k39.lt; have k49_0 := k49.cell 0; have k49_f0 := k49.frozen 0; have k49_1 := k49.cell 1; have k49_f1 := k49.frozen 1; have k49_2 := k49.cell 2; have k49_f2 := k49.frozen 2; simp only [List.set_cons_zero, List.set_cons_succ, List.getElem?_cons_zero, List.getElem?_cons_succ] at k49_0 k49_1 k49_2; have lt_k49 := k49.lt))
        all_goals
          go_wp2
          refine bodyPost_ret (v := .tuple #[rwV n now A9 (k + 1 + (m.length - k)) cap9, .int .i64 0]) (by simp only [results, Try.results18]; go_simp) rfl ?_
          have hcap := own_capR own9
          have hlen : (m.take k ++ (id, t) :: m.drop k).length = k + 1 + (m.length - k) := by simp only [List.length_append, List.length_take, List.length_cons, List.length_drop]; omega
          have hrow : duR (m.take k ++ (id, t) :: m.drop k) = duR (m.take k) ++ duC (id, t) ++ duR (m.drop k) := by simp [duR]
          refine ⟨A9, cap9, m.take k ++ (id, t) :: m.drop k, by rw [hlen], HP.out.1, HP.out.2, by rw [hlen]; exact hcap.1, hcap.2, ?_, fun ad e => by have := own_fr own9 ad e; omega, ?_, ?_⟩
          · rw [hrow]
            refine own_rd (base := wr.heap.size) (e := 65) (size := 2) (n := k + 1 + (m.length - k)) (c := cap9) ?_
            repeat (refine own_far ?_ (by first | omega | (simp; done) | (simp; omega)) _)
            exact own9
          · have hbe := hb1.step hz9
            (repeat (first | with_reducible exact Below.refl _ _ | with_reducible assumption | with_reducible refine Below.drew ?_ | with_reducible refine Below.drewN ?_ _ | with_reducible refine Below.alloc1 ?_ _ | with_reducible refine Below.setCell1 ?_ (by first | omega | (simp; done) | (simp; omega)) _ | with_reducible refine Below.step ?_ (by with_reducible assumption)))
          · repeat (refine TyA.setc ?_ _ _)
            exact own_ty own9
end Go.Proofs.Ytbljiohdfjmhfaa
