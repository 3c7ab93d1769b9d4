/- Package config: Print. -/
import Derived.Test.YtfbllioegeadfaaDoorCf8
namespace Go.Proofs.YtfbllioegeadfaaDoor
open Go.RowKit Go.Shelf
attribute [local go_sem] Oper.semAt_some
set_option linter.unusedSimpArgs false
set_option linter.unusedVariables false

theorem nm_at (c : CC) (s j : Nat) (hs : s < 12) (hj : j < cntN s) : ∃ n, (nmS (rowL c) s)[j]? = some n ∧ c.C[offN s + j]? = some (.int .i64 n) := by
  match s, hs, j, hj with
  | 0, _, 0, _ => exact ⟨_, rfl, rfl⟩ | 1, _, 0, _ => exact ⟨_, rfl, rfl⟩ | 2, _, 0, _ => exact ⟨_, rfl, rfl⟩ | 3, _, 0, _ => exact ⟨_, rfl, rfl⟩ | 4, _, 0, _ => exact ⟨_, rfl, rfl⟩ | 5, _, 0, _ => exact ⟨_, rfl, rfl⟩ | 5, _, 1, _ => exact ⟨_, rfl, rfl⟩ | 6, _, 0, _ => exact ⟨_, rfl, rfl⟩ | 6, _, 1, _ => exact ⟨_, rfl, rfl⟩ | 7, _, 0, _ => exact ⟨_, rfl, rfl⟩ | 7, _, 1, _ => exact ⟨_, rfl, rfl⟩ | 7, _, 2, _ => exact ⟨_, rfl, rfl⟩ | 8, _, 0, _ => exact ⟨_, rfl, rfl⟩ | 8, _, 1, _ => exact ⟨_, rfl, rfl⟩ | 8, _, 2, _ => exact ⟨_, rfl, rfl⟩ | 9, _, 0, _ => exact ⟨_, rfl, rfl⟩ | 10, _, 0, _ => exact ⟨_, rfl, rfl⟩ | 10, _, 1, _ => exact ⟨_, rfl, rfl⟩ | 10, _, 2, _ => exact ⟨_, rfl, rfl⟩ | 10, _, 3, _ => exact ⟨_, rfl, rfl⟩ | 11, _, 0, _ => exact ⟨_, rfl, rfl⟩ | 11, _, 1, _ => exact ⟨_, rfl, rfl⟩ | 11, _, 2, _ => exact ⟨_, rfl, rfl⟩ | 11, _, 3, _ => exact ⟨_, rfl, rfl⟩
theorem nm_len (c : CC) (s : Nat) (hs : s < 12) : (nmS (rowL c) s).length = cntN s := by
  match s, hs with
  | 0, _ => rfl | 1, _ => rfl | 2, _ => rfl | 3, _ => rfl | 4, _ => rfl | 5, _ => rfl | 6, _ => rfl | 7, _ => rfl | 8, _ => rfl | 9, _ => rfl | 10, _ => rfl | 11, _ => rfl
theorem nm_mem {c : CC} {s : Nat} {n : Int} (h : n ∈ nmS (rowL c) s) : n ∈ rowL c := List.mem_of_mem_drop (List.mem_of_mem_take h)
theorem jn_len (c : UInt8) (m : Nat) : ∀ l : List Tx, (∀ x ∈ l, x.length ≤ m) → (jn c l).length ≤ l.length * (m + 1)
  | [], _ => by simp [jn]
  | [x], h => by have := h x (by simp); simp [jn]; omega
  | x :: y :: r, h => by
    have h1 := jn_len c m (y :: r) (fun z hz => h z (by simp [hz]))
    have h2 := h x (by simp)
    rw [jn_cons c x (y :: r) (by simp), List.length_append, List.length_cons]
    simp only [List.length_cons] at h1 ⊢
    rw [Nat.add_mul (r.length + 1) 1]
    omega
theorem dg_len {n : Int} (h0 : 0 ≤ n) (h : n < 10000000) : (dg n).length ≤ 7 := (dec_facts 7 n.toNat (by omega) (by omega)).2.2.1
theorem itoa_dg {n : Int} (h0 : 0 ≤ n) : Lib.itoa n = dg n := by unfold Lib.itoa dg; rw [if_neg (by omega)]
theorem fTx_len {c : CC} (hc : ∀ n ∈ rowL c, 0 ≤ n ∧ n < 10000000) (s : Nat) (hs : s < 12) : (fTx (rowL c) s).length ≤ 40 := by
  have h1 := jn_len 44 7 ((nmS (rowL c) s).map dg) (by
    intro x hx
    obtain ⟨n, hn, rfl⟩ := List.mem_map.1 hx
    have := hc n (nm_mem hn)
    exact dg_len this.1 this.2)
  rw [List.length_map, nm_len c s hs] at h1
  have h2 := (st_off s hs).2.2.2.2
  have h3 := keyB_len s
  rw [← list_size] at h3
  unfold fTx
  rw [List.length_append, List.length_cons]
  omega
theorem own_put {w : World} {base : Nat} {e : TypeId} {size n : Nat} {v : Value} {xs : List Value} (h : w.ownsRow base e size v n xs) {l : Nat} {o : Obj} (o' : Obj) (hl : w.heap[l]? = some o) (ho : o.isCells = false) : (w.putObj l o').ownsRow base e size v n xs := by
  refine ⟨h.1, ?_⟩
  rcases h.2 with hn | ⟨g, cap, cur, rfl, hb, hg, rest⟩
  · exact .inl hn
  · refine .inr ⟨g, cap, cur, rfl, hb, ?_, rest⟩
    refine (World.putObj_heap_other ?_).trans hg
    rintro rfl
    rw [hg] at hl; cases hl; cases ho
theorem own_step {w w' : World} {base : Nat} {e : TypeId} {size n : Nat} {v : Value} {xs : List Value} (h : w.ownsRow base e size v n xs) (hb : Below w.heap.size w w') : w'.ownsRow base e size v n xs :=
  h.kept (Gr.step (Gr.refl w none) hb) (by cases v.ownBlock <;> simp)
theorem own_farB {w : World} {base : Nat} {e : TypeId} {size n : Nat} {v : Value} {xs : List Value} (h : w.ownsRow base e size v n xs) {p : Addr} (hp : p.block < base) (u : Value) : (w.setCell p u).ownsRow base e size v n xs :=
  h.kept (Gr.set_ (g := p.block) (Gr.refl w _) (.inl rfl) u) (by
    cases hv : v.ownBlock with
    | none => exact .inl rfl
    | some k => exact .inr (by have := (h.lt k hv).1; intro e; injection e with e; omega))
theorem wpListIn_app2 {F : Fence} {m0 : Nat} {P : Program} {w : World} {ops : Array Oper} {rest : List Oper} {o : Oper} {a : Act} {Q : Exit → Act → World → Prop} (hgd : o.guard = none) (s x : Operand) (t : TypeId)
    (ho : o.op = .call { callee := .builtin .append, args := #[s, x], argTypes := #[t, t] })
    (base : Nat) (e : TypeId) (i : TypeInfo) (z : Value) (size bytes : Nat) (ht : P.underlying t = some (.slice e)) (hi : P.info? e = some i) (hz : i.zero = some z)
    (hsize : i.size = size) (hby : i.bytes = bytes) (hzs : z.cells.size = size) (hsz : 0 < size)
    (A : Option Addr) (n c : Nat) (xs : List Value) (hs : a.eval s = .slice A n c) (hown : w.ownsRow base e size (.slice A n c) n xs)
    (ad : Addr) (m c' : Nat) (news : List Value) (hx : a.eval x = .slice (some ad) m c') (hl : news.length = m * size) (hnews : ∀ j u, news[j]? = some u → w.cell? (ad.add j) = some u) (h1 : ∀ u ∈ news, u.oneCell' = true)
    (h63 : n + m ≤ maxLen) (hbytes : (n + m) * bytes ≤ 140737488355328) (hbase : base ≤ w.heap.size) (hm : 0 < m)
    (h : ∀ g cap w', w'.ownsRow base e size (.slice (some ⟨g, 0, none⟩) (n + m) cap) (n + m) (xs ++ news) → Below base w w' → w.grownBy w' (Value.slice A n c).ownBlock → wpListIn F m0 P ops Q rest (a.put o.dst (.slice (some ⟨g, 0, none⟩) (n + m) cap)) w') : wpListIn F m0 P ops Q (o :: rest) a w :=
  wpListIn_append_own w hgd s x t ho base e i z size bytes ht hi hz hsize hby hzs hsz (.slice A n c) n xs hs hown ad m c' news hx hl hnews h1 h63 hbytes hbase fun v' w' h2 h3 _ => by
    obtain ⟨g, cap, rfl, _, _⟩ := own_some h2 (by omega)
    exact h g cap w' h2 ((Below.refl base w).grown h3 hbase (fun k hk => (hown.lt k hk).1)) h3
theorem opIn_app2 {F : Fence} {m0 : Nat} {P : Program} {w : World} {o : Oper} {a : Act} {Q : Exit → Act → World → Prop} {K : Act → World → Prop} (s x : Operand) (t : TypeId)
    (ho : o.op = .call { callee := .builtin .append, args := #[s, x], argTypes := #[t, t] })
    (base : Nat) (e : TypeId) (i : TypeInfo) (z : Value) (size bytes : Nat) (ht : P.underlying t = some (.slice e)) (hi : P.info? e = some i) (hz : i.zero = some z)
    (hsize : i.size = size) (hby : i.bytes = bytes) (hzs : z.cells.size = size) (hsz : 0 < size)
    (A : Option Addr) (n c : Nat) (xs : List Value) (hs : a.eval s = .slice A n c) (hown : w.ownsRow base e size (.slice A n c) n xs)
    (ad : Addr) (m c' : Nat) (news : List Value) (hx : a.eval x = .slice (some ad) m c') (hl : news.length = m * size) (hnews : ∀ j u, news[j]? = some u → w.cell? (ad.add j) = some u) (h1 : ∀ u ∈ news, u.oneCell' = true)
    (h63 : n + m ≤ maxLen) (hbytes : (n + m) * bytes ≤ 140737488355328) (hbase : base ≤ w.heap.size) (hm : 0 < m)
    (h : ∀ g cap w', w'.ownsRow base e size (.slice (some ⟨g, 0, none⟩) (n + m) cap) (n + m) (xs ++ news) → Below base w w' → w.grownBy w' (Value.slice A n c).ownBlock → K (a.put o.dst (.slice (some ⟨g, 0, none⟩) (n + m) cap)) w') : Oper.wpIn F m0 P o a w K Q := by
  obtain ⟨v', w', hrun, r1, r2, r3⟩ := run_append_own (P := P) w base t o.type e i z size bytes ht hi hz hsize hby hzs hsz (.slice A n c) n xs hown ad m c' news hl hnews h1 h63 hbytes hbase
  obtain ⟨g, cap, rfl, _, _⟩ := own_some r1 (by omega)
  unfold Oper.wpIn
  refine ⟨?_, ?_⟩
  · simp [Oper.about, ho, resolve, Target.leads, Sem.run_pure]
  · rw [Oper.semAt_plain F _ _ (by rw [ho]; intro c hc'; cases hc')]
    simp [execOp, ho, resolve, invoke, builtin, hs, hx, hrun, Result.andThen]
    exact h g cap w' r1 ((Below.refl base w).grown r2 hbase (fun k hk => (hown.lt k hk).1)) r2
def noDefer (o : Oper) : Bool := match o.op with
  | .defer _ => false
  | _ => true
theorem noDefer_ne {o : Oper} (h : noDefer o = true) : ∀ c, o.op ≠ .defer c := fun c e => by
  unfold noDefer at h; rw [e] at h; cases h
/-- a region without a defer statement goes inside a round as outside -/
theorem operIn_round {F : Fence} {n : Nat} {P : Program} {o : Oper} {a : Act} {w : World} {K : Act → World → Prop} {Q : Exit → Act → World → Prop} (l : Nat) (hd : noDefer o = true) (h : o.wpIn F n P a w K Q) : o.wpIn (F.inRound l) n P a w K Q := by
  refine ⟨h.1, ?_⟩
  have h2 := h.2
  rw [Oper.semAt_plain F _ _ (noDefer_ne hd)] at h2
  rw [Oper.semAt_plain (F.inRound l) _ _ (noDefer_ne hd)]
  exact h2
theorem wpAnyIn_round {F : Fence} {n : Nat} {P : Program} {md : Region.Mode} {ops : Array Oper} {Q : Exit → Act → World → Prop} (l : Nat) (hd : ops.all noDefer = true) : ∀ (fuel : Nat) (listed : Array Bool) (a : Act) (w : World), wpAnyIn F n P md ops Q fuel listed a w → wpAnyIn (F.inRound l) n P md ops Q fuel listed a w
  | 0, listed, a, w, h => h
  | fuel + 1, listed, a, w, h => by
    refine ⟨h.1, fun i hi => ?_⟩
    have h1 := wpOpIn_mono (fun a' w' hk => wpAnyIn_round l hd fuel (listed.setIfInBounds i true) a' w' hk) (h.2 i hi)
    unfold wpOpIn at h1 ⊢
    cases ho : ops[i]? with
    | none => rw [ho] at h1; exact h1
    | some o =>
      rw [ho] at h1
      dsimp only at h1 ⊢
      have hdo : noDefer o = true := by
        obtain ⟨hlt, rfl⟩ := Array.getElem?_eq_some_iff.1 ho
        exact Array.all_eq_true.1 hd i hlt
      split at h1
      · rename_i hw
        rw [if_pos hw]
        exact operIn_round l hdo h1
      · rename_i hw
        rw [if_neg hw]
        exact h1
theorem keeps_own {w w' : World} {base : Nat} {e : TypeId} {size n : Nat} {v : Value} {xs : List Value} (h : w.ownsRow base e size v n xs) (hg : w.grownBy w' v.ownBlock) : KeepsOthers w w' := ⟨hg.size, fun k o hk ho => by
  refine (hg.block k (Array.getElem?_eq_some_iff.1 hk).1 ?_).trans hk
  intro e
  rcases h.2 with ⟨rfl, _⟩ | ⟨g, cap, cur, rfl, _, hgg, _⟩
  · simp [Value.ownBlock] at e
  · simp [Value.ownBlock] at e
    subst e
    rw [hgg] at hk; cases hk; cases ho⟩
/-- printing under way -/
structure PrI (w : World) (base B g1 g2 ga : Nat) (c : CC) (s : Nat) (W : World) : Prop where
  ka : ∃ (A : Option Addr) (d : Nat) (L : List ByteArray), L.map (·.data.toList) = (List.range s).map (fTx (rowL c)) ∧ Bk W ga 64 [.slice A s d] ∧ W.ownsRow base 9 1 (.slice A s d) s (L.map Value.string)
  kB : Bk W B 34 c.C
  hd : Hd32 g1 g2 B W
  gw : GW W
  hb : Below B w W
  hs : base ≤ W.heap.size
  hB : B < base
theorem PrI.step {w : World} {base B g1 g2 ga s : Nat} {c : CC} {W W' : World} (h : PrI w base B g1 g2 ga c s W) (hb : Below W.heap.size W W') : PrI w base B g1 g2 ga c s W' := by
  obtain ⟨⟨A, d, L, hL, k, own⟩, kB, ⟨d1, d2, d3⟩, hg, h0, hs, hB⟩ := h
  exact ⟨⟨A, d, L, hL, k.step hb, own_step own hb⟩, kB.step hb, ⟨d1.step hb, d2.step hb, Nat.lt_of_lt_of_le d3 hb.size⟩, hg.step hb, h0.then_ hb (by omega), Nat.le_trans hs hb.size, hB⟩
theorem PrI.put {w : World} {base B g1 g2 ga s : Nat} {c : CC} {W : World} (h : PrI w base B g1 g2 ga c s W) {l : Nat} {o : Obj} (o' : Obj) (hl : base ≤ l) (h2 : 2 ≤ l) (ho : W.heap[l]? = some o) (hc : o.isCells = false) : PrI w base B g1 g2 ga c s (W.putObj l o') := by
  obtain ⟨⟨A, d, L, hL, k, own⟩, kB, ⟨d1, d2, d3⟩, hg, h0, hs, hB⟩ := h
  exact ⟨⟨A, d, L, hL, k.put o' ho hc, own_put own o' ho hc⟩, kB.put o' ho hc, ⟨d1.put o' ho hc, d2.put o' ho hc, by simpa using d3⟩, hg.put o' h2, below_put h0 o' (by omega), by simpa using hs, hB⟩
theorem below_quiet (w : World) (k : Nat) (os : Array Obj) : Below w.heap.size w (Go.Sort.grow (w.drewN k) os) := below_regrown w (w.drawn + k) os
theorem str_info : (Tryd.prog.info? 9).map (fun i => (i.zero, i.size, i.bytes)) = some (some (.string ⟨#[]⟩), 1, 16) := by kernel_rfl
set_option maxRecDepth 100000 in
set_option maxHeartbeats 8000000 in
theorem config_Print_any (c : CC) (w : World) (hg : GW w) : Calls Tryd.prog 10 #[c.V] w fun e w' => e = .returned (.tuple #[.string ⟨(cPrint c).1.toArray⟩, .int .i64 (cPrint c).2]) ∧ Below w.heap.size w w' := by
  have h2 := hg.2.2
  have hck := fun W => config_Check_any c W
  have HP := hide (show cPrint c = if cCheck c = 0 then (pText cFd (rowL c), 0) else ([], cCheck c) from rfl)
  have hsm := fun h => small_cc (c := c) h
  generalize cCheck c = v at *
  obtain ⟨i0, hi0, hz0, hz1, hz2⟩ := info_parts str_info
  refine (callsIn_wide (n := 3)).1 ?_
  refine callsIn_of_wp_marks Tryd.func10 rfl trivial ?_ rfl
  simp only [Tryd.ntmps10, List.size_toArray, List.length_cons, List.length_nil, Nat.reduceAdd, Nat.reduceSub, Array.replicate_succ, Array.replicate_zero, List.push_toArray, List.append_toArray, List.nil_append, List.cons_append]
  refine wpIn_wide.2 ?_
  go_upto_region 1 with fail
  generalize hV : World.alloc w _ = w1
  have hb1 : Below w.heap.size w w1 := by subst hV; (repeat (first | with_reducible exact Below.refl _ _ | with_reducible assumption | with_reducible refine Below.drew ?_ | with_reducible refine Below.drewN ?_ _ | with_reducible refine Below.alloc1 ?_ _ | with_reducible refine Below.setCell1 ?_ (by first | omega | (simp; done) | (simp; omega)) _ | with_reducible refine Below.step ?_ (by with_reducible assumption)))
  have kB : Bk w1 w.heap.size 34 c.C := by subst hV; exact Bk.new w _ _
  clear hV
  go_wp2_with (first | (refine wpList_load_row rfl 34 _ rfl _ rfl _ _ (0, 0) _ kB Tryd.underlying34 rfl (by kernel_rfl) ?_) | fail)
  refine (hck _).mono ?_; rintro e w2 ⟨rfl, hx⟩
  replace kB := kB.step hx
  replace hb1 := hb1.step hx
  clear hx hck
  by_cases hv : v = 0
  case neg =>
    have hv2 : (v != 0) = true := by simp [hv]
    have HP2 := HP.out
    rw [if_neg hv] at HP2
    replace HP := hide HP2
    clear HP2
    go_wp2
    refine ⟨.tuple #[.string ⟨#[]⟩, .int .i64 v], ?_, by rw [HP.out], hb1⟩
    simp [results, Tryd.f10, go_sem]
  subst hv
  replace HP : Hid (cPrint c = (pText cFd (rowL c), 0)) := HP
  replace hsm := hide (hsm rfl)
  replace hg := hg.below hb1 h2
  have hBlt := kB.lt
  have hb1s := hb1.size
  go_wp2_with fail
  generalize hV : World.alloc w2 _ = w2'
  have hx : Below w2.heap.size w2 w2' := by subst hV; (repeat (first | with_reducible exact Below.refl _ _ | with_reducible assumption | with_reducible refine Below.drew ?_ | with_reducible refine Below.drewN ?_ _ | with_reducible refine Below.alloc1 ?_ _ | with_reducible refine Below.setCell1 ?_ (by first | omega | (simp; done) | (simp; omega)) _ | with_reducible refine Below.step ?_ (by with_reducible assumption)))
  have ka : Bk w2' w2.heap.size 64 [.slice none 0 0] := by subst hV; exact Bk.new w2 _ _
  clear hV
  replace kB := kB.step hx
  replace hg := hg.step hx
  replace hb1 := hb1.step hx
  have halt := ka.lt
  clear hx
  generalize hgB : w.heap.size = B at *
  have hBw : w.heap.size ≤ B := by omega
  have hB2 : 2 ≤ B := by omega
  generalize w2.heap.size = ga at *
  refine (config_fields_any B w2' _ kB).mono ?_; rintro e w3 ⟨rfl, kc1, kc2, hx⟩
  replace kB := kB.step hx
  replace hg := hg.step hx
  replace hb1 := hb1.then_ hx (by omega)
  replace ka := ka.step hx
  clear hx
  have hc1 := kc1.lt
  have hc2 := kc2.lt
  generalize w2'.heap.size = g1 at *
  go_wp2_with fail
  refine (wpIn_wide (n := 3)).1 ?_
  refine wpIn_rangeF2 rfl (by omega) rfl trivial (enters_of Tryd.func36 (by kernel_rfl) rfl) (fields1_seq (3 - 1) g1 (g1 + 1) B)
    (fun s W vs ⟨A, c, e, _⟩ => by rw [e]; rfl)
    (fun s W vs l o o' ⟨A, c, e, hc, hr, hA⟩ hl h ho => ⟨A, c, e, hc, by simpa using hr.put o' h ho, hA⟩)
    (PrI w w3.heap.size B g1 (g1 + 1) ga c) (fun _ _ => False) (fun s W h => h.hd)
    (fun s W1 W2 h hb => h.step hb)
    (fun s W l o o' h hl ho hc => h.put o' hl (by omega) ho hc)
    (fun c W l o o' h hl ho hc => h.elim)
    ⟨⟨none, 0, [], rfl, ka, World.ownsRow_nil _ _ _ _⟩, kB, ⟨kc1, kc2, by omega⟩, hg, hb1, Nat.le_refl _, by omega⟩
    _ (fun l x y W K hK => by gi_wp2; exact hK) ?body ?done (fun D c W _ h _ => h.elim)
  case body =>
    rintro l r x y W hr12 hI ⟨A, d, hxy, hd, hrd, hA⟩
    obtain ⟨rfl, rfl⟩ : x = .string (keyB r) ∧ y = .slice A (cntN r) d := by simpa using hxy
    clear hxy
    obtain ⟨⟨A0, d0, L, hL, ka, own⟩, kB, ⟨kd1, kd2, kd3⟩, hg, hb, hs, hBb⟩ := hI
    gi_wp2_with fail
    gi_loopw [8, 21] (fun o i wr => ∃ (j : Nat) (A1 : Option Addr) (d1 : Nat) (L1 : List ByteArray), j ≤ cntN r ∧ i = .int .i64 j ∧ o = .slice A1 j d1 ∧ L1.map (·.data.toList) = ((nmS (rowL c) r).take j).map dg ∧ wr.ownsRow W.heap.size 9 1 (.slice A1 j d1) j (L1.map Value.string) ∧ Below W.heap.size W wr) (fun _ i _ => cntN r - (intOf i).toNat)
    case atStart => exact ⟨0, none, 0, [], Nat.zero_le _, rfl, rfl, rfl, World.ownsRow_nil _ _ _ _, Below.refl _ _⟩
    case round =>
      obtain ⟨j, A1, d1, L1, hj, rfl, rfl, hL1, own1, hbr⟩ := hrel
      have hcnt := (st_off r hr12).2.2.2.2
      by_cases hlt : j < cntN r
      · have hlt' : (j : Int) < (cntN r : Int) := by omega
        obtain ⟨n, hn1, hn2⟩ := nm_at c r j hr12 hlt
        have hnn := hsm.out n (nm_mem (List.mem_of_getElem? hn1))
        obtain ⟨ad, rfl, hadb, hadc⟩ := hrd.at_ (k := j) (by rw [ptrs_len]; exact hlt)
        have hpv : (ptrs B (offN r) (cntN r))[j]'(by rw [ptrs_len]; exact hlt) = .pointer (some ⟨B, offN r + j, none⟩) := by
          have := ptrs_at B (offN r) (cntN r) j hlt
          rw [List.getElem?_eq_getElem (by rw [ptrs_len]; exact hlt)] at this
          injection this
        rw [hpv] at hadc
        have ga1 : wr.cell? (ad.add j) = some (.pointer (some ⟨B, offN r + j, none⟩)) := by
          refine Eq.trans (hbr.cell ?_) hadc
          rw [add_block]; exact hadb
        have gb1 : wr.cell? ⟨B, offN r + j, none⟩ = some (.int .i64 n) := by
          rw [(kB.step hbr).cell (offN r + j)]; exact hn2
        have hnx := hide (show L1.length = j from by have := congrArg List.length hL1; simp at this; rw [nm_len c r hr12] at this; omega)
        have hgr := hg.step hbr
        have hit := fun W' hW => Tryd.strconv_Itoa n (by omega) (by omega) W' hW
        clear hpv hadc hrd
        gi_wp2_with fail
        refine ⟨trivial, (CallsIn.inRound l (callsIn_wide.2 (hit wr hgr.2.1))).mono ?_⟩; rintro e wr2 ⟨rfl, q, os, rfl⟩
        have hb2 : Below wr.heap.size wr (Go.Sort.grow (wr.drewN q) os) := below_quiet wr q os
        generalize Go.Sort.grow (wr.drewN q) os = wr2 at *
        rw [itoa_dg hnn.1]
        have own2 := own_step own1 hb2
        have hbr2 := hbr.then_ hb2 hbr.size
        have hsz := hbr2.size
        clear own1 hgr hit ga1 gb1
        gi_wp2_with (first
          | (gi_at_builtin; refine wpListIn_app2 rfl (.tmp 25) (.tmp 30) 64 rfl W.heap.size 9 i0 _ 1 16 Tryd.underlying64 hi0 hz0 hz1 hz2 rfl (by omega) A1 j d1 (L1.map Value.string) rfl (own2.alloc _) ⟨wr2.heap.size, 0, none⟩ 1 1 [.string ⟨(dg n).toArray⟩] rfl rfl (news_atE (w := wr2) (cs := [.string ⟨(dg n).toArray⟩]) (e := 9) rfl) (by simp [Value.oneCell']) (by unfold maxLen; omega) (by omega) (by simp; omega) (by omega) ?_; intro g2 cap w5 own5 hb5 hgr5)
          | fail)
        go_roundw
        case rel =>
          refine ⟨j + 1, _, cap, L1 ++ [⟨(dg n).toArray⟩], hlt, by go_num, rfl, ?_, by rw [List.map_append]; exact own5, (hbr2.alloc hsz _).trans hb5⟩
          rw [List.map_append, hL1, List.take_add_one, hn1]; simp
        case measure => simp [intOf]; omega
      · obtain rfl : j = cntN r := by omega
        have hnl : L1.length = cntN r := by have := congrArg List.length hL1; simp at this; rw [nm_len c r hr12] at this; omega
        rw [List.take_of_length_le (by rw [nm_len c r hr12]; exact Nat.le_refl _)] at hL1
        have h1c := (st_off r hr12).2.2.2.1
        replace hb := hb.then_ hbr (by have := hb.size; omega)
        have hbs := hbr.size
        replace kB := kB.step hbr
        replace ka := ka.step hbr
        replace kd1 := kd1.step hbr
        replace kd2 := kd2.step hbr
        replace hg := hg.step hbr
        replace own := own_step own hbr
        have hko := keeps_below hbr
        clear hrd hA
        have hks : (keyB r).size + 1 ≤ 9223372036854775807 := by have := keyB_len r; omega
        obtain ⟨J, hJ⟩ : ∃ J : ByteArray, J = ⟨(Lib.join (L1.map (·.data.toList)) [44]).toArray⟩ := ⟨_, rfl⟩
        have hJl : J.data.toList = jn 44 ((nmS (rowL c) r).map dg) := by rw [hJ, hL1, join_jn]
        have hJs : J.size ≤ 100 := by
          have h0 := fTx_len hsm.out r hr12
          unfold fTx at h0
          rw [List.length_append, List.length_cons, ← hJl] at h0
          have h5 := list_size J
          omega
        have hks2 : (keyB r).size + 1 + J.size ≤ 9223372036854775807 := by have := keyB_len r; omega
        have hkF : (9223372036854775807 < (keyB r).size + 1) = False := by have := keyB_len r; exact eq_false (by omega)
        have hkF2 : (9223372036854775807 < (keyB r).size + 1 + J.size) = False := by have := keyB_len r; exact eq_false (by omega)
        have hjoin : ∀ W', Below wr.heap.size wr W' → Calls Tryd.prog 23 #[.slice A1 (cntN r) d1, .string ⟨#[44]⟩] W' fun e w' => e = .returned (.string J) ∧ Below W'.heap.size W' w' := fun W' hW' => by
          obtain ⟨gn, capn, ev, hcn, _⟩ := own_some own1 (by omega)
          injection ev with ev1 ev2 ev3
          subst ev1 ev3
          have hc := (own_step own1 hW').cells (g := gn) rfl
          have hcap := (own_cap32 own1).1
          have h0 := Tryd.strings_Join gn 0 d1 L1 ⟨#[44]⟩ W' (fun j x hx => by
            have := hc j (.string x) (by rw [List.getElem?_map, hx]; rfl)
            have e0 : (⟨gn, 0, none⟩ : Addr).add j = ⟨gn, 0 + j, none⟩ := by unfold Addr.add; split <;> simp_all
            rw [← e0]; exact this) (by have := ((own_step own1 hW').lt gn rfl).2; exact this) (by omega) (by omega) (by
            have h9 : (Lib.join (L1.map (·.data.toList)) [44]).length = J.size := by rw [← list_size, hJ]
            show (Lib.join (L1.map (·.data.toList)) [44]).length ≤ _
            omega)
          rw [hnl] at h0
          refine h0.mono ?_
          rintro e w' ⟨rfl, hb⟩
          exact ⟨by rw [hJ], hb⟩
        replace hJl := hide hJl
        clear hJ hL1 own1
        gi_wp2_with fail
        refine wpIn_region_any (by kernel_rfl) ?_
        change wpAnyIn _ _ _ _ _ _ _ _ _ (World.drew _)
        refine wpAnyIn_round l (by kernel_rfl) _ _ _ _ ?_
        have hbd : Below wr.heap.size wr wr.drew := (Below.refl _ _).drew
        generalize wr.drew = wd at *
        have kad := ka.step hbd
        have kad_0 := kad.cell 0
        have kad_lt := kad.lt
        refine wpAnyIn_take (i := 1) (v := ?z1) rfl rfl (by kernel_rfl) (by kernel_rfl) (by kernel_rfl) (fun _ _ _ h => h) ⟨Or.inl ⟨by rfl, ?_⟩, fun _ => rfl⟩ ?_
        case refine_1 => (intro w; go_simp; try with_reducible rfl)
        refine wpAnyIn_take (i := 3) (v := ?z2) rfl rfl (by kernel_rfl) (by kernel_rfl) (by kernel_rfl) (fun _ _ _ h => h) ⟨Or.inl ⟨by rfl, ?_⟩, fun _ => rfl⟩ ?_
        case refine_1 => (intro w; go_simp; try with_reducible rfl)
        refine wpAnyIn_take (i := 2) (v := ?z3) rfl rfl (by kernel_rfl) (by kernel_rfl) (by kernel_rfl) (fun _ _ _ h => h) ⟨Or.inl ⟨by rfl, ?_⟩, fun _ => rfl⟩ ?_
        case refine_1 => (intro w; go_simp; try with_reducible rfl)
        refine wpAnyIn_ready (rs := [0, 4]) (by kernel_rfl) (by simp) ?_
        refine AllReadyIn.cons rfl (fun K hK => ?_) ?_
        · go_simp
          refine hK _ _ ?_; clear hK K
          refine wpAnyIn_ready (rs := [4]) (by kernel_rfl) (by simp) ?_
          refine AllReadyIn.cons rfl (fun K hK => ?_) AllReadyIn.nil
          go_simp
          refine ⟨trivial, ?_⟩
          refine (callsIn_wide.2 (hjoin wd hbd)).mono ?_; rintro e w5 ⟨rfl, hb5⟩
          refine hK _ _ ?_; clear hK K
          have hb5' := hbd.then_ hb5 hbd.size
          have kaj := ka.step hb5'
          have kaj_0 := kaj.cell 0
          have ltj := kaj.lt
          clear hjoin
          refine wpAnyIn_ready (rs := [5]) (by kernel_rfl) (by simp) ?_
          refine AllReadyIn.cons rfl (fun K hK => ?_) AllReadyIn.nil
          go_simp
          refine hK _ _ ?_; clear hK K
          refine wpAnyIn_ready (rs := [6]) (by kernel_rfl) (by simp) ?_
          refine AllReadyIn.cons rfl (fun K hK => ?_) AllReadyIn.nil
          go_simp
          refine hK _ _ ?_; clear hK K
          have hs5 := hb5'.size
          have hal : Below w5.heap.size w5 (w5.alloc (.cells #[.string (keyB r ++ ⟨#[61]⟩ ++ J)] 9)) := (Below.refl w5.heap.size w5).alloc (Nat.le_refl _) _
          have ownx := own_step (own_step own hb5') hal
          have kax := kaj.alloc (.cells #[.string (keyB r ++ ⟨#[61]⟩ ++ J)] 9)
          refine wpAnyIn_ready (rs := [7]) (by kernel_rfl) (by simp) ?_
          refine AllReadyIn.cons rfl (fun K hK => ?_) AllReadyIn.nil
          rw [if_pos (by rfl)]
          refine opIn_app2 (.tmp 33) (.tmp 39) 64 rfl w3.heap.size 9 i0 _ 1 16 Tryd.underlying64 hi0 hz0 hz1 hz2 rfl (by omega) A0 r d0 (L.map Value.string) rfl ownx ⟨w5.heap.size, 0, none⟩ 1 1 [.string (keyB r ++ ⟨#[61]⟩ ++ J)] rfl rfl (news_atE (w := w5) (cs := [.string (keyB r ++ ⟨#[61]⟩ ++ J)]) (e := 9) rfl) (by simp [Value.oneCell']) (by unfold maxLen; omega) (by omega) (by simp; omega) (by omega) ?_; intro g2 cap w6 own6 hb6 hgr6
          refine hK _ _ ?_; clear hK K
          have ka6 := kax.kept hgr6 (fun j hj => by have := (ownx.lt j hj).1; omega)
          have ka6_0 := ka6.cell 0
          have ka6_f0 := ka6.frozen 0
          have hkk := (hko.trans (keeps_below hb5')).trans ((keeps_below hal).trans (keeps_own ownx hgr6))
          have hbx : Below w3.heap.size wr w6 := ((hb5'.mono (by omega)).trans (hal.mono (by omega))).trans hb6
          have hs6 := hbx.size
          have kB6 : Bk w6 B 34 c.C := (hbx.block B (by omega)).trans kB
          have kd16 : Bk w6 g1 76 [.pointer (some ⟨B, 0, none⟩)] := (hbx.block g1 (by omega)).trans kd1
          have kd26 : Bk w6 (g1 + 1) 87 [.pointer (some ⟨B, 0, none⟩)] := (hbx.block (g1 + 1) (by omega)).trans kd2
          have hg6 : GW w6 := hg.below hbx (by omega)
          have hb6' : Below B w w6 := hb.trans (hbx.mono (by omega))
          clear kaj kaj_0 kax ka kad kad_0 hal hb6 hgr6 ownx hbx hko kB kd1 kd2 hg hb hb5 hb5' hbd own
          refine wpAnyIn_ready (rs := [8]) (by kernel_rfl) (by simp) ?_
          refine AllReadyIn.cons rfl (fun K hK => ?_) AllReadyIn.nil
          go_simp
          refine hK _ _ ?_; clear hK K
          refine wpAnyIn_done (by kernel_rfl) ?_ _
          refine ⟨hkk.trans (KeepsOthers.setCell _ _ _), ⟨some ⟨g2, 0, none⟩, cap, L ++ [(keyB r ++ ⟨#[61]⟩ ++ J)], ?_, ka6.set_ 0 _, by rw [List.map_append]; exact own_farB own6 (show ga < _ by omega) _⟩, kB6.far (by simp; omega) _, ⟨kd16.far (by simp; omega) _, kd26.far (by simp; omega) _, by simp; omega⟩, hg6.gr (Gr.set_ (g := ga) (Gr.refl _ _) (.inl rfl) _) (by omega), hb6'.setCell (by simp; omega) _, by simp; omega, hBb⟩
          rw [List.map_append, hL, List.range_succ, List.map_append]
          congr 1
          show [(keyB r ++ ⟨#[61]⟩ ++ J).data.toList] = [fTx (rowL c) r]
          rw [fTx, ← hJl.out]
          simp
        · refine AllReadyIn.cons rfl (fun K hK => ?_) AllReadyIn.nil
          go_simp
          refine ⟨trivial, ?_⟩
          refine (callsIn_wide.2 (hjoin wd hbd)).mono ?_; rintro e w5 ⟨rfl, hb5⟩
          refine hK _ _ ?_; clear hK K
          have hb5' := hbd.then_ hb5 hbd.size
          have kaj := ka.step hb5'
          have kaj_0 := kaj.cell 0
          have ltj := kaj.lt
          clear hjoin
          refine wpAnyIn_take (i := 5) (v := ?z4) rfl rfl (by kernel_rfl) (by kernel_rfl) (by kernel_rfl) (fun _ _ _ h => h) ⟨Or.inl ⟨by rfl, ?_⟩, fun _ => rfl⟩ ?_
          case refine_1 => (intro w; go_simp; try with_reducible rfl)
          refine wpAnyIn_ready (rs := [0, 6]) (by kernel_rfl) (by simp) ?_
          refine AllReadyIn.cons rfl (fun K hK => ?_) ?_
          · go_simp
            refine hK _ _ ?_; clear hK K
            refine wpAnyIn_ready (rs := [6]) (by kernel_rfl) (by simp) ?_
            refine AllReadyIn.cons rfl (fun K hK => ?_) AllReadyIn.nil
            go_simp
            refine hK _ _ ?_; clear hK K
            have hs5 := hb5'.size
            have hal : Below w5.heap.size w5 (w5.alloc (.cells #[.string (keyB r ++ ⟨#[61]⟩ ++ J)] 9)) := (Below.refl w5.heap.size w5).alloc (Nat.le_refl _) _
            have ownx := own_step (own_step own hb5') hal
            have kax := kaj.alloc (.cells #[.string (keyB r ++ ⟨#[61]⟩ ++ J)] 9)
            refine wpAnyIn_ready (rs := [7]) (by kernel_rfl) (by simp) ?_
            refine AllReadyIn.cons rfl (fun K hK => ?_) AllReadyIn.nil
            rw [if_pos (by rfl)]
            refine opIn_app2 (.tmp 33) (.tmp 39) 64 rfl w3.heap.size 9 i0 _ 1 16 Tryd.underlying64 hi0 hz0 hz1 hz2 rfl (by omega) A0 r d0 (L.map Value.string) rfl ownx ⟨w5.heap.size, 0, none⟩ 1 1 [.string (keyB r ++ ⟨#[61]⟩ ++ J)] rfl rfl (news_atE (w := w5) (cs := [.string (keyB r ++ ⟨#[61]⟩ ++ J)]) (e := 9) rfl) (by simp [Value.oneCell']) (by unfold maxLen; omega) (by omega) (by simp; omega) (by omega) ?_; intro g2 cap w6 own6 hb6 hgr6
            refine hK _ _ ?_; clear hK K
            have ka6 := kax.kept hgr6 (fun j hj => by have := (ownx.lt j hj).1; omega)
            have ka6_0 := ka6.cell 0
            have ka6_f0 := ka6.frozen 0
            have hkk := (hko.trans (keeps_below hb5')).trans ((keeps_below hal).trans (keeps_own ownx hgr6))
            have hbx : Below w3.heap.size wr w6 := ((hb5'.mono (by omega)).trans (hal.mono (by omega))).trans hb6
            have hs6 := hbx.size
            have kB6 : Bk w6 B 34 c.C := (hbx.block B (by omega)).trans kB
            have kd16 : Bk w6 g1 76 [.pointer (some ⟨B, 0, none⟩)] := (hbx.block g1 (by omega)).trans kd1
            have kd26 : Bk w6 (g1 + 1) 87 [.pointer (some ⟨B, 0, none⟩)] := (hbx.block (g1 + 1) (by omega)).trans kd2
            have hg6 : GW w6 := hg.below hbx (by omega)
            have hb6' : Below B w w6 := hb.trans (hbx.mono (by omega))
            clear kaj kaj_0 kax ka kad kad_0 hal hb6 hgr6 ownx hbx hko kB kd1 kd2 hg hb hb5 hb5' hbd own
            refine wpAnyIn_ready (rs := [8]) (by kernel_rfl) (by simp) ?_
            refine AllReadyIn.cons rfl (fun K hK => ?_) AllReadyIn.nil
            go_simp
            refine hK _ _ ?_; clear hK K
            refine wpAnyIn_done (by kernel_rfl) ?_ _
            refine ⟨hkk.trans (KeepsOthers.setCell _ _ _), ⟨some ⟨g2, 0, none⟩, cap, L ++ [(keyB r ++ ⟨#[61]⟩ ++ J)], ?_, ka6.set_ 0 _, by rw [List.map_append]; exact own_farB own6 (show ga < _ by omega) _⟩, kB6.far (by simp; omega) _, ⟨kd16.far (by simp; omega) _, kd26.far (by simp; omega) _, by simp; omega⟩, hg6.gr (Gr.set_ (g := ga) (Gr.refl _ _) (.inl rfl) _) (by omega), hb6'.setCell (by simp; omega) _, by simp; omega, hBb⟩
            rw [List.map_append, hL, List.range_succ, List.map_append]
            congr 1
            show [(keyB r ++ ⟨#[61]⟩ ++ J).data.toList] = [fTx (rowL c) r]
            rw [fTx, ← hJl.out]
            simp
          · refine AllReadyIn.cons rfl (fun K hK => ?_) AllReadyIn.nil
            go_simp
            refine hK _ _ ?_; clear hK K
            refine wpAnyIn_ready (rs := [0]) (by kernel_rfl) (by simp) ?_
            refine AllReadyIn.cons rfl (fun K hK => ?_) AllReadyIn.nil
            go_simp
            refine hK _ _ ?_; clear hK K
            have hs5 := hb5'.size
            have hal : Below w5.heap.size w5 (w5.alloc (.cells #[.string (keyB r ++ ⟨#[61]⟩ ++ J)] 9)) := (Below.refl w5.heap.size w5).alloc (Nat.le_refl _) _
            have ownx := own_step (own_step own hb5') hal
            have kax := kaj.alloc (.cells #[.string (keyB r ++ ⟨#[61]⟩ ++ J)] 9)
            refine wpAnyIn_ready (rs := [7]) (by kernel_rfl) (by simp) ?_
            refine AllReadyIn.cons rfl (fun K hK => ?_) AllReadyIn.nil
            rw [if_pos (by rfl)]
            refine opIn_app2 (.tmp 33) (.tmp 39) 64 rfl w3.heap.size 9 i0 _ 1 16 Tryd.underlying64 hi0 hz0 hz1 hz2 rfl (by omega) A0 r d0 (L.map Value.string) rfl ownx ⟨w5.heap.size, 0, none⟩ 1 1 [.string (keyB r ++ ⟨#[61]⟩ ++ J)] rfl rfl (news_atE (w := w5) (cs := [.string (keyB r ++ ⟨#[61]⟩ ++ J)]) (e := 9) rfl) (by simp [Value.oneCell']) (by unfold maxLen; omega) (by omega) (by simp; omega) (by omega) ?_; intro g2 cap w6 own6 hb6 hgr6
            refine hK _ _ ?_; clear hK K
            have ka6 := kax.kept hgr6 (fun j hj => by have := (ownx.lt j hj).1; omega)
            have ka6_0 := ka6.cell 0
            have ka6_f0 := ka6.frozen 0
            have hkk := (hko.trans (keeps_below hb5')).trans ((keeps_below hal).trans (keeps_own ownx hgr6))
            have hbx : Below w3.heap.size wr w6 := ((hb5'.mono (by omega)).trans (hal.mono (by omega))).trans hb6
            have hs6 := hbx.size
            have kB6 : Bk w6 B 34 c.C := (hbx.block B (by omega)).trans kB
            have kd16 : Bk w6 g1 76 [.pointer (some ⟨B, 0, none⟩)] := (hbx.block g1 (by omega)).trans kd1
            have kd26 : Bk w6 (g1 + 1) 87 [.pointer (some ⟨B, 0, none⟩)] := (hbx.block (g1 + 1) (by omega)).trans kd2
            have hg6 : GW w6 := hg.below hbx (by omega)
            have hb6' : Below B w w6 := hb.trans (hbx.mono (by omega))
            clear kaj kaj_0 kax ka kad kad_0 hal hb6 hgr6 ownx hbx hko kB kd1 kd2 hg hb hb5 hb5' hbd own
            refine wpAnyIn_ready (rs := [8]) (by kernel_rfl) (by simp) ?_
            refine AllReadyIn.cons rfl (fun K hK => ?_) AllReadyIn.nil
            go_simp
            refine hK _ _ ?_; clear hK K
            refine wpAnyIn_done (by kernel_rfl) ?_ _
            refine ⟨hkk.trans (KeepsOthers.setCell _ _ _), ⟨some ⟨g2, 0, none⟩, cap, L ++ [(keyB r ++ ⟨#[61]⟩ ++ J)], ?_, ka6.set_ 0 _, by rw [List.map_append]; exact own_farB own6 (show ga < _ by omega) _⟩, kB6.far (by simp; omega) _, ⟨kd16.far (by simp; omega) _, kd26.far (by simp; omega) _, by simp; omega⟩, hg6.gr (Gr.set_ (g := ga) (Gr.refl _ _) (.inl rfl) _) (by omega), hb6'.setCell (by simp; omega) _, by simp; omega, hBb⟩
            rw [List.map_append, hL, List.range_succ, List.map_append]
            congr 1
            show [(keyB r ++ ⟨#[61]⟩ ++ J).data.toList] = [fTx (rowL c) r]
            rw [fTx, ← hJl.out]
            simp
  case done =>
    rintro D W hD ⟨⟨A0, d0, L, hL, ka, own⟩, kB, hd, hg, hb, hs, hBb⟩ hK
    have ka_0 := ka.cell 0; have ka_f0 := ka.frozen 0; simp only [List.set_cons_zero, List.set_cons_succ, List.getElem?_cons_zero, List.getElem?_cons_succ] at ka_0; have lt_ka := ka.lt
    have hnl : L.length = 12 := by have := congrArg List.length hL; simpa using this
    obtain ⟨J, hJ⟩ : ∃ J : ByteArray, J = ⟨(Lib.join (L.map (·.data.toList)) [59]).toArray⟩ := ⟨_, rfl⟩
    have hJl : J.data.toList = pText cFd (rowL c) := by rw [hJ, hL, join_jn, texts_all _ rfl]
    have hJs : J.size ≤ 1000 := by
      have h0 := jn_len 59 40 ((List.range 12).map (fTx (rowL c))) (by
        intro x hx
        obtain ⟨s, hs, rfl⟩ := List.mem_map.1 hx
        exact fTx_len hsm.out s (by simpa using hs))
      rw [texts_all _ rfl, ← hJl, list_size] at h0
      simp at h0
      omega
    have hjoin : ∀ W', Below W.heap.size W W' → Calls Tryd.prog 23 #[.slice A0 12 d0, .string ⟨#[59]⟩] W' fun e w' => e = .returned (.string J) ∧ Below W'.heap.size W' w' := fun W' hW' => by
      obtain ⟨gn, capn, ev, hcn, _⟩ := own_some own (by omega)
      injection ev with ev1 ev2 ev3
      subst ev1 ev3
      have hc := (own_step own hW').cells (g := gn) rfl
      have hcap := (own_cap32 own).1
      have h0 := Tryd.strings_Join gn 0 d0 L ⟨#[59]⟩ W' (fun j x hx => by
        have := hc j (.string x) (by rw [List.getElem?_map, hx]; rfl)
        have e0 : (⟨gn, 0, none⟩ : Addr).add j = ⟨gn, 0 + j, none⟩ := by unfold Addr.add; split <;> simp_all
        rw [← e0]; exact this) (by have := ((own_step own hW').lt gn rfl).2; exact this) (by omega) (by omega) (by
        have h9 : (Lib.join (L.map (·.data.toList)) [59]).length = J.size := by rw [← list_size, hJ]
        show (Lib.join (L.map (·.data.toList)) [59]).length ≤ _
        omega)
      rw [hnl] at h0
      refine h0.mono ?_
      rintro e w' ⟨rfl, hb⟩
      exact ⟨by rw [hJ], hb⟩
    replace hJl := hide hJl
    clear hJ hL own hJs
    go_wp2_with fail
    refine (hjoin _ (Below.refl _ _)).mono ?_; rintro e w5 ⟨rfl, hb5⟩
    have hK5 := (keeps_below hb5).same D _ hK rfl
    have hb6 := hb.then_ hb5 (by have := hb.size; omega)
    clear hjoin
    go_wp2
    refine ⟨by simp, .inl ⟨_, _, rfl, run_takeDeferred hK5, ?_⟩⟩
    refine ⟨.tuple #[.string J, .int .i64 0], ?_, ?_, ?_⟩
    · simp [results, Tryd.f10, go_sem]
    · rw [HP.out, ← hJl.out]
    · rw [hgB]; exact below_put hb6 _ (by omega)
end Go.Proofs.YtfbllioegeadfaaDoor
