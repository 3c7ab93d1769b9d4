/- Package config: read: a text's fields, read into a config. -/
import Derived.Test.YtfbllioegeadfaaDoorCfL
namespace Go.Proofs.YtfbllioegeadfaaDoor
open Go.RowKit Go.Shelf
attribute [local go_sem] Oper.semAt_some
set_option linter.unusedSimpArgs false
set_option linter.unusedVariables false

def cFd : Fd := (List.range 12).map fun i => ((keyB i).data.toList, cntN i)
def stN : Nat → Nat
  | 0 => 0 | 1 => 1 | 2 => 2 | 3 => 3 | 4 => 4 | 5 => 5 | 6 => 7 | 7 => 9 | 8 => 12 | 9 => 15 | 10 => 16 | 11 => 20 | _ => 24
/-- numbers laid as a config has them: the five of the config itself lie last -/
def layM : List Value → Nat → List Int → List Value
  | cs, _, [] => cs
  | cs, i, n :: l => layM (cs.set ((i + 19) % 24) (.int .i64 n)) (i + 1) l
theorem layM_app : ∀ (l m : List Int) (cs : List Value) (i : Nat), layM cs i (l ++ m) = layM (layM cs i l) (i + l.length) m
  | [], m, cs, i => rfl
  | n :: l, m, cs, i => by
    rw [List.cons_append, layM, layM, layM_app l m, List.length_cons]
    congr 1; omega
theorem layN_M : ∀ (l : List Int) (cs : List Value) (o i : Nat), o = (i + 19) % 24 → o + l.length ≤ 24 → layN cs o l = layM cs i l
  | [], cs, o, i, _, _ => rfl
  | n :: l, cs, o, i, h, h2 => by
    rw [List.length_cons] at h2
    rw [layN, layM, ← h]
    cases l with
    | nil => rfl
    | cons m l =>
      rw [List.length_cons] at h2
      exact layN_M (m :: l) _ _ _ (by omega) (by rw [List.length_cons]; omega)
theorem layM_len : ∀ (l : List Int) (cs : List Value) (i : Nat), (layM cs i l).length = cs.length
  | [], _, _ => rfl
  | n :: l, cs, i => by rw [layM, layM_len l, List.length_set]
theorem layM_ints : ∀ (l : List Int) (cs : List Value) (i : Nat), (∀ v ∈ cs, ∃ n : Int, v = .int .i64 n) → ∀ v ∈ layM cs i l, ∃ n : Int, v = .int .i64 n
  | [], _, _, h => h
  | n :: l, cs, i, h => by
    refine layM_ints l _ _ fun v hv => ?_
    rcases List.mem_or_eq_of_mem_set hv with hv | hv
    · exact h v hv
    · exact ⟨n, hv⟩
theorem cFd_drop (s : Nat) (hs : s < 12) : cFd.drop s = ((keyB s).data.toList, cntN s) :: cFd.drop (s + 1) := by
  have : ∀ s, s < 12 → cFd.drop s = ((keyB s).data.toList, cntN s) :: cFd.drop (s + 1) := by
    intro s hs
    match s, hs with
    | 0, _ => rfl | 1, _ => rfl | 2, _ => rfl | 3, _ => rfl | 4, _ => rfl | 5, _ => rfl | 6, _ => rfl | 7, _ => rfl | 8, _ => rfl | 9, _ => rfl | 10, _ => rfl | 11, _ => rfl
  exact this s hs
theorem st_off (s : Nat) (hs : s < 12) : offN s = (stN s + 19) % 24 ∧ offN s + cntN s ≤ 24 ∧ stN (s + 1) = stN s + cntN s ∧ 1 ≤ cntN s ∧ cntN s ≤ 4 := by
  match s, hs with
  | 0, _ => decide | 1, _ => decide | 2, _ => decide | 3, _ => decide | 4, _ => decide | 5, _ => decide | 6, _ => decide | 7, _ => decide | 8, _ => decide | 9, _ => decide | 10, _ => decide | 11, _ => decide
def keyT (s : Nat) : Tx := (keyB s).data.toList ++ [61]
theorem keyB_len (s : Nat) : (keyB s).size ≤ 7 := by
  match s with
  | 0 => decide | 1 => decide | 2 => decide | 3 => decide | 4 => decide | 5 => decide | 6 => decide | 7 => decide | 8 => decide | 9 => decide | 10 => decide | _ + 11 => exact (by decide : (⟨#[104, 105]⟩ : ByteArray).size ≤ 7)
/-- how far reading has come -/
def RdR (P : List Tx) (s : Nat) (l : List Int) : Prop := oRead cFd P = (oRead (cFd.drop s) (P.drop s)).map (l ++ ·) ∧ l.length = stN s
theorem RdR.start (P : List Tx) : RdR P 0 [] := ⟨by simp, rfl⟩
theorem RdR.short {P : List Tx} {s : Nat} {l : List Int} (h : RdR P s l) (hs : s < 12) (hp : P.length ≤ s) : oRead cFd P = none := by
  rw [h.1, List.drop_eq_nil_of_le hp, cFd_drop s hs]; rfl
theorem RdR.at_ {P : List Tx} {s : Nat} {l : List Int} (h : RdR P s l) (hs : s < 12) {p : Tx} (hp : P[s]? = some p) :
    oRead cFd P = (if (keyT s).isPrefixOf p = true then (oFill (cntN s) (p.drop (keyT s).length)).bind fun a => (oRead (cFd.drop (s + 1)) (P.drop (s + 1))).map (a ++ ·) else none).map (l ++ ·) := by
  obtain ⟨hl, rfl⟩ := List.getElem?_eq_some_iff.1 hp
  rw [h.1, cFd_drop s hs, List.drop_eq_getElem_cons hl]; rfl
theorem RdR.no {P : List Tx} {s : Nat} {l : List Int} (h : RdR P s l) (hs : s < 12) {p : Tx} (hp : P[s]? = some p) (hk : (keyT s).isPrefixOf p = false) : oRead cFd P = none := by
  rw [h.at_ hs hp, hk]; rfl
theorem RdR.bad {P : List Tx} {s : Nat} {l : List Int} (h : RdR P s l) (hs : s < 12) {p : Tx} (hp : P[s]? = some p) (hk : (keyT s).isPrefixOf p = true) (hf : oFill (cntN s) (p.drop (keyT s).length) = none) : oRead cFd P = none := by
  rw [h.at_ hs hp, hk, hf]; rfl
theorem oFill_len {k : Nat} {t : Tx} {a : List Int} (h : oFill k t = some a) : a.length = k := by
  unfold oFill at h
  by_cases hk : (spl 44 t).length = k
  · rw [if_pos hk] at h; rw [nums_len _ _ h, hk]
  · rw [if_neg hk] at h; cases h
theorem RdR.next {P : List Tx} {s : Nat} {l : List Int} (h : RdR P s l) (hs : s < 12) {p : Tx} (hp : P[s]? = some p) (hk : (keyT s).isPrefixOf p = true) {a : List Int} (hf : oFill (cntN s) (p.drop (keyT s).length) = some a) : RdR P (s + 1) (l ++ a) := by
  refine ⟨?_, by rw [List.length_append, h.2, oFill_len hf, (st_off s hs).2.2.1]⟩
  rw [h.at_ hs hp, hk, hf, if_pos rfl, Option.bind_some, Option.map_map]
  congr 1
  funext x
  simp
theorem RdR.end_ {P : List Tx} {l : List Int} (h : RdR P 12 l) (h12 : 12 ≤ P.length) : oRead cFd P = if P.length = 12 then some l else none := by
  rw [h.1]
  by_cases hp : P.length = 12
  · rw [if_pos hp, (List.drop_eq_nil_of_le (by omega) : P.drop 12 = [])]
    show (some ([] : List Int)).map (l ++ ·) = _
    simp
  · rw [if_neg hp]
    have : P.drop 12 ≠ [] := by
      intro e
      have := congrArg List.length e
      rw [List.length_drop] at this
      simp at this; omega
    obtain ⟨x, r, e⟩ := List.exists_cons_of_ne_nil this
    rw [e]; rfl
theorem Rd.put {w : World} {B : Nat} {A : Option Addr} {xs : List Value} (h : Rd w B A xs) {l : Nat} {o : Obj} (o' : Obj) (hl : w.heap[l]? = some o) (ho : o.isCells = false) : Rd (w.putObj l o') B A xs := fun hn => by
  obtain ⟨ad, e, hb, hc⟩ := h hn
  refine ⟨ad, e, hb, fun j u hu => ?_⟩
  have h1 := hc j u hu
  by_cases hne : ad.block = l
  · exfalso
    subst hne
    unfold World.cell? at h1
    rw [add_block, hl] at h1
    cases o <;> simp_all [Obj.isCells]
  · refine Eq.trans (World.cell?_of_block ?_) h1
    rw [add_block]
    exact World.putObj_heap_other hne
theorem keeps_grown {w w' : World} {B : Nat} {T : TypeId} {cs : List Value} (h : w.grownBy w' (some B)) (hk : Bk w B T cs) : KeepsOthers w w' := ⟨h.size, fun k o hk' ho => by
  refine (h.block k (Array.getElem?_eq_some_iff.1 hk').1 ?_).trans hk'
  intro e
  injection e with e
  subst e
  unfold Bk at hk
  rw [hk] at hk'
  cases hk'; cases ho⟩
theorem keeps_below {w w' : World} (h : Below w.heap.size w w') : KeepsOthers w w' := ⟨h.size, fun k o hk _ => (h.block k (Array.getElem?_eq_some_iff.1 hk).1).trans hk⟩
theorem gr_put {a w : World} {row : Option Nat} (h : a.grownBy w row) {l : Nat} (o' : Obj) (hl : a.heap.size ≤ l) : a.grownBy (w.putObj l o') row :=
  ⟨h.os, h.tape, h.output, by simpa using h.size, fun k hk hne => (World.putObj_heap_other (by omega)).trans (h.block k hk hne)⟩
theorem GW.put {w : World} (h : GW w) {l : Nat} (o' : Obj) (hl : 2 ≤ l) : GW (w.putObj l o') := h.blk (World.putObj_heap_other (by omega)) (World.putObj_heap_other (by omega)) (by simp)
theorem two_of {vs : Array Value} (h : vs.size = 2) : vs = #[vs.getD 0 undef, vs.getD 1 undef] := by
  obtain ⟨l⟩ := vs
  match l, h with
  | [x, y], _ => rfl
/-- the law of a loop over pairs -/
theorem wpIn_rangeF2 {F : Fence} {n : Nat} {P : Program} {g : Operand} {p q : Tmp} {assign body : Code} {Q : Exit → Act → World → Prop} {a : Act} {w : World}
    (hro : F.round = none) (h1 : 1 ≤ n) {gf : Nat} {lb : Array Value} (hg : a.eval g = .func (.func gf) #[] lb) (hFg : F.fn gf) (eg : ∀ args w, (callFunc gf args).run P w = .ok (.enter gf args) w)
    {K : Nat} {Hd : World → Prop} {En : Nat → World → Array Value → Prop} (hseq : SeqF F (n - 1) P gf lb K Hd En) (hps : ∀ s W vs, En s W vs → vs.size = 2)
    (hEo : ∀ s W vs l o o', En s W vs → w.heap.size ≤ l → W.heap[l]? = some o → o.isCells = false → En s (W.putObj l o') vs)
    (I : Nat → World → Prop) (Ix : Code → World → Prop) (hIH : ∀ s W, I s W → Hd W)
    (hI : ∀ s W1 W2, I s W1 → Below W1.heap.size W1 W2 → I s W2)
    (hIo : ∀ s W l o o', I s W → w.heap.size ≤ l → W.heap[l]? = some o → o.isCells = false → I s (W.putObj l o'))
    (hIxo : ∀ c W l o o', Ix c W → w.heap.size ≤ l → W.heap[l]? = some o → o.isCells = false → Ix c (W.putObj l o'))
    (h0 : I 0 w) (a₁ : Value → Value → Act)
    (hassign : ∀ (l : Nat) (x y : Value) (W : World) (K' : Act → World → Prop), K' (a₁ x y) W →
      assign.wpIn (F.inRound l) (n - 1 - 1) P (Exit.then K' (fun _ _ _ => False)) { tmps := (#[p, q].zip #[x, y]).foldl (fun t (p, v) => t.setIfInBounds p v) a.tmps, defers := [] } W)
    (hbody : ∀ (l s : Nat) (x y : Value) (W : World), s < K → I s W → En s W #[x, y] → body.wpIn (F.inRound l) (n - 1 - 1) P (fPost I Ix s W) (a₁ x y) W)
    (hdone : ∀ (D : Nat) (W : World), w.heap.size ≤ D → I K W → W.heap[D]? = some (.deferred (some [])) → Q .normal { a with defers := { target := .collected D, args := #[] } :: a.defers } W)
    (hstop : ∀ (D : Nat) (c : Code) (W : World), w.heap.size ≤ D → Ix c W → W.heap[D]? = some (.deferred (some [])) → c.wpIn F n P Q { a with defers := { target := .collected D, args := #[] } :: a.defers } W) :
    (Code.rangeFunc g #[p, q] assign body).wpIn F n P Q a w := by
  refine wpIn_rangeF hro h1 hg hFg eg hseq (fun s W vs h => hps s W vs h) hEo I Ix hIH hI hIo hIxo h0 (fun vs => a₁ (vs.getD 0 undef) (vs.getD 1 undef)) ?_ ?_ hdone hstop
  · intro l vs W K' hv hK
    have h2 : vs.size = 2 := hv
    rw [two_of h2]
    exact hassign l _ _ W K' hK
  · intro l s vs W hs hi hen
    have h2 := hps s W vs hen
    rw [two_of h2] at hen
    exact hbody l s _ _ W hs hi hen
/-- what read leaves -/
def ReadP (B : Nat) (cs : List Value) (w : World) (o : Option (List Int)) (e : Ending) (w' : World) : Prop := w.grownBy w' (some B) ∧ match o with
  | some ns => e = .returned (.bool true) ∧ Bk w' B 34 (layM cs 0 ns)
  | none => e = .returned (.bool false)
/-- reading under way -/
structure RdI (w : World) (B g1 g2 gr gp gs ga : Nat) (cs : List Value) (L : List ByteArray) (s : Nat) (W : World) : Prop where
  ex : ∃ l, RdR (L.map (·.data.toList)) s l ∧ Bk W B 34 (layM cs 0 l)
  le : s ≤ L.length
  hd : Hd32 g1 g2 B W
  kr : Bk W gr 4 [.bool false]
  kp : Bk W gp 64 [.slice (some ⟨gs, 0, none⟩) L.length L.length]
  ks : Bk W gs 9 (L.map Value.string)
  ka : Bk W ga 3 [.int .i64 s]
  gw : GW W
  gr : w.grownBy W (some B)
structure RdX (w : World) (B gr : Nat) (L : List ByteArray) (c : Code) (W : World) : Prop where
  c : c = .ret
  no : oRead cFd (L.map (·.data.toList)) = none
  kr : Bk W gr 4 [.bool false]
  gr : w.grownBy W (some B)
theorem RdI.step {w : World} {B g1 g2 gr gp gs ga : Nat} {cs : List Value} {L : List ByteArray} {s : Nat} {W W' : World} (h : RdI w B g1 g2 gr gp gs ga cs L s W) (hb : Below W.heap.size W W') : RdI w B g1 g2 gr gp gs ga cs L s W' := by
  obtain ⟨⟨l, hR, kB⟩, hle, ⟨d1, d2, d3⟩, kr, kp, ks, ka, hg, hgr⟩ := h
  exact ⟨⟨l, hR, kB.step hb⟩, hle, ⟨d1.step hb, d2.step hb, Nat.lt_of_lt_of_le d3 hb.size⟩, kr.step hb, kp.step hb, ks.step hb, ka.step hb, hg.step hb, Gr.step hgr hb⟩
theorem RdI.put {w : World} {B g1 g2 gr gp gs ga : Nat} {cs : List Value} {L : List ByteArray} {s : Nat} {W : World} (h : RdI w B g1 g2 gr gp gs ga cs L s W) {l : Nat} {o : Obj} (o' : Obj) (hl : w.heap.size ≤ l) (h2 : 2 ≤ l) (ho : W.heap[l]? = some o) (hc : o.isCells = false) : RdI w B g1 g2 gr gp gs ga cs L s (W.putObj l o') := by
  obtain ⟨⟨ns, hR, kB⟩, hle, ⟨d1, d2, d3⟩, kr, kp, ks, ka, hg, hgr⟩ := h
  exact ⟨⟨ns, hR, kB.put o' ho hc⟩, hle, ⟨d1.put o' ho hc, d2.put o' ho hc, by simpa using d3⟩, kr.put o' ho hc, kp.put o' ho hc, ks.put o' ho hc, ka.put o' ho hc, hg.put o' h2, gr_put hgr o' hl⟩
theorem split_any (s : ByteArray) (c : UInt8) (hs : s.size ≤ 1000) : ∃ L : List ByteArray, L.map (·.data.toList) = spl c s.data.toList ∧ (∀ x ∈ L, x.size ≤ s.size) ∧ L.length ≤ s.size + 1 ∧ 1 ≤ L.length ∧
    ∀ W, GW W → Calls Tryd.prog 28 #[.string s, .string ⟨#[c]⟩] W fun e w' => e = .returned (.slice (some ⟨W.heap.size, 0, none⟩) L.length L.length) ∧ Bk w' W.heap.size 9 (L.map Value.string) ∧ Below W.heap.size W w' := by
  have hss := split_spl s c
  have hsl := split_len s c
  have hlen : (Lib.splitB ⟨#[c]⟩ 0 (Lib.countB s ⟨#[c]⟩) s).length = Lib.countB s ⟨#[c]⟩ + 1 := by rw [hsl, ← hss, List.length_map]
  refine ⟨_, hss, ?_, ?_, by omega, ?_⟩
  · intro x hx
    have h1 := spl_part_len c s.data.toList x.data.toList (by rw [← hss]; exact List.mem_map_of_mem hx)
    rw [list_size, list_size] at h1; exact h1
  · rw [hlen, hsl]; have := spl_len c s.data.toList; rw [list_size] at this; exact this
  · rintro W ⟨⟨m, hm⟩, _, _⟩
    refine (Tryd.strings_Split s ⟨#[c]⟩ m W (by omega) hm (Nat.le_refl 1)).mono ?_
    rintro e w' ⟨rfl, rfl⟩
    exact ⟨by rw [hlen], Bk.new W 9 _, by (repeat (first | with_reducible exact Below.refl _ _ | with_reducible assumption | with_reducible refine Below.drew ?_ | with_reducible refine Below.drewN ?_ _ | with_reducible refine Below.alloc1 ?_ _ | with_reducible refine Below.setCell1 ?_ (by first | omega | (simp; done) | (simp; omega)) _ | with_reducible refine Below.step ?_ (by with_reducible assumption)))⟩
set_option maxRecDepth 100000 in
set_option maxHeartbeats 4000000 in
theorem config_read_any (B : Nat) (cs : List Value) (hci : ∀ v ∈ cs, ∃ n : Int, v = .int .i64 n) (h24 : cs.length = 24) (s : ByteArray) (hs : s.size ≤ 400) (w : World) (hg : GW w) (hk : Bk w B 34 cs) (hB : 2 ≤ B) :
    Calls Tryd.prog 16 #[.pointer (some ⟨B, 0, none⟩), .string s] w (ReadP B cs w (oRead cFd (spl 59 s.data.toList))) := by
  obtain ⟨L, hL, hLs, hLn, hL1, hsp⟩ := split_any s 59 (by omega)
  rw [← hL]
  replace hL := hide hL
  refine (callsIn_wide (n := 3)).1 ?_
  refine callsIn_of_wp_marks Tryd.func16 rfl trivial ?_ rfl
  simp only [Tryd.ntmps16, List.size_toArray, List.length_cons, List.length_nil, Nat.reduceAdd, Nat.reduceSub, Array.replicate_succ, Array.replicate_zero, List.push_toArray, List.append_toArray, List.nil_append, List.cons_append]
  gi_wp2_with fail
  generalize hV : World.alloc w _ = w0
  have hb0 : Below w.heap.size w w0 := by subst hV; (repeat (first | with_reducible exact Below.refl _ _ | with_reducible assumption | with_reducible refine Below.drew ?_ | with_reducible refine Below.drewN ?_ _ | with_reducible refine Below.alloc1 ?_ _ | with_reducible refine Below.setCell1 ?_ (by first | omega | (simp; done) | (simp; omega)) _ | with_reducible refine Below.step ?_ (by with_reducible assumption)))
  have kr : Bk w0 w.heap.size 4 [.bool false] := by subst hV; (repeat (first | with_reducible exact Bk.new' _ _ _ _ (by simp; done) | with_reducible assumption | with_reducible refine Bk.alloc ?_ _ | with_reducible refine Bk.drew ?_ | with_reducible refine Bk.drewN ?_ _ | with_reducible refine Bk.step ?_ (by with_reducible assumption) | with_reducible refine Bk.far ?_ (by first | omega | (simp; done) | (simp; omega)) _))
  clear hV
  have hB0 : B ≠ w.heap.size := by have := hk.lt; omega
  replace hg := hg.step hb0
  replace hk := hk.step hb0
  have hgr : w.grownBy w0 (some B) := Gr.step (Gr.refl _ _) hb0
  generalize hgq : w.heap.size = gr at *
  have hge : w.heap.size ≤ gr := by omega
  clear hgq
  refine ⟨trivial, (callsIn_wide.2 (hsp _ hg)).mono ?_⟩; rintro e w1 ⟨rfl, ks, hb1⟩
  replace hg := hg.step hb1
  have hBlt := hk.lt
  have hgrlt := kr.lt
  have hwlt : w.heap.size ≤ w0.heap.size := hgr.size
  replace hk := hk.step hb1
  replace kr := kr.step hb1
  replace hgr := Gr.step hgr hb1
  have hlt01 : w0.heap.size < w1.heap.size := ks.lt
  have h1 : B ≠ w0.heap.size := by omega
  have hrs : gr ≠ w0.heap.size := by omega
  clear hb1
  generalize w0.heap.size = gs at *
  gi_wp2_with fail
  generalize hV : World.alloc (World.alloc w1 _) _ = w2
  have hb2 : Below w1.heap.size w1 w2 := by subst hV; (repeat (first | with_reducible exact Below.refl _ _ | with_reducible assumption | with_reducible refine Below.drew ?_ | with_reducible refine Below.drewN ?_ _ | with_reducible refine Below.alloc1 ?_ _ | with_reducible refine Below.setCell1 ?_ (by first | omega | (simp; done) | (simp; omega)) _ | with_reducible refine Below.step ?_ (by with_reducible assumption)))
  have kp : Bk w2 w1.heap.size 64 [.slice (some ⟨gs, 0, none⟩) L.length L.length] := by subst hV; (repeat (first | with_reducible exact Bk.new' _ _ _ _ (by simp; done) | with_reducible assumption | with_reducible refine Bk.alloc ?_ _ | with_reducible refine Bk.drew ?_ | with_reducible refine Bk.drewN ?_ _ | with_reducible refine Bk.step ?_ (by with_reducible assumption) | with_reducible refine Bk.far ?_ (by first | omega | (simp; done) | (simp; omega)) _))
  have ka : Bk w2 (w1.heap.size + 1) 3 [.int .i64 0] := by subst hV; (repeat (first | with_reducible exact Bk.new' _ _ _ _ (by simp; done) | with_reducible assumption | with_reducible refine Bk.alloc ?_ _ | with_reducible refine Bk.drew ?_ | with_reducible refine Bk.drewN ?_ _ | with_reducible refine Bk.step ?_ (by with_reducible assumption) | with_reducible refine Bk.far ?_ (by first | omega | (simp; done) | (simp; omega)) _))
  clear hV
  replace hg := hg.step hb2
  replace hk := hk.step hb2
  replace kr := kr.step hb2
  replace ks := ks.step hb2
  replace hgr := Gr.step hgr hb2
  have hb2s := hb2.size
  have hga := ka.lt
  clear hb2
  generalize w1.heap.size = gp at *
  refine ⟨trivial, (callsIn_wide.2 (config_fields_any B w2 _ hk)).mono ?_⟩; rintro e w3 ⟨rfl, kc1, kc2, hb3⟩
  replace hg := hg.step hb3
  replace hk := hk.step hb3
  replace kr := kr.step hb3
  replace ks := ks.step hb3
  replace kp := kp.step hb3
  replace ka := ka.step hb3
  replace hgr := Gr.step hgr hb3
  have hltp := kp.lt
  have hlta := ka.lt
  have hlt2 := kc1.lt
  clear hb3
  generalize w2.heap.size = g1 at *
  gi_wp2_with fail
  have hw3 : w.heap.size ≤ w3.heap.size := hgr.size
  have h23 : 2 ≤ w3.heap.size := hg.2.2
  refine wpIn_rangeF2 rfl (by omega) rfl trivial (enters_of Tryd.func36 (by kernel_rfl) rfl) (fields1_seq (3 - 1) g1 (g1 + 1) B)
    (fun s W vs ⟨A, c, e, _⟩ => by rw [e]; rfl)
    (fun s W vs l o o' ⟨A, c, e, hc, hr, hA⟩ hl h ho => ⟨A, c, e, hc, by simpa using hr.put o' h ho, hA⟩)
    (RdI w B g1 (g1 + 1) gr gp gs (gp + 1) cs L) (RdX w B gr L) (fun s W h => h.hd)
    (fun s W1 W2 h hb => h.step hb)
    (fun s W l o o' h hl ho hc => h.put o' (Nat.le_trans hw3 hl) (Nat.le_trans h23 hl) ho hc)
    (fun c W l o o' h hl ho hc => ⟨h.c, h.no, h.kr.put o' ho hc, gr_put h.gr o' (Nat.le_trans hw3 hl)⟩)
    ⟨⟨[], RdR.start _, hk⟩, Nat.zero_le _, ⟨kc1, kc2, hk.lt⟩, kr, kp, ks, ka, hg, hgr⟩
    _ (fun l x y W K hK => by gi_wp2; exact hK) ?body ?done ?stop
  case body =>
    rintro l r x y W hr12 hI ⟨A, c, hxy, hc, hrd, hA⟩
    obtain ⟨rfl, rfl⟩ : x = .string (keyB r) ∧ y = .slice A (cntN r) c := by simpa using hxy
    clear hxy
    obtain ⟨⟨ns, hR, kB⟩, hle, hd, kr, kp, ks, ka, hg, hgr⟩ := hI
    have kp_0 := kp.cell 0; have kp_f0 := kp.frozen 0; simp only [List.set_cons_zero, List.set_cons_succ, List.getElem?_cons_zero, List.getElem?_cons_succ] at kp_0; have lt_kp := kp.lt; have ka_0 := ka.cell 0; have ka_f0 := ka.frozen 0; simp only [List.set_cons_zero, List.set_cons_succ, List.getElem?_cons_zero, List.getElem?_cons_succ] at ka_0; have lt_ka := ka.lt; have kr_0 := kr.cell 0; have kr_f0 := kr.frozen 0; simp only [List.set_cons_zero, List.set_cons_succ, List.getElem?_cons_zero, List.getElem?_cons_succ] at kr_0; have lt_kr := kr.lt
    by_cases hlt : r < L.length
    case neg =>
      have hno := hide (hR.short hr12 (by simpa using (show L.length ≤ r by omega)))
      obtain rfl : r = L.length := by omega
      clear hR
      gi_wp2
      exact ⟨KeepsOthers.setCell _ _ _, rfl, hno.out, kr.set_ 0 _, Gr.set_ hgr (.inr hge) _⟩
    have gL := strs_at W gs L _ ks r hlt
    have hEq2 : ((r : Int) == (L.length : Int)) = false := by simp; omega
    have hri : (r : Int) < (L.length : Int) := by omega
    have hat : (L.map (·.data.toList))[r]? = some L[r].data.toList := by rw [List.getElem?_map, List.getElem?_eq_getElem hlt]; rfl
    replace hat := hide hat
    replace hR := hide hR
    replace hL := hL
    have hrne : ¬ r = L.length := by omega
    have hks : (keyB r).size + 1 ≤ 9223372036854775807 := by have := keyB_len r; omega
    gi_wp2_with fail
    refine ⟨trivial, (CallsIn.inRound l (callsIn_wide.2 (Tryd.strings_CutPrefix _ _ _))).mono ?_⟩; rintro e w4 ⟨rfl, rfl⟩
    have hkt : (keyB r ++ ⟨#[61]⟩ : ByteArray).data.toList = keyT r := by rw [keyT]; simp
    rw [hkt]
    have hpre : Lib.hasPrefix L[r].data.toList (keyT r) = (keyT r).isPrefixOf L[r].data.toList := rfl
    rw [hpre]
    clear hpre
    cases hpr : (keyT r).isPrefixOf L[r].data.toList with
    | false =>
      have hno := hide (hR.out.no hr12 hat.out hpr)
      clear hpr
      gi_wp2_with fail
      refine ⟨trivial, ?_⟩
      gi_wp2
      exact ⟨KeepsOthers.setCell _ _ _, rfl, hno.out, kr.set_ 0 _, Gr.set_ hgr (.inr hge) _⟩
    | true =>
      have htr : Lib.trimPrefix L[r].data.toList (keyT r) = L[r].data.toList.drop (keyT r).length := by
        unfold Lib.trimPrefix Lib.hasPrefix; rw [if_pos hpr]
      rw [htr]
      clear htr
      obtain ⟨p, hp⟩ : ∃ p : ByteArray, p = ⟨(L[r].data.toList.drop (keyT r).length).toArray⟩ := ⟨_, rfl⟩
      have hpl : p.data.toList = L[r].data.toList.drop (keyT r).length := by rw [hp]
      rw [← hp]
      have hps : p.size ≤ 1000 := by
        rw [← list_size, hpl, List.length_drop, list_size]
        have := hLs _ (List.getElem_mem hlt)
        omega
      clear hp
      have hsf := st_off r hr12
      have hfill := config_fill_any B (offN r) (cntN r) 34 (layM cs 0 ns) (layM_ints ns cs 0 hci) p hps A c hc hsf.2.2.2.1 w4 hg hrd hA kB (by rw [layM_len, h24]; exact hsf.2.1) hB
      rw [hpl] at hfill
      cases hof : oFill (cntN r) (L[r].data.toList.drop (keyT r).length) with
      | none =>
        rw [hof] at hfill
        have hno := hide (hR.out.bad hr12 hat.out hpr hof)
        clear hpr hof hpl hsf
        gi_wp2_with fail
        refine ⟨trivial, (CallsIn.inRound l (callsIn_wide.2 hfill)).mono ?_⟩; rintro e w5 ⟨hg5, rfl⟩
        replace kr := kr.gr hg5 (Ne.symm hB0)
        have kr_0 := kr.cell 0; have kr_f0 := kr.frozen 0; simp only [List.set_cons_zero, List.set_cons_succ, List.getElem?_cons_zero, List.getElem?_cons_succ] at kr_0; have lt_kr := kr.lt
        gi_wp2
        exact ⟨(keeps_grown hg5 kB).trans (KeepsOthers.setCell _ _ _), rfl, hno.out, kr.set_ 0 _, Gr.set_ (Gr.trans hgr hg5) (.inr hge) _⟩
      | some a =>
        rw [hof] at hfill
        have hnx := hide (hR.out.next hr12 hat.out hpr hof)
        have hly := hide (layN_M a (layM cs 0 ns) (offN r) (stN r) hsf.1 (by rw [oFill_len hof]; exact hsf.2.1))
        clear hpr hof hpl hsf
        gi_wp2_with fail
        refine ⟨trivial, (CallsIn.inRound l (callsIn_wide.2 hfill)).mono ?_⟩; rintro e w5 ⟨hg5, rfl, kB5⟩
        have hka := kB.lt
        have kk := keeps_grown hg5 kB
        replace kr := kr.gr hg5 (Ne.symm hB0)
        replace kp := kp.gr hg5 (by omega)
        replace ks := ks.gr hg5 (by omega)
        replace ka := ka.gr hg5 (by omega)
        obtain ⟨d1, d2, d3⟩ := hd
        replace d1 := d1.gr hg5 (by omega)
        replace d2 := d2.gr hg5 (by omega)
        replace hg := hg.gr hg5 hB
        replace hgr := Gr.trans hgr hg5
        have hs5 := hg5.size
        clear kB hg5 hfill hrd hA kp_0 kp_f0 ka_0 ka_f0 kr_0 kr_f0 gL lt_kp lt_ka lt_kr hEq2
        have kp_0 := kp.cell 0; have kp_f0 := kp.frozen 0; simp only [List.set_cons_zero, List.set_cons_succ, List.getElem?_cons_zero, List.getElem?_cons_succ] at kp_0; have lt_kp := kp.lt; have ka_0 := ka.cell 0; have ka_f0 := ka.frozen 0; simp only [List.set_cons_zero, List.set_cons_succ, List.getElem?_cons_zero, List.getElem?_cons_succ] at ka_0; have lt_ka := ka.lt; have kr_0 := kr.cell 0; have kr_f0 := kr.frozen 0; simp only [List.set_cons_zero, List.set_cons_succ, List.getElem?_cons_zero, List.getElem?_cons_succ] at kr_0; have lt_kr := kr.lt
        have hwr : wrap64 ((r : Int) + 1) = ((r + 1 : Nat) : Int) := (IntWalk.wrap64_in ((r : Int) + 1) ⟨by omega, by omega⟩).trans (by omega)
        gi_wp2
        generalize hV : World.setCell w5 _ _ = w6
        have q1 : KeepsOthers w5 w6 := by subst hV; exact KeepsOthers.setCell _ _ _
        have q2 : Bk w6 B 34 (layM cs 0 (ns ++ a)) := by
          subst hV
          rw [layM_app, Nat.zero_add, hR.out.2, ← hly.out]; exact kB5.far (by simp; omega) _
        have q3 : Hd32 g1 (g1 + 1) B w6 := by subst hV; exact ⟨d1.far (by simp; omega) _, d2.far (by simp; omega) _, by simpa using Nat.lt_of_lt_of_le d3 hs5⟩
        have q4 : w.grownBy w6 (some B) := by subst hV; exact Gr.set_ hgr (.inr (by simp; omega)) _
        have q5 : GW w6 := by subst hV; exact hg.gr (Gr.set_ (g := gp + 1) (Gr.refl _ _) (.inl rfl) _) (by omega)
        refine ⟨kk.trans q1, ⟨ns ++ a, hnx.out, q2⟩, hlt, q3, ?_, ?_, ?_, ?_, q5, q4⟩
        · subst hV; exact kr.far (by first | omega | (simp; done) | (simp; omega)) _
        · subst hV; exact kp.far (by first | omega | (simp; done) | (simp; omega)) _
        · subst hV; exact ks.far (by first | omega | (simp; done) | (simp; omega)) _
        · subst hV; first | exact ka.set_ 0 _ | (rw [hwr]; exact ka.set_ 0 _)
  case done =>
    rintro D W hD hI hK
    obtain ⟨⟨ns, hR, kB⟩, hle, hd, kr, kp, ks, ka, hg, hgr⟩ := hI
    have kp_0 := kp.cell 0; have kp_f0 := kp.frozen 0; simp only [List.set_cons_zero, List.set_cons_succ, List.getElem?_cons_zero, List.getElem?_cons_succ] at kp_0; have lt_kp := kp.lt; have ka_0 := ka.cell 0; have ka_f0 := ka.frozen 0; simp only [List.set_cons_zero, List.set_cons_succ, List.getElem?_cons_zero, List.getElem?_cons_succ] at ka_0; have lt_ka := ka.lt; have kr_0 := kr.cell 0; have kr_f0 := kr.frozen 0; simp only [List.set_cons_zero, List.set_cons_succ, List.getElem?_cons_zero, List.getElem?_cons_succ] at kr_0; have lt_kr := kr.lt
    replace hR := hide (hR.end_ (by simpa using hle))
    have hmap : (L.map (·.data.toList)).length = L.length := by simp
    rw [hmap] at hR
    by_cases h12 : L.length = 12
    · have e1 : ((12 : Int) == (L.length : Int)) = true := by simp; omega
      have e2 : oRead cFd (L.map (·.data.toList)) = some ns := by rw [hR.out, if_pos h12]
      replace e2 := hide e2
      gi_wp2
      have hK2 := (KeepsOthers.setCell W ⟨gr, 0, none⟩ (.bool true)).same D _ hK rfl
      have k2 := (kr.set_ 0 (.bool true)).put (.deferred none) hK2 rfl
      refine ⟨by simp, .inl ⟨_, _, rfl, run_takeDeferred hK2, ?_⟩⟩
      have k2_0 := k2.cell 0
      refine ⟨.bool true, ?_, ?_⟩
      · simp [results, Tryd.f16, go_sem, k2_0]
      · rw [e2.out]
        exact ⟨gr_put (Gr.set_ hgr (.inr hge) _) _ (Nat.le_trans hw3 hD), rfl, (kB.far hB0 _).put _ hK2 rfl⟩
    · have e1 : ((12 : Int) == (L.length : Int)) = false := by simp; omega
      have e2 : oRead cFd (L.map (·.data.toList)) = none := by rw [hR.out, if_neg h12]
      replace e2 := hide e2
      have e3 : ¬ 12 = L.length := by omega
      gi_wp2
      have hK2 := (KeepsOthers.setCell W ⟨gr, 0, none⟩ (.bool false)).same D _ hK rfl
      have k2 := (kr.set_ 0 (.bool false)).put (.deferred none) hK2 rfl
      refine ⟨by simp, .inl ⟨_, _, rfl, run_takeDeferred hK2, ?_⟩⟩
      have k2_0 := k2.cell 0
      refine ⟨.bool false, ?_, ?_⟩
      · simp [results, Tryd.f16, go_sem, k2_0]
      · rw [e2.out]
        exact ⟨gr_put (Gr.set_ hgr (.inr hge) _) _ (Nat.le_trans hw3 hD), rfl⟩
  case stop =>
    rintro D c W hD ⟨rfl, hno, kr, hgr⟩ hK
    replace hno := hide hno
    gi_wp2
    have k2 := kr.put (.deferred none) hK rfl
    refine ⟨by simp, .inl ⟨_, _, rfl, run_takeDeferred hK, ?_⟩⟩
    have k2_0 := k2.cell 0
    refine ⟨.bool false, ?_, ?_⟩
    · simp [results, Tryd.f16, go_sem, k2_0]
    · rw [hno.out]
      exact ⟨gr_put hgr _ (Nat.le_trans hw3 hD), rfl⟩
end Go.Proofs.YtfbllioegeadfaaDoor
