/- callboylaw04: ChainKeeps' walk. -/
import Derived.Test.YthicpjfdljgfpaaLo
import Derived.Test.YthicpjfdljgfpaaCw
import Derived.Deep.CutBlock
import Derived.Deep.DeepCutAuto
namespace Go.Proofs.Ythicpjfdljgfpaa
open Go.RowKit Go.Sort
set_option linter.unusedSimpArgs false
set_option linter.unusedVariables false

structure Ac where
  k : Int
  l : Int
  a : Int
abbrev acC (x : Ac) : List Value := [.int .u8 x.k, .int .u8 x.l, .int .u8 x.a]
abbrev acR (l : List Ac) : List Value := l.flatMap acC
theorem acR_length (l : List Ac) : (acR l).length = 3 * l.length := by
  induction l with
  | nil => rfl
  | cons a l ih => simp only [acR, List.flatMap_cons, List.length_append, List.length_cons] at *; simp only [List.length_nil] at *; omega
theorem acR_get (l : List Ac) (k : Nat) (h : k < l.length) : (acR l)[k * 3]? = some (.int .u8 l[k].k) ∧ (acR l)[k * 3 + 1]? = some (.int .u8 l[k].l) ∧ (acR l)[k * 3 + 2]? = some (.int .u8 l[k].a) := by
  induction l generalizing k with
  | nil => simp at h
  | cons a l ih =>
    cases k with
    | zero => simp [acR]
    | succ k =>
      have := ih k (by simpa using h)
      have e : ∀ j, (acR (a :: l))[(k + 1) * 3 + j]? = (acR l)[k * 3 + j]? := fun j => by
        rw [show (k + 1) * 3 + j = (k * 3 + j) + 3 by omega]
        simp [acR]
      have e0 := e 0
      simp only [Nat.add_zero] at e0
      rw [e0, e 1, e 2]
      simpa using this
theorem Rd.ac {w : World} {B : Nat} {A : Option Addr} {l : List Ac} (h : Rd w B A (acR l)) {k : Nat} (hk : k < l.length) :
    ∃ ad, A = some ad ∧ ad.block < B ∧ w.cell? (ad.add (k * 3)) = some (.int .u8 l[k].k) ∧ w.cell? { block := (ad.add (k * 3)).block, off := (ad.add (k * 3)).off + 1 } = some (.int .u8 l[k].l) ∧ w.cell? { block := (ad.add (k * 3)).block, off := (ad.add (k * 3)).off + 2 } = some (.int .u8 l[k].a) := by
  obtain ⟨ad, e, hb, hc⟩ := h (by intro e; have := acR_length l; rw [e] at this; simp at this; omega)
  obtain ⟨a, b, c⟩ := acR_get l k hk
  have f : ∀ (x : Addr) (i : Nat), i ≠ 0 → x.add i = { block := x.block, off := x.off + i } := fun x i hi => by simp [Addr.add, hi]
  exact ⟨ad, e, hb, hc _ _ a, by rw [← f _ 1 (by omega), add_add']; exact hc _ _ b, by rw [← f _ 2 (by omega), add_add']; exact hc _ _ c⟩
theorem wcell {w : World} {g k : Nat} {l : List Int} {v : Int} (h : Bk w g 3 (ints l)) (hv : l[k]? = some v) : w.cell? ⟨g, k, none⟩ = some (.int .i64 v) := by
  rw [h.cell, List.getElem?_map, hv]; rfl
theorem wset {w : World} {g : Nat} {l : List Int} (h : Bk w g 3 (ints l)) (k : Nat) (v : Int) : Bk (w.setCell ⟨g, k, none⟩ (.int .i64 v)) g 3 (ints (l.set k v)) := by
  have := h.set_ k (.int .i64 v)
  rw [show (ints l).set k (.int .i64 v) = ints (l.set k v) by simp [ints, List.map_set]] at this
  exact this
def Apart (g : Nat) (A : Option Addr) : Prop := ∀ ad, A = some ad → ad.block ≠ g
theorem Apart.fr {g b : Nat} {A : Option Addr} (h : Fr b A) (hg : g < b) : Apart g A := fun ad e => by have := h ad e; omega
theorem Apart.lt {w : World} {g B : Nat} {A : Option Addr} {xs : List Value} (h : Rd w B A xs) (hx : xs ≠ []) (hg : B ≤ g) : Apart g A := fun ad e => by
  obtain ⟨ad', e', hb, _⟩ := h hx
  rw [e] at e'; injection e' with e'
  rw [e']; omega
theorem RwN.setc {b g : Nat} {w : World} {T : TypeId} {A : Option Addr} {xs : List Value} (h : RwN b w T A xs) (hg : Apart g A) (i : Nat) (v : Value) : RwN b (w.setCell ⟨g, i, none⟩ v) T A xs := by
  have hs : (w.setCell ⟨g, i, none⟩ v).heap.size = w.heap.size := by simp [World.setCell]
  refine ⟨?_, h.fr, h.ty.setc _ _⟩
  rw [hs]; exact h.rd.keep1 (fun ad e => hg ad e) v
/-- a state's value, its rows apart from block gW -/
def VX (w : World) (gW : Nat) (V : Value) (st : Ch) : Prop := ∃ A B C a b c, V = csV A B C a b c st.ns.length st.hs.length st.ts.length ∧ RwN 0 w 63 A (nds st.ns) ∧ RwN 0 w 3 B (ints st.hs) ∧ RwN 0 w 3 C (ints st.ts) ∧ Apart gW A ∧ Apart gW B ∧ Apart gW C
section
variable {w w' : World} {gW : Nat} {V : Value} {st : Ch}
theorem VX.at_ (h : VX w gW V st) : CsAt w V st := by
  obtain ⟨A, B, C, a, b, c, e, r1, r2, r3, _⟩ := h
  exact ⟨A, B, C, a, b, c, e, r1.rd, r2.rd, r3.rd⟩
theorem VX.step (h : VX w gW V st) (hb : Below w.heap.size w w') : VX w' gW V st := by
  obtain ⟨A, B, C, a, b, c, e, r1, r2, r3, p⟩ := h
  exact ⟨A, B, C, a, b, c, e, r1.step hb, r2.step hb, r3.step hb, p⟩
theorem VX.row {g : Nat} {T : TypeId} {cs : List Value} (h : VX w gW V st) (q : Bk w g T cs) (h1 : 63 ≠ T) (h2 : 3 ≠ T) (cur : Array Value) : VX (w.setRow g cur) gW V st := by
  obtain ⟨A, B, C, a, b, c, e, r1, r2, r3, p⟩ := h
  exact ⟨A, B, C, a, b, c, e, r1.row q h1 cur, r2.row q h2 cur, r3.row q h2 cur, p⟩
theorem VX.setc (h : VX w gW V st) (i : Nat) (v : Value) : VX (w.setCell ⟨gW, i, none⟩ v) gW V st := by
  obtain ⟨A, B, C, a, b, c, e, r1, r2, r3, p1, p2, p3⟩ := h
  exact ⟨A, B, C, a, b, c, e, r1.setc p1 i v, r2.setc p2 i v, r3.setc p3 i v, p1, p2, p3⟩
theorem CsNew.vx {b : Nat} (h : CsNew b w V st) (hb : gW < b) : VX w gW V st := by
  obtain ⟨A, B, C, a', b', c', e, r1, r2, r3⟩ := h
  exact ⟨A, B, C, a', b', c', e, r1.mono (Nat.zero_le _), r2.mono (Nat.zero_le _), r3.mono (Nat.zero_le _), .fr r1.fr hb, .fr r2.fr hb, .fr r3.fr hb⟩
end
abbrev csL (A B C : Option Addr) (a b c : Nat) (st : Ch) : List Value := csC A B C a b c st.ns.length st.hs.length st.ts.length
/-- a state in its variable's block -/
def StX (w : World) (g gW : Nat) (st : Ch) : Prop := ∃ A B C a b c, Bk w g 30 (csL A B C a b c st) ∧ VX w gW (csV A B C a b c st.ns.length st.hs.length st.ts.length) st
theorem StX.step {w w' : World} {g gW : Nat} {st : Ch} (h : StX w g gW st) (hb : Below w.heap.size w w') : StX w' g gW st := by
  obtain ⟨A, B, C, a, b, c, k, r⟩ := h
  exact ⟨A, B, C, a, b, c, k.step hb, r.step hb⟩
theorem StX.setc {w : World} {g gW : Nat} {st : Ch} (h : StX w g gW st) (hne : g ≠ gW) (i : Nat) (v : Value) : StX (w.setCell ⟨gW, i, none⟩ v) g gW st := by
  obtain ⟨A, B, C, a, b, c, k, r⟩ := h
  exact ⟨A, B, C, a, b, c, k.far hne v, r.setc i v⟩
/-- what holds between two deeds -/
structure KR (w2 : World) (g3 gW : Nat) (L : List (List Nat)) (wr : World) : Prop where
  good : Hid (Good 20 L)
  len : Hid (L.length = 4)
  st : StX wr g3 gW (laid 20 L)
  wh : Bk wr gW 3 (ints (wOf 20 L))
  hb : Below g3 w2 wr
theorem l20 {L : List (List Nat)} (h : L.length = 4) : (laid 20 L).ns.length ≤ 1000 ∧ (laid 20 L).hs.length ≤ 1000 ∧ (laid 20 L).ts.length ≤ 1000 := by
  obtain ⟨a, b, c⟩ := laid_lens 20 L
  omega
/-- the first k mapped -/
def mp (f : Int → Int) (W : List Int) (k : Nat) : List Int := (W.take k).map f ++ W.drop k
theorem mp_zero (f : Int → Int) (W : List Int) : mp f W 0 = W := by simp [mp]
theorem mp_all (f : Int → Int) (W : List Int) : mp f W W.length = W.map f := by simp [mp]
theorem mp_get (f : Int → Int) (W : List Int) (k : Nat) : (mp f W k)[k]? = W[k]? := by
  unfold mp
  by_cases h : k < W.length
  · have e : ((W.take k).map f).length = k := by simp; omega
    rw [List.getElem?_append_right (by omega), e, Nat.sub_self, List.getElem?_drop]; simp
  · rw [List.getElem?_eq_none (by simp; omega), List.getElem?_eq_none (by omega)]
theorem mp_set (f : Int → Int) {W : List Int} {k : Nat} {v : Int} (h : W[k]? = some v) : (mp f W k).set k (f v) = mp f W (k + 1) := by
  have hk : k < W.length := (List.getElem?_eq_some_iff.1 h).1
  have hv : W[k] = v := (List.getElem?_eq_some_iff.1 h).2
  unfold mp
  have e : ((W.take k).map f).length = k := by simp; omega
  rw [List.set_append_right _ _ (by omega), e, Nat.sub_self, List.take_succ_eq_append_getElem hk, hv, List.drop_eq_getElem_cons hk]
  simp only [List.set_cons_zero, List.map_append, List.map_cons, List.map_nil, List.append_assoc, List.cons_append, List.nil_append]
theorem mp_keep (f : Int → Int) {W : List Int} {k : Nat} {v : Int} (h : W[k]? = some v) (hf : f v = v) : mp f W k = mp f W (k + 1) := by
  rw [← mp_set f h, hf]
  have hk : k < (mp f W k).length := by have := (List.getElem?_eq_some_iff.1 h).1; simp [mp]; omega
  have hv : (mp f W k)[k] = v := by
    have := mp_get f W k
    rw [h, List.getElem?_eq_getElem hk] at this
    injection this
  conv => rhs; rw [← hv]
  rw [List.set_getElem_self]
set_option maxRecDepth 100000 in
set_option maxHeartbeats 16000000 in
theorem ChainKeeps_walk (A : Option Addr) (c : Nat) (l : List Ac) (w : World) (hl : l.length ≤ maxLen) (hbl : ∀ x ∈ l, (0 ≤ x.k ∧ x.k ≤ 255) ∧ (0 ≤ x.l ∧ x.l ≤ 255) ∧ (0 ≤ x.a ∧ x.a ≤ 255)) (hA : Rd w w.heap.size A (acR l)) :
    Calls Try.prog 5 #[.slice A l.length c] w fun e w' => e = .returned (.bool true) ∧ Below w.heap.size w w' := by
  unfold maxLen at hl
  by_cases hf : 100 < l.length
  · have i1 : (100 : Int) < (l.length : Int) := by omega
    clear hf
    go_enter Try.func5, Try.ntmps5
    go_wp2_with fail
    refine (awake04_any _).mono ?_; rintro e y1 ⟨rfl, hx⟩
    go_wp2
    go_ret
    exact ⟨rfl, by (repeat (first | with_reducible exact Below.refl _ _ | with_reducible assumption | with_reducible refine Below.drew ?_ | with_reducible refine Below.drewN ?_ _ | with_reducible refine Below.alloc1 ?_ _ | with_reducible refine Below.setCell1 ?_ (by first | omega | (simp; done) | (simp; omega)) _ | with_reducible refine Below.step ?_ (by with_reducible assumption)))⟩
  have i1 : (l.length : Int) ≤ 100 := by omega
  clear hf
  obtain ⟨iT, hiT, hz0, hz1, hz2⟩ := info_parts cint_info
  have hmk : ∀ W : World, (Instr.makeSlice 23 (.int .i64 20) (.int .i64 20)).run Try.prog W = .ok (.slice (some ⟨W.heap.size, 0, none⟩) 20 20) (W.alloc (.cells (List.replicate 20 (.int .i64 0)).toArray 3)) := fun W => run_make1 (P := Try.prog) 23 3 iT (.int .i64 0) Try.underlying23 hiT hz0 rfl hz1 20 (by rw [hz2]; omega) (by omega) W
  obtain ⟨hG0, hN0⟩ := good_new (n := 20) (k := 4) (by omega) (by omega)
  have hN := fun W => chain_New_any 20 4 W
  rw [show ((20 : Int)) = ((20 : Nat) : Int) from rfl, show ((4 : Int)) = ((4 : Nat) : Int) from rfl, hN0] at hN
  have HG0 := hide (show Good 20 (List.replicate 4 []) from hG0)
  clear hG0 hN0 hz0 hz1 hz2 hiT
  go_enter Try.func5, Try.ntmps5
  go_wp2_with fail
  refine (hN _).mono ?_; rintro e w1 ⟨_, rfl, hn, hy⟩
  obtain ⟨A0, B0, C0, a0, b0, c0, rfl, rA, rB, rC⟩ := hn
  clear hN
  rw [show List.replicate 4 ([] : List Nat) = [[], [], [], []] from rfl] at HG0 rA rB rC ⊢
  go_upto_region 8 with fail
  generalize hV : World.alloc (World.alloc w1 _) _ = w2
  have hy2 : Below w1.heap.size w1 w2 := by subst hV; (repeat (first | with_reducible exact Below.refl _ _ | with_reducible assumption | with_reducible refine Below.drew ?_ | with_reducible refine Below.drewN ?_ _ | with_reducible refine Below.alloc1 ?_ _ | with_reducible refine Below.setCell1 ?_ (by first | omega | (simp; done) | (simp; omega)) _ | with_reducible refine Below.step ?_ (by with_reducible assumption)))
  have k3 : Bk w2 w1.heap.size 30 (csL A0 B0 C0 a0 b0 c0 (laid 20 [[], [], [], []])) := by subst hV; exact (Bk.new' w1 30 (csL A0 B0 C0 a0 b0 c0 (laid 20 [[], [], [], []])) _ rfl).alloc _
  have kW : Bk w2 (w1.heap.size + 1) 3 (ints (wOf 20 [[], [], [], []])) := by subst hV; exact Bk.new' (World.alloc w1 _) 3 _ _ (by simp)
  clear hV
  have x3 : StX w2 w1.heap.size (w1.heap.size + 1) (laid 20 [[], [], [], []]) := by
    refine ⟨A0, B0, C0, a0, b0, c0, k3, VX.step ⟨A0, B0, C0, a0, b0, c0, rfl, rA.mono (Nat.zero_le _), rB.mono (Nat.zero_le _), rC.mono (Nat.zero_le _), ?_, ?_, ?_⟩ hy2⟩
    · exact Apart.lt rA.rd (fun h => by have h9 := congrArg List.length h; rw [nds_length, (laid_lens _ _).1] at h9; simp at h9) (by omega)
    · exact Apart.lt rB.rd (by simp [laid]) (by omega)
    · exact Apart.lt rC.rd (by simp [laid]) (by omega)
  have hb : Below w.heap.size w w2 := hy.step hy2
  have hg3 : w.heap.size ≤ w1.heap.size ∧ w1.heap.size < w1.heap.size + 1 ∧ w1.heap.size + 1 < w2.heap.size := ⟨hy.size, by omega, kW.lt⟩
  have hA2 := hA.below hb
  clear hy hy2 rA rB rC k3 hmk
  generalize hgW : w1.heap.size + 1 = gW at *
  generalize w1.heap.size = g3 at *
  clear hgW
  go_loopw [6] (fun v6 wr => ∃ (i : Nat) (L : List (List Nat)), v6 = .int .i64 i ∧ i ≤ l.length ∧ KR w2 g3 gW L wr) (fun v _ => match v with | .int _ k => l.length - k.toNat | _ => 0)
  case atStart => exact ⟨0, _, rfl, Nat.zero_le _, HG0, hide rfl, x3, kW, Below.refl _ _⟩
  case round =>
    clear x3 kW HG0
    obtain ⟨i, L, rfl, hi, HG, HL, x3, kW, hbr⟩ := hrel
    by_cases hiq : i = l.length
    · subst hiq
      go_wp2_with fail
      refine (awake04_any _).mono ?_; rintro e y1 ⟨rfl, hx⟩
      go_wp2
      go_ret
      exact ⟨rfl, (hb.trans (hbr.mono hg3.1)).step hx⟩
    · have hil : i < l.length := by omega
      have i2 : (i : Int) < (l.length : Int) := by omega
      obtain ⟨hx1, hx2, hx3⟩ := hbl _ (List.getElem_mem hil)
      obtain ⟨ad, rfl, hadb, d1, d2, d3⟩ := hA2.ac (k := i) hil
      generalize l[i] = x at *
      obtain ⟨xk, xl, xa⟩ := x
      simp only at hx1 hx2 hx3 d1 d2 d3
      obtain ⟨wm, rfl⟩ : ∃ wn : World, wn = wr := ⟨_, rfl⟩
      have cm : ∀ (W : World), Below g3 w2 W → ∀ v o', w2.cell? { block := (ad.add (i * 3)).block, off := o' } = some v → W.cell? { block := (ad.add (i * 3)).block, off := o' } = some v := fun W hW v o' hv => (hW.cell (p := ⟨(ad.add (i * 3)).block, o', none⟩) (by rw [add_block]; omega)).trans hv
      have e1 := (hbr.cell (p := ad.add (i * 3)) (by rw [add_block]; omega)).trans d1
      have e2 := cm wm hbr _ _ d2
      have e3 := cm wm hbr _ _ d3
      have t1 : xl.tmod 4 = xl % 4 := Int.tmod_eq_emod_of_nonneg hx2.1
      have t2 : xa.tmod 20 = xa % 20 := Int.tmod_eq_emod_of_nonneg hx3.1
      have t3 : xk.tmod 5 = xk % 5 := Int.tmod_eq_emod_of_nonneg hx1.1
      obtain ⟨li, hli⟩ : ∃ li : Nat, xl % 4 = (li : Int) := ⟨(xl % 4).toNat, by omega⟩
      obtain ⟨at_, hat⟩ : ∃ q : Nat, xa % 20 = (q : Int) := ⟨(xa % 20).toNat, by omega⟩
      obtain ⟨kd, hkd⟩ : ∃ q : Nat, xk % 5 = (q : Int) := ⟨(xk % 5).toNat, by omega⟩
      have hli4 : li < 4 := by omega
      have hat20 : at_ < 20 := by omega
      have hkd5 : kd < 5 := by omega
      have u1 : IntKind.u8.wrap (xl % 4) = xl % 4 := by rw [IntKind.wrap_u8]; omega
      have u2 : IntKind.u8.wrap (xa % 20) = xa % 20 := by rw [IntKind.wrap_u8]; omega
      have u3 : IntKind.u8.wrap (xk % 5) = xk % 5 := by rw [IntKind.wrap_u8]; omega
      have s1 : IntKind.i64.wrap (li : Int) = li := IntWalk.i64_in _ (by omega)
      have s2 : IntKind.i64.wrap (at_ : Int) = at_ := IntWalk.i64_in _ (by omega)
      have lW := kW.lt
      have q2 : ∀ d os, (grow (redrawn wm d) os).cell? { block := (ad.add (i * 3)).block, off := (ad.add (i * 3)).off + 1 } = some (.int .u8 xl) := fun d os => ((below_regrown wm d os).cell (p := ⟨(ad.add (i * 3)).block, (ad.add (i * 3)).off + 1, none⟩) (by rw [add_block]; omega)).trans e2
      have q3 : ∀ d os, (grow (redrawn wm d) os).cell? { block := (ad.add (i * 3)).block, off := (ad.add (i * 3)).off + 2 } = some (.int .u8 xa) := fun d os => ((below_regrown wm d os).cell (p := ⟨(ad.add (i * 3)).block, (ad.add (i * 3)).off + 2, none⟩) (by rw [add_block]; omega)).trans e3
      go_upto_region 10 with fail
      (refine wp_region_qb (by kernel_rfl) (by kernel_rfl) (fun kq => ?_); (try dsimp only [List.append]); (repeat (go_big_quiet_step ((fail)))); refine wpQuiet_nil ?_; intro wq hwq; have hbq := below_of_class hwq; clear hwq kq)
      replace x3 := x3.step hbq; replace kW := kW.step hbq; replace hbr : Below g3 w2 wq := hbr.then_ hbq (by omega)
      replace e1 : wq.cell? (ad.add (i * 3)) = some (.int .u8 xk) := (hbr.cell (p := ad.add (i * 3)) (by rw [add_block]; omega)).trans d1
      clear q2 q3 e2 e3 cm d1 d2 d3 t1 t2 u1 u2 hbq hx2 hx3 hli hat
      have lW := kW.lt
      go_upto_block 2 with fail
      go_cut [9, 10, 11] from 29 to 222 (fun v9 v10 v11 wx => ∃ L', KR w2 g3 gW L' wx)
      case first =>
        clear e1 t3 u3 hkd hx1
        obtain ⟨A3, B3, C3, a3, b3, c3, k3, v3⟩ := x3
        have l3 := k3.lt
        have hk5 : kd = 0 ∨ kd = 1 ∨ kd = 2 ∨ kd = 3 ∨ kd = 4 := by omega
        have hlen := HL.out
        have hil4 : li < L.length := by omega
        have hWl := wOf_len 20 L
        rcases hk5 with rfl | rfl | rfl | rfl | rfl
        · as_aux_lemma =>
            have hP := fun V W h => chain_Push_any V (laid 20 L) (li : Int) (at_ : Int) W (l20 hlen).1 (l20 hlen).2.1 (l20 hlen).2.2 h
            obtain ⟨L', E, v, hst, hE, hw⟩ : ∃ L' E v, cPush (laid 20 L) (li : Int) (at_ : Int) = (laid 20 L', E) ∧ (wOf 20 L)[at_]? = some v ∧ ((E = 13 ∧ ((v == 0) = false) ∧ L' = L) ∨ (E = 0 ∧ v = 0 ∧ Good 20 L' ∧ L'.length = 4 ∧ wOf 20 L' = (wOf 20 L).set at_ ((li : Int) + 1))) := by
              rcases HG.out.push hil4 hat20 with ⟨h1, h2⟩ | ⟨h1, h2, h3⟩
              · obtain ⟨k, hk⟩ := flat_nth.1 h1
                exact ⟨L, 13, _, h2, wOf_in HG.out.vl hk, .inl ⟨rfl, by simp; omega, rfl⟩⟩
              · exact ⟨_, 0, 0, h2, wOf_out hat20 (fun k hk => h1 (flat_nth.2 ⟨k, hk⟩)), .inr ⟨rfl, rfl, h3, by rw [List.length_set]; exact hlen, wOf_push HG.out.vl hil4 hat20 h1 h3.vl⟩⟩
            have HW := hide hw
            have HE := hide hE
            rw [hst] at hP
            clear hst hw hE
            go_wp2_with (first | (refine wpList_load_row rfl 30 _ rfl _ rfl _ _ (0, 0) _ k3 Try.underlying30 rfl (by kernel_rfl) ?_))
            refine (hP _ _ v3.at_).mono ?_; rintro e y1 ⟨_, rfl, hn, hy⟩
            obtain ⟨D1, D2, D3, d1, d2, d3, rfl, hq⟩ := hn
            have nn : VX y1 gW (csV D1 D2 D3 d1 d2 d3 (laid 20 L').ns.length (laid 20 L').hs.length (laid 20 L').ts.length) (laid 20 L') := CsNew.vx ⟨D1, D2, D3, d1, d2, d3, rfl, hq⟩ (by omega)
            replace k3 := k3.step hy; replace kW := kW.step hy; replace hbr := hbr.then_ hy (by omega)
            clear hq hy v3 hP
            go_upto_region 25 with ((refine wpList_store_row rfl 30 _ _ rfl _ (csL D1 D2 D3 d1 d2 d3 (laid 20 L')).toArray rfl rfl _ _ k3 (by kernel_rfl) (by kernel_rfl) (by kernel_rfl) ?_))
            have v3 := nn.row k3 (by decide) (by decide) (csL D1 D2 D3 d1 d2 d3 (laid 20 L')).toArray
            replace kW := kW.rowFar (g := g3) (by omega) (csL D1 D2 D3 d1 d2 d3 (laid 20 L')).toArray
            replace hbr := setRow_below hbr (Nat.le_refl _) (csL D1 D2 D3 d1 d2 d3 (laid 20 L')).toArray
            replace k3 := k3.row (csL D1 D2 D3 d1 d2 d3 (laid 20 L'))
            clear nn
            generalize y1.setRow g3 (csL D1 D2 D3 d1 d2 d3 (laid 20 L')).toArray = y2 at *
            have cW := wcell kW HE.out
            have fW := kW.frozen at_
            have hatI : (at_ : Int) < 20 := by omega
            have hli3 : (li : Int) + 1 ≤ 9223372036854775807 := by omega
            have wl1 : IntKind.i64.wrap ((li : Int) + 1) = (li : Int) + 1 := IntWalk.i64_in _ (by omega)
            rcases HW.out with ⟨rfl, hv, rfl⟩ | ⟨rfl, rfl, hG', hL', hwo⟩
            · have bE : ((13 : Int) == 0) = false := rfl
              go_wp2
              go_meet
              exact ⟨L', HG, HL, ⟨D1, D2, D3, d1, d2, d3, k3, v3⟩, kW, hbr⟩
            · have HG2 := hide hG'
              have HL2 := hide hL'
              have HWO := hide hwo
              clear hG' hL' hwo
              go_wp2
              go_meet
              refine ⟨L', HG2, HL2, StX.setc ⟨D1, D2, D3, d1, d2, d3, k3, v3⟩ (by omega) _ _, ?_, hbr.setCell (by dsimp only; omega) _⟩
              rw [HWO.out]; exact wset kW at_ _
        · as_aux_lemma =>
            have hP := fun V W h => chain_Push_any V (laid 20 L) (li : Int) (at_ : Int) W (l20 hlen).1 (l20 hlen).2.1 (l20 hlen).2.2 h
            obtain ⟨L', E, v, hst, hE, hw⟩ : ∃ L' E v, cPush (laid 20 L) (li : Int) (at_ : Int) = (laid 20 L', E) ∧ (wOf 20 L)[at_]? = some v ∧ ((E = 13 ∧ ((v == 0) = false) ∧ L' = L) ∨ (E = 0 ∧ v = 0 ∧ Good 20 L' ∧ L'.length = 4 ∧ wOf 20 L' = (wOf 20 L).set at_ ((li : Int) + 1))) := by
              rcases HG.out.push hil4 hat20 with ⟨h1, h2⟩ | ⟨h1, h2, h3⟩
              · obtain ⟨k, hk⟩ := flat_nth.1 h1
                exact ⟨L, 13, _, h2, wOf_in HG.out.vl hk, .inl ⟨rfl, by simp; omega, rfl⟩⟩
              · exact ⟨_, 0, 0, h2, wOf_out hat20 (fun k hk => h1 (flat_nth.2 ⟨k, hk⟩)), .inr ⟨rfl, rfl, h3, by rw [List.length_set]; exact hlen, wOf_push HG.out.vl hil4 hat20 h1 h3.vl⟩⟩
            have HW := hide hw
            have HE := hide hE
            rw [hst] at hP
            clear hst hw hE
            go_wp2_with (first | (refine wpList_load_row rfl 30 _ rfl _ rfl _ _ (0, 0) _ k3 Try.underlying30 rfl (by kernel_rfl) ?_))
            refine (hP _ _ v3.at_).mono ?_; rintro e y1 ⟨_, rfl, hn, hy⟩
            obtain ⟨D1, D2, D3, d1, d2, d3, rfl, hq⟩ := hn
            have nn : VX y1 gW (csV D1 D2 D3 d1 d2 d3 (laid 20 L').ns.length (laid 20 L').hs.length (laid 20 L').ts.length) (laid 20 L') := CsNew.vx ⟨D1, D2, D3, d1, d2, d3, rfl, hq⟩ (by omega)
            replace k3 := k3.step hy; replace kW := kW.step hy; replace hbr := hbr.then_ hy (by omega)
            clear hq hy v3 hP
            go_upto_region 25 with ((refine wpList_store_row rfl 30 _ _ rfl _ (csL D1 D2 D3 d1 d2 d3 (laid 20 L')).toArray rfl rfl _ _ k3 (by kernel_rfl) (by kernel_rfl) (by kernel_rfl) ?_))
            have v3 := nn.row k3 (by decide) (by decide) (csL D1 D2 D3 d1 d2 d3 (laid 20 L')).toArray
            replace kW := kW.rowFar (g := g3) (by omega) (csL D1 D2 D3 d1 d2 d3 (laid 20 L')).toArray
            replace hbr := setRow_below hbr (Nat.le_refl _) (csL D1 D2 D3 d1 d2 d3 (laid 20 L')).toArray
            replace k3 := k3.row (csL D1 D2 D3 d1 d2 d3 (laid 20 L'))
            clear nn
            generalize y1.setRow g3 (csL D1 D2 D3 d1 d2 d3 (laid 20 L')).toArray = y2 at *
            have cW := wcell kW HE.out
            have fW := kW.frozen at_
            have hatI : (at_ : Int) < 20 := by omega
            have hli3 : (li : Int) + 1 ≤ 9223372036854775807 := by omega
            have wl1 : IntKind.i64.wrap ((li : Int) + 1) = (li : Int) + 1 := IntWalk.i64_in _ (by omega)
            rcases HW.out with ⟨rfl, hv, rfl⟩ | ⟨rfl, rfl, hG', hL', hwo⟩
            · have bE : ((13 : Int) == 0) = false := rfl
              go_wp2
              go_meet
              exact ⟨L', HG, HL, ⟨D1, D2, D3, d1, d2, d3, k3, v3⟩, kW, hbr⟩
            · have HG2 := hide hG'
              have HL2 := hide hL'
              have HWO := hide hwo
              clear hG' hL' hwo
              go_wp2
              go_meet
              refine ⟨L', HG2, HL2, StX.setc ⟨D1, D2, D3, d1, d2, d3, k3, v3⟩ (by omega) _ _, ?_, hbr.setCell (by dsimp only; omega) _⟩
              rw [HWO.out]; exact wset kW at_ _
        · as_aux_lemma =>
            have hP := fun V W h => chain_Unlink_any V (laid 20 L) (at_ : Int) W (l20 hlen).1 (l20 hlen).2.1 (l20 hlen).2.2 h
            obtain ⟨L', E, v, hst, hE, hw⟩ : ∃ L' E v, cUnlink (laid 20 L) (at_ : Int) = (laid 20 L', E) ∧ (wOf 20 L)[at_]? = some v ∧ ((E = 6 ∧ v = 0 ∧ L' = L) ∨ (E = 0 ∧ 0 < v ∧ Good 20 L' ∧ L'.length = 4 ∧ wOf 20 L' = (wOf 20 L).set at_ 0)) := by
              rcases HG.out.unlink hat20 with ⟨h1, h2⟩ | ⟨k, hk, h1, h2, h3⟩
              · exact ⟨L, 6, 0, h2, wOf_out hat20 (fun k hk => h1 (flat_nth.2 ⟨k, hk⟩)), .inl ⟨rfl, rfl, rfl⟩⟩
              · exact ⟨_, 0, _, h2, wOf_in HG.out.vl (by rw [nth_at hk]; exact h1), .inr ⟨rfl, by omega, h3, by rw [List.length_set]; exact hlen, wOf_cut HG.out.vl hk hat20 h1 h3.vl⟩⟩
            have HW := hide hw
            have HE := hide hE
            rw [hst] at hP
            clear hst hw hE
            go_wp2_with (first | (refine wpList_load_row rfl 30 _ rfl _ rfl _ _ (0, 0) _ k3 Try.underlying30 rfl (by kernel_rfl) ?_))
            refine (hP _ _ v3.at_).mono ?_; rintro e y1 ⟨_, rfl, hn, hy⟩
            obtain ⟨D1, D2, D3, d1, d2, d3, rfl, hq⟩ := hn
            have nn : VX y1 gW (csV D1 D2 D3 d1 d2 d3 (laid 20 L').ns.length (laid 20 L').hs.length (laid 20 L').ts.length) (laid 20 L') := CsNew.vx ⟨D1, D2, D3, d1, d2, d3, rfl, hq⟩ (by omega)
            replace k3 := k3.step hy; replace kW := kW.step hy; replace hbr := hbr.then_ hy (by omega)
            clear hq hy v3 hP
            go_upto_region 31 with ((refine wpList_store_row rfl 30 _ _ rfl _ (csL D1 D2 D3 d1 d2 d3 (laid 20 L')).toArray rfl rfl _ _ k3 (by kernel_rfl) (by kernel_rfl) (by kernel_rfl) ?_))
            have v3 := nn.row k3 (by decide) (by decide) (csL D1 D2 D3 d1 d2 d3 (laid 20 L')).toArray
            replace kW := kW.rowFar (g := g3) (by omega) (csL D1 D2 D3 d1 d2 d3 (laid 20 L')).toArray
            replace hbr := setRow_below hbr (Nat.le_refl _) (csL D1 D2 D3 d1 d2 d3 (laid 20 L')).toArray
            replace k3 := k3.row (csL D1 D2 D3 d1 d2 d3 (laid 20 L'))
            clear nn
            generalize y1.setRow g3 (csL D1 D2 D3 d1 d2 d3 (laid 20 L')).toArray = y2 at *
            have cW := wcell kW HE.out
            have fW := kW.frozen at_
            have hatI : (at_ : Int) < 20 := by omega
            rcases HW.out with ⟨rfl, rfl, rfl⟩ | ⟨rfl, hv, hG', hL', hwo⟩
            · have hse : (wOf 20 L').set at_ 0 = wOf 20 L' := by
                obtain ⟨h8, h9⟩ := List.getElem?_eq_some_iff.1 HE.out
                conv => lhs; rw [← h9]
                rw [List.set_getElem_self]
              have HSE := hide hse
              clear hse
              go_wp2
              go_meet
              refine ⟨L', HG, HL, StX.setc ⟨D1, D2, D3, d1, d2, d3, k3, v3⟩ (by omega) _ _, ?_, hbr.setCell (by dsimp only; omega) _⟩
              have h7 := wset kW at_ 0
              rw [HSE.out] at h7; exact h7
            · have HG2 := hide hG'
              have HL2 := hide hL'
              have HWO := hide hwo
              clear hG' hL' hwo
              go_wp2
              go_meet
              refine ⟨L', HG2, HL2, StX.setc ⟨D1, D2, D3, d1, d2, d3, k3, v3⟩ (by omega) _ _, ?_, hbr.setCell (by dsimp only; omega) _⟩
              rw [HWO.out]; exact wset kW at_ _
        · as_aux_lemma =>
            have hP := fun V W h => chain_Turn_any V (laid 20 L) (li : Int) W (l20 hlen).1 (l20 hlen).2.1 (l20 hlen).2.2 h
            obtain ⟨L', hst, hG', hL', hwo⟩ : ∃ L', cTurn (laid 20 L) (li : Int) = laid 20 L' ∧ Good 20 L' ∧ L'.length = 4 ∧ wOf 20 L' = wOf 20 L :=
              ⟨_, (HG.out.turn hil4).1, (HG.out.turn hil4).2, by rw [List.length_set]; exact hlen, wOf_turn HG.out.vl hil4 (HG.out.turn hil4).2.vl⟩
            have HG2 := hide hG'
            have HL2 := hide hL'
            have HWO := hide hwo
            rw [hst] at hP
            clear hst hG' hL' hwo
            go_wp2_with (first | (refine wpList_load_row rfl 30 _ rfl _ rfl _ _ (0, 0) _ k3 Try.underlying30 rfl (by kernel_rfl) ?_))
            refine (hP _ _ v3.at_).mono ?_; rintro e y1 ⟨_, rfl, hn, hy⟩
            obtain ⟨D1, D2, D3, d1, d2, d3, rfl, hq⟩ := hn
            have nn : VX y1 gW (csV D1 D2 D3 d1 d2 d3 (laid 20 L').ns.length (laid 20 L').hs.length (laid 20 L').ts.length) (laid 20 L') := CsNew.vx ⟨D1, D2, D3, d1, d2, d3, rfl, hq⟩ (by omega)
            replace k3 := k3.step hy; replace kW := kW.step hy; replace hbr := hbr.then_ hy (by omega)
            clear hq hy v3 hP
            go_wp2_with ((refine wpList_store_row rfl 30 _ _ rfl _ (csL D1 D2 D3 d1 d2 d3 (laid 20 L')).toArray rfl rfl _ _ k3 (by kernel_rfl) (by kernel_rfl) (by kernel_rfl) ?_))
            have v3 := nn.row k3 (by decide) (by decide) (csL D1 D2 D3 d1 d2 d3 (laid 20 L')).toArray
            replace kW := kW.rowFar (g := g3) (by omega) (csL D1 D2 D3 d1 d2 d3 (laid 20 L')).toArray
            replace hbr := setRow_below hbr (Nat.le_refl _) (csL D1 D2 D3 d1 d2 d3 (laid 20 L')).toArray
            replace k3 := k3.row (csL D1 D2 D3 d1 d2 d3 (laid 20 L'))
            clear nn
            generalize y1.setRow g3 (csL D1 D2 D3 d1 d2 d3 (laid 20 L')).toArray = y2 at *
            go_meet
            exact ⟨L', HG2, HL2, ⟨D1, D2, D3, d1, d2, d3, k3, v3⟩, by rw [HWO.out]; exact kW, hbr⟩
        · as_aux_lemma =>
            obtain ⟨tj, htj⟩ : ∃ tj : Nat, tj = at_ % 4 := ⟨_, rfl⟩
            have htj4 : tj < 4 := by omega
            have tm : (at_ : Int).tmod 4 = (tj : Int) := by rw [Int.tmod_eq_emod_of_nonneg (by omega)]; omega
            have hjl4 : tj < L.length := by omega
            have hP := fun V W h => chain_Splice_any V (laid 20 L) (li : Int) (tj : Int) W (l20 hlen).1 (l20 hlen).2.1 (l20 hlen).2.2 h
            obtain ⟨L', E, hst, hw, hG', hL', hwo⟩ : ∃ L' E, dSplice (laid 20 L) (li : Int) (tj : Int) = (laid 20 L', E) ∧ ((E = 2 ∧ ((li : Int) != (tj : Int)) = false) ∨ (E = 0 ∧ ((li : Int) != (tj : Int)) = true)) ∧ Good 20 L' ∧ L'.length = 4 ∧ wOf 20 L' = (wOf 20 L).map (fun x => if x = (li : Int) + 1 then (tj : Int) + 1 else x) := by
              rcases HG.out.splice hil4 hjl4 with ⟨h1, h2⟩ | ⟨h1, h2, h3⟩
              · refine ⟨L, 2, h2, .inl ⟨rfl, by simp [h1]⟩, HG.out, hlen, ?_⟩
                rw [h1, map_same]
              · exact ⟨_, 0, h2, .inr ⟨rfl, by simp; omega⟩, h3, by rw [List.length_set, List.length_set]; exact hlen, wOf_splice HG.out.vl hil4 hjl4 h1 h3.vl⟩
            have HW := hide hw
            have HG2 := hide hG'
            have HL2 := hide hL'
            have HWO := hide hwo
            rw [hst] at hP
            clear hst hw hG' hL' hwo htj
            go_wp2_with (first | (refine wpList_load_row rfl 30 _ rfl _ rfl _ _ (0, 0) _ k3 Try.underlying30 rfl (by kernel_rfl) ?_))
            refine (hP _ _ v3.at_).mono ?_; rintro e y1 ⟨_, rfl, hn, hy⟩
            obtain ⟨D1, D2, D3, d1, d2, d3, rfl, hq⟩ := hn
            have nn : VX y1 gW (csV D1 D2 D3 d1 d2 d3 (laid 20 L').ns.length (laid 20 L').hs.length (laid 20 L').ts.length) (laid 20 L') := CsNew.vx ⟨D1, D2, D3, d1, d2, d3, rfl, hq⟩ (by omega)
            replace k3 := k3.step hy; replace kW := kW.step hy; replace hbr := hbr.then_ hy (by omega)
            clear hq hy v3 hP
            go_upto_region 15 with ((refine wpList_store_row rfl 30 _ _ rfl _ (csL D1 D2 D3 d1 d2 d3 (laid 20 L')).toArray rfl rfl _ _ k3 (by kernel_rfl) (by kernel_rfl) (by kernel_rfl) ?_))
            have v3 := nn.row k3 (by decide) (by decide) (csL D1 D2 D3 d1 d2 d3 (laid 20 L')).toArray
            replace kW := kW.rowFar (g := g3) (by omega) (csL D1 D2 D3 d1 d2 d3 (laid 20 L')).toArray
            replace hbr := setRow_below hbr (Nat.le_refl _) (csL D1 D2 D3 d1 d2 d3 (laid 20 L')).toArray
            replace k3 := k3.row (csL D1 D2 D3 d1 d2 d3 (laid 20 L'))
            clear nn
            generalize y1.setRow g3 (csL D1 D2 D3 d1 d2 d3 (laid 20 L')).toArray = y2 at *
            have xx : StX y2 g3 gW (laid 20 L') := ⟨D1, D2, D3, d1, d2, d3, k3, v3⟩
            have wl1 : IntKind.i64.wrap ((li : Int) + 1) = (li : Int) + 1 := IntWalk.i64_in _ (by omega)
            have wl2 : IntKind.i64.wrap ((tj : Int) + 1) = (tj : Int) + 1 := IntWalk.i64_in _ (by omega)
            obtain ⟨W, HWW⟩ : ∃ W, Hid (W = wOf 20 L) := ⟨_, hide rfl⟩
            have HWl := hide (show W.length = 20 by rw [HWW.out]; exact hWl)
            rw [← HWW.out] at kW
            obtain ⟨f, hf⟩ : ∃ f : Int → Int, f = fun x => if x = (li : Int) + 1 then (tj : Int) + 1 else x := ⟨_, rfl⟩
            have HF := hide hf
            clear hf k3 v3 hWl lW l3
            rcases HW.out with ⟨rfl, bn⟩ | ⟨rfl, bn⟩
            all_goals
              go_upto_region 18 with fail
              go_loopw [11] (fun v wr => ∃ k : Nat, v = .int .i64 k ∧ k ≤ 20 ∧ StX wr g3 gW (laid 20 L') ∧ Bk wr gW 3 (ints (mp f W k)) ∧ Below g3 w2 wr) (fun v _ => match v with | .int _ k => 20 - k.toNat | _ => 0)
              case atStart => exact ⟨0, rfl, by omega, xx, by rw [mp_zero]; exact kW, hbr⟩
              case round =>
                clear xx kW hbr
                obtain ⟨k, rfl, hk, xx, kW, hbr⟩ := hrel
                by_cases hk2 : k = 20
                · subst hk2
                  go_wp2
                  go_meet
                  refine ⟨L', HG2, HL2, xx, ?_, hbr⟩
                  have h7 := mp_all f W
                  rw [HWl.out] at h7
                  rw [h7, HF.out, HWW.out] at kW
                  rw [HWO.out]; exact kW
                · have hkl : k < 20 := by omega
                  have hki : (k : Int) < 20 := by omega
                  obtain ⟨v, hv⟩ : ∃ v, W[k]? = some v := ⟨W[k]'(by have := HWl.out; omega), List.getElem?_eq_getElem _⟩
                  have HV := hide hv
                  have cW := wcell kW ((mp_get f W k).trans hv)
                  have fW := kW.frozen k
                  clear hv
                  by_cases hvl : v = (li : Int) + 1
                  · have HM := hide (show mp f W (k + 1) = (mp f W k).set k ((tj : Int) + 1) by rw [← mp_set f HV.out, HF.out]; simp [hvl])
                    have bv : (v == (li : Int) + 1) = true := by simpa using hvl
                    clear hvl
                    go_wp2
                    go_roundw
                    case rel => exact ⟨k + 1, by rw [Int.natCast_add]; rfl, by omega, xx.setc (by omega) _ _, by rw [HM.out]; exact wset kW k _, hbr.setCell (by dsimp only; omega) _⟩
                    case measure => simp; omega
                  · have HM := hide (show mp f W (k + 1) = mp f W k from (mp_keep f HV.out (by rw [HF.out]; simp [hvl])).symm)
                    have bv : (v == (li : Int) + 1) = false := by simpa using hvl
                    clear hvl
                    go_wp2
                    go_roundw
                    case rel => exact ⟨k + 1, by rw [Int.natCast_add]; rfl, by omega, xx, by rw [HM.out]; exact kW, hbr⟩
                    case measure => simp; omega
      case rest =>
        clear x3 kW lW e1 hbr HG HL u3 t3 s1 s2
        obtain ⟨L', HG, HL, x3, kW, hbr⟩ := hcut
        obtain ⟨wa, rfl⟩ : ∃ wn : World, wn = wc := ⟨_, rfl⟩
        obtain ⟨A3, B3, C3, a3, b3, c3, k3, v3⟩ := x3
        have hlen := HL.out
        have hK := fun V W h => chain_Check_at V (laid 20 L') W (l20 hlen).1 (l20 hlen).2.1 (l20 hlen).2.2 h
        rw [HG.out.check] at hK
        go_wp2_with (first | (refine wpList_load_row rfl 30 _ rfl _ rfl _ _ (0, 0) _ k3 Try.underlying30 rfl (by kernel_rfl) ?_))
        refine (hK _ _ v3.at_).mono ?_; rintro e y1 ⟨rfl, hy⟩
        have l3 := k3.lt
        replace k3 := k3.step hy; replace kW := kW.step hy; replace v3 := v3.step hy; replace hbr := hbr.then_ hy (by omega)
        clear hy hK l3
        have l3 := k3.lt
        go_upto_region 39 with fail
        go_loopw [12] (fun v wr => ∃ k : Nat, v = .int .i64 k ∧ k ≤ 4 ∧ Below y1.heap.size y1 wr) (fun v _ => match v with | .int _ k => 4 - k.toNat | _ => 0)
        case atStart => exact ⟨0, rfl, by omega, Below.refl _ _⟩
        case round =>
          obtain ⟨k, rfl, hk, hbk⟩ := hrel
          by_cases hk4 : k = 4
          · subst hk4
            go_wp2
            go_roundw
            case rel => exact ⟨i + 1, L', by rw [Int.natCast_add]; rfl, by omega, HG, HL, ⟨A3, B3, C3, a3, b3, c3, k3.step hbk, v3.step hbk⟩, kW.step hbk, hbr.then_ hbk (by omega)⟩
            case measure => simp; omega
          · as_aux_lemma =>
              have hkl : k < L'.length := by omega
              have hki : (k : Int) < 4 := by omega
              have hWk := fun V W h => chain_Walk_at V (laid 20 L') W (l20 hlen).1 (l20 hlen).2.1 (l20 hlen).2.2 h (k : Int)
              have hBk := fun V W h => chain_Back_at V (laid 20 L') W (l20 hlen).1 (l20 hlen).2.1 (l20 hlen).2.2 h (k : Int)
              have hLk := fun V W h => chain_Len_at V (laid 20 L') W (l20 hlen).1 (l20 hlen).2.1 (l20 hlen).2.2 h (k : Int)
              rw [HG.out.walk hkl] at hWk hLk
              rw [HG.out.back hkl, List.length_reverse] at hBk
              have hcnt := wOf_many HG.out.vl hkl
              have hin : ∀ p ∈ L'[k], p < 20 ∧ (wOf 20 L')[p]? = some ((k : Int) + 1) := fun p hp => ⟨(vl_clear HG.out.vl hkl).2.2.1 p hp, wOf_in HG.out.vl (by rw [nth_at hkl]; exact hp)⟩
              have hq20 : L'[k].length ≤ 20 := by
                rw [← hcnt]
                have h5 := List.length_filter_le (fun x => x == (k : Int) + 1) (wOf 20 L')
                rw [wOf_len] at h5; exact h5
              generalize L'[k] = q at *
              obtain ⟨wb, rfl⟩ : ∃ wn : World, wn = wr := ⟨_, rfl⟩
              have kb := k3.step hbk
              have vb := v3.step hbk
              have HCN := hide hcnt
              have HIN := hide hin
              clear hcnt hin
              obtain ⟨X1, hX1⟩ : ∃ X : List Value, X = ints (nI q) := ⟨_, rfl⟩
              obtain ⟨X2, hX2⟩ : ∃ X : List Value, X = ints (nI q.reverse) := ⟨_, rfl⟩
              rw [← hX1] at hWk
              rw [← hX2] at hBk
              have HX1 := hide hX1
              have HX2 := hide hX2
              clear hX1 hX2
              go_upto_region 41 with fail
              refine wp_region_m [(2, RowAt q.length X1), (5, RowAt q.length X2)] (by kernel_rfl) (by kernel_rfl) (by kernel_rfl) (by kernel_rfl) (sts_cons (sts_row _ _) (sts_cons (sts_row _ _) sts_nil)) (fun kq => ?_); (try dsimp only [List.append])
              (refine wpM_load _ 30 _ rfl rfl _ 0 rfl ((csL A3 B3 C3 a3 b3 c3 (laid 20 L'))) (fun x hx => by obtain ⟨px, rfl⟩ := hx; exact (kb.step (below_regrown _ _ _)).range 0 _ rfl) _ Try.underlying30 rfl (by kernel_rfl) (later_some _) (by kernel_rfl) (by kernel_rfl) ?_; intro K hK; go_big_quiet_op; refine hK _ ?_; clear hK K)
              (refine wpM_via (by kernel_rfl) ?_; go_big_quiet_step (fail); refine wpQuiet_nil ?_)
              (refine wpM_spec _ (RowAt q.length X1) (by kernel_rfl) (by kernel_rfl) rfl (later_some _) ?_ ?_; (focus (intro x hx hk; obtain ⟨px, rfl⟩ := hx; go_simp; (first | with_reducible refine mUpon_enter ?_ | with_reducible refine mUpon_value ?_); go_at_call 25; exact Calls.mrow ((hWk _ _ (vb.at_.step (below_regrown wb _ _))).mono fun _ _ ⟨O, co, e, ow, b⟩ => ⟨O, co, e, own_rd ow, b⟩))); intro v hv K hK; obtain ⟨R1, r1, rfl⟩ := hv; go_big_quiet_op; refine hK _ ?_; clear hK K)
              (refine wpM_load _ 30 _ rfl rfl _ 0 rfl ((csL A3 B3 C3 a3 b3 c3 (laid 20 L'))) (fun x hx => by obtain ⟨px, rfl⟩ := hx; exact (kb.step (below_regrown _ _ _)).range 0 _ rfl) _ Try.underlying30 rfl (by kernel_rfl) (later_some _) (by kernel_rfl) (by kernel_rfl) ?_; intro K hK; go_big_quiet_op; refine hK _ ?_; clear hK K)
              (refine wpM_via (by kernel_rfl) ?_; go_big_quiet_step (fail); refine wpQuiet_nil ?_)
              (refine wpM_spec _ (RowAt q.length X2) (by kernel_rfl) (by kernel_rfl) rfl (later_some _) ?_ ?_; (focus (intro x hx hk; obtain ⟨px, rfl⟩ := hx; go_simp; (first | with_reducible refine mUpon_enter ?_ | with_reducible refine mUpon_value ?_); go_at_call 27; exact Calls.mrow ((hBk _ _ (vb.at_.step (below_regrown wb _ _))).mono fun _ _ ⟨O, co, e, ow, b⟩ => ⟨O, co, e, own_rd ow, b⟩))); intro v hv K hK; obtain ⟨R2, r2, rfl⟩ := hv; go_big_quiet_op; refine hK _ ?_; clear hK K)
              (repeat (refine wpM_via (by kernel_rfl) ?_; go_big_quiet_step (fail); refine wpQuiet_nil ?_))
              refine wpM_nil ?_; intro wq hwq hfq; have hbq := below_of_class hwq; clear hwq kq; (try dsimp only [List.drop])
              have w1r := row_of hfq.2.1
              have w2r := row_of hfq.1
              replace kb := kb.step hbq; replace vb := vb.step hbq; replace hbk := hbk.step hbq
              clear hfq hbq hWk hBk
              have kb_0 := kb.cell 0; have kb_f0 := kb.frozen 0; have kb_1 := kb.cell 1; have kb_f1 := kb.frozen 1; have kb_2 := kb.cell 2; have kb_f2 := kb.frozen 2; simp only [List.set_cons_zero, List.set_cons_succ, List.getElem?_cons_zero, List.getElem?_cons_succ] at kb_0 kb_1 kb_2; have lt_kb := kb.lt
              have bq : ((q.length : Int) != (q.length : Int)) = false := by simp
              go_wp2_with fail
              refine (hLk _ _ vb.at_).mono ?_; rintro e y2 ⟨rfl, hy⟩
              replace w1r := w1r.step hy; replace w2r := w2r.step hy; replace hbk := hbk.step hy
              (try clear kb_0 kb_f0 kb_1 kb_f1 kb_2 kb_f2 lt_kb)
              clear hy kb vb hLk
              have kWy := kW.step hbk
              go_upto_region 46 with fail
              have wk1 : IntKind.i64.wrap ((k : Int) + 1) = (k : Int) + 1 := IntWalk.i64_in _ (by omega)
              have HWl := hide (wOf_len 20 L')
              go_loopw [15, 16] (fun v15 v16 wr => ∃ m : Nat, v16 = .int .i64 m ∧ m ≤ 20 ∧ v15 = .int .i64 ((((wOf 20 L').take m).filter (fun x => x == (k : Int) + 1)).length : Int) ∧ Below y2.heap.size y2 wr) (fun _ v _ => match v with | .int _ k => 20 - k.toNat | _ => 0)
              case atStart => exact ⟨0, rfl, by omega, rfl, Below.refl _ _⟩
              case round =>
                obtain ⟨m, rfl, hm, rfl, hbm⟩ := hrel
                by_cases hm2 : m = 20
                · as_aux_lemma =>
                    subst hm2
                    have hc20 : (((wOf 20 L').take 20).filter (fun x => x == (k : Int) + 1)).length = q.length := by
                      rw [List.take_of_length_le (by rw [HWl.out]; omega)]; exact HCN.out
                    rw [hc20]
                    have w1m := w1r.step hbm
                    have w2m := w2r.step hbm
                    have kWm := kWy.step hbm
                    have hbkm := hbk.step hbm
                    obtain ⟨wd, rfl⟩ : ∃ wn : World, wn = wr := ⟨_, rfl⟩
                    clear hc20 hbm w1r w2r kWy hbk HCN
                    go_upto_region 53 with fail
                    go_loopw [17] (fun v wr => ∃ m : Nat, v = .int .i64 m ∧ m ≤ q.length ∧ Below wd.heap.size wd wr) (fun v _ => match v with | .int _ k => q.length - k.toNat | _ => 0)
                    case atStart => exact ⟨0, rfl, by omega, Below.refl _ _⟩
                    case round =>
                      obtain ⟨m, rfl, hm, hbm⟩ := hrel
                      by_cases hmq : m = q.length
                      · subst hmq
                        go_wp2
                        go_roundw
                        case rel => exact ⟨k + 1, by rw [Int.natCast_add]; rfl, by omega, hbkm.step hbm⟩
                        case measure => simp; omega
                      · as_aux_lemma =>
                          have hml : m < q.length := by omega
                          have hmi : (m : Int) < (q.length : Int) := by omega
                          obtain ⟨hp, hW⟩ := HIN.out _ (List.getElem_mem hml)
                          obtain ⟨r, hr⟩ : ∃ r : Nat, q.length = m + 1 + r := ⟨q.length - m - 1, by omega⟩
                          have hrl : r < q.length := by omega
                          have hri : (r : Int) < (q.length : Int) := by omega
                          have hrev : q.reverse[r]? = some q[m] := by
                            rw [List.getElem?_reverse (by omega)]
                            rw [show q.length - 1 - r = m by omega]
                            exact List.getElem?_eq_getElem hml
                          have x1 : X1[m]? = some (.int .i64 ((q[m] : Nat) : Int)) := by rw [HX1.out]; simp [hml]
                          have x2 : X2[r]? = some (.int .i64 ((q[m] : Nat) : Int)) := by rw [HX2.out, List.getElem?_map, List.getElem?_map, hrev]; rfl
                          have e5 : (q.length : Int) - 1 - (m : Int) = (r : Int) := by omega
                          have z1 : IntKind.i64.wrap ((q.length : Int) - 1) = (q.length : Int) - 1 := IntWalk.i64_in _ (by omega)
                          have z2 : IntKind.i64.wrap (r : Int) = (r : Int) := IntWalk.i64_in _ (by omega)
                          obtain ⟨hx1, hy1⟩ := List.getElem?_eq_some_iff.1 x1
                          obtain ⟨hx2, hy2⟩ := List.getElem?_eq_some_iff.1 x2
                          obtain ⟨g1, rfl, hg1b, hg1⟩ := w1m.at_ hx1
                          obtain ⟨g2, rfl, hg2b, hg2⟩ := w2m.at_ hx2
                          rw [hy1] at hg1
                          rw [hy2] at hg2
                          have hgW := wcell kWm hW
                          have hWb := kWm.lt
                          generalize q[m] = p at *
                          obtain ⟨wf, rfl⟩ : ∃ wn : World, wn = wr := ⟨_, rfl⟩
                          have c1 : ∀ d os, (grow (redrawn wf d) os).cell? (g1.add m) = some (.int .i64 (p : Int)) := fun d os => ((hbm.step (below_regrown wf d os)).cell (p := g1.add m) (by rw [add_block]; omega)).trans hg1
                          have c2 : ∀ d os, (grow (redrawn wf d) os).cell? (g2.add r) = some (.int .i64 (p : Int)) := fun d os => ((hbm.step (below_regrown wf d os)).cell (p := g2.add r) (by rw [add_block]; omega)).trans hg2
                          have c3 : ∀ d os, (grow (redrawn wf d) os).cell? ⟨gW, p, none⟩ = some (.int .i64 ((k : Int) + 1)) := fun d os => ((hbm.step (below_regrown wf d os)).cell (p := ⟨gW, p, none⟩) hWb).trans hgW
                          have hp1 : ¬ (p : Int) < 0 := by omega
                          have hp2 : (p : Int) < 20 := by omega
                          have hp3 : decide ((20 : Int) ≤ (p : Int)) = false := by simp; omega
                          have hp4 : decide (20 ≤ p) = false := by simp; omega
                          have bp : ((p : Int) != (p : Int)) = false := by simp
                          have bk : ((k : Int) + 1 != (k : Int) + 1) = false := by simp
                          have HRR := hide hr
                          clear hr hrev x1 x2 hx1 hx2 hy1 hy2 hg1 hg2 hgW hW HX1 HX2
                          go_upto_region 55 with fail
                          (refine wp_region_qb (by kernel_rfl) (by kernel_rfl) (fun kq => ?_); (try dsimp only [List.append]); (repeat (go_big_quiet_step ((fail)))); refine wpQuiet_nil ?_; intro wq hwq; have hbq := below_of_class hwq; clear hwq kq)
                          replace hbm := hbm.step hbq
                          clear c1 c2 c3 hbq
                          go_wp2
                          go_roundw
                          case rel => exact ⟨m + 1, by rw [Int.natCast_add]; rfl, by omega, hbm⟩
                          case measure => simp; omega
                · as_aux_lemma =>
                    have hml : m < 20 := by omega
                    have hmi : (m : Int) < 20 := by omega
                    obtain ⟨v, hv⟩ : ∃ v, (wOf 20 L')[m]? = some v := ⟨(wOf 20 L')[m]'(by have := HWl.out; omega), List.getElem?_eq_getElem _⟩
                    have cW := wcell (kWy.step hbm) hv
                    obtain ⟨h8, h9⟩ := List.getElem?_eq_some_iff.1 hv
                    have HT := hide (show (((wOf 20 L').take (m + 1)).filter (fun x => x == (k : Int) + 1)).length = (((wOf 20 L').take m).filter (fun x => x == (k : Int) + 1)).length + (if v = (k : Int) + 1 then 1 else 0) by
                      rw [List.take_succ_eq_append_getElem h8, h9, List.filter_append, List.length_append]
                      by_cases hv5 : v = (k : Int) + 1
                      · simp [hv5]
                      · simp [hv5])
                    have hcb : (((wOf 20 L').take m).filter (fun x => x == (k : Int) + 1)).length ≤ 20 := by
                      have h5 := List.length_filter_le (fun x => x == (k : Int) + 1) ((wOf 20 L').take m)
                      rw [List.length_take] at h5; omega
                    clear hv h8 h9
                    generalize (((wOf 20 L').take m).filter (fun x => x == (k : Int) + 1)).length = cn at *
                    have wc1 : IntKind.i64.wrap ((cn : Int) + 1) = (cn : Int) + 1 := IntWalk.i64_in _ (by omega)
                    by_cases hv5 : v = (k : Int) + 1
                    · have bv : (v == (k : Int) + 1) = true := by simpa using hv5
                      have HT2 := hide (HT.out.trans (by rw [if_pos hv5]))
                      clear hv5
                      go_wp2
                      go_roundw
                      case rel => exact ⟨m + 1, by rw [Int.natCast_add]; rfl, by omega, by rw [HT2.out]; rfl, hbm⟩
                      case measure => simp; omega
                    · have bv : (v == (k : Int) + 1) = false := by simpa using hv5
                      have HT2 := hide (HT.out.trans (by rw [if_neg hv5]))
                      clear hv5
                      go_wp2
                      go_roundw
                      case rel => exact ⟨m + 1, by rw [Int.natCast_add]; rfl, by omega, by rw [HT2.out]; rfl, hbm⟩
                      case measure => simp; omega
end Go.Proofs.Ythicpjfdljgfpaa
