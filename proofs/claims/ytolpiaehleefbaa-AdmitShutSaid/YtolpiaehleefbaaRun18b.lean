/- callboylaw18: run's step. -/
import Derived.Test.YtolpiaehleefbaaRun18a
import Derived.Test.YtolpiaehleefbaaAdm3
import Derived.Test.YtolpiaehleefbaaAdm4
import Derived.Deep.CutRange
import Derived.Test.YtolpiaehleefbaaRel6
import Derived.BigRegion
import Derived.Deep.MidRow
import Derived.Deep.RegionLaw
namespace Go.Proofs.Ytolpiaehleefbaa
open Go.RowKit Go.Sort
set_option linter.unusedSimpArgs false
set_option linter.unusedVariables false

def putL (cs : List Value) : Nat → List Value → List Value
  | _, [] => cs
  | o, v :: r => putL (cs.set o v) (o + 1) r
theorem Bk.setCells {g : Nat} {t : TypeId} : ∀ (vs : List Value) (o : Nat) (w : World) (cs : List Value), Bk w g t cs → Bk (w.setCells g o vs) g t (putL cs o vs)
  | [], _, _, _, h => h
  | v :: r, o, w, cs, h => Bk.setCells r (o + 1) (w.setCell ⟨g, o, none⟩ v) (cs.set o v) (h.set_ o v)
theorem Bk.cellsFar {g k : Nat} {t : TypeId} {cs : List Value} (hne : k ≠ g) : ∀ (vs : List Value) (o : Nat) (w : World), Bk w k t cs → Bk (w.setCells g o vs) k t cs
  | [], _, _, h => h
  | v :: r, o, w, h => Bk.cellsFar hne r (o + 1) (w.setCell ⟨g, o, none⟩ v) (h.far (p := ⟨g, o, none⟩) hne v)
theorem Below.cellsN {B g : Nat} {w : World} (hg : B ≤ g) : ∀ (vs : List Value) (o : Nat) (w' : World), Below B w w' → Below B w (w'.setCells g o vs)
  | [], _, _, h => h
  | v :: r, o, w', h => Below.cellsN hg r (o + 1) (w'.setCell ⟨g, o, none⟩ v) (h.setCell hg v)
theorem setCells_size (g : Nat) : ∀ (vs : List Value) (o : Nat) (w : World), (w.setCells g o vs).heap.size = w.heap.size
  | [], _, _ => rfl
  | v :: r, o, w => (setCells_size g r (o + 1) (w.setCell ⟨g, o, none⟩ v)).trans (by simp [World.setCell])
theorem Rd.cellsN {B g : Nat} {A : Option Addr} {xs : List Value} (hne : ∀ ad, A = some ad → ad.block ≠ g) : ∀ (vs : List Value) (o : Nat) (w : World), Rd w B A xs → Rd (w.setCells g o vs) B A xs
  | [], _, _, h => h
  | v :: r, o, w, h => Rd.cellsN hne r (o + 1) (w.setCell ⟨g, o, none⟩ v) (h.keep1 (p := ⟨g, o, none⟩) hne v)
theorem TyA.cellsN {g : Nat} {T : TypeId} {A : Option Addr} : ∀ (vs : List Value) (o : Nat) (w : World), TyA w T A → TyA (w.setCells g o vs) T A
  | [], _, _, h => h
  | v :: r, o, w, h => TyA.cellsN r (o + 1) (w.setCell ⟨g, o, Option.none⟩ v) (h.setc _ v)
theorem own_cellsN {base g : Nat} {e : TypeId} {size n m c : Nat} {I : Option Addr} {xs : List Value} (hg : g < base) : ∀ (vs : List Value) (o : Nat) (w : World), w.ownsRow base e size (.slice I n c) m xs → (w.setCells g o vs).ownsRow base e size (.slice I n c) m xs
  | [], _, _, h => h
  | v :: r, o, w, h => own_cellsN hg r (o + 1) (w.setCell ⟨g, o, none⟩ v) (own_far h (by dsimp only; omega) v)
structure RunAt (w : World) (g : Nat) (c : AC) (x : AS) (ins : List (Int × Int)) (N : Int) (A : Option Addr) (d : Nat) (I : Option Addr) (cap : Nat) : Prop where
  bk : Bk w g 85 (runC c x A d I ins.length cap N)
  rd : Rd w w.heap.size A (enR x.es)
  ty : TyA w 146 A
  own : w.ownsRow (g + 1) 138 2 (.slice I ins.length cap) ins.length (letR ins)
theorem Bk.there {w : World} {g : Nat} {t : TypeId} {cs : List Value} (h : Bk w g t cs) (o n : Nat) (hn : o + n ≤ cs.length) : w.there g o n := fun j hj => by
  have hlt : o + j < cs.length := by omega
  refine ⟨?_, h.frozen _⟩
  rw [h.cell, List.getElem?_eq_getElem hlt]; rfl
theorem own_drew {w : World} {base : Nat} {e : TypeId} {size n : Nat} {v : Value} {xs : List Value} (h : w.ownsRow base e size v n xs) : w.drew.ownsRow base e size v n xs := h
theorem step_app2 {P : Program} {ops : Array Oper} {o : Oper} {a : Act} {w : World} {K : Act → World → Prop} {Q : Exit → Act → World → Prop} {E : Prop} (hgd : o.guard = none) (s x : Operand) (t : TypeId)
    (ho : o.op = .call { callee := .builtin .append, args := #[s, x], argTypes := #[t, t] })
    (base : Nat) (e : TypeId) (i : TypeInfo) (z : Value) (size bytes : Nat) (ht : P.underlying t = some (.slice e)) (hi : P.info? e = some i) (hz : i.zero = some z)
    (hsize : i.size = size) (hby : i.bytes = bytes) (hzs : z.cells.size = size) (hsz : 0 < size)
    (A : Option Addr) (n c : Nat) (xs : List Value) (hs : a.eval s = .slice A n c) (hown : w.ownsRow base e size (.slice A n c) n xs)
    (ad : Addr) (m c' : Nat) (news : List Value) (hx : a.eval x = .slice (some ad) m c') (hl : news.length = m * size) (hnews : ∀ j u, news[j]? = some u → w.cell? (ad.add j) = some u) (h1 : ∀ u ∈ news, u.oneCell' = true)
    (h63 : n + m ≤ maxLen) (hbytes : (n + m) * bytes ≤ 140737488355328) (hbase : base ≤ w.heap.size) (hm : 0 < m)
    (h : ∀ g cap w', w'.ownsRow base e size (.slice (some ⟨g, 0, none⟩) (n + m) cap) (n + m) (xs ++ news) → Below base w w' → w.grownBy w' (Value.slice A n c).ownBlock → K (a.put o.dst (.slice (some ⟨g, 0, none⟩) (n + m) cap)) w') :
    if Region.wanted o (yielded ops a.tmps) = true then Oper.wp P o a w K Q else E := by
  have hw : Region.wanted o (yielded ops a.tmps) = true := by simp [Region.wanted, hgd]
  rw [if_pos hw]
  exact wp_append_own w s x t ho base e i z size bytes ht hi hz hsize hby hzs hsz (.slice A n c) n xs hs hown ad m c' news hx hl hnews h1 h63 hbytes hbase fun v' w' h2 h3 _ => by
    obtain ⟨g, cap, rfl, _, _⟩ := own_some h2 (by omega)
    exact h g cap w' h2 ((Below.refl base w).grown h3 hbase (fun k hk => (hown.lt k hk).1)) h3
theorem ty_apart {w : World} {T T' : TypeId} {A I : Option Addr} {n c : Nat} (h : TyA w T A) (h' : TyA w T' I) (hne : T ≠ T') : ∀ ad, A = some ad → (Value.slice I n c).ownBlock ≠ some ad.block := fun ad e h2 => by
  cases I with
  | none => cases h2
  | some i =>
    obtain ⟨c1, f1, g1⟩ := h ad e
    obtain ⟨c2, f2, g2⟩ := h' i rfl
    simp only [Value.ownBlock, Option.some.injEq] at h2
    rw [h2] at g2
    have := g1.symm.trans g2
    simp at this
    exact hne this.2.1
theorem bk_apart {w : World} {T T' : TypeId} {I : Option Addr} {n c g : Nat} {cs : List Value} (h : Bk w g T cs) (h' : TyA w T' I) (hne : T ≠ T') : ∀ j, (Value.slice I n c).ownBlock = some j → j ≠ g := fun j e h2 => by
  cases I with
  | none => cases e
  | some i =>
    simp only [Value.ownBlock, Option.some.injEq] at e
    exact h'.ne h (Ne.symm hne) i rfl (e.trans h2)
theorem TyA.kept {w w' : World} {T : TypeId} {A : Option Addr} {row : Option Nat} (h : TyA w T A) (hg : w.grownBy w' row) (hne : ∀ ad, A = some ad → row ≠ some ad.block) : TyA w' T A := fun ad e => by
  obtain ⟨cs, fr, h1⟩ := h ad e
  exact ⟨cs, fr, (hg.block _ (Array.getElem?_eq_some_iff.1 h1).1 (fun q => hne ad e q.symm)).trans h1⟩
theorem let_info : (Try.prog.info? 138).map (fun i => (i.zero, i.size, i.bytes)) = some (some (.agg #[.int .i64 0, .int .i64 0]), 2, 16) := by kernel_rfl
theorem RunAt.ne {w : World} {g : Nat} {c : AC} {x : AS} {ins : List (Int × Int)} {N : Int} {A : Option Addr} {d : Nat} {I : Option Addr} {cap : Nat} (h : RunAt w g c x ins N A d I cap) : ∀ ad, A = some ad → ad.block ≠ g := h.ty.ne h.bk (by decide)
theorem RunAt.step {w w' : World} {g : Nat} {c : AC} {x : AS} {ins : List (Int × Int)} {N : Int} {A : Option Addr} {d : Nat} {I : Option Addr} {cap : Nat} (h : RunAt w g c x ins N A d I cap) (hb : Below w.heap.size w w') : RunAt w' g c x ins N A d I cap :=
  ⟨h.bk.step hb, h.rd.step hb, h.ty.step hb, own_below h.own hb (Nat.le_refl _)⟩
def AskT (T : TypeId) (y : AS) (E H : Int) : MSp := ⟨fun v => ∃ A d, v = .tuple #[y.V A d, .agg #[.int .i64 E, .int .i64 H]], fun v w => ∃ A d, v = .tuple #[y.V A d, .agg #[.int .i64 E, .int .i64 H]] ∧ Rd w w.heap.size A (enR y.es) ∧ TyA w T A⟩
theorem sts_ask (T : TypeId) (y : AS) (E H : Int) : ∀ v, Stays ((AskT T y E H).S v) := fun v w w' ⟨A, d, e, h, t⟩ hb => ⟨A, d, e, h.step hb, t.step hb⟩
theorem ask_of {T : TypeId} {y : AS} {E H : Int} {A : Option Addr} {d : Nat} {w : World} (h : (AskT T y E H).S (.tuple #[y.V A d, .agg #[.int .i64 E, .int .i64 H]]) w) : Rd w w.heap.size A (enR y.es) ∧ TyA w T A := by
  obtain ⟨B, c, e, h⟩ := h
  have : A = B := by
    injection e with e
    have e2 := congrArg (fun a : Array Value => a[0]?) e
    simp at e2
    exact e2.1
  subst this
  exact h
theorem _root_.Go.Calls.mask {P : Program} {f : FuncId} {args : Array Value} {w : World} {T : TypeId} {y : AS} {E H : Int} (h : Calls P f args w fun e w' => ∃ A d, e = .returned (.tuple #[y.V A d, .agg #[.int .i64 E, .int .i64 H]]) ∧ Rd w' w'.heap.size A (enR y.es) ∧ Below w.heap.size w w' ∧ TyA w' T A) : Calls P f args w (mPost (AskT T y E H) w) :=
  h.mono fun _ _ ⟨A, d, e, r, b, t⟩ => ⟨_, e, ⟨A, d, rfl⟩, ⟨A, d, rfl, r, t⟩, b⟩
theorem aAsk_E (c : AC) (x : AS) (src now draw : Int) : (aAsk c x src now draw).2.1 = aWould c x src now := by
  unfold aAsk
  split
  · rfl
  split
  · rename_i h; exact h.symm
  split
  · rename_i h; exact h.symm
  · rfl
set_option maxRecDepth 100000 in
set_option maxHeartbeats 16000000 in
theorem run_step_any {b1 r1 b2 r2 : Int} {x : AS} {ins : List (Int × Int)} {N : Int} {k : Nat} {f : Nat → Int × Int} (hRn : Rn b1 r1 b2 r2 x ins N k f) (hk : k ≤ 900) (A : Option Addr) (d : Nat) (I : Option Addr) (cap : Nat) (g : Nat) (gap load src draw : Int) (h0 : 0 ≤ gap ∧ gap ≤ 255) (h1 : 0 ≤ load ∧ load ≤ 255) (h2 : 0 ≤ src ∧ src ≤ 255) (h3 : 0 ≤ draw ∧ draw ≤ 65535) (w : World) (hR : RunAt w g (mkC b1 r1 b2 r2) x ins N A d I cap) :
    Calls Try.prog 26 #[.pointer (some ⟨g, 0, none⟩), .agg #[.int .u8 gap, .int .u8 load, .int .u8 src, .int .u16 draw]] w fun e w' => e = .returned (.bool true) ∧ ∃ x' ins' f' A' d' I' cap', RunAt w' g (mkC b1 r1 b2 r2) x' ins' (N + gap) A' d' I' cap' ∧ Rn b1 r1 b2 r2 x' ins' (N + gap) (k + 2) f' ∧ Below g w w' := by
  have hA := hR.ne
  obtain ⟨kr, rA, tA, oI⟩ := hR
  have lkr := kr.lt
  go_enter Try.func26, Try.ntmps26
  go_upto_region 1 with fail
  generalize hV : World.alloc w _ = w1
  have hb : Below w.heap.size w w1 := by subst hV; (repeat (first | with_reducible exact Below.refl _ _ | with_reducible assumption | with_reducible refine Below.drew ?_ | with_reducible refine Below.drewN ?_ _ | with_reducible refine Below.alloc1 ?_ _ | with_reducible refine Below.setCell1 ?_ (by first | omega | (simp; done) | (simp; omega)) _ | with_reducible refine Below.step ?_ (by with_reducible assumption)))
  have kp : Bk w1 w.heap.size 89 [.int .u8 gap, .int .u8 load, .int .u8 src, .int .u16 draw] := by subst hV; (repeat (first | with_reducible exact Bk.new' _ _ _ _ (by simp; done) | with_reducible assumption | with_reducible refine Bk.alloc ?_ _ | with_reducible refine Bk.drew ?_ | with_reducible refine Bk.drewN ?_ _ | with_reducible refine Bk.step ?_ (by with_reducible assumption) | with_reducible refine Bk.far ?_ (by first | omega | (simp; done) | (simp; omega)) _))
  clear hV
  replace kr := kr.step hb; replace rA := rA.step hb; replace tA := tA.step hb; replace oI := own_below oI hb (Nat.le_refl _)
  replace hb : Below g w w1 := hb.mono (by omega)
  have lkp := kp.lt
  generalize w.heap.size = gp at *
  have kr_28 := kr.cell 28; simp only [List.getElem?_cons_succ, List.getElem?_cons_zero, mkC] at kr_28
  have kr_f28 := kr.frozen 28
  have kp_0 := kp.cell 0; simp only [List.getElem?_cons_succ, List.getElem?_cons_zero, mkC] at kp_0
  have hNb := hRn.hN
  go_region
  generalize hV : World.drew (World.setCell _ _ _) = w2
  have hb2 : Below g w w2 := by subst hV; refine Below.drew ?_; refine Below.setCell ?_ (by dsimp only; omega) _; repeat (first | exact hb | refine Below.drew ?_ | refine Below.drewN ?_ _)
  have kr2 : Bk w2 g 85 (runC (mkC b1 r1 b2 r2) x A d I ins.length cap (N + gap)) := by subst hV; exact kr.set_ 28 _
  have kp2 : Bk w2 gp 89 [.int .u8 gap, .int .u8 load, .int .u8 src, .int .u16 draw] := by subst hV; exact kp.far (by dsimp only; omega) _
  have rA2 : Rd w2 w2.heap.size A (enR x.es) := by subst hV; exact (rA.keep1 (p := ⟨g, 28, none⟩) hA _).more (by simp [World.setCell])
  have tA2 : TyA w2 146 A := by subst hV; exact tA.setc _ _
  have oI2 : w2.ownsRow (g + 1) 138 2 (.slice I ins.length cap) ins.length (letR ins) := by subst hV; exact own_far oI (by dsimp only; omega) _
  clear hV kr rA tA oI hb kr_28 kr_f28 kp kp_0 lkp
  have HRn := hide (hRn.grows (by omega) h0.1 h0.2)
  have hN2 := HRn.out.hN
  clear hRn hNb
  generalize hM : N + gap = M at *
  have hxl := eCheck_len HRn.out.jn.hk
  have lk2 := kr2.lt
  have lp2 := kp2.lt
  have kp2_1 := kp2.cell 1; simp only [List.getElem?_cons_succ, List.getElem?_cons_zero, mkC] at kp2_1
  go_upto_if 23 with fail
  go_cut [4] from 24 to 42 (fun v4 wx => v4 = .bool false ∧ ∃ x1, Hid (Rn b1 r1 b2 r2 x1 ins M (k + 1) f) ∧ RunAt wx g (mkC b1 r1 b2 r2) x1 ins M A d I cap ∧ Bk wx gp 89 [.int .u8 gap, .int .u8 load, .int .u8 src, .int .u16 draw] ∧ Below g w wx)
  case first =>
    have kr2_28 := kr2.cell 28; simp only [List.getElem?_cons_succ, List.getElem?_cons_zero, mkC] at kr2_28
    by_cases hl : load < 128
    · have HT := hide (HRn.out.tick (by omega) load)
      have hT := fun W h => admit_Tick_any (mkC b1 r1 b2 r2) x A d load M W hxl h
      have hTe := hide (aTick_es (mkC b1 r1 b2 r2) x load M)
      generalize aTick (mkC b1 r1 b2 r2) x load M = t at *
      go_upto_region 3 with fail
      refine wp_region_mt 19 [(16, only (t.V A d))] (by kernel_rfl) (by kernel_rfl) (by kernel_rfl) (by kernel_rfl) (sts_cons (sts_only _) sts_nil) (fun kq => ?_); (try dsimp only [List.append, List.take])
      iterate 4 (refine wpM_via (by kernel_rfl) ?_; go_big_quiet_step (fail); refine wpQuiet_nil ?_)
      (refine wpM_load _ 44 _ rfl rfl _ 0 rfl ((acC b1 r1 b2 r2 (u3 50 75 90) (u3 40 60 80) 5 uLo uHi)) (fun x hx => by obtain ⟨px, rfl⟩ := hx; exact (kr2.step (below_regrown _ _ _)).range 0 _ rfl) _ Try.underlying44 rfl (by kernel_rfl) (later_some _) (by kernel_rfl) (by kernel_rfl) ?_; intro K hK; go_big_quiet_op; refine hK _ ?_; clear hK K)
      iterate 3 (refine wpM_via (by kernel_rfl) ?_; go_big_quiet_step (fail); refine wpQuiet_nil ?_)
      (refine wpM_load _ 51 _ rfl rfl _ 19 rfl ((azC x.t x.a A x.es.length d x.l x.s x.v x.le x.se)) (fun x hx => by obtain ⟨px, rfl⟩ := hx; exact (kr2.step (below_regrown _ _ _)).range 19 _ rfl) _ Try.underlying51 rfl (by kernel_rfl) (later_some _) (by kernel_rfl) (by kernel_rfl) ?_; intro K hK; go_big_quiet_op; refine hK _ ?_; clear hK K)
      iterate 7 (refine wpM_via (by kernel_rfl) ?_; go_big_quiet_step (fail); refine wpQuiet_nil ?_)
      (refine wpM_only _ (t.V A d) (by kernel_rfl) (by kernel_rfl) rfl (later_some _) ?_ ?_; (focus (intro x hx hk; obtain ⟨px, rfl⟩ := hx; go_simp; (first | with_reducible refine mUpon_enter ?_ | with_reducible refine mUpon_value ?_); go_at_call 18; exact (hT _ (rA2.step (below_regrown _ _ _))).mo)); intro K hK; go_big_quiet_op; refine hK _ ?_; clear hK K)
      iterate 2 (refine wpM_via (by kernel_rfl) ?_; go_big_quiet_step (fail); refine wpQuiet_nil ?_)
      refine wpM_nil ?_; intro wq hwq hfq; have hbq := below_of_class hwq; clear hwq kq; (try dsimp only [List.drop])
      have kr3 := kr2.step hbq
      (refine wpList_store_mid rfl 51 _ _ rfl _ 19 (azC t.t t.a A t.es.length d t.l t.s t.v t.le t.se).toArray rfl rfl (kr3.there 19 _ (Nat.le_of_ble_eq_true rfl)) (by kernel_rfl) (by kernel_rfl) ?_)
      go_wp2_with fail
      go_meet
      have hA := tA2.ne kr2 (by decide)
      refine ⟨rfl, t, HT, ⟨Bk.setCells _ _ _ _ kr3, ?_, ?_, ?_⟩, ?_, ?_⟩
      · rw [setCells_size, hTe.out]; exact Rd.cellsN hA _ _ _ (rA2.step hbq)
      · exact TyA.cellsN _ _ _ (tA2.step hbq)
      · exact own_cellsN (by omega) _ _ _ (own_below oI2 hbq (Nat.le_refl _))
      · exact Bk.cellsFar (by omega) _ _ _ (kp2.step hbq)
      · exact Below.cellsN (Nat.le_refl _) _ _ _ (hb2.then_ hbq (by omega))
    · go_wp2_with fail
      go_meet
      exact ⟨rfl, x, HRn, ⟨kr2, rA2, tA2, oI2⟩, kp2, hb2⟩
  case rest =>
    obtain ⟨rfl, x1, HR1, hrun, kp3, hb3⟩ := hcut
    clear HRn hxl lk2 lp2 kr2 rA2 tA2 oI2 kp2 kp2_1 hb2
    obtain ⟨kr, rA, tA, oI⟩ := hrun
    have hxl := eCheck_len HR1.out.jn.hk
    have e10 : src.tmod 10 = src % 10 := Int.tmod_eq_emod_of_nonneg h2.1
    have b10 : 0 ≤ src % 10 ∧ src % 10 ≤ 9 := by omega
    have lk := kr.lt
    have lp := kp3.lt
    have kp3_2 := kp3.cell 2; have kp3_3 := kp3.cell 3; simp only [List.getElem?_cons_succ, List.getElem?_cons_zero, mkC] at kp3_2 kp3_3
    have kr_22 := kr.cell 22; have kr_25 := kr.cell 25; have kr_26 := kr.cell 26; have kr_27 := kr.cell 27; have kr_28 := kr.cell 28; simp only [List.getElem?_cons_succ, List.getElem?_cons_zero, mkC] at kr_22 kr_25 kr_26 kr_27 kr_28
    go_upto_region 5 with fail
    obtain ⟨s, hs, es⟩ : ∃ s : Nat, s < 10 ∧ src % 10 = (s : Int) := ⟨(src % 10).toNat, by omega, by omega⟩
    rw [es]
    clear e10 b10 es kp3_2
    obtain ⟨y, E, H, hAsk, hW, hFy, hcn, hbd, hyl, hway⟩ := HR1.out.asks (by omega) hs draw
    have HWay := hide hway
    have hdr : 0 ≤ draw ∧ draw ≤ 18446744073709551615 := by omega
    have hWd := fun W h => admit_Would_any (mkC b1 r1 b2 r2) x1 A d s M W hxl h
    have hAs := fun W h => admit_Ask_ty (mkC b1 r1 b2 r2) x1 A d s M draw hdr W hxl h
    have hFi := fun W A' d' h => admit_Fine_any (mkC b1 r1 b2 r2) y A' d' W hyl h
    have hAl := fun W => level_Allows_any x1.l 0 W
    have hLv := fun W => bucket_Level_any b1 r1 x1.t x1.a M W
    rw [hW] at hWd
    rw [hAsk] at hAs
    rw [hFy] at hFi
    clear hW hAsk hFy hway
    generalize vAllows x1.l 0 = al at *
    generalize bLevel b1 r1 x1.t x1.a M = lv at *
    refine wp_region_m [(13, only (.int .i64 E))] (by kernel_rfl) (by kernel_rfl) (by kernel_rfl) (by kernel_rfl) (sts_cons (sts_only _) sts_nil) (fun kq => ?_); (try dsimp only [List.append])
    iterate 3 (refine wpM_via (by kernel_rfl) ?_; go_big_quiet_step (fail); refine wpQuiet_nil ?_)
    (refine wpM_load _ 44 _ rfl rfl _ 0 rfl ((acC b1 r1 b2 r2 (u3 50 75 90) (u3 40 60 80) 5 uLo uHi)) (fun x hx => by obtain ⟨px, rfl⟩ := hx; exact (kr.step (below_regrown _ _ _)).range 0 _ rfl) _ Try.underlying44 rfl (by kernel_rfl) (later_some _) (by kernel_rfl) (by kernel_rfl) ?_; intro K hK; go_big_quiet_op; refine hK _ ?_; clear hK K)
    iterate 3 (refine wpM_via (by kernel_rfl) ?_; go_big_quiet_step (fail); refine wpQuiet_nil ?_)
    (refine wpM_load _ 51 _ rfl rfl _ 19 rfl ((azC x1.t x1.a A x1.es.length d x1.l x1.s x1.v x1.le x1.se)) (fun x hx => by obtain ⟨px, rfl⟩ := hx; exact (kr.step (below_regrown _ _ _)).range 19 _ rfl) _ Try.underlying51 rfl (by kernel_rfl) (later_some _) (by kernel_rfl) (by kernel_rfl) ?_; intro K hK; go_big_quiet_op; refine hK _ ?_; clear hK K)
    iterate 5 (refine wpM_via (by kernel_rfl) ?_; go_big_quiet_step (fail); refine wpQuiet_nil ?_)
    (refine wpM_only _ (.int .i64 E) (by kernel_rfl) (by kernel_rfl) rfl (later_some _) ?_ ?_; (focus (intro x hx hk; obtain ⟨px, rfl⟩ := hx; go_simp; (first | with_reducible refine mUpon_enter ?_ | with_reducible refine mUpon_value ?_); go_at_call 16; exact (hWd _ (rA.step (below_regrown _ _ _))).mo)); intro K hK; go_big_quiet_op; refine hK _ ?_; clear hK K)
    (repeat (refine wpM_via (by kernel_rfl) ?_; go_big_quiet_step (fail); refine wpQuiet_nil ?_))
    refine wpM_nil ?_; intro wq hwq hfq; have hbq := below_of_class hwq; clear hwq kq; (try dsimp only [List.drop])
    have hzz := hbq.size
    replace hb3 : Below g w wq := hb3.then_ hbq (by omega)
    replace kr := kr.step hbq; replace rA := rA.step hbq; replace tA := tA.step hbq; replace oI := own_below oI hbq (Nat.le_refl _); replace kp3 := kp3.step hbq
    replace lk := kr.lt; replace lp := kp3.lt
    clear kr_22 kr_25 kr_26 kr_27 kr_28 kp3_3 hzz hbq
    have kr_22 := kr.cell 22; have kr_25 := kr.cell 25; have kr_26 := kr.cell 26; have kr_27 := kr.cell 27; have kr_28 := kr.cell 28; simp only [List.getElem?_cons_succ, List.getElem?_cons_zero, mkC] at kr_22 kr_25 kr_26 kr_27 kr_28
    have kp3_3 := kp3.cell 3; simp only [List.getElem?_cons_succ, List.getElem?_cons_zero, mkC] at kp3_3
    clear hWd
    obtain ⟨w5, rfl⟩ : ∃ w5 : World, w5 = wq := ⟨_, rfl⟩
    go_upto_region 6 with fail
    go_wp2_with fail
    refine (hAl _).mono ?_; rintro e w6 ⟨rfl, rfl⟩
    clear hAl
    go_upto_region 7 with fail
    refine wp_region_m [(14, only (.int .i64 lv))] (by kernel_rfl) (by kernel_rfl) (by kernel_rfl) (by kernel_rfl) (sts_cons (sts_only _) sts_nil) (fun kq => ?_); (try dsimp only [List.append])
    iterate 4 (refine wpM_via (by kernel_rfl) ?_; go_big_quiet_step (fail); refine wpQuiet_nil ?_)
    (refine wpM_load _ 40 _ rfl rfl _ 0 rfl (([.int .i64 b1, .int .i64 r1])) (fun x hx => by obtain ⟨px, rfl⟩ := hx; exact (kr.step (below_regrown _ _ _)).range 0 _ rfl) _ Try.underlying40 rfl (by kernel_rfl) (later_some _) (by kernel_rfl) (by kernel_rfl) ?_; intro K hK; go_big_quiet_op; refine hK _ ?_; clear hK K)
    iterate 4 (refine wpM_via (by kernel_rfl) ?_; go_big_quiet_step (fail); refine wpQuiet_nil ?_)
    (refine wpM_load _ 46 _ rfl rfl _ 19 rfl (([.int .i64 x1.t, .int .i64 x1.a])) (fun x hx => by obtain ⟨px, rfl⟩ := hx; exact (kr.step (below_regrown _ _ _)).range 19 _ rfl) _ Try.underlying46 rfl (by kernel_rfl) (later_some _) (by kernel_rfl) (by kernel_rfl) ?_; intro K hK; go_big_quiet_op; refine hK _ ?_; clear hK K)
    iterate 4 (refine wpM_via (by kernel_rfl) ?_; go_big_quiet_step (fail); refine wpQuiet_nil ?_)
    (refine wpM_only _ (.int .i64 lv) (by kernel_rfl) (by kernel_rfl) rfl (later_some _) ?_ ?_; (focus (intro x hx hk; obtain ⟨px, rfl⟩ := hx; go_simp; (first | with_reducible refine mUpon_enter ?_ | with_reducible refine mUpon_value ?_); go_at_call 47; exact (hLv _).mo)); intro K hK; go_big_quiet_op; refine hK _ ?_; clear hK K)
    (repeat (refine wpM_via (by kernel_rfl) ?_; go_big_quiet_step (fail); refine wpQuiet_nil ?_))
    refine wpM_nil ?_; intro wq hwq hfq; have hbq := below_of_class hwq; clear hwq kq; (try dsimp only [List.drop])
    have hzz := hbq.size
    replace hb3 : Below g w wq := hb3.then_ hbq (by omega)
    replace kr := kr.step hbq; replace rA := rA.step hbq; replace tA := tA.step hbq; replace oI := own_below oI hbq (Nat.le_refl _); replace kp3 := kp3.step hbq
    replace lk := kr.lt; replace lp := kp3.lt
    clear kr_22 kr_25 kr_26 kr_27 kr_28 kp3_3 hzz hbq
    have kr_22 := kr.cell 22; have kr_25 := kr.cell 25; have kr_26 := kr.cell 26; have kr_27 := kr.cell 27; have kr_28 := kr.cell 28; simp only [List.getElem?_cons_succ, List.getElem?_cons_zero, mkC] at kr_22 kr_25 kr_26 kr_27 kr_28
    have kp3_3 := kp3.cell 3; simp only [List.getElem?_cons_succ, List.getElem?_cons_zero, mkC] at kp3_3
    clear hLv
    obtain ⟨w8, rfl⟩ : ∃ w8 : World, w8 = wq := ⟨_, rfl⟩
    go_upto_region 8 with fail
    refine wp_region_ml 22 19 [(16, AskT 146 y E H), (20, NewBk w8.heap.size 51 [.int .i64 0, .int .i64 0, .slice none 0 0, .int .i64 0, .int .i64 0, .int .i64 0, .int .i64 0, .int .i64 0]), (21, NewBk w8.heap.size 56 [.int .i64 0, .int .i64 0])] (by kernel_rfl) (by kernel_rfl) (by kernel_rfl) (by kernel_rfl) (by kernel_rfl) (sts_cons (sts_ask _ _ _ _) (sts_cons (sts_newBk _ _ _) (sts_cons (sts_newBk _ _ _) sts_nil))) (fun _ d _ _ _ h => by cases d <;> exact h) (fun kq => ?_); (try dsimp only [List.append, lateL, lateOp, List.getElem?_cons_succ, List.getElem?_cons_zero, List.set_cons_succ, List.set_cons_zero, List.take])
    iterate 3 (refine wpM_via (by kernel_rfl) ?_; go_big_quiet_step (fail); refine wpQuiet_nil ?_)
    (refine wpM_load _ 44 _ rfl rfl _ 0 rfl ((acC b1 r1 b2 r2 (u3 50 75 90) (u3 40 60 80) 5 uLo uHi)) (fun x hx => by obtain ⟨px, rfl⟩ := hx; exact (kr.step (below_regrown _ _ _)).range 0 _ rfl) _ Try.underlying44 rfl (by kernel_rfl) (later_some _) (by kernel_rfl) (by kernel_rfl) ?_; intro K hK; go_big_quiet_op; refine hK _ ?_; clear hK K)
    iterate 3 (refine wpM_via (by kernel_rfl) ?_; go_big_quiet_step (fail); refine wpQuiet_nil ?_)
    (refine wpM_load _ 51 _ rfl rfl _ 19 rfl ((azC x1.t x1.a A x1.es.length d x1.l x1.s x1.v x1.le x1.se)) (fun x hx => by obtain ⟨px, rfl⟩ := hx; exact (kr.step (below_regrown _ _ _)).range 19 _ rfl) _ Try.underlying51 rfl (by kernel_rfl) (later_some _) (by kernel_rfl) (by kernel_rfl) ?_; intro K hK; go_big_quiet_op; refine hK _ ?_; clear hK K)
    iterate 8 (refine wpM_via (by kernel_rfl) ?_; go_big_quiet_step (fail); refine wpQuiet_nil ?_)
    (refine wpM_spec _ (AskT 146 y E H) (by kernel_rfl) (by kernel_rfl) rfl (later_some _) ?_ ?_; (focus (intro x hx hk; obtain ⟨px, rfl⟩ := hx; go_simp; (first | with_reducible refine mUpon_enter ?_ | with_reducible refine mUpon_value ?_); go_at_call 10; exact Calls.mask ((hAs _ (rA.step (below_regrown _ _ _))).mono fun _ _ ⟨A', d', e, r, _, b, t⟩ => ⟨A', d', e, r, b, t (tA.step (below_regrown _ _ _))⟩))); intro v hv K hK; obtain ⟨A2, d2, rfl⟩ := hv; go_big_quiet_op; refine hK _ ?_; clear hK K)
    iterate 3 (refine wpM_via (by kernel_rfl) ?_; go_big_quiet_step (fail); refine wpQuiet_nil ?_)
    (refine wpM_spec _ (NewBk w8.heap.size 51 [.int .i64 0, .int .i64 0, .slice none 0 0, .int .i64 0, .int .i64 0, .int .i64 0, .int .i64 0, .int .i64 0]) (by kernel_rfl) (by kernel_rfl) rfl (later_some _) ?_ ?_; (focus (intro x hx hk; obtain ⟨px, rfl⟩ := hx; go_simp; (first | with_reducible refine mUpon_enter ?_ | with_reducible refine mUpon_value ?_); exact newBk_new (by simp [Go.Sort.grow]) rfl (by simp [Go.Sort.grow, redrawn]))); intro v hv K hK; obtain ⟨g9, rfl, hg9⟩ := hv; go_big_quiet_op; refine hK _ ?_; clear hK K)
    (refine wpM_spec _ (NewBk w8.heap.size 56 [.int .i64 0, .int .i64 0]) (by kernel_rfl) (by kernel_rfl) rfl (later_some _) ?_ ?_; (focus (intro x hx hk; obtain ⟨px, rfl⟩ := hx; go_simp; (first | with_reducible refine mUpon_enter ?_ | with_reducible refine mUpon_value ?_); exact newBk_new (by simp [Go.Sort.grow]) rfl (by simp [Go.Sort.grow, redrawn]))); intro v hv K hK; obtain ⟨g10, rfl, hg10⟩ := hv; go_big_quiet_op; refine hK _ ?_; clear hK K)
    refine wpM_nil ?_; intro wq hwq hfq; have hbq := below_of_class hwq; clear hwq kq; (try dsimp only [List.drop])
    have q9 : Bk wq g9 51 [.int .i64 0, .int .i64 0, .slice none 0 0, .int .i64 0, .int .i64 0, .int .i64 0, .int .i64 0, .int .i64 0] := newBk_of (base := w8.heap.size) hfq.2.1
    have q10 : Bk wq g10 56 [.int .i64 0, .int .i64 0] := newBk_of (base := w8.heap.size) hfq.1
    obtain ⟨rY, tY⟩ := ask_of hfq.2.2.1
    have hne : g10 ≠ g9 := fun e => by subst e; exact Bk.apart q9 q10 (by decide)
    clear hfq hAs
    have r10 := q10.rowFar hne (azC y.t y.a A2 y.es.length d2 y.l y.s y.v y.le y.se).toArray
    (refine wpList_store_row rfl 51 _ _ rfl _ (azC y.t y.a A2 y.es.length d2 y.l y.s y.v y.le y.se).toArray rfl rfl _ _ q9 (by kernel_rfl) (by kernel_rfl) (by kernel_rfl) ?_)
    (refine wpList_store_row rfl 56 _ _ rfl _ ([.int .i64 E, .int .i64 H]).toArray rfl rfl _ _ r10 (by kernel_rfl) (by kernel_rfl) (by kernel_rfl) ?_)
    dsimp only [Act.put]
    have k9 := (q9.row (azC y.t y.a A2 y.es.length d2 y.l y.s y.v y.le y.se)).rowFar (g := g10) (Ne.symm hne) ([.int .i64 E, .int .i64 H] : List Value).toArray
    have k10 := r10.row [.int .i64 E, .int .i64 H]
    replace rY := (rY.rowFar (tY.ne q9 (by decide)) (azC y.t y.a A2 y.es.length d2 y.l y.s y.v y.le y.se).toArray).rowFar (tY.ne q10 (by decide)) ([.int .i64 E, .int .i64 H] : List Value).toArray
    replace tY := (tY.rowFar (tY.ne q9 (by decide)) (azC y.t y.a A2 y.es.length d2 y.l y.s y.v y.le y.se).toArray).rowFar (tY.ne q10 (by decide)) ([.int .i64 E, .int .i64 H] : List Value).toArray
    have hy := setRow_below (setRow_below hbq hg9 (azC y.t y.a A2 y.es.length d2 y.l y.s y.v y.le y.se).toArray) hg10 ([.int .i64 E, .int .i64 H] : List Value).toArray
    generalize hV : World.setRow (World.setRow _ _ _) _ _ = z1 at k9 k10 rY tY hy ⊢
    have hg9' : g < g9 := by omega
    have hg10' : g < g10 := by omega
    clear hV hbq q9 q10 r10 hne hg9 hg10
    have hzz := hy.size
    replace hb3 : Below g w z1 := hb3.then_ hy (by omega)
    replace kr := kr.step hy; replace rA := rA.step hy; replace tA := tA.step hy; replace oI := own_below oI hy (Nat.le_refl _); replace kp3 := kp3.step hy
    replace lk := kr.lt; replace lp := kp3.lt
    clear kr_22 kr_25 kr_26 kr_27 kr_28 kp3_3 hzz hy
    have kr_22 := kr.cell 22; have kr_25 := kr.cell 25; have kr_26 := kr.cell 26; have kr_27 := kr.cell 27; have kr_28 := kr.cell 28; simp only [List.getElem?_cons_succ, List.getElem?_cons_zero, mkC] at kr_22 kr_25 kr_26 kr_27 kr_28
    have kp3_3 := kp3.cell 3; simp only [List.getElem?_cons_succ, List.getElem?_cons_zero, mkC] at kp3_3
    have l9 := k9.lt
    have l10 := k10.lt
    have k9_6 := k9.cell 6; have k9_7 := k9.cell 7; simp only [List.getElem?_cons_succ, List.getElem?_cons_zero, mkC] at k9_6 k9_7
    have k10_0 := k10.cell 0; have k10_1 := k10.cell 1; simp only [List.getElem?_cons_succ, List.getElem?_cons_zero, mkC] at k10_0 k10_1
    obtain ⟨bd1, bd2, bd3, bd4⟩ := hbd
    go_upto_region 9 with fail
    refine wp_region_m [(10, only (.int .i64 0))] (by kernel_rfl) (by kernel_rfl) (by kernel_rfl) (by kernel_rfl) (sts_cons (sts_only _) sts_nil) (fun kq => ?_); (try dsimp only [List.append])
    iterate 8 (refine wpM_via (by kernel_rfl) ?_; go_big_quiet_step (fail); refine wpQuiet_nil ?_)
    (refine wpM_load _ 44 _ rfl rfl _ 0 rfl ((acC b1 r1 b2 r2 (u3 50 75 90) (u3 40 60 80) 5 uLo uHi)) (fun x hx => by obtain ⟨px, rfl⟩ := hx; exact (kr.step (below_regrown _ _ _)).range 0 _ rfl) _ Try.underlying44 rfl (by kernel_rfl) (later_some _) (by kernel_rfl) (by kernel_rfl) ?_; intro K hK; go_big_quiet_op; refine hK _ ?_; clear hK K)
    (refine wpM_load _ 51 _ rfl rfl _ 0 rfl ((azC y.t y.a A2 y.es.length d2 y.l y.s y.v y.le y.se)) (fun x hx => by obtain ⟨px, rfl⟩ := hx; exact (k9.step (below_regrown _ _ _)).range 0 _ rfl) _ Try.underlying51 rfl (by kernel_rfl) (later_some _) (by kernel_rfl) (by kernel_rfl) ?_; intro K hK; go_big_quiet_op; refine hK _ ?_; clear hK K)
    (refine wpM_only _ (.int .i64 0) (by kernel_rfl) (by kernel_rfl) rfl (later_some _) ?_ ?_; (focus (intro x hx hk; obtain ⟨px, rfl⟩ := hx; go_simp; (first | with_reducible refine mUpon_enter ?_ | with_reducible refine mUpon_value ?_); go_at_call 20; exact (hFi _ A2 d2 (rY.step (below_regrown _ _ _))).mo)); intro K hK; go_big_quiet_op; refine hK _ ?_; clear hK K)
    (repeat (refine wpM_via (by kernel_rfl) ?_; go_big_quiet_step (fail); refine wpQuiet_nil ?_))
    refine wpM_nil ?_; intro wq hwq hfq; have hbq := below_of_class hwq; clear hwq kq; (try dsimp only [List.drop])
    clear rA tA kp3 kp3_3 lp hFi hcn
    have hzz := hbq.size
    replace hb3 : Below g w wq := hb3.then_ hbq (by omega)
    replace kr := kr.step hbq; replace oI := own_below oI hbq (Nat.le_refl _); replace k9 := k9.step hbq; replace k10 := k10.step hbq; replace rY := rY.step hbq; replace tY := tY.step hbq
    replace lk := kr.lt; replace l9 := k9.lt; replace l10 := k10.lt
    clear kr_22 kr_25 kr_26 kr_27 kr_28 k9_6 k9_7 k10_0 k10_1 hzz hbq
    have kr_22 := kr.cell 22; have kr_25 := kr.cell 25; have kr_26 := kr.cell 26; have kr_27 := kr.cell 27; have kr_28 := kr.cell 28; simp only [List.getElem?_cons_succ, List.getElem?_cons_zero, mkC] at kr_22 kr_25 kr_26 kr_27 kr_28
    have k9_6 := k9.cell 6; have k9_7 := k9.cell 7; simp only [List.getElem?_cons_succ, List.getElem?_cons_zero, mkC] at k9_6 k9_7
    have k10_0 := k10.cell 0; have k10_1 := k10.cell 1; simp only [List.getElem?_cons_succ, List.getElem?_cons_zero, mkC] at k10_0 k10_1
    obtain ⟨w11, rfl⟩ : ∃ w11 : World, w11 = wq := ⟨_, rfl⟩
    by_cases hE : E = 0
    · subst hE
      rcases HWay.out with ⟨_, hH, hal, hlv, hyle, f', hRn'⟩ | ⟨hE, _⟩
      case inr => exact absurd rfl hE
      have HR2 := hide hRn'
      subst hH
      subst hal
      have dv1 : decide (lv < 1) = false := by simpa using hlv
      have dv2 : (y.le != x1.le + 1) = false := by simp [hyle]
      clear HWay hRn' hyle
      go_upto_region 12 with fail
      (refine wp_region_qb (by kernel_rfl) (by kernel_rfl) (fun kq => ?_); (try dsimp only [List.append]); (repeat (go_big_quiet_step ((fail)))); refine wpQuiet_nil ?_; intro wq hwq; have hbq := below_of_class hwq; clear hwq kq)
      have hzz := hbq.size
      replace hb3 : Below g w wq := hb3.then_ hbq (by omega)
      replace kr := kr.step hbq; replace oI := own_below oI hbq (Nat.le_refl _); replace k9 := k9.step hbq; replace k10 := k10.step hbq; replace rY := rY.step hbq; replace tY := tY.step hbq
      replace lk := kr.lt; replace l9 := k9.lt; replace l10 := k10.lt
      clear kr_22 kr_25 kr_26 kr_27 kr_28 k9_6 k9_7 k10_0 k10_1 hzz hbq
      have kr_22 := kr.cell 22; have kr_25 := kr.cell 25; have kr_26 := kr.cell 26; have kr_27 := kr.cell 27; have kr_28 := kr.cell 28; simp only [List.getElem?_cons_succ, List.getElem?_cons_zero, mkC] at kr_22 kr_25 kr_26 kr_27 kr_28
      have k9_6 := k9.cell 6; have k9_7 := k9.cell 7; simp only [List.getElem?_cons_succ, List.getElem?_cons_zero, mkC] at k9_6 k9_7
      have k10_0 := k10.cell 0; have k10_1 := k10.cell 1; simp only [List.getElem?_cons_succ, List.getElem?_cons_zero, mkC] at k10_0 k10_1
      obtain ⟨w14, rfl⟩ : ∃ w14 : World, w14 = wq := ⟨_, rfl⟩
      obtain ⟨iT, hi, hz0, hz1, hz2⟩ := info_parts let_info
      have kr_f27 := kr.frozen 27
      have hil := HR2.out.le
      have hse := HR2.out.se
      have hin : ins.length + 1 ≤ 1000 := by simp at hil; omega
      clear hil hse
      go_upto_region 14 with fail
      go_cut [4] from 161 to 175 (fun v4 wx => v4 = .bool false ∧ ∃ gI capI, Bk wx g 85 (runC (mkC b1 r1 b2 r2) x1 A d (some ⟨gI, 0, none⟩) (ins ++ [((s : Int), M)]).length capI M) ∧ wx.ownsRow (g + 1) 138 2 (.slice (some ⟨gI, 0, none⟩) (ins ++ [((s : Int), M)]).length capI) (ins ++ [((s : Int), M)]).length (letR (ins ++ [((s : Int), M)])) ∧ Bk wx g9 51 (azC y.t y.a A2 y.es.length d2 y.l y.s y.v y.le y.se) ∧ Rd wx wx.heap.size A2 (enR y.es) ∧ TyA wx 146 A2 ∧ Below g w wx)
      case first =>
        go_region_law (refine step_app2 rfl (.tmp 165) (.tmp 172) 83 rfl (g + 1) 138 iT _ 2 16 Try.underlying83 hi hz0 hz1 hz2 rfl (by omega) I ins.length cap (letR ins) rfl (own_drew (oI.alloc _)) ⟨w14.heap.size, 0, none⟩ 1 1 (letC ((s : Int), M)) rfl rfl (news_at (cs := [_, _])) (by simp [Value.oneCell']) (by unfold maxLen; omega) (by omega) (by simp; omega) (by omega) ?_; intro gI capI wI ownI hbI hgrI; (have krI := (Bk.drew (kr.alloc (.cells #[.int .i64 s, .int .i64 M] 138))).below hbI (by omega)); (have kr_f27 := krI.frozen 27); (have kr_27 := krI.cell 27); simp only [List.getElem?_cons_succ, List.getElem?_cons_zero] at kr_27)
        all_goals
          have e1 : (ins ++ [((s : Int), M)]).length = ins.length + 1 := by simp
          have e2 : letR (ins ++ [((s : Int), M)]) = letR ins ++ letC ((s : Int), M) := by simp [letR]
          have tI := (own_ty oI).step (Below.alloc1 (Below.refl w14.heap.size w14) (.cells #[.int .i64 s, .int .i64 M] 138))
          have k9a := Bk.drew (k9.alloc (.cells #[.int .i64 s, .int .i64 M] 138))
          have rYa := Rd.drew1 (rY.alloc1 (.cells #[.int .i64 s, .int .i64 M] 138))
          have tYa := TyA.drew (tY.step (Below.alloc1 (Below.refl w14.heap.size w14) (.cells #[.int .i64 s, .int .i64 M] 138)))
          have hdA := ty_apart (n := ins.length) (c := cap) tYa (TyA.drew tI) (by decide)
          have hYg := tY.ne kr (by decide)
          have k9b := k9a.kept hgrI (bk_apart k9a (TyA.drew tI) (by decide))
          have rYb := rYa.kept hgrI hdA
          have tYb := tYa.kept hgrI hdA
          have hbw : Below g w wI := ((hb3.alloc (by omega) (.cells #[.int .i64 s, .int .i64 M] 138)).drew).trans (hbI.mono (by omega))
          go_wp2_with fail
          go_meet
          refine ⟨rfl, gI, capI, ?_, ?_, k9b.far (by dsimp only; omega) _, ?_, tYb.setc _ _, Below.setCell hbw (by dsimp only; omega) _⟩
          · rw [e1]; exact krI.set_ 27 _
          · rw [e1, e2]; exact own_far ownI (by dsimp only; omega) _
          · exact (rYb.keep1 (p := ⟨g, 27, none⟩) hYg _).more (by simp [World.setCell])
      case rest =>
        obtain ⟨rfl, gI, capI, krc, oIc, k9c, rYc, tYc, hbc⟩ := hcut
        clear kr oI k9 k10 rY tY hb3 kr_22 kr_25 kr_26 kr_27 kr_28 kr_f27 k9_6 k9_7 k10_0 k10_1 lk l9 l10 hi hz0 hz1 hz2 dv1 dv2 hin
        generalize ins ++ [((s : Int), M)] = L at *
        generalize some (⟨gI, 0, none⟩ : Addr) = J at *
        have lkc := krc.lt
        go_upto_region 17 with fail
        go_upto_region 18 with (first | (refine wpList_load_row rfl 51 _ rfl _ rfl _ _ (0, 0) _ k9c Try.underlying51 rfl (by kernel_rfl) ?_) | (refine wpList_store_mid rfl 51 _ _ rfl _ 19 (azC y.t y.a A2 y.es.length d2 y.l y.s y.v y.le y.se).toArray rfl rfl (krc.there 19 _ (Nat.le_of_ble_eq_true rfl)) (by kernel_rfl) (by kernel_rfl) ?_))
        have hYg := tYc.ne krc (by decide)
        have kz : Bk _ g 85 (runC (mkC b1 r1 b2 r2) y A2 d2 J L.length capI M) := Bk.setCells (azC y.t y.a A2 y.es.length d2 y.l y.s y.v y.le y.se) 19 _ _ krc
        have rz := Rd.cellsN hYg (azC y.t y.a A2 y.es.length d2 y.l y.s y.v y.le y.se) 19 _ rYc
        have tz := TyA.cellsN (g := g) (azC y.t y.a A2 y.es.length d2 y.l y.s y.v y.le y.se) 19 _ tYc
        have oz := own_cellsN (g := g) (by omega) (azC y.t y.a A2 y.es.length d2 y.l y.s y.v y.le y.se) 19 _ oIc
        have hz := Below.cellsN (Nat.le_refl g) (azC y.t y.a A2 y.es.length d2 y.l y.s y.v y.le y.se) 19 _ hbc
        have hsz := setCells_size g (azC y.t y.a A2 y.es.length d2 y.l y.s y.v y.le y.se) 19 wc
        rw [← hsz] at rz
        clear hsz krc rYc tYc oIc hbc k9c hYg
        generalize hV : World.setCells _ _ _ _ = wz at *
        clear hV
        have hkp := HR2.out.kp
        have hcn := run_counts_any (mkC b1 r1 b2 r2) y A2 d2 J capI L M g wz kz (own_rd oz) (by have h1 := HR2.out.le; have h2 := HR2.out.se; omega) (by omega) (fun q hq => by
          obtain ⟨j, hj, e⟩ := List.getElem_of_mem hq
          have := hkp j (by simpa using hj)
          simp only [List.getElem_map] at this
          rw [e] at this
          exact ⟨this.1, this.2.1⟩) (HR2.out.all (by omega)) (HR2.out.each (by omega))
        clear hkp
        have lkz := kz.lt
        go_wp2_with fail
        refine hcn.mono ?_; rintro e w9 ⟨rfl, hx⟩
        go_wp2
        go_ret
        rw [hM]
        exact ⟨rfl, y, L, f', A2, d2, J, capI, RunAt.step ⟨kz, rz, tz, oz⟩ hx, HR2.out, hz.then_ hx (by omega)⟩
    · rcases HWay.out with ⟨hE0, _⟩ | ⟨_, hwi, h15, h14, hRn'⟩
      case inl => exact absurd hE0 hE
      have HR2 := hide hRn'
      have hWi := fun W => (jitter_Within_any uLo uHi x1.l H W).lit (congrArg Value.bool hwi)
      have b0 : (E == 0) = false := by simpa using hE
      clear HWay hRn' hwi
      go_upto_region 15 with fail
      go_cut [218] from 176 to 217 (fun v218 wx => v218 = .bool false ∧ Below w11.heap.size w11 wx)
      case first =>
        by_cases e15 : E = 15
        · have hal := h15 e15
          subst hal
          subst e15
          as_aux_lemma =>
            clear h15 h14
            refine wp_region_m [(13, only (.bool true))] (by kernel_rfl) (by kernel_rfl) (by kernel_rfl) (by kernel_rfl) (sts_cons (sts_only _) sts_nil) (fun kq => ?_); (try dsimp only [List.append])
            iterate 4 (refine wpM_via (by kernel_rfl) ?_; go_big_quiet_step (fail); refine wpQuiet_nil ?_)
            (refine wpM_load _ 42 _ rfl rfl _ 11 rfl (([.int .i64 (uLo 0), .int .i64 (uLo 1), .int .i64 (uLo 2), .int .i64 (uLo 3), .int .i64 (uHi 0), .int .i64 (uHi 1), .int .i64 (uHi 2), .int .i64 (uHi 3)])) (fun x hx => by obtain ⟨px, rfl⟩ := hx; exact (kr.step (below_regrown _ _ _)).range 11 _ rfl) _ Try.underlying42 rfl (by kernel_rfl) (later_some _) (by kernel_rfl) (by kernel_rfl) ?_; intro K hK; go_big_quiet_op; refine hK _ ?_; clear hK K)
            iterate 8 (refine wpM_via (by kernel_rfl) ?_; go_big_quiet_step (fail); refine wpQuiet_nil ?_)
            (refine wpM_only _ (.bool true) (by kernel_rfl) (by kernel_rfl) rfl (later_some _) ?_ ?_; (focus (intro x hx hk; obtain ⟨px, rfl⟩ := hx; go_simp; (first | with_reducible refine mUpon_enter ?_ | with_reducible refine mUpon_value ?_); go_at_call 68; exact (hWi _).mo)); intro K hK; go_big_quiet_op; refine hK _ ?_; clear hK K)
            (repeat (refine wpM_via (by kernel_rfl) ?_; go_big_quiet_step (fail); refine wpQuiet_nil ?_))
            refine wpM_nil ?_; intro wq hwq hfq; have hbq := below_of_class hwq; clear hwq kq; (try dsimp only [List.drop])
            go_wp2_with fail
            go_meet
            exact ⟨rfl, hbq⟩
        · have b15 : (E == 15) = false := by simpa using e15
          by_cases e14 : E = 14
          · subst e14
            by_cases hl : 0 < lv
            · have c1 : decide (0 < lv) = true := by simpa using hl
              cases al
              · as_aux_lemma =>
                  clear h15 h14
                  refine wp_region_m [(13, only (.bool true))] (by kernel_rfl) (by kernel_rfl) (by kernel_rfl) (by kernel_rfl) (sts_cons (sts_only _) sts_nil) (fun kq => ?_); (try dsimp only [List.append])
                  iterate 4 (refine wpM_via (by kernel_rfl) ?_; go_big_quiet_step (fail); refine wpQuiet_nil ?_)
                  (refine wpM_load _ 42 _ rfl rfl _ 11 rfl (([.int .i64 (uLo 0), .int .i64 (uLo 1), .int .i64 (uLo 2), .int .i64 (uLo 3), .int .i64 (uHi 0), .int .i64 (uHi 1), .int .i64 (uHi 2), .int .i64 (uHi 3)])) (fun x hx => by obtain ⟨px, rfl⟩ := hx; exact (kr.step (below_regrown _ _ _)).range 11 _ rfl) _ Try.underlying42 rfl (by kernel_rfl) (later_some _) (by kernel_rfl) (by kernel_rfl) ?_; intro K hK; go_big_quiet_op; refine hK _ ?_; clear hK K)
                  iterate 8 (refine wpM_via (by kernel_rfl) ?_; go_big_quiet_step (fail); refine wpQuiet_nil ?_)
                  (refine wpM_only _ (.bool true) (by kernel_rfl) (by kernel_rfl) rfl (later_some _) ?_ ?_; (focus (intro x hx hk; obtain ⟨px, rfl⟩ := hx; go_simp; (first | with_reducible refine mUpon_enter ?_ | with_reducible refine mUpon_value ?_); go_at_call 68; exact (hWi _).mo)); intro K hK; go_big_quiet_op; refine hK _ ?_; clear hK K)
                  (repeat (refine wpM_via (by kernel_rfl) ?_; go_big_quiet_step (fail); refine wpQuiet_nil ?_))
                  refine wpM_nil ?_; intro wq hwq hfq; have hbq := below_of_class hwq; clear hwq kq; (try dsimp only [List.drop])
                  go_wp2_with fail
                  go_meet
                  exact ⟨rfl, hbq⟩
              · have hni := h14 rfl hl
                have c2 : ((ins.length : Int) == 0) = false := by simpa using hni
                as_aux_lemma =>
                  clear h15 h14
                  refine wp_region_m [(13, only (.bool true))] (by kernel_rfl) (by kernel_rfl) (by kernel_rfl) (by kernel_rfl) (sts_cons (sts_only _) sts_nil) (fun kq => ?_); (try dsimp only [List.append])
                  iterate 4 (refine wpM_via (by kernel_rfl) ?_; go_big_quiet_step (fail); refine wpQuiet_nil ?_)
                  (refine wpM_load _ 42 _ rfl rfl _ 11 rfl (([.int .i64 (uLo 0), .int .i64 (uLo 1), .int .i64 (uLo 2), .int .i64 (uLo 3), .int .i64 (uHi 0), .int .i64 (uHi 1), .int .i64 (uHi 2), .int .i64 (uHi 3)])) (fun x hx => by obtain ⟨px, rfl⟩ := hx; exact (kr.step (below_regrown _ _ _)).range 11 _ rfl) _ Try.underlying42 rfl (by kernel_rfl) (later_some _) (by kernel_rfl) (by kernel_rfl) ?_; intro K hK; go_big_quiet_op; refine hK _ ?_; clear hK K)
                  iterate 8 (refine wpM_via (by kernel_rfl) ?_; go_big_quiet_step (fail); refine wpQuiet_nil ?_)
                  (refine wpM_only _ (.bool true) (by kernel_rfl) (by kernel_rfl) rfl (later_some _) ?_ ?_; (focus (intro x hx hk; obtain ⟨px, rfl⟩ := hx; go_simp; (first | with_reducible refine mUpon_enter ?_ | with_reducible refine mUpon_value ?_); go_at_call 68; exact (hWi _).mo)); intro K hK; go_big_quiet_op; refine hK _ ?_; clear hK K)
                  (repeat (refine wpM_via (by kernel_rfl) ?_; go_big_quiet_step (fail); refine wpQuiet_nil ?_))
                  refine wpM_nil ?_; intro wq hwq hfq; have hbq := below_of_class hwq; clear hwq kq; (try dsimp only [List.drop])
                  go_wp2_with fail
                  go_meet
                  exact ⟨rfl, hbq⟩
            · have c1 : decide (0 < lv) = false := by simpa using hl
              as_aux_lemma =>
                clear h15 h14
                refine wp_region_m [(13, only (.bool true))] (by kernel_rfl) (by kernel_rfl) (by kernel_rfl) (by kernel_rfl) (sts_cons (sts_only _) sts_nil) (fun kq => ?_); (try dsimp only [List.append])
                iterate 4 (refine wpM_via (by kernel_rfl) ?_; go_big_quiet_step (fail); refine wpQuiet_nil ?_)
                (refine wpM_load _ 42 _ rfl rfl _ 11 rfl (([.int .i64 (uLo 0), .int .i64 (uLo 1), .int .i64 (uLo 2), .int .i64 (uLo 3), .int .i64 (uHi 0), .int .i64 (uHi 1), .int .i64 (uHi 2), .int .i64 (uHi 3)])) (fun x hx => by obtain ⟨px, rfl⟩ := hx; exact (kr.step (below_regrown _ _ _)).range 11 _ rfl) _ Try.underlying42 rfl (by kernel_rfl) (later_some _) (by kernel_rfl) (by kernel_rfl) ?_; intro K hK; go_big_quiet_op; refine hK _ ?_; clear hK K)
                iterate 8 (refine wpM_via (by kernel_rfl) ?_; go_big_quiet_step (fail); refine wpQuiet_nil ?_)
                (refine wpM_only _ (.bool true) (by kernel_rfl) (by kernel_rfl) rfl (later_some _) ?_ ?_; (focus (intro x hx hk; obtain ⟨px, rfl⟩ := hx; go_simp; (first | with_reducible refine mUpon_enter ?_ | with_reducible refine mUpon_value ?_); go_at_call 68; exact (hWi _).mo)); intro K hK; go_big_quiet_op; refine hK _ ?_; clear hK K)
                (repeat (refine wpM_via (by kernel_rfl) ?_; go_big_quiet_step (fail); refine wpQuiet_nil ?_))
                refine wpM_nil ?_; intro wq hwq hfq; have hbq := below_of_class hwq; clear hwq kq; (try dsimp only [List.drop])
                go_wp2_with fail
                go_meet
                exact ⟨rfl, hbq⟩
          · have b14 : (E == 14) = false := by simpa using e14
            as_aux_lemma =>
              clear h15 h14
              refine wp_region_m [(13, only (.bool true))] (by kernel_rfl) (by kernel_rfl) (by kernel_rfl) (by kernel_rfl) (sts_cons (sts_only _) sts_nil) (fun kq => ?_); (try dsimp only [List.append])
              iterate 4 (refine wpM_via (by kernel_rfl) ?_; go_big_quiet_step (fail); refine wpQuiet_nil ?_)
              (refine wpM_load _ 42 _ rfl rfl _ 11 rfl (([.int .i64 (uLo 0), .int .i64 (uLo 1), .int .i64 (uLo 2), .int .i64 (uLo 3), .int .i64 (uHi 0), .int .i64 (uHi 1), .int .i64 (uHi 2), .int .i64 (uHi 3)])) (fun x hx => by obtain ⟨px, rfl⟩ := hx; exact (kr.step (below_regrown _ _ _)).range 11 _ rfl) _ Try.underlying42 rfl (by kernel_rfl) (later_some _) (by kernel_rfl) (by kernel_rfl) ?_; intro K hK; go_big_quiet_op; refine hK _ ?_; clear hK K)
              iterate 8 (refine wpM_via (by kernel_rfl) ?_; go_big_quiet_step (fail); refine wpQuiet_nil ?_)
              (refine wpM_only _ (.bool true) (by kernel_rfl) (by kernel_rfl) rfl (later_some _) ?_ ?_; (focus (intro x hx hk; obtain ⟨px, rfl⟩ := hx; go_simp; (first | with_reducible refine mUpon_enter ?_ | with_reducible refine mUpon_value ?_); go_at_call 68; exact (hWi _).mo)); intro K hK; go_big_quiet_op; refine hK _ ?_; clear hK K)
              (repeat (refine wpM_via (by kernel_rfl) ?_; go_big_quiet_step (fail); refine wpQuiet_nil ?_))
              refine wpM_nil ?_; intro wq hwq hfq; have hbq := below_of_class hwq; clear hwq kq; (try dsimp only [List.drop])
              go_wp2_with fail
              go_meet
              exact ⟨rfl, hbq⟩
      case rest =>
        obtain ⟨rfl, hbc0⟩ := hcut
        have krc := kr.step hbc0
        have oIc := own_below oI hbc0 (Nat.le_refl _)
        have k9c := k9.step hbc0
        have rYc := rY.step hbc0
        have tYc := tY.step hbc0
        have hbc := hb3.then_ hbc0 (by omega)
        clear kr oI k9 k10 rY tY hb3 kr_22 kr_25 kr_26 kr_27 kr_28 k9_6 k9_7 k10_0 k10_1 lk l9 l10 hbc0 h15 h14 hWi b0
        have lkc := krc.lt
        go_upto_region 17 with fail
        go_upto_region 18 with (first | (refine wpList_load_row rfl 51 _ rfl _ rfl _ _ (0, 0) _ k9c Try.underlying51 rfl (by kernel_rfl) ?_) | (refine wpList_store_mid rfl 51 _ _ rfl _ 19 (azC y.t y.a A2 y.es.length d2 y.l y.s y.v y.le y.se).toArray rfl rfl (krc.there 19 _ (Nat.le_of_ble_eq_true rfl)) (by kernel_rfl) (by kernel_rfl) ?_))
        have hYg := tYc.ne krc (by decide)
        have kz : Bk _ g 85 (runC (mkC b1 r1 b2 r2) y A2 d2 I ins.length cap M) := Bk.setCells (azC y.t y.a A2 y.es.length d2 y.l y.s y.v y.le y.se) 19 _ _ krc
        have rz := Rd.cellsN hYg (azC y.t y.a A2 y.es.length d2 y.l y.s y.v y.le y.se) 19 _ rYc
        have tz := TyA.cellsN (g := g) (azC y.t y.a A2 y.es.length d2 y.l y.s y.v y.le y.se) 19 _ tYc
        have oz := own_cellsN (g := g) (by omega) (azC y.t y.a A2 y.es.length d2 y.l y.s y.v y.le y.se) 19 _ oIc
        have hz := Below.cellsN (Nat.le_refl g) (azC y.t y.a A2 y.es.length d2 y.l y.s y.v y.le y.se) 19 _ hbc
        have hsz := setCells_size g (azC y.t y.a A2 y.es.length d2 y.l y.s y.v y.le y.se) 19 wc
        rw [← hsz] at rz
        clear hsz krc rYc tYc oIc hbc k9c hYg
        generalize hV : World.setCells _ _ _ _ = wz at *
        clear hV
        have hkp := HR2.out.kp
        have hcn := run_counts_any (mkC b1 r1 b2 r2) y A2 d2 I cap ins M g wz kz (own_rd oz) (by have h1 := HR2.out.le; have h2 := HR2.out.se; omega) (by omega) (fun q hq => by
          obtain ⟨j, hj, e⟩ := List.getElem_of_mem hq
          have := hkp j (by simpa using hj)
          simp only [List.getElem_map] at this
          rw [e] at this
          exact ⟨this.1, this.2.1⟩) (HR2.out.all (by omega)) (HR2.out.each (by omega))
        clear hkp
        have lkz := kz.lt
        go_wp2_with fail
        refine hcn.mono ?_; rintro e w9 ⟨rfl, hx⟩
        go_wp2
        go_ret
        rw [hM]
        exact ⟨rfl, y, ins, f, A2, d2, I, cap, RunAt.step ⟨kz, rz, tz, oz⟩ hx, HR2.out, hz.then_ hx (by omega)⟩
end Go.Proofs.Ytolpiaehleefbaa
