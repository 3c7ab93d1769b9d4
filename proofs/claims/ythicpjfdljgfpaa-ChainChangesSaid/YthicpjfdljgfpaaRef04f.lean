/- Package callboyref04: laid. -/
import Derived.Test.YthicpjfdljgfpaaRef04e
namespace Go.Proofs.Ythicpjfdljgfpaa
open Go.RowKit Go.Sort
set_option linter.unusedSimpArgs false
set_option linter.unusedVariables false

theorem rnode_info : (Try.prog.info? 64).map (fun i => (i.zero, i.size, i.bytes)) = some (some (ndV ⟨0, 0, 0⟩), 3, 24) := by kernel_rfl
theorem own_bside {w : World} {base : Nat} {e t : TypeId} {size n c m g : Nat} {A : Option Addr} {xs cs : List Value} (h : w.ownsRow base e size (.slice A n c) m xs) (q : Bk w g t cs) (hne : e ≠ t) (i : Nat) (u : Value) : (w.setCell ⟨g, i, none⟩ u).ownsRow base e size (.slice A n c) m xs := by
  obtain ⟨q1, q2⟩ := h
  refine ⟨q1, q2.imp id ?_⟩
  rintro ⟨k, cap, cu, e2, hk, hh, r⟩
  have hkg : k ≠ g := by
    rintro rfl
    unfold Bk at q
    rw [hh] at q
    injection q with q
    injection q with _ q _
    exact hne q
  exact ⟨k, cap, cu, e2, hk, (Below.heap_setCell w ⟨g, i, none⟩ u k hkg).trans hh, r⟩
theorem own_kept {w w' : World} {base : Nat} {e : TypeId} {size n c : Nat} {A : Option Addr} {xs : List Value} {row : Option Nat} (h : w.ownsRow base e size (.slice A n c) n xs) (hg : w.grownBy w' row) (hne : ∀ ad, A = some ad → row ≠ some ad.block) : w'.ownsRow base e size (.slice A n c) n xs := by
  obtain ⟨q1, q2⟩ := h
  refine ⟨q1, q2.imp id ?_⟩
  rintro ⟨k, cap, cu, e2, hk, hh, r⟩
  injection e2 with e2 _ e3
  subst e3
  exact ⟨k, c, cu, by rw [e2], hk, (hg.block k (Array.getElem?_eq_some_iff.1 hh).1 (fun q => hne _ e2 q.symm)).trans hh, r⟩
/-- what holds while the lists are laid: ns the places, i lists done -/
structure LdR (w : World) (n gN cn : Nat) (pad : List Value) (L : List (List Nat)) (i : Nat) (H T : Option Addr) (ch ct : Nat) (ns : List Nd) (wr : World) : Prop where
  kR : Bk wr w.heap.size 25 (csC none none none 0 0 0 0 0 0)
  kS : Bk wr (w.heap.size + 1) 25 (csC (some ⟨gN, 0, none⟩) H T cn ch ct n i i)
  kN : Bk wr gN 64 (nds ns ++ pad)
  oH : wr.ownsRow (w.heap.size + 2) 3 1 (.slice H i ch) i (ints ((L.take i).map hd))
  oT : wr.ownsRow (w.heap.size + 2) 3 1 (.slice T i ct) i (ints ((L.take i).map lst))
  ap : ∀ g g' : Addr, H = some g → T = some g' → g.block ≠ g'.block
  hb : Below w.heap.size w wr
theorem LdR.setN {w : World} {n gN cn : Nat} {pad : List Value} {L : List (List Nat)} {i : Nat} {H T : Option Addr} {ch ct : Nat} {ns ns' : List Nd} {wr : World} (h : LdR w n gN cn pad L i H T ch ct ns wr) (hg : w.heap.size + 1 < gN) (o : Nat) (v : Value) (he : (nds ns ++ pad).set o v = nds ns' ++ pad) :
    LdR w n gN cn pad L i H T ch ct ns' (wr.setCell ⟨gN, o, none⟩ v) := by
  refine ⟨h.kR.far (by dsimp only; omega) _, h.kS.far (by dsimp only; omega) _, ?_, own_bside h.oH h.kN (by decide) _ _, own_bside h.oT h.kN (by decide) _ _, h.ap, h.hb.setCell (by dsimp only; omega) _⟩
  rw [← he]; exact h.kN.set_ o v
theorem LdR.set3 {w : World} {n gN cn : Nat} {pad : List Value} {L : List (List Nat)} {i : Nat} {H T : Option Addr} {ch ct : Nat} {ns : List Nd} {wr : World} (h : LdR w n gN cn pad L i H T ch ct ns wr) (hg : w.heap.size + 1 < gN) {q : Nat} (hq : q < ns.length) (x : Nd) :
    LdR w n gN cn pad L i H T ch ct (ns.set q x) (((wr.setCell ⟨gN, q * 3, none⟩ (.int .i64 x.l)).setCell ⟨gN, q * 3 + 1, none⟩ (.int .i64 x.n)).setCell ⟨gN, q * 3 + 2, none⟩ (.int .i64 x.p)) := by
  have k1 := ((h.kN.set_ (q * 3) (.int .i64 x.l)).set_ (q * 3 + 1) (.int .i64 x.n)).set_ (q * 3 + 2) (.int .i64 x.p)
  rw [nds_set3 _ _ _ hq] at k1
  refine ⟨((h.kR.far (by dsimp only; omega) _).far (by dsimp only; omega) _).far (by dsimp only; omega) _, ((h.kS.far (by dsimp only; omega) _).far (by dsimp only; omega) _).far (by dsimp only; omega) _, k1, ?_, ?_, h.ap, ((h.hb.setCell (by dsimp only; omega) _).setCell (by dsimp only; omega) _).setCell (by dsimp only; omega) _⟩
  · exact own_bside (own_bside (own_bside h.oH h.kN (by decide) _ _) (h.kN.set_ _ _) (by decide) _ _) ((h.kN.set_ _ _).set_ _ _) (by decide) _ _
  · exact own_bside (own_bside (own_bside h.oT h.kN (by decide) _ _) (h.kN.set_ _ _) (by decide) _ _) ((h.kN.set_ _ _).set_ _ _) (by decide) _ _
theorem LdR.setx {w : World} {n gN cn : Nat} {pad : List Value} {L : List (List Nat)} {i : Nat} {H T : Option Addr} {ch ct : Nat} {ns : List Nd} {wr : World} (h : LdR w n gN cn pad L i H T ch ct ns wr) (hg : w.heap.size + 1 < gN) {b : Nat} (hb : b < ns.length) (v : Int) :
    LdR w n gN cn pad L i H T ch ct (upd3 ns b fun x => { x with n := v }) (wr.setCell ⟨gN, b * 3 + 1, none⟩ (.int .i64 v)) := by
  refine h.setN hg _ _ ?_
  rw [nds_setN _ _ _ hb]
  congr 2
  unfold upd3
  rw [if_pos (by omega), Int.toNat_natCast, modify_set _ _ _ hb]
/-- a state of the document's, in rows from block b on -/
def RsNew (b : Nat) (w : World) (V : Value) (st : Ch) : Prop := ∃ A B C a' b' c', V = csV A B C a' b' c' st.ns.length st.hs.length st.ts.length ∧ RwN b w 64 A (nds st.ns) ∧ RwN b w 3 B (ints st.hs) ∧ RwN b w 3 C (ints st.ts)
theorem RsNew.at_ {b : Nat} {w : World} {V : Value} {st : Ch} (h : RsNew b w V st) : CsAt w V st := by
  obtain ⟨A, B, C, a', b', c', e, r1, r2, r3⟩ := h
  exact ⟨A, B, C, a', b', c', e, r1.rd, r2.rd, r3.rd⟩
theorem ownB (A : Option Addr) (n c : Nat) : (Value.slice A n c).ownBlock = A.map (·.block) := by cases A <;> rfl
set_option maxRecDepth 100000 in
set_option maxHeartbeats 16000000 in
theorem r04_laid_any (n : Nat) (AL : Option Addr) (cl : Nat) (L : List (List Nat)) (w : World) (hn1 : 1 ≤ n) (hn : n ≤ 64) (hL : L.length ≤ 20) (hv : Vl n L) (rL : Lss w AL L) :
    Calls Try.prog 41 #[.int .i64 n, .slice AL L.length cl] w fun e w' => ∃ V, e = .returned V ∧ RsNew w.heap.size w' V (laid n L) ∧ Below w.heap.size w w' := by
  obtain ⟨iN, hiN, hz0, hz1, hz2⟩ := info_parts rnode_info
  obtain ⟨iT, hiT, hy0, hy1, hy2⟩ := info_parts cint_info
  have HV := hide hv
  have hll : ∀ i (h : i < L.length), L[i].length ≤ 64 := fun i h => by
    have h1 := (vl_clear hv h).2
    have h2 := sub_len (P := List.range n) h1.1 (fun x hx => List.mem_range.2 (h1.2.1 x hx))
    simp at h2; omega
  have HLL := hide hll
  obtain ⟨vs, hvs, rV, hF⟩ := rL
  have HF := hide hF
  have HVS := hide hvs
  clear hv hll hF hvs
  go_enter Try.func41, Try.ntmps41
  go_upto_region 3 with fail
  generalize hV : World.alloc (World.alloc w _) _ = w1
  have hb1 : Below w.heap.size w w1 := by subst hV; (repeat (first | with_reducible exact Below.refl _ _ | with_reducible assumption | with_reducible refine Below.drew ?_ | with_reducible refine Below.drewN ?_ _ | with_reducible refine Below.alloc1 ?_ _ | with_reducible refine Below.setCell1 ?_ (by first | omega | (simp; done) | (simp; omega)) _ | with_reducible refine Below.step ?_ (by with_reducible assumption)))
  have kR : Bk w1 w.heap.size 25 (csC none none none 0 0 0 0 0 0) := by subst hV; exact (Bk.new' w 25 (csC none none none 0 0 0 0 0 0) _ rfl).alloc _
  have kS : Bk w1 (w.heap.size + 1) 25 (csC none none none 0 0 0 0 0 0) := by subst hV; exact Bk.new' (World.alloc w _) 25 (csC none none none 0 0 0 0 0 0) _ (by simp)
  clear hV
  have ls := kS.lt
  go_loopw [6] (fun v6 wr => ∃ (i : Nat) (O : Option Addr) (co : Nat), v6 = .int .i64 i ∧ i ≤ n ∧ Bk wr w.heap.size 25 (csC none none none 0 0 0 0 0 0) ∧ Bk wr (w.heap.size + 1) 25 (csC O none none co 0 0 i 0 0) ∧ wr.ownsRow (w.heap.size + 2) 64 3 (.slice O i co) i (nds (List.replicate i nd0)) ∧ Below w.heap.size w wr) (fun v _ => match v with | .int _ k => n - k.toNat | _ => 0)
  case atStart => exact ⟨0, none, 0, rfl, by omega, kR, kS, World.ownsRow_nil _ _ _ _, hb1⟩
  case round =>
    clear kR kS hb1 ls
    obtain ⟨i, O, co, rfl, hi, kR, kS, own, hb⟩ := hrel
    have ls := kS.lt
    by_cases hin : i = n
    · subst hin
      obtain ⟨gN, pad, rfl, hgN, hcN, kN⟩ := own_bk own (by omega)
      have e0 : nds (List.replicate i nd0) = nds (laid i (L.take 0)).ns := by
        have := laid_new i 0
        simp only [List.take_zero]
        rw [show (laid i []).ns = (laid i (List.replicate 0 [])).ns from rfl, this]
      rw [e0] at kN
      clear own e0
      obtain ⟨n, rfl⟩ : ∃ n, n = i := ⟨_, rfl⟩
      obtain ⟨cn, rfl⟩ : ∃ n, n = co := ⟨_, rfl⟩
      have gN1 : w.heap.size + 1 < gN := by omega
      have LD0 : LdR w n gN cn pad L 0 none none 0 0 (laid n (L.take 0)).ns wr := ⟨kR, kS, kN, World.ownsRow_nil _ _ _ _, World.ownsRow_nil _ _ _ _, (by intro g g' e; cases e), hb⟩
      clear kR kS kN hb ls
      go_upto_region 7 with fail
      go_loopw [7] (fun v7 wr => ∃ (i : Nat) (H T : Option Addr) (ch ct : Nat), v7 = .int .i64 i ∧ i ≤ L.length ∧ LdR w n gN cn pad L i H T ch ct (laid n (L.take i)).ns wr) (fun v _ => match v with | .int _ k => L.length - k.toNat | _ => 0)
      case atStart => exact ⟨0, none, none, 0, 0, rfl, by omega, LD0⟩
      case round =>
        clear LD0
        obtain ⟨i, H, T, ch, ct, rfl, hi, LD⟩ := hrel
        by_cases hin : i = L.length
        · have hLD : LdR w n gN cn pad L L.length H T ch ct (laid n L).ns wr := by rw [hin, List.take_length] at LD; exact LD
          subst hin
          clear LD
          obtain ⟨kR, kS, kN, oH, oT, ap, hb⟩ := hLD
          rw [List.take_length] at oH oT
          have lr := kR.lt
          go_wp2_with (first | (refine wpList_load_row rfl 25 _ rfl _ rfl _ _ (0, 0) _ kS Try.underlying25 rfl (by kernel_rfl) ?_) | (refine wpList_store_row rfl 25 _ _ rfl _ (csC (some ⟨gN, 0, none⟩) H T cn ch ct n L.length L.length).toArray rfl rfl _ _ kR (by kernel_rfl) (by kernel_rfl) (by kernel_rfl) ?_))
          have r1 := kR.row (csC (some ⟨gN, 0, none⟩) H T cn ch ct n L.length L.length)
          have hw := setRow_below hb (Nat.le_refl _) (csC (some ⟨gN, 0, none⟩) H T cn ch ct n L.length L.length).toArray
          refine bodyPost_ret (v := .agg (csC (some ⟨gN, 0, none⟩) H T cn ch ct n L.length L.length).toArray) (results_cell_row rfl _ _ _ _ _ (0, 0) _ rfl r1 Try.underlying25 rfl (by kernel_rfl)) rfl ⟨_, rfl, ?_, hw⟩
          refine ⟨some ⟨gN, 0, none⟩, H, T, cn, ch, ct, by simp [laid], rwn_bk (kN.rowFar (by omega) _) (by omega), ?_, ?_⟩
          · have := rwn_own (b := w.heap.size) (own_rowfar oH (g := w.heap.size) (by omega) (csC (some ⟨gN, 0, none⟩) H T cn ch ct n L.length L.length).toArray) (by omega)
            exact this
          · have := rwn_own (b := w.heap.size) (own_rowfar oT (g := w.heap.size) (by omega) (csC (some ⟨gN, 0, none⟩) H T cn ch ct n L.length L.length).toArray) (by omega)
            exact this
        · have hil : i < L.length := by omega
          have hii : (i : Int) < (L.length : Int) := by omega
          have hle := HLL.out i hil
          obtain ⟨Ai, ci, hvi, rI⟩ := HF.out i hil
          have hiv : i < vs.length := by rw [HVS.out]; exact hil
          obtain ⟨ad, rfl, hadb, hc⟩ := rV.at_ hiv
          rw [(List.getElem?_eq_some_iff.1 hvi).2] at hc
          obtain ⟨wa, rfl⟩ : ∃ wn : World, wn = wr := ⟨_, rfl⟩
          have LD1 : LdR w n gN cn pad L i H T ch ct (laid n (L.take i ++ [L[i].take 0])).ns wa := by
            rw [List.take_zero, laid_nil_ns]; exact LD
          clear hvi LD
          go_upto_region 12 with fail
          go_loopw [8, 9, 10] (fun v8 v9 v wr => ∃ k : Nat, v8 = .int .i64 (lst (L[i].take k)) ∧ v9 = .int .i64 (hd (L[i].take k)) ∧ v = .int .i64 k ∧ k ≤ L[i].length ∧ LdR w n gN cn pad L i H T ch ct (laid n (L.take i ++ [L[i].take k])).ns wr) (fun _ _ v _ => match v with | .int _ k => 64 - k.toNat | _ => 0)
          case atStart => exact ⟨0, rfl, rfl, rfl, by omega, LD1⟩
          case round =>
            clear LD1
            obtain ⟨k, rfl, rfl, rfl, hk, LD⟩ := hrel
            have hca := (LD.hb.cell (p := ad.add i) (by rw [add_block]; exact hadb)).trans hc
            by_cases hke : k = L[i].length
            · have hf : LdR w n gN cn pad L i H T ch ct (laid n (L.take (i + 1))).ns wr := by
                rw [hke, List.take_length, ← take_split hil] at LD; exact LD
              have HKE := hide (show lst (L[i].take k) = lst L[i] ∧ hd (L[i].take k) = hd L[i] by rw [hke, List.take_length]; exact ⟨rfl, rfl⟩)
              have hki : ¬ (k : Int) < (L[i].length : Int) := by omega
              rw [HKE.out.1, HKE.out.2]
              have hte := take_split hil
              have HTE := hide hte
              generalize hqi : L[i] = q at *
              clear LD hke HKE hqi hte
              obtain ⟨kR, kS, kN, oH, oT, ap, hb⟩ := hf
              have lS := kS.lt
              have lN := kN.lt
              have nH := (own_ty oH).ne kN (by decide)
              have nT := (own_ty oT).ne kN (by decide)
              have bH := own_blk oH
              have bT := own_blk oT
              have kS_0 := kS.cell 0; have kS_f0 := kS.frozen 0; have kS_1 := kS.cell 1; have kS_f1 := kS.frozen 1; have kS_2 := kS.cell 2; have kS_f2 := kS.frozen 2; simp only [List.set_cons_zero, List.set_cons_succ, List.getElem?_cons_zero, List.getElem?_cons_succ] at kS_0 kS_1 kS_2; have lt_kS := kS.lt
              go_upto_region 21 with (at_builtin; refine wpList_app4 rfl (.tmp 63) (.tmp 65) 23 rfl (w.heap.size + 2) 3 iT _ 1 8 Try.underlying23 hiT hy0 hy1 hy2 rfl (by omega) H i ch (ints ((L.take i).map hd)) rfl (oH.alloc _) ⟨wr.heap.size, 0, none⟩ 1 1 [.int .i64 (hd q)] rfl rfl (news_at (cs := [_])) (by simp [Value.oneCell']) (by unfold maxLen; omega) (by omega) (by simp; omega) (by omega) ?_; intro gH ch2 w5 own5 hb5 hg5 hwh; (have k5 := (kS.alloc (.cells #[.int .i64 (hd q)] 3)).below hb5 (by omega)); have k5_0 := k5.cell 0; have k5_f0 := k5.frozen 0; have k5_1 := k5.cell 1; have k5_f1 := k5.frozen 1; have k5_2 := k5.cell 2; have k5_f2 := k5.frozen 2; simp only [List.set_cons_zero, List.set_cons_succ, List.getElem?_cons_zero, List.getElem?_cons_succ] at k5_0 k5_1 k5_2; have lt_k5 := k5.lt)
              generalize hV : World.setCell w5 _ _ = w6
              have kS6 : Bk w6 (w.heap.size + 1) 25 (csC (some ⟨gN, 0, none⟩) (some ⟨gH, 0, none⟩) T cn ch2 ct n (i + 1) i) := by subst hV; exact k5.set_ 1 _
              have kR6 : Bk w6 w.heap.size 25 (csC none none none 0 0 0 0 0 0) := by subst hV; exact ((kR.alloc _).below hb5 (by omega)).far (by dsimp only; omega) _
              have kN6 : Bk w6 gN 64 (nds (laid n (L.take (i + 1))).ns ++ pad) := by
                subst hV
                refine ((kN.alloc (.cells #[.int .i64 (hd q)] 3)).kept hg5 (fun j hj => ?_)).far (by dsimp only; omega) _
                rw [ownB] at hj
                cases H with
                | none => cases hj
                | some g => simp at hj; subst hj; exact nH g rfl
              have oT6 : w6.ownsRow (w.heap.size + 2) 3 1 (.slice T i ct) i (ints ((L.take i).map lst)) := by
                subst hV
                refine own_far (own_kept (oT.alloc (.cells #[.int .i64 (hd q)] 3)) hg5 (fun g' e' => ?_)) (by dsimp only; omega) _
                rw [ownB]
                cases H with
                | none => simp
                | some g => simp; exact ap g g' rfl e'
              have oH6 : w6.ownsRow (w.heap.size + 2) 3 1 (.slice (some ⟨gH, 0, none⟩) (i + 1) ch2) (i + 1) (ints ((L.take (i + 1)).map hd)) := by
                subst hV
                rw [HTE.out, List.map_append, show ints ((L.take i).map hd ++ [q].map hd) = ints ((L.take i).map hd) ++ [.int .i64 (hd q)] by simp [ints]]
                exact own_far own5 (by dsimp only; omega) _
              have ap6 : ∀ g g' : Addr, some (⟨gH, 0, none⟩ : Addr) = some g → T = some g' → g.block ≠ g'.block := by
                intro g g' e e'
                cases e
                rcases hwh with h | h
                · rw [ownB] at h
                  cases H with
                  | none => cases h
                  | some g => simp at h; show gH ≠ _; rw [← h]; exact ap g g' rfl e'
                · have h9 := (bT g' e').2
                  simp at h
                  show gH ≠ _; omega
              have hb6 : Below w.heap.size w w6 := by subst hV; exact ((hb.alloc (hb.size) (.cells #[.int .i64 (hd q)] 3)).trans (hb5.mono (by omega))).setCell (by dsimp only; omega) _
              have sz6 := hb6.size
              have nT6 := (own_ty oT6).ne kN6 (by decide)
              have bH6 := own_blk oH6
              (try clear kS_0 kS_f0 kS_1 kS_f1 kS_2 kS_f2 lt_kS) ; (try clear k5_0 k5_f0 k5_1 k5_f1 k5_2 k5_f2 lt_k5)
              clear hV k5 kS kR kN oH oT ap hb hb5 hg5 hwh own5 nH nT bH bT lS lN
              have lS6 := kS6.lt
              have kS6_0 := kS6.cell 0; have kS6_f0 := kS6.frozen 0; have kS6_1 := kS6.cell 1; have kS6_f1 := kS6.frozen 1; have kS6_2 := kS6.cell 2; have kS6_f2 := kS6.frozen 2; simp only [List.set_cons_zero, List.set_cons_succ, List.getElem?_cons_zero, List.getElem?_cons_succ] at kS6_0 kS6_1 kS6_2; have lt_kS6 := kS6.lt
              go_wp2_with (at_builtin; refine wpList_app4 rfl (.tmp 69) (.tmp 71) 23 rfl (w.heap.size + 2) 3 iT _ 1 8 Try.underlying23 hiT hy0 hy1 hy2 rfl (by omega) T i ct (ints ((L.take i).map lst)) rfl (oT6.alloc _) ⟨w6.heap.size, 0, none⟩ 1 1 [.int .i64 (lst q)] rfl rfl (news_at (cs := [_])) (by simp [Value.oneCell']) (by unfold maxLen; omega) (by omega) (by simp; omega) (by omega) ?_; intro gT ct2 w7 own7 hb7 hg7 hwt; (have k7 := (kS6.alloc (.cells #[.int .i64 (lst q)] 3)).below hb7 (by omega)); have k7_0 := k7.cell 0; have k7_f0 := k7.frozen 0; have k7_1 := k7.cell 1; have k7_f1 := k7.frozen 1; have k7_2 := k7.cell 2; have k7_f2 := k7.frozen 2; simp only [List.set_cons_zero, List.set_cons_succ, List.getElem?_cons_zero, List.getElem?_cons_succ] at k7_0 k7_1 k7_2; have lt_k7 := k7.lt)
              go_roundw
              case rel =>
                refine ⟨i + 1, some ⟨gH, 0, none⟩, some ⟨gT, 0, none⟩, ch2, ct2, by rw [Int.natCast_add]; rfl, by omega, ?_, k7.set_ 2 _, ?_, ?_, ?_, ?_, ?_⟩
                · exact ((kR6.alloc _).below hb7 (by omega)).far (by dsimp only; omega) _
                · refine ((kN6.alloc (.cells #[.int .i64 (lst q)] 3)).kept hg7 (fun j hj => ?_)).far (by dsimp only; omega) _
                  rw [ownB] at hj
                  cases T with
                  | none => cases hj
                  | some g => simp at hj; subst hj; exact nT6 g rfl
                · refine own_far (own_kept (oH6.alloc (.cells #[.int .i64 (lst q)] 3)) hg7 (fun g' e' => ?_)) (by dsimp only; omega) _
                  rw [ownB]
                  cases T with
                  | none => simp
                  | some g => simp; exact fun h => ap6 g' g e' rfl h.symm
                · rw [HTE.out, List.map_append, show ints ((L.take i).map lst ++ [q].map lst) = ints ((L.take i).map lst) ++ [.int .i64 (lst q)] by simp [ints]]
                  exact own_far own7 (by dsimp only; omega) _
                · intro g g' e e'
                  cases e'
                  rcases hwt with h | h
                  · rw [ownB] at h
                    cases T with
                    | none => cases h
                    | some g2 => simp at h; show _ ≠ gT; rw [← h]; exact ap6 g g2 e rfl
                  · have h9 := (bH6 g e).2
                    simp at h
                    show _ ≠ gT; omega
                · exact ((hb6.alloc (hb6.size) (.cells #[.int .i64 (lst q)] 3)).trans (hb7.mono (by omega))).setCell (by dsimp only; omega) _
              case measure => simp; omega
            · have hkl : k < L[i].length := by omega
              have hki : (k : Int) < (L[i].length : Int) := by omega
              obtain ⟨hp, hb1, hb2, hst⟩ := laid_step HV.out hil hkl
              obtain ⟨ai, rfl, haib, hcp⟩ := rI.at_ (k := k) (by simpa using hkl)
              have hcp2 : (ints (nI L[i]))[k]'(by simpa using hkl) = .int .i64 ((L[i][k] : Nat) : Int) := by simp
              rw [hcp2] at hcp
              have hcpa := (LD.hb.cell (p := ai.add k) (by rw [add_block]; exact haib)).trans hcp
              have HLS := hide (show lst (L[i].take (k + 1)) = ((L[i][k] : Nat) : Int) by rw [List.take_succ_eq_append_getElem hkl, lst_snoc])
              have HHD := hide (show hd (L[i].take (k + 1)) = if L[i].take k = [] then ((L[i][k] : Nat) : Int) else hd (L[i].take k) by rw [List.take_succ_eq_append_getElem hkl, hd_snoc])
              have HST := hide hst
              have hlc := lst_cases (L[i].take k)
              have hnl : (laid n (L.take i ++ [L[i].take k])).ns.length = n := (laid_lens _ _).1
              have HNL := hide hnl
              clear hst hcp hcp2 hnl
              generalize L[i][k] = p at *
              have hpi : (p : Int) < (n : Int) := by omega
              have hpq := hide (show p < (laid n (L.take i ++ [L[i].take k])).ns.length by rw [HNL.out]; exact hp)
              generalize (laid n (L.take i ++ [L[i].take k])).ns = ns at *
              have kS := LD.kS
              have lS := kS.lt
              have kS_0 := kS.cell 0; have kS_f0 := kS.frozen 0; have kS_1 := kS.cell 1; have kS_f1 := kS.frozen 1; have kS_2 := kS.cell 2; have kS_f2 := kS.frozen 2; simp only [List.set_cons_zero, List.set_cons_succ, List.getElem?_cons_zero, List.getElem?_cons_succ] at kS_0 kS_1 kS_2; have lt_kS := kS.lt
              obtain ⟨c1, c2, c3⟩ := LD.kN.nd hpq.out
              have f1 := LD.kN.frozen (p * 3)
              have f2 := LD.kN.frozen (p * 3 + 1)
              have f3 := LD.kN.frozen (p * 3 + 2)
              go_upto_region 16 with fail
              have LD2 := LD.set3 gN1 hpq.out ⟨i, -1, lst (L[i].take k)⟩
              dsimp only at LD2
              generalize World.setCell (World.setCell (World.setCell wr _ _) _ _) _ _ = w5 at LD2 ⊢
              (try clear kS_0 kS_f0 kS_1 kS_f1 kS_2 kS_f2 lt_kS)
              clear LD kS lS c1 c2 c3 f1 f2 f3 hcpa hca hc haib hadb
              rcases hlc with ⟨e0, e⟩ | ⟨b, hbm, e⟩
              · have hns : ns.set p ⟨i, -1, lst (L[i].take k)⟩ = (laid n (L.take i ++ [L[i].take (k + 1)])).ns := by
                  have h9 := HST.out
                  rw [e] at h9 ⊢
                  simpa [upd3] using h9
                rw [hns] at LD2
                have HV9 := hide (show hd (L[i].take (k + 1)) = (p : Int) by rw [HHD.out, if_pos e0])
                clear HST hns HHD hb1 hb2
                rw [e]
                clear e e0
                go_wp2
                go_roundw
                case rel => exact ⟨k + 1, by rw [HLS.out], by rw [HV9.out], by rw [Int.natCast_add]; rfl, by omega, LD2⟩
                case measure => simp; omega
              · have hbn : b < n := by omega
                have hbi : (b : Int) < (n : Int) := by omega
                have hbq : b < (ns.set p ⟨i, -1, lst (L[i].take k)⟩).length := by rw [List.length_set, HNL.out]; exact hbn
                have LD3 := LD2.setx gN1 hbq (p : Int)
                have hns : upd3 (ns.set p ⟨i, -1, lst (L[i].take k)⟩) (b : Int) (fun x => { x with n := (p : Int) }) = (laid n (L.take i ++ [L[i].take (k + 1)])).ns := by
                  have h9 := HST.out
                  rw [e] at h9 ⊢
                  exact h9
                rw [hns] at LD3
                have HV9 := hide (show hd (L[i].take (k + 1)) = hd (L[i].take k) by rw [HHD.out, if_neg (fun h => by rw [h] at hbm; cases hbm)])
                have kS := LD2.kS
                have lS := kS.lt
                have kS_0 := kS.cell 0; have kS_f0 := kS.frozen 0; have kS_1 := kS.cell 1; have kS_f1 := kS.frozen 1; have kS_2 := kS.cell 2; have kS_f2 := kS.frozen 2; simp only [List.set_cons_zero, List.set_cons_succ, List.getElem?_cons_zero, List.getElem?_cons_succ] at kS_0 kS_1 kS_2; have lt_kS := kS.lt
                obtain ⟨c1, c2, c3⟩ := LD2.kN.nd hbq
                have f2 := LD2.kN.frozen (b * 3 + 1)
                clear HST hns HHD hb1 hb2 LD2 hbm
                rw [e]
                clear e
                go_wp2
                go_roundw
                case rel => exact ⟨k + 1, by rw [HLS.out], by rw [HV9.out], by rw [Int.natCast_add]; rfl, by omega, LD3⟩
                case measure => simp; omega
    · have hil : i < n := by omega
      have hii : (i : Int) < (n : Int) := by omega
      have kS_0 := kS.cell 0; have kS_f0 := kS.frozen 0; have kS_1 := kS.cell 1; have kS_f1 := kS.frozen 1; have kS_2 := kS.cell 2; have kS_f2 := kS.frozen 2; simp only [List.set_cons_zero, List.set_cons_succ, List.getElem?_cons_zero, List.getElem?_cons_succ] at kS_0 kS_1 kS_2; have lt_kS := kS.lt
      go_wp2_with (at_builtin; refine wpList_app2 rfl (.tmp 18) (.tmp 20) 22 rfl (w.heap.size + 2) 64 iN _ 3 24 Try.underlying22 hiN hz0 hz1 hz2 rfl (by omega) O i co (nds (List.replicate i nd0)) rfl (own.alloc _) ⟨wr.heap.size, 0, none⟩ 1 1 [.int .i64 (-1), .int .i64 (-1), .int .i64 (-1)] rfl rfl (news_at (cs := [_, _, _])) (by simp [Value.oneCell']) (by unfold maxLen; omega) (by omega) (by simp; omega) (by omega) ?_; intro gO co2 w5 own5 hb5 hg5; (have k5 := (kS.alloc (.cells #[.int .i64 (-1), .int .i64 (-1), .int .i64 (-1)] 64)).below hb5 (by omega)); have k5_0 := k5.cell 0; have k5_f0 := k5.frozen 0; have k5_1 := k5.cell 1; have k5_f1 := k5.frozen 1; have k5_2 := k5.cell 2; have k5_f2 := k5.frozen 2; simp only [List.set_cons_zero, List.set_cons_succ, List.getElem?_cons_zero, List.getElem?_cons_succ] at k5_0 k5_1 k5_2; have lt_k5 := k5.lt)
      go_roundw
      case rel =>
        refine ⟨i + 1, some ⟨gO, 0, none⟩, co2, by rw [Int.natCast_add]; rfl, by omega, ?_, k5.set_ 0 _, ?_, ?_⟩
        · exact (((kR.alloc (.cells #[.int .i64 (-1), .int .i64 (-1), .int .i64 (-1)] 64)).below hb5 (by omega)).far (by dsimp only; omega) _)
        · have e : nds (List.replicate (i + 1) nd0) = nds (List.replicate i nd0) ++ [.int .i64 (-1), .int .i64 (-1), .int .i64 (-1)] := by
            rw [List.replicate_succ']; simp [nds, nd0]
          rw [e]; exact own_far own5 (by dsimp only; omega) _
        · exact ((hb.alloc hb.size (.cells #[.int .i64 (-1), .int .i64 (-1), .int .i64 (-1)] 64)).trans (hb5.mono (by omega))).setCell (by dsimp only; omega) _
      case measure => simp; omega
end Go.Proofs.Ythicpjfdljgfpaa
