/- Package utf: Of, All. -/
import Derived.Test.YtonokkcnbbljoaaBld
import Derived.Test.YtonokkcnbbljoaaUput
namespace Go.Proofs.Ytonokkcnbbljoaa
open Go.RowKit Go.Shelf
set_option linter.unusedSimpArgs false
set_option linter.unusedVariables false

def iCells (l : List Int) : List Value := l.map (Value.int .i64)
/-- what is laid; an error, if one is no character -/
def uOf (l : List Int) : List UInt8 × Int := if l.all uChar then (l.flatMap uPut, 0) else ([], 8)
theorem strCells_of (l : List UInt8) : Lib.strCells (strOf l) = Lib.byteCells l := rfl
theorem byteCells_append (a b : List UInt8) : Lib.byteCells (a ++ b) = Lib.byteCells a ++ Lib.byteCells b := by
  unfold Lib.byteCells; rw [List.map_append]
theorem flat_le (l : List Int) (n : Nat) : ((l.take n).flatMap uPut).length ≤ 4 * n := by
  induction l generalizing n with
  | nil => simp
  | cons c l ih =>
    cases n with
    | zero => simp
    | succ n =>
      rw [List.take_succ_cons, List.flatMap_cons, List.length_append]
      have := ih n
      have := (uPut_ne c).2
      omega
theorem take_succ_flat (l : List Int) (k : Nat) (c : Int) (h : l[k]? = some c) : (l.take (k + 1)).flatMap uPut = (l.take k).flatMap uPut ++ uPut c := by
  rw [List.take_add_one, List.flatMap_append, h]
  simp
theorem all_take_succ (l : List Int) (k : Nat) (c : Int) (h : l[k]? = some c) (ha : (l.take k).all uChar = true) (hc : uChar c = true) : (l.take (k + 1)).all uChar = true := by
  rw [List.take_add_one, List.all_append, h, ha]
  simp [hc]
theorem all_bad (l : List Int) (k : Nat) (c : Int) (h : l[k]? = some c) (hc : uChar c = false) : l.all uChar = false := by
  cases e : l.all uChar with
  | false => rfl
  | true =>
    rw [List.all_eq_true] at e
    have := e c (List.mem_of_getElem? h)
    rw [hc] at this; cases this
theorem _root_.Go.Lib.BuilderAt.later {T e : TypeId} {B b : Nat} {p : Value} {bs : List Value} {w w' : World} (h : Lib.BuilderAt T e B b p bs w) (k : Below w.heap.size w w') : Lib.BuilderAt T e B b p bs w' := by
  have hlt := h.lt
  obtain ⟨hB, v, hb, hown, hne⟩ := h
  exact ⟨hB, v, (k.block b hlt).trans hb, own_below hown k (Nat.le_refl _), hne⟩
theorem _root_.Go.Lib.IsBuilder.later {T e : TypeId} {B b : Nat} {bs : List Value} {w w' : World} (h : Lib.IsBuilder T e B b bs w) (k : Below w.heap.size w w') : Lib.IsBuilder T e B b bs w' :=
  h.elim (fun h => .inl (h.later k)) (fun h => .inr (h.later k))
set_option maxRecDepth 100000 in
set_option maxHeartbeats 4000000 in
theorem utf_Of_any (A : Option Addr) (l : List Int) (cap : Nat) (hl : l.length ≤ 1000) (w : World) (hr : Rd w w.heap.size A (iCells l)) : Calls Try.prog 25 #[.slice A l.length cap] w fun e w' =>
    e = .returned (.tuple #[.string (strOf (uOf l).1), .int .i64 (uOf l).2]) ∧ Below w.heap.size w w' := by
  obtain ⟨R, hR⟩ : ∃ R, R = uOf l := ⟨_, rfl⟩
  rw [← hR]
  replace hR := hide hR
  go_enter Try.func25, Try.ntmps25
  go_wp2_with fail
  generalize hV : World.alloc w _ = w1
  have hb : Below w.heap.size w w1 := by subst hV; (repeat (first | with_reducible exact Below.refl _ _ | with_reducible assumption | with_reducible refine Below.drew ?_ | with_reducible refine Below.drewN ?_ _ | with_reducible refine Below.alloc1 ?_ _ | with_reducible refine Below.setCell1 ?_ (by first | omega | (simp; done) | (simp; omega)) _ | with_reducible refine Below.step ?_ (by with_reducible assumption)))
  have hbl : Lib.IsBuilder 63 5 w.heap.size w.heap.size (Lib.byteCells []) w1 := by
    subst hV
    exact .inl ⟨Nat.le_refl _, .slice none 0 0, Bk.new w 63 [.pointer none, .slice none 0 0], World.ownsRow_nil .., by simp [Value.ownBlock]⟩
  clear hV
  have hlen : ∀ k, (Lib.byteCells ((l.take k).flatMap uPut)).length ≤ 4 * k := fun k => by
    unfold Lib.byteCells; rw [List.length_map]; exact flat_le l k
  replace hlen := hide hlen
  go_loopw [11] (fun i wr => ∃ k : Nat, k ≤ l.length ∧ i = .int .i64 k ∧ (l.take k).all uChar = true ∧ Lib.IsBuilder 63 5 w.heap.size w.heap.size (Lib.byteCells ((l.take k).flatMap uPut)) wr ∧ Below w.heap.size w wr) (fun i _ => l.length - (intOf i).toNat)
  case atStart => exact ⟨0, by omega, rfl, rfl, hbl, hb⟩
  case round =>
    clear hbl hb
    obtain ⟨k, hk, rfl, ha, hbl, hb⟩ := hrel
    by_cases hlt : k < l.length
    · have hltI : (k : Int) < (l.length : Int) := by omega
      obtain ⟨c, hc⟩ : ∃ c, l[k]? = some c := ⟨_, List.getElem?_eq_getElem hlt⟩
      obtain ⟨ad, rfl, had, hcc⟩ := hr.at_ (k := k) (by unfold iCells; rw [List.length_map]; exact hlt)
      have hcw : wr.cell? (ad.add k) = some (.int .i64 c) := by
        rw [hb.cell (by rw [add_block]; exact had), hcc]
        obtain ⟨h1, rfl⟩ := List.getElem?_eq_some_iff.1 hc
        simp [iCells]
      have hput := fun W => utf_Put_any c W
      have HC := hide hc
      have HA := hide ha
      clear hc ha hcc
      cases hu : uChar c with
      | false =>
        have hR2 := hide (show R = ([], 8) by rw [hR.out, uOf, all_bad l k c HC.out hu]; rfl)
        simp only [hu, Bool.false_eq_true, if_false] at hput
        clear hu hR
        go_wp2_with fail
        refine (hput _).mono ?_; rintro e w2 ⟨rfl, hb2⟩
        go_wp2_with fail
        go_ret2
        exact ⟨by rw [hR2.out]; rfl, hb.step hb2⟩
      | true =>
        have ha2 := hide (all_take_succ l k c HC.out HA.out hu)
        simp only [hu, if_true] at hput
        clear hu
        go_wp2_with fail
        refine (hput _).mono ?_; rintro e w2 ⟨rfl, hb2⟩
        go_wp2_with fail
        have hbl2 := hbl.later hb2
        replace hb := hb.step hb2
        have hpl := hide (uPut_ne c).2
        refine (bld_write _ _ _ (strOf (uPut c)) _ hbl2 (by rw [strOf_size]; have := hlen.out k; have := hpl.out; omega) hb.size).mono ?_; rintro e w3 ⟨rfl, hbl3, hb3⟩
        clear hbl hbl2 hb2
        go_wp2_with fail
        go_roundw
        case rel =>
          refine ⟨k + 1, by omega, by simp, ha2.out, ?_, hb.trans hb3⟩
          rw [take_succ_flat l k c HC.out, byteCells_append]
          exact .inr hbl3
        case measure => simp [intOf]; omega
    · obtain rfl : k = l.length := by omega
      rw [List.take_length] at hbl ha
      have hR2 := hide (show R = (l.flatMap uPut, 0) by rw [hR.out, uOf, ha]; rfl)
      clear hR ha
      go_wp2_with fail
      refine (Try.Builder_String_any _ _ _ _ hbl hb.size).mono ?_; rintro e w2 ⟨rfl, hb2⟩
      go_wp2_with fail
      go_ret2
      exact ⟨by rw [hR2.out]; rfl, hb.trans hb2⟩
end Go.Proofs.Ytonokkcnbbljoaa
