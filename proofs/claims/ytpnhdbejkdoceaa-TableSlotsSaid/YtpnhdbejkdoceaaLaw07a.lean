/- Law 07: few; TableNobody, walked. -/
import Derived.Test.YtpnhdbejkdoceaaAwake07
namespace Go.Proofs.Ytpnhdbejkdoceaa
open Go.RowKit Go.Sort
set_option linter.unusedSimpArgs false
set_option linter.unusedVariables false

structure AcT where
  kind : Int
  key : ByteArray
  n : Int
instance : Inhabited AcT := ⟨⟨0, ByteArray.empty, 0⟩⟩
abbrev atC (x : AcT) : List Value := [.int .u8 x.kind, .string x.key, .int .i64 x.n]
abbrev atR7 (l : List AcT) : List Value := l.flatMap atC
theorem atR7_length (l : List AcT) : (atR7 l).length = 3 * l.length := by
  induction l with
  | nil => rfl
  | cons a l ih => simp only [atR7, List.flatMap_cons, List.length_append, List.length_cons] at *; simp only [List.length_nil] at *; omega
theorem atR7_get (l : List AcT) (k : Nat) (h : k < l.length) : (atR7 l)[k * 3]? = some (.int .u8 l[k].kind) ∧ (atR7 l)[k * 3 + 1]? = some (.string l[k].key) ∧ (atR7 l)[k * 3 + 2]? = some (.int .i64 l[k].n) := by
  induction l generalizing k with
  | nil => simp at h
  | cons a l ih =>
    cases k with
    | zero => simp [atR7]
    | succ k =>
      have := ih k (by simpa using h)
      have e : ∀ j, (atR7 (a :: l))[(k + 1) * 3 + j]? = (atR7 l)[k * 3 + j]? := fun j => by
        rw [show (k + 1) * 3 + j = (k * 3 + j) + 3 by omega]
        simp [atR7]
      have e0 := e 0
      simp only [Nat.add_zero] at e0
      rw [e0, e 1, e 2]
      simpa using this
theorem Rd.at7 {w : World} {B : Nat} {A : Option Addr} {l : List AcT} (h : Rd w B A (atR7 l)) {k : Nat} (hk : k < l.length) :
    ∃ ad, A = some ad ∧ ad.block < B ∧ w.cell? (ad.add (k * 3)) = some (.int .u8 l[k].kind) ∧ w.cell? { block := (ad.add (k * 3)).block, off := (ad.add (k * 3)).off + 1 } = some (.string l[k].key) ∧
      w.cell? { block := (ad.add (k * 3)).block, off := (ad.add (k * 3)).off + 2 } = some (.int .i64 l[k].n) := by
  obtain ⟨ad, e, hb, hc⟩ := h (by intro e; have := atR7_length l; rw [e] at this; simp at this; omega)
  obtain ⟨q0, q1, q2⟩ := atR7_get l k hk
  have f : ∀ (x : Addr) (i : Nat), i ≠ 0 → x.add i = { block := x.block, off := x.off + i } := fun x i hi => by simp [Addr.add, hi]
  exact ⟨ad, e, hb, hc _ _ q0, by rw [← f _ 1 (by omega), add_add']; exact hc _ _ q1, by rw [← f _ 2 (by omega), add_add']; exact hc _ _ q2⟩
def fewP (l : List AcT) (most : Nat) : Bool := decide (l.length ≤ most) && l.all (fun x => decide (x.key.size ≤ 100))
theorem few_any (w : World) (A : Option Addr) (c most : Nat) (l : List AcT) (hl : l.length ≤ maxLen) (hm : most ≤ 1000) (ha : Rd w w.heap.size A (atR7 l)) :
    Calls Try.prog 14 #[.slice A l.length c, .int .i64 most] w fun e w' => e = .returned (.bool (fewP l most)) ∧ w = w' := by
  unfold maxLen at hl
  have HP := hide (show fewP l most = (decide (l.length ≤ most) && l.all (fun x => decide (x.key.size ≤ 100))) from rfl)
  generalize fewP l most = R at *
  by_cases h0 : most < l.length
  · have h0' : (most : Int) < l.length := by omega
    have HR := hide (show R = false by rw [HP.out, decide_eq_false (by omega)]; rfl)
    clear HP
    go_enter Try.func14, Try.ntmps14
    go_wp2
    go_ret
    exact ⟨ret_bool (by rw [HR.out]), rfl⟩
  · have h0' : ¬ (most : Int) < l.length := by omega
    have HR := hide (show R = l.all (fun x => decide (x.key.size ≤ 100)) by rw [HP.out, decide_eq_true (by omega)]; rfl)
    clear HP
    go_enter Try.func14, Try.ntmps14
    go_wp2
    go_loopw [5] (fun i wr => ∃ k : Nat, k ≤ l.length ∧ i = .int .i64 k ∧ (∀ x ∈ l.take k, x.key.size ≤ 100) ∧ wr = w) (fun i _ => l.length - (intOf i).toNat)
    case atStart => exact ⟨0, Nat.zero_le _, rfl, by simp, rfl⟩
    case round =>
      obtain ⟨k, hk, rfl, hno, rfl⟩ := hrel
      have HN := hide hno
      clear hno
      by_cases hlt : k < l.length
      · obtain ⟨ad, rfl, hab, q0, q1, q2⟩ := ha.at7 hlt
        have HS := hide (take_snocL l k hlt)
        have HM := hide (List.getElem_mem hlt)
        generalize l[k] = x at *
        obtain ⟨x1, x2, x3⟩ := x
        simp only at q0 q1 q2
        by_cases he : 100 < x2.size
        · have he' : (100 : Int) < x2.size := by omega
          have HF := hide (show R = false by
            rw [HR.out, List.all_eq_false]
            exact ⟨_, HM.out, by simp; omega⟩)
          clear HS HM HR
          go_wp2
          go_ret
          exact ⟨ret_bool (by rw [HF.out]), rfl⟩
        · have he' : ¬ (100 : Int) < x2.size := by omega
          have HE := hide (show x2.size ≤ 100 by omega)
          go_wp2
          go_roundw
          case rel => exact ⟨k + 1, by omega, by go_num, by
            rw [HS.out]
            intro p hp
            rcases List.mem_append.1 hp with hp | hp
            · exact HN.out p hp
            · simp only [List.mem_singleton] at hp; subst hp; exact HE.out, by first | rfl | trivial⟩
          case measure => simp [intOf]; omega
      · have HF := hide (show R = true by
          rw [HR.out, List.all_eq_true]
          intro x hx
          have := HN.out x (by rw [List.take_of_length_le (by omega)]; exact hx)
          simpa using this)
        clear HR
        go_wp2
        go_ret
        exact ⟨ret_bool (by rw [HF.out]), rfl⟩
theorem fewP_iff {l : List AcT} {most : Nat} : fewP l most = true ↔ l.length ≤ most ∧ ∀ x ∈ l, x.key.size ≤ 100 := by
  unfold fewP
  rw [Bool.and_eq_true, decide_eq_true_iff, List.all_eq_true]
  simp
def donE (kk : Int) : Int := if kk = 2 ∨ kk = 4 ∨ kk = 5 then 0 else 1
set_option maxHeartbeats 8000000 in
theorem don_any (W : World) (kd : Int) (key : ByteArray) (N : Int) (hkd : 0 ≤ kd ∧ kd ≤ 255) :
    Calls Try.prog 7 #[.pointer none, acV kd key N] W fun e w' => e = .returned (.tuple #[.int .i64 0, .int .i64 (donE (kd.tmod 6))]) ∧ Below W.heap.size W w' := by
  obtain ⟨kk, hkk⟩ : ∃ kk, kd.tmod 6 = kk := ⟨_, rfl⟩
  have hk6 : 0 ≤ kk ∧ kk ≤ 5 := by rw [Int.tmod_eq_emod_of_nonneg hkd.1] at hkk; omega
  have hb0 : ∀ o, Below W.heap.size W (W.alloc o) := fun o => by (repeat (first | with_reducible exact Below.refl _ _ | with_reducible assumption | with_reducible refine Below.drew ?_ | with_reducible refine Below.drewN ?_ _ | with_reducible refine Below.alloc1 ?_ _ | with_reducible refine Below.setCell1 ?_ (by first | omega | (simp; done) | (simp; omega)) _ | with_reducible refine Below.step ?_ (by with_reducible assumption)))
  rw [hkk]
  by_cases h2 : kk = 2
  · subst h2
    go_enter Try.func7, Try.ntmps7
    go_wp2_with fail
    refine (tn_Del _ key).mono ?_
    rintro e w1 ⟨rfl, rfl⟩
    go_wp2
    go_ret2
    exact ⟨rfl, hb0 _⟩
  · by_cases h3 : kk = 3
    · subst h3
      go_enter Try.func7, Try.ntmps7
      go_wp2_with fail
      refine (tn_Add _ key N).mono ?_
      rintro e w1 ⟨rfl, rfl⟩
      go_wp2
      go_ret2
      exact ⟨rfl, hb0 _⟩
    · by_cases h4 : kk = 4
      · subst h4
        go_enter Try.func7, Try.ntmps7
        go_wp2_with fail
        refine (tn_Get _ key).mono ?_
        rintro e w1 ⟨rfl, rfl⟩
        go_wp2
        go_ret2
        exact ⟨rfl, hb0 _⟩
      · by_cases h5 : kk = 5
        · subst h5
          by_cases h7 : N = 7
          · subst h7
            go_enter Try.func7, Try.ntmps7
            go_wp2_with fail
            refine (tn_Clear _).mono ?_
            rintro e w1 ⟨⟨v, rfl⟩, rfl⟩
            go_wp2
            go_ret2
            exact ⟨rfl, hb0 _⟩
          · have hN7 : (N == 7) = false := by simpa using h7
            go_enter Try.func7, Try.ntmps7
            go_wp2
            go_ret2
            exact ⟨rfl, hb0 _⟩
        · have b2 : (kk == 2) = false := by simpa using h2
          have b3 : (kk == 3) = false := by simpa using h3
          have b4 : (kk == 4) = false := by simpa using h4
          have b5 : (kk == 5) = false := by simpa using h5
          have HE := hide (show donE kk = 1 by unfold donE; rw [if_neg (by omega)])
          go_enter Try.func7, Try.ntmps7
          go_wp2_with fail
          refine (tn_Put _ key N).mono ?_
          rintro e w1 ⟨rfl, rfl⟩
          go_wp2
          go_ret2
          exact ⟨by rw [HE.out]; rfl, hb0 _⟩
theorem slot32 (W : World) : Calls Try.prog 13 #[.int .u32 3, .int .i64 2] W fun e w' => e = .returned (.int .i64 1) ∧ W = w' := hash_Slot_any 3 2 (by omega) (by omega) (by omega) W
set_option maxHeartbeats 8000000 in
set_option maxRecDepth 100000 in
theorem TableNobody_walk (kd : Int) (key : ByteArray) (N : Int) (hkd : 0 ≤ kd ∧ kd ≤ 255) (hkey : key.size ≤ maxLen) (w : World) :
    Calls Try.prog 3 #[acV kd key N] w fun e w' => e = .returned (.bool true) ∧ Below w.heap.size w w' := by
  unfold maxLen at hkey
  by_cases h100 : 100 < key.size
  · have h100' : (100 : Int) < key.size := by omega
    go_enter Try.func3, Try.ntmps3
    go_wp2_with fail
    refine (awake_any _).mono ?_
    rintro e w' ⟨rfl, hb⟩
    go_wp2
    go_ret
    exact ⟨rfl, by (repeat (first | with_reducible exact Below.refl _ _ | with_reducible assumption | with_reducible refine Below.drew ?_ | with_reducible refine Below.drewN ?_ _ | with_reducible refine Below.alloc1 ?_ _ | with_reducible refine Below.setCell1 ?_ (by first | omega | (simp; done) | (simp; omega)) _ | with_reducible refine Below.step ?_ (by with_reducible assumption)))⟩
  · have h100' : ¬ (100 : Int) < key.size := by omega
    have hD := fun W => don_any W kd key N hkd
    obtain ⟨kk, hkk⟩ : ∃ kk, kd.tmod 6 = kk := ⟨_, rfl⟩
    have hk6 : 0 ≤ kk ∧ kk ≤ 5 := by rw [Int.tmod_eq_emod_of_nonneg hkd.1] at hkk; omega
    rw [hkk] at hD
    have hw : (donE kk = 0 ∧ (1 < kk ∧ kk ≠ 3)) ∨ (donE kk = 1 ∧ (kk ≤ 1 ∨ kk = 3)) := by
      unfold donE
      by_cases h : kk = 2 ∨ kk = 4 ∨ kk = 5
      · rw [if_pos h]; left; omega
      · rw [if_neg h]; right; omega
    generalize hee : donE kk = ee at *
    clear hee
    have hw3 : (ee = 0 ∧ 1 < kk ∧ (kk != 3) = true) ∨ (ee = 1 ∧ kk ≤ 1) ∨ (ee = 1 ∧ kk = 3) := by
      rcases hw with ⟨a, b, c⟩ | ⟨a, b | b⟩
      · exact .inl ⟨a, b, by simpa using c⟩
      · exact .inr (.inl ⟨a, b⟩)
      · exact .inr (.inr ⟨a, b⟩)
    clear hw
    rcases hw3 with ⟨rfl, g1, g2⟩ | ⟨rfl, g1⟩ | ⟨rfl, rfl⟩
    all_goals
      go_enter Try.func3, Try.ntmps3
      go_wp2_with fail
      refine (hD _).mono ?_
      rintro e w1 ⟨rfl, hb1⟩
      generalize hV : World.alloc w _ = wz at *
      have hbz : Below w.heap.size w wz := by subst hV; (repeat (first | with_reducible exact Below.refl _ _ | with_reducible assumption | with_reducible refine Below.drew ?_ | with_reducible refine Below.drewN ?_ _ | with_reducible refine Below.alloc1 ?_ _ | with_reducible refine Below.setCell1 ?_ (by first | omega | (simp; done) | (simp; omega)) _ | with_reducible refine Below.step ?_ (by with_reducible assumption)))
      have kz : Bk wz w.heap.size 23 [.int .u8 kd, .string key, .int .i64 N] := by subst hV; (repeat (first | with_reducible exact Bk.new' _ _ _ _ (by simp; done) | with_reducible assumption | with_reducible refine Bk.alloc ?_ _ | with_reducible refine Bk.drew ?_ | with_reducible refine Bk.drewN ?_ _ | with_reducible refine Bk.step ?_ (by with_reducible assumption) | with_reducible refine Bk.far ?_ (by first | omega | (simp; done) | (simp; omega)) _))
      replace kz := kz.step hb1
      replace hbz := hbz.step hb1
      clear hV hb1
      have kz_0 := kz.cell 0; have kz_f0 := kz.frozen 0; have kz_1 := kz.cell 1; have kz_f1 := kz.frozen 1; have kz_2 := kz.cell 2; have kz_f2 := kz.frozen 2; simp only [List.set_cons_zero, List.set_cons_succ, List.getElem?_cons_zero, List.getElem?_cons_succ] at kz_0 kz_1 kz_2; have lt_kz := kz.lt
      go_wp2_with fail
      refine (tn_Len _).mono ?_
      rintro e w2 ⟨rfl, rfl⟩
      go_wp2_with fail
      refine (tn_Full _).mono ?_
      rintro e w2 ⟨rfl, hb2⟩
      replace kz := kz.step hb2
      replace hbz := hbz.step hb2
      (try clear kz_0 kz_f0 kz_1 kz_f1 kz_2 kz_f2 lt_kz)
      have kz_0 := kz.cell 0; have kz_f0 := kz.frozen 0; have kz_1 := kz.cell 1; have kz_f1 := kz.frozen 1; have kz_2 := kz.cell 2; have kz_f2 := kz.frozen 2; simp only [List.set_cons_zero, List.set_cons_succ, List.getElem?_cons_zero, List.getElem?_cons_succ] at kz_0 kz_1 kz_2; have lt_kz := kz.lt
      go_wp2_with fail
      refine (tn_All _).mono ?_
      rintro e w3 ⟨rfl, rfl⟩
      go_wp2_with fail
      refine (tn_Where _ key).mono ?_
      rintro e w3 ⟨rfl, rfl⟩
      go_wp2_with fail
      refine (tn_Slots _).mono ?_
      rintro e w3 ⟨rfl, rfl⟩
      go_wp2_with fail
      refine (slot32 _).mono ?_
      rintro e w3 ⟨rfl, rfl⟩
      go_wp2_with fail
      refine (awake_any _).mono ?_
      rintro e w4 ⟨rfl, hb4⟩
      have hbe := hbz.step hb4
      go_wp2
      go_ret
      exact ⟨rfl, hbe⟩
end Go.Proofs.Ytpnhdbejkdoceaa
