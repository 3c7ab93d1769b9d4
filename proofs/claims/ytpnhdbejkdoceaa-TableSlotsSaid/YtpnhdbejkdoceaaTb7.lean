/- Package table: its calls, told by what a table has. -/
import Derived.Test.YtpnhdbejkdoceaaTb6
namespace Go.Proofs.Ytpnhdbejkdoceaa
open Go.RowKit Go.Sort
open Dn (ltP)
set_option linter.unusedSimpArgs false
set_option linter.unusedVariables false

def Upd (l l' : List TS) (k : ByteArray) (v : Int) : Prop := ∀ k' u, hasE l' k' u ↔ if k' = k then u = v else hasE l k' u
theorem Upd.hasK {l l' : List TS} {k : ByteArray} {v : Int} (h : Upd l l' k v) : hasE l' k v := (h k v).2 (by simp)
theorem hasK_E {l : List TS} {k : ByteArray} (h : hasK l k) : ∃ v, hasE l k v := by
  obtain ⟨p, a, b, c⟩ := h; exact ⟨_, p, a, b, c, rfl⟩
theorem put_c {W : World} {gT gS : Nat} {l : List TS} {m : Nat} (h : Tb W gT gS l m) (tw : TW l m) (k : ByteArray) (v : Int) (hk : k.size ≤ 64) (hr : hasK l k ∨ m < l.length * 3 / 4) :
    Calls Try.prog 17 #[.pointer (some ⟨gT, 0, none⟩), .string k, .int .i64 v] W fun e w' => e = .returned (.int .i64 0) ∧ ∃ l' m', Tb w' gT gS l' m' ∧ TW l' m' ∧ l'.length = l.length ∧ Upd l l' k v ∧ (hasK l k → m' = m) ∧ (¬ hasK l k → m' = m + 1) ∧ FpW [gT, gS] W w' := by
  have hm : m ≤ 1000 := by have := tw.cap; have := h.n; omega
  obtain ⟨a, b, c⟩ := put_tw tw k v
  refine (tb_Put W gT gS l m k v (by omega) hm h).mono ?_
  rintro e w' ⟨rfl, hT, hF⟩
  rcases c with ⟨x, _⟩ | ⟨_, x, y, z⟩ | ⟨_, x, y, _⟩ | ⟨_, x, _, y, z⟩
  · omega
  · rw [y] at a hT ⊢
    exact ⟨rfl, _, _, hT, a, b, z, fun _ => rfl, fun c => absurd x c, hF⟩
  · rcases hr with hr | hr
    · exact absurd hr x
    · omega
  · rw [y] at a hT ⊢
    exact ⟨rfl, _, _, hT, a, b, z, fun c => absurd c x, fun _ => rfl, hF⟩
theorem put_f {W : World} {gT gS : Nat} {l : List TS} {m : Nat} (h : Tb W gT gS l m) (tw : TW l m) (k : ByteArray) (v : Int) (hk : k.size ≤ 64) (hno : ¬ hasK l k) (hf : l.length * 3 / 4 ≤ m) :
    Calls Try.prog 17 #[.pointer (some ⟨gT, 0, none⟩), .string k, .int .i64 v] W fun e w' => e = .returned (.int .i64 7) ∧ Tb w' gT gS l m ∧ FpW [gT, gS] W w' := by
  have hm : m ≤ 1000 := by have := tw.cap; have := h.n; omega
  obtain ⟨a, b, c⟩ := put_tw tw k v
  refine (tb_Put W gT gS l m k v (by omega) hm h).mono ?_
  rintro e w' ⟨rfl, hT, hF⟩
  rcases c with ⟨x, _⟩ | ⟨_, x, y, z⟩ | ⟨_, x, _, y⟩ | ⟨_, x, z, y, _⟩
  · omega
  · exact absurd x hno
  · rw [y] at hT ⊢
    exact ⟨rfl, hT, hF⟩
  · omega
theorem add_c {W : World} {gT gS : Nat} {l : List TS} {m : Nat} (h : Tb W gT gS l m) (tw : TW l m) (k : ByteArray) (n v0 s : Int) (hk : k.size ≤ 64) (he : hasE l k v0) (hs : hdT (hdT v0 + hdT n) = s) :
    Calls Try.prog 20 #[.pointer (some ⟨gT, 0, none⟩), .string k, .int .i64 n] W fun e w' => e = .returned (.tuple #[.int .i64 s, .int .i64 0]) ∧ ∃ l', Tb w' gT gS l' m ∧ TW l' m ∧ l'.length = l.length ∧ Upd l l' k s ∧ FpW [gT, gS] W w' := by
  have hm : m ≤ 1000 := by have := tw.cap; have := h.n; omega
  have hS : pSum l k n = s := by
    obtain ⟨a, b⟩ := get_of tw.ti he
    unfold pSum
    rw [if_pos a, b, hs]
  obtain ⟨a, b, c⟩ := put_tw tw k s
  refine (tb_Add W gT gS l m k n (by omega) hm h).mono ?_
  rw [hS]
  rintro e w' ⟨rfl, hT, hF⟩
  rcases c with ⟨x, _⟩ | ⟨_, x, y, z⟩ | ⟨_, x, _, y⟩ | ⟨_, x, _, y, z⟩
  · omega
  · rw [y] at a hT ⊢
    exact ⟨rfl, _, hT, a, b, z, hF⟩
  · exact absurd (hasE_K he) x
  · exact absurd (hasE_K he) x
theorem get_c {W : World} {gT gS : Nat} {l : List TS} {m : Nat} (h : Tb W gT gS l m) (tw : TW l m) (k : ByteArray) (v : Int) (hk : k.size ≤ 1000) (he : hasE l k v) :
    Calls Try.prog 18 #[.pointer (some ⟨gT, 0, none⟩), .string k] W fun e w' => e = .returned (.tuple #[.int .i64 v, .bool true]) ∧ Below W.heap.size W w' := by
  obtain ⟨a, b⟩ := get_of tw.ti he
  have := tb_Get W gT gS l m k hk h
  rwa [a, if_pos rfl, b] at this
theorem get_n {W : World} {gT gS : Nat} {l : List TS} {m : Nat} (h : Tb W gT gS l m) (tw : TW l m) (k : ByteArray) (hk : k.size ≤ 1000) (he : ¬ hasK l k) :
    Calls Try.prog 18 #[.pointer (some ⟨gT, 0, none⟩), .string k] W fun e w' => e = .returned (.tuple #[.int .i64 0, .bool false]) ∧ Below W.heap.size W w' := by
  have a := get_no tw.ti he
  have := tb_Get W gT gS l m k hk h
  rwa [a, if_neg (by simp)] at this
theorem del_c {W : World} {gT gS : Nat} {l : List TS} {m : Nat} (h : Tb W gT gS l m) (tw : TW l m) (k : ByteArray) (hk : k.size ≤ 1000) (he : hasK l k) :
    Calls Try.prog 19 #[.pointer (some ⟨gT, 0, none⟩), .string k] W fun e w' => e = .returned (.bool true) ∧ ∃ l' m', Tb w' gT gS l' m' ∧ TW l' m' ∧ l'.length = l.length ∧ m' + 1 = m ∧ (∀ k' v, hasE l' k' v ↔ k' ≠ k ∧ hasE l k' v) ∧ FpW [gT, gS] W w' := by
  have a := (hasK_iff tw.ti k).2 he
  refine (tb_Del W gT gS l m k hk tw.ti tw.cnt h).mono ?_
  rintro e w' ⟨rfl, l', m', hT, hF, hw⟩
  rcases hw with ⟨b, _⟩ | ⟨_, e1, e2, e3, e4, e5⟩
  · rw [a] at b; cases b
  · exact ⟨by rw [a], l', m', hT, ⟨e2, by omega, by have := tw.cap; rw [e1]; omega⟩, e1, e4, e5, hF⟩
theorem del_n {W : World} {gT gS : Nat} {l : List TS} {m : Nat} (h : Tb W gT gS l m) (tw : TW l m) (k : ByteArray) (hk : k.size ≤ 1000) (he : ¬ hasK l k) :
    Calls Try.prog 19 #[.pointer (some ⟨gT, 0, none⟩), .string k] W fun e w' => e = .returned (.bool false) ∧ Tb w' gT gS l m ∧ FpW [gT, gS] W w' := by
  have a := get_no tw.ti he
  refine (tb_Del W gT gS l m k hk tw.ti tw.cnt h).mono ?_
  rintro e w' ⟨rfl, l', m', hT, hF, hw⟩
  rcases hw with ⟨_, rfl, rfl⟩ | ⟨b, _⟩
  · exact ⟨by rw [a], hT, hF⟩
  · rw [a] at b; cases b
theorem where_c {W : World} {gT gS : Nat} {l : List TS} {m : Nat} (h : Tb W gT gS l m) (tw : TW l m) (k : ByteArray) (hk : k.size ≤ 1000) (he : hasK l k) :
    Calls Try.prog 11 #[.pointer (some ⟨gT, 0, none⟩), .string k] W fun e w' => (∃ p : Nat, e = .returned (.int .i64 p) ∧ p < l.length ∧ (gt l p).live = true ∧ (gt l p).k = k) ∧ Below W.heap.size W w' := by
  obtain ⟨p, h1, h2, h3⟩ := he
  have hf := find_at tw.ti h1 h2
  rw [h3] at hf
  refine (tb_Where W gT gS l m k hk h).mono ?_
  rintro e w' ⟨rfl, hb⟩
  rw [hf, if_pos rfl]
  exact ⟨⟨p, rfl, h1, h2, h3⟩, hb⟩
theorem where_at {W : World} {gT gS : Nat} {l : List TS} {m : Nat} (h : Tb W gT gS l m) (tw : TW l m) (p : Nat) (h1 : p < l.length) (h2 : (gt l p).live = true) :
    Calls Try.prog 11 #[.pointer (some ⟨gT, 0, none⟩), .string (gt l p).k] W fun e w' => e = .returned (.int .i64 p) ∧ Below W.heap.size W w' := by
  have hf := find_at tw.ti h1 h2
  refine (tb_Where W gT gS l m _ (by have := h.ks p; omega) h).mono ?_
  rintro e w' ⟨rfl, hb⟩
  rw [hf, if_pos rfl]
  exact ⟨rfl, hb⟩
theorem where_n {W : World} {gT gS : Nat} {l : List TS} {m : Nat} (h : Tb W gT gS l m) (tw : TW l m) (k : ByteArray) (hk : k.size ≤ 1000) (he : ¬ hasK l k) :
    Calls Try.prog 11 #[.pointer (some ⟨gT, 0, none⟩), .string k] W fun e w' => e = .returned (.int .i64 (-1)) ∧ Below W.heap.size W w' := by
  have a := get_no tw.ti he
  have := tb_Where W gT gS l m k hk h
  rwa [a, if_neg (by simp)] at this
theorem all_c {W : World} {gT gS : Nat} {l : List TS} {m : Nat} (h : Tb W gT gS l m) (tw : TW l m) (M : EL) (hs : M.Pairwise (fun p q => ltP p q)) (hM : ∀ p, p ∈ M ↔ hasE l p.1 p.2) :
    Calls Try.prog 10 #[.pointer (some ⟨gT, 0, none⟩)] W fun e w' => ∃ A c, e = .returned (.slice A M.length c) ∧ Rd w' w'.heap.size A (enR7 M) ∧ Below W.heap.size W w' := by
  refine (tb_All W gT gS l m h).mono ?_
  rintro e w' ⟨A, c, L, rfl, hp, ho, hr, hb⟩
  have hnd : M.Nodup := hs.imp fun {a b} hab e => by subst e; exact lex_irr _ hab
  have hp2 : L.Perm M := hp.trans ((List.perm_ext_iff_of_nodup (entE_nodup tw.ti) hnd).2 fun p => by rw [hM]; exact entE_mem p.1 p.2)
  have heq : ∀ {L M : EL}, L.Perm M → L.Pairwise (fun p q => ¬ ltP q p) → M.Pairwise (fun p q => ltP p q) → L = M := by
    intro L
    induction L with
    | nil => intro M hp _ _; exact (List.nil_perm.1 hp).symm
    | cons a L ih =>
      intro M hp hl hm
      cases M with
      | nil => exact absurd hp.length_eq (by simp)
      | cons b M =>
        have h1 := List.pairwise_cons.1 hl
        have h2 := List.pairwise_cons.1 hm
        have e : a = b := by
          rcases List.mem_cons.1 (hp.mem_iff.1 (List.mem_cons_self ..)) with e | ha
          · exact e
          · rcases List.mem_cons.1 (hp.mem_iff.2 (List.mem_cons_self ..)) with e | hb
            · exact e.symm
            · exact absurd (h2.1 a ha) (h1.1 b hb)
        subst e
        rw [ih ((List.perm_cons a).1 hp) h1.2 h2.2]
  have := heq hp2 ho hs
  subst this
  exact ⟨A, c, rfl, hr, hb⟩
end Go.Proofs.Ytpnhdbejkdoceaa
