/- Package config: places, fields. -/
import Derived.Test.YtfbllioegeadfaaDoorCf2
import Derived.Test.YtfbllioegeadfaaDoorApp
namespace Go.Proofs.YtfbllioegeadfaaDoor
open Go.RowKit
set_option linter.unusedSimpArgs false
set_option linter.unusedVariables false

theorem info_parts {P : Program} {e : TypeId} {z : Value} {size bytes : Nat} (h : (P.info? e).map (fun i => (i.zero, i.size, i.bytes)) = some (some z, size, bytes)) : ∃ i, P.info? e = some i ∧ i.zero = some z ∧ i.size = size ∧ i.bytes = bytes := by
  obtain ⟨i, hi, h⟩ := Option.map_eq_some_iff.1 h
  simp only [Prod.mk.injEq] at h
  exact ⟨i, hi, h.1, h.2.1, h.2.2⟩
theorem ptr_info : (Tryd.prog.info? 69).map (fun i => (i.zero, i.size, i.bytes)) = some (some (.pointer none), 1, 8) := by kernel_rfl
theorem news_atE {w : World} {cs : List Value} {e : TypeId} {b : Nat} (hb : b = w.heap.size) : ∀ j u, cs[j]? = some u → (w.alloc (.cells cs.toArray e)).cell? ((⟨b, 0, none⟩ : Addr).add j) = some u := by subst hb; exact news_at
theorem own_cap32 {w : World} {base : Nat} {e : TypeId} {size n c m : Nat} {A : Option Addr} {xs : List Value} (h : w.ownsRow base e size (.slice A n c) m xs) : m ≤ c ∧ c ≤ 9223372036854775807 := by
  rcases h.2 with ⟨h0, e⟩ | ⟨g, cap, cur, e, _, _, hc, hm, _⟩
  · injection h0 with _ _ h0; omega
  · injection e with _ _ e; subst e; exact ⟨hc, hm⟩
theorem ptrs_snoc (B off k : Nat) : ptrs B off (k + 1) = ptrs B off k ++ [.pointer (some ⟨B, off + k, none⟩)] := by
  unfold ptrs; rw [List.range_succ, List.map_append]; rfl
set_option maxRecDepth 100000 in
set_option maxHeartbeats 4000000 in
theorem config_places_any (B off n c : Nat) (hn : n ≤ 100) (hc : n ≤ c) (w : World) : Calls Tryd.prog 37 #[.slice (some ⟨B, off, none⟩) n c] w fun e w' => ∃ A d, e = .returned (.slice A n d) ∧ n ≤ d ∧ Rd w' w'.heap.size A (ptrs B off n) ∧ Fr w.heap.size A ∧ Below w.heap.size w w' := by
  obtain ⟨i0, hi0, hz0, hz1, hz2⟩ := info_parts ptr_info
  go_enter Tryd.func37, Tryd.ntmps37
  go_wp2
  go_loopw [3, 7] (fun o i wr => ∃ (k : Nat) (A : Option Addr) (d : Nat), k ≤ n ∧ i = .int .i64 k ∧ o = .slice A k d ∧ wr.ownsRow w.heap.size 69 1 (.slice A k d) k (ptrs B off k) ∧ Below w.heap.size w wr) (fun _ i _ => n - (intOf i).toNat)
  case atStart => exact ⟨0, none, 0, Nat.zero_le _, rfl, rfl, World.ownsRow_nil _ _ _ _, by (repeat (first | with_reducible exact Below.refl _ _ | with_reducible assumption | with_reducible refine Below.drew ?_ | with_reducible refine Below.drewN ?_ _ | with_reducible refine Below.alloc1 ?_ _ | with_reducible refine Below.setCell1 ?_ (by first | omega | (simp; done) | (simp; omega)) _ | with_reducible refine Below.step ?_ (by with_reducible assumption)))⟩
  case round =>
    obtain ⟨k, A, d, hk, rfl, rfl, own, hb⟩ := hrel
    have sz := hb.size
    by_cases hlt : k < n
    · have hlt' : (k : Int) < (n : Int) := by omega
      go_wp2_with (first
        | (at_builtin; refine wpList_app2 rfl (.tmp 10) (.tmp 14) 68 rfl w.heap.size 69 i0 _ 1 8 Tryd.underlying68 hi0 hz0 hz1 hz2 rfl (by omega) A k d (ptrs B off k) rfl (own.alloc _) ⟨wr.heap.size, 0, none⟩ 1 1 [.pointer (some ⟨B, off + k, none⟩)] rfl rfl (news_atE (w := wr) (cs := [.pointer (some ⟨B, off + k, none⟩)]) (e := 69) rfl) (by simp [Value.oneCell']) (by unfold maxLen; omega) (by omega) (by simp; omega) (by omega) ?_; intro g2 cap w2 own2 hb2 hgr2)
        | go_in)
      have hb3 : Below w.heap.size w w2 := (hb.alloc sz (.cells #[.pointer (some ⟨B, off + k, none⟩)] 69)).trans hb2
      go_roundw
      case rel => exact ⟨k + 1, _, cap, by omega, by go_num, rfl, by rw [ptrs_snoc]; exact own2, hb3⟩
      case measure => simp [intOf]; omega
    · obtain rfl : k = n := by omega
      have hfr := own_fr own
      have hrd := own_rd own
      go_wp2
      go_ret
      exact ⟨A, d, rfl, (own_cap32 own).1, hrd, hfr, hb⟩
set_option maxRecDepth 100000 in
theorem config_fields_any (B : Nat) (w : World) (cs : List Value) (hk : Bk w B 34 cs) : Calls Tryd.prog 21 #[.pointer (some ⟨B, 0, none⟩)] w fun e w' =>
    e = .returned (.func (.func 36) #[] #[.pointer (some ⟨w.heap.size, 0, none⟩), .pointer (some ⟨w.heap.size + 1, 0, none⟩)]) ∧
      Bk w' w.heap.size 76 [.pointer (some ⟨B, 0, none⟩)] ∧ Bk w' (w.heap.size + 1) 87 [.pointer (some ⟨B, 0, none⟩)] ∧ Below w.heap.size w w' := by
  have hlt := hk.lt
  go_enter Tryd.func21, Tryd.ntmps21
  go_wp2
  go_ret
  refine ⟨by simp, ?_, ?_, by (repeat (first | with_reducible exact Below.refl _ _ | with_reducible assumption | with_reducible refine Below.drew ?_ | with_reducible refine Below.drewN ?_ _ | with_reducible refine Below.alloc1 ?_ _ | with_reducible refine Below.setCell1 ?_ (by first | omega | (simp; done) | (simp; omega)) _ | with_reducible refine Below.step ?_ (by with_reducible assumption)))⟩
  · (repeat (first | with_reducible exact Bk.new' _ _ _ _ (by simp; done) | with_reducible assumption | with_reducible refine Bk.alloc ?_ _ | with_reducible refine Bk.drew ?_ | with_reducible refine Bk.drewN ?_ _ | with_reducible refine Bk.step ?_ (by with_reducible assumption) | with_reducible refine Bk.far ?_ (by first | omega | (simp; done) | (simp; omega)) _))
  · (repeat (first | with_reducible exact Bk.new' _ _ _ _ (by simp; done) | with_reducible assumption | with_reducible refine Bk.alloc ?_ _ | with_reducible refine Bk.drew ?_ | with_reducible refine Bk.drewN ?_ _ | with_reducible refine Bk.step ?_ (by with_reducible assumption) | with_reducible refine Bk.far ?_ (by first | omega | (simp; done) | (simp; omega)) _))
end Go.Proofs.YtfbllioegeadfaaDoor
