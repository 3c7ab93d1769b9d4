/- Package table: All; the law's entries, the reference's SameEntries. -/
import Derived.Test.YtpnhdbejkdoceaaSr7
namespace Go.Proofs.Ytpnhdbejkdoceaa
open Go.RowKit Go.Sort
open Dn (ltP)
set_option linter.unusedSimpArgs false
set_option linter.unusedVariables false

def entE (l : List TS) : EL := (l.filter (·.live)).map fun x => (x.k, x.v)
theorem entE_mem {l : List TS} (k : ByteArray) (v : Int) : (k, v) ∈ entE l ↔ hasE l k v := by
  unfold entE hasE
  rw [List.mem_map]
  constructor
  · rintro ⟨x, hx, e⟩
    obtain ⟨hx, hl⟩ := List.mem_filter.1 hx
    obtain ⟨p, hp, rfl⟩ := List.getElem_of_mem hx
    injection e with e1 e2
    exact ⟨p, hp, by rw [gt_get hp]; exact hl, by rw [gt_get hp]; exact e1, by rw [gt_get hp]; exact e2⟩
  · rintro ⟨p, hp, h1, h2, h3⟩
    rw [gt_get hp] at h1 h2 h3
    exact ⟨l[p], List.mem_filter.2 ⟨List.getElem_mem hp, h1⟩, by rw [h2, h3]⟩
theorem entE_nodup {l : List TS} (h : TI l) : (entE l).Nodup := by
  unfold entE
  have hp : l.Pairwise (fun x y => x.live = true → y.live = true → x.k ≠ y.k) := by
    rw [List.pairwise_iff_getElem]
    intro i j hi hj hij h1 h2 h3
    rw [← gt_get hi] at h1 h3
    rw [← gt_get hj] at h2 h3
    have := h.one i j hi hj h1 h2 h3
    omega
  have hq := List.Pairwise.filter (fun x : TS => x.live) hp
  refine List.pairwise_map.2 (List.Pairwise.imp_of_mem ?_ hq)
  intro a b ha hb hab e
  injection e with e1 _
  exact hab (List.mem_filter.1 ha).2 (List.mem_filter.1 hb).2 e1
theorem entE_few (l : List TS) : (entE l).length ≤ l.length := by unfold entE; rw [List.length_map]; exact List.length_filter_le _ _
theorem ent_info : (Try.prog.info? 60).map (fun i => (i.zero, i.size, i.bytes)) = some (some (.agg #[.string ByteArray.empty, .int .i64 0]), 2, 24) := by kernel_rfl
theorem rent_info : (Try.prog.info? 56).map (fun i => (i.zero, i.size, i.bytes)) = some (some (.agg #[.string ByteArray.empty, .int .i64 0]), 2, 24) := by kernel_rfl
theorem news_at7 {w : World} {cs : List Value} {e : TypeId} {b : Nat} (hb : b = w.heap.size) : ∀ j u, cs[j]? = some u → (w.alloc (.cells cs.toArray e)).cell? ((⟨b, 0, none⟩ : Addr).add j) = some u := by subst hb; exact news_at
set_option maxHeartbeats 4000000 in
theorem tb_All (W : World) (gT gS : Nat) (l : List TS) (m : Nat) (h : Tb W gT gS l m) :
    Calls Try.prog 10 #[.pointer (some ⟨gT, 0, none⟩)] W fun e w' => ∃ A c L, e = .returned (.slice A (L : EL).length c) ∧ L.Perm (entE l) ∧ L.Pairwise (fun p q => ¬ ltP q p) ∧ Rd w' w'.heap.size A (enR7 L) ∧ Below W.heap.size W w' := by
  obtain ⟨i0, hi0, hz0, hz1, hz2⟩ := info_parts ent_info
  have hn := h.n
  have c0 := h.tab.cell 0
  simp at c0
  go_enter Try.func10, Try.ntmps10
  go_wp2_with fail
  go_loopw [3, 13] (fun o i wr => ∃ (k : Nat) (M : EL) (A : Option Addr) (c : Nat), k ≤ l.length ∧ i = .int .i64 k ∧ o = .slice A M.length c ∧ Hid (M = entE (l.take k)) ∧ M.length ≤ k ∧ wr.ownsRow W.heap.size 60 2 (.slice A M.length c) M.length (enR7 M) ∧ Below W.heap.size W wr) (fun _ i _ => l.length - (intOf i).toNat)
  case atStart => exact ⟨0, [], none, 0, Nat.zero_le _, rfl, rfl, rfl, Nat.le_refl _, World.ownsRow_nil _ _ _ _, Below.refl _ _⟩
  case round =>
    obtain ⟨k, M, A, c, hk, rfl, rfl, HM, hMk, own, hb⟩ := hrel
    have hT := h.step hb
    by_cases hlt : k < l.length
    · have hlt' : (k : Int) < l.length := by omega
      obtain ⟨e0, e1, e2⟩ := hT.at_ hlt
      have HS := hide (show entE (l.take (k + 1)) = entE (l.take k) ++ (if (gt l k).live = true then [((gt l k).k, (gt l k).v)] else []) by
        rw [take_snocL l k hlt, gt_get hlt]
        unfold entE
        rw [List.filter_append, List.map_append]
        cases hll : l[k].live <;> simp [hll])
      have sz := hb.size
      have hlts := hT.row.lt
      generalize gt l k = x at *
      obtain ⟨xk, xv, xl⟩ := x
      simp only at e0 e1 e2 HS
      clear hT
      cases xl with
      | false =>
        have HE := hide (show M = entE (l.take (k + 1)) by rw [HS.out, if_neg (by simp), List.append_nil]; exact HM.out)
        clear HS HM
        have own2 := own.alloc (.cells #[.string xk, .int .i64 xv, .bool false] 62)
        go_wp2
        go_roundw
        case rel => exact ⟨k + 1, M, A, c, by omega, by go_num, rfl, HE, by omega, own2, by (repeat (first | with_reducible exact Below.refl _ _ | with_reducible assumption | with_reducible refine Below.drew ?_ | with_reducible refine Below.drewN ?_ _ | with_reducible refine Below.alloc1 ?_ _ | with_reducible refine Below.setCell1 ?_ (by first | omega | (simp; done) | (simp; omega)) _ | with_reducible refine Below.step ?_ (by with_reducible assumption)))⟩
        case measure => simp [intOf]; omega
      | true =>
        have HE := hide (show M ++ [(xk, xv)] = entE (l.take (k + 1)) by rw [HS.out, if_pos rfl, ← HM.out])
        clear HS HM
        go_wp2_with (at_builtin; refine wpList_app2 rfl (.tmp 19) (.tmp 22) 29 rfl W.heap.size 60 i0 _ 2 24 Try.underlying29 hi0 hz0 hz1 hz2 rfl (by omega) A M.length c (enR7 M) rfl ((own.alloc _).alloc _) ⟨wr.heap.size + 1, 0, none⟩ 1 1 [.string xk, .int .i64 xv] rfl rfl (news_at7 (cs := [.string xk, .int .i64 xv]) (by simp)) (by simp [Value.oneCell']) (by unfold maxLen; omega) (by omega) (by simp; omega) (by omega) ?_; intro g2 cap w2 own2 hb2 hgr2)
        have hb3 : Below W.heap.size W w2 := ((hb.alloc sz (.cells #[.string xk, .int .i64 xv, .bool true] 62)).alloc (by simp; omega) (.cells #[.string xk, .int .i64 xv] 60)).trans hb2
        go_roundw
        case rel => exact ⟨k + 1, M ++ [(xk, xv)], _, cap, by omega, by go_num, by rw [List.length_append]; rfl, HE, by rw [List.length_append]; simp; omega, by rw [List.length_append]; simpa [enR7] using own2, hb3⟩
        case measure => simp [intOf]; omega
    · have hkn : k = l.length := by omega
      have hlt' : ¬ (k : Int) < l.length := by omega
      have HE := hide (show M = entE l by rw [HM.out, hkn, List.take_length])
      have hst := Dn.sort_any wr W.heap.size A c M (by omega) hb.size own
      clear hT HM hkn own
      go_wp2_with fail
      refine hst.mono ?_
      rintro e w2 ⟨L, rfl, p1, p2, p3, p4⟩
      have hbe := hb.trans p4
      go_wp2
      go_ret
      exact ⟨A, c, L, by rw [p1.length_eq]; rfl, by rw [← HE.out]; exact p1, p2, p3, hbe⟩
theorem ent_any (w : World) (A : Option Addr) (c : Nat) (l : EL) (hl : l.length ≤ 1000) (ha : Rd w w.heap.size A (enR7 l)) :
    Calls Try.prog 21 #[.slice A l.length c] w fun e w' => ∃ B d, e = .returned (.slice B l.length d) ∧ Rd w' w'.heap.size B (enR7 l) ∧ Fr w.heap.size B ∧ Below w.heap.size w w' := by
  obtain ⟨i0, hi0, hz0, hz1, hz2⟩ := info_parts rent_info
  go_enter Try.func21, Try.ntmps21
  go_wp2
  go_loopw [3, 4] (fun o i wr => ∃ (k : Nat) (B : Option Addr) (d : Nat), k ≤ l.length ∧ i = .int .i64 k ∧ o = .slice B k d ∧ wr.ownsRow w.heap.size 56 2 (.slice B k d) k (enR7 (l.take k)) ∧ Below w.heap.size w wr) (fun _ i _ => l.length - (intOf i).toNat)
  case atStart => exact ⟨0, none, 0, Nat.zero_le _, rfl, rfl, World.ownsRow_nil _ _ _ _, by (repeat (first | with_reducible exact Below.refl _ _ | with_reducible assumption | with_reducible refine Below.drew ?_ | with_reducible refine Below.drewN ?_ _ | with_reducible refine Below.alloc1 ?_ _ | with_reducible refine Below.setCell1 ?_ (by first | omega | (simp; done) | (simp; omega)) _ | with_reducible refine Below.step ?_ (by with_reducible assumption)))⟩
  case round =>
    obtain ⟨k, B, d, hk, rfl, rfl, own, hb⟩ := hrel
    by_cases hlt : k < l.length
    · obtain ⟨ad, rfl, hadb, q0, q1⟩ := (ha.below hb).en7 hlt
      have hD := take_snocL l k hlt
      have HD := hide hD
      have sz := hb.size
      clear hD
      generalize l[k] = x at *
      obtain ⟨x1, x2⟩ := x
      simp only at q0 q1
      generalize hd : l.take k = D at *
      have HL := hide hd
      clear hd
      go_wp2_with (at_builtin; refine wpList_app2 rfl (.tmp 11) (.tmp 16) 52 rfl w.heap.size 56 i0 _ 2 24 Try.underlying52 hi0 hz0 hz1 hz2 rfl (by omega) B k d (enR7 D) rfl (own.alloc _) ⟨wr.heap.size, 0, none⟩ 1 1 [.string x1, .int .i64 x2] rfl rfl (news_at7 (cs := [.string x1, .int .i64 x2]) rfl) (by simp [Value.oneCell']) (by unfold maxLen; omega) (by omega) (by simp; omega) (by omega) ?_; intro g2 cap w2 own2 hb2 hgr2)
      have hb3 : Below w.heap.size w w2 := (hb.alloc sz (.cells #[.string x1, .int .i64 x2] 56)).trans hb2
      go_roundw
      case rel => exact ⟨k + 1, _, cap, by omega, by go_num, rfl, by rw [HD.out]; simpa [enR7] using own2, hb3⟩
      case measure => simp [intOf]; omega
    · have hkn : k = l.length := by omega
      subst hkn
      go_wp2
      go_ret
      rw [List.take_length] at own
      exact ⟨B, d, rfl, own_rd own, own_fr own, hb⟩
theorem SE_self (A B : Option Addr) (c d : Nat) (l : EL) (w : World) (hl : l.length ≤ 1000) (ha : Rd w w.heap.size A (enR7 l)) (hb : Rd w w.heap.size B (enR7 l)) :
    Calls Try.prog 22 #[.slice A l.length c, .slice B l.length d] w fun e w' => e = .returned (.bool true) ∧ ∃ n, w.drewN n = w' := by
  have hne : ((l.length : Int) != (l.length : Int)) = false := by simp
  go_enter Try.func22, Try.ntmps22
  go_wp2
  go_loopw [5] (fun i wr => ∃ k : Nat, k ≤ l.length ∧ i = .int .i64 k ∧ ∃ n, w.drewN n = wr) (fun i _ => l.length - (intOf i).toNat)
  case atStart => exact ⟨0, Nat.zero_le _, rfl, 0, rfl⟩
  case round =>
    obtain ⟨k, hk, rfl, n, rfl⟩ := hrel
    by_cases hlt : k < l.length
    · obtain ⟨ad, rfl, _, a0, a1⟩ := ha.en7 hlt
      obtain ⟨bd, rfl, _, b0, b1⟩ := hb.en7 hlt
      generalize l[k] = x at *
      obtain ⟨xk, xv⟩ := x
      simp only at a0 a1 b0 b1
      go_wp2
      go_quiet (fail)
      go_wp2
      go_roundw
      case rel => exact ⟨k + 1, by omega, by go_num, _, rfl⟩
      case measure => simp [intOf]; omega
    · go_wp2
      go_ret
      exact ⟨rfl, _, rfl⟩
end Go.Proofs.Ytpnhdbejkdoceaa
