/- UtfBack, UtfCuts: the walks. -/
import Derived.Test.YtonokkcnbbljoaaLaw02a
namespace Go.Proofs.Ytonokkcnbbljoaa
open Go.RowKit Go.Shelf
set_option linter.unusedSimpArgs false
set_option linter.unusedVariables false

/-- the characters among numbers, each below the greatest one -/
def uPick (l : List Int) : List Int := (l.map (· % 1114112)).filter fun n => decide (n < 55296) || decide (57343 < n)
theorem uPick_snoc (l : List Int) (k : Nat) (x : Int) (h : l[k]? = some x) : uPick (l.take (k + 1)) = uPick (l.take k) ++ (if x % 1114112 < 55296 ∨ 57343 < x % 1114112 then [x % 1114112] else []) := by
  unfold uPick
  rw [List.take_add_one, h, List.map_append, List.filter_append]
  congr 1
  simp only [Option.toList_some, List.map_cons, List.map_nil, List.filter_cons, List.filter_nil]
  by_cases h1 : x % 1114112 < 55296
  · simp [h1]
  · by_cases h2 : 57343 < x % 1114112
    · simp [h1, h2]
    · simp [h1, h2]
theorem uPick_char (l : List Int) : ∀ c ∈ uPick l, uChar c = true := by
  intro c hc
  unfold uPick at hc
  rw [List.mem_filter, List.mem_map] at hc
  obtain ⟨⟨x, _, rfl⟩, h2⟩ := hc
  rw [uChar_iff]
  simp at h2
  omega
theorem uPick_len (l : List Int) : (uPick l).length ≤ l.length := by
  unfold uPick
  have := List.length_filter_le (fun n => decide (n < 55296) || decide (57343 < n)) (l.map (· % 1114112))
  rw [List.length_map] at this
  exact this
theorem uOf_chars (l : List Int) (h : ∀ c ∈ l, uChar c = true) : uOf l = (l.flatMap uPut, 0) := by
  unfold uOf
  rw [if_pos (List.all_eq_true.2 h)]
theorem lay_bad (l : List Int) (h : ∀ c ∈ l, uChar c = true) : uBad (l.flatMap uPut) = false := by
  unfold uBad
  rw [uScan_lay l h, List.any_map, List.any_eq_false]
  intro c hc
  have := (uChar_iff c).1 (h c hc)
  simp
  omega
theorem lay_all (l : List Int) (h : ∀ c ∈ l, uChar c = true) : uAll (l.flatMap uPut) = l := by
  unfold uAll
  rw [lay_bad l h, if_neg (by simp), uScan_lay l h, List.map_map]
  conv => rhs; rw [← List.map_id l]
  rfl
theorem lay_count (l : List Int) (h : ∀ c ∈ l, uChar c = true) : (uScan (l.flatMap uPut)).length = l.length := by
  rw [uScan_lay l h, List.length_map]
theorem back_of (s : List UInt8) (h : uBad s = false) : uOf (uAll s) = (s, 0) ∧ (uScan s).length = (uAll s).length := by
  have hb := uBack s h
  have e : uAll s = (uScan s).map Prod.fst := by unfold uAll; rw [h, if_neg (by simp)]
  rw [e]
  exact ⟨by rw [uOf_chars _ hb.2, hb.1], by rw [List.length_map]⟩
set_option maxRecDepth 1000000 in
set_option maxHeartbeats 8000000 in
theorem UtfBack_walk (A : Option Addr) (cap : Nat) (l : List Int) (s : ByteArray) (w : World) (hr : Rd w w.heap.size A (l.map (Value.int .u32))) (hl : l.length ≤ maxLen) (hwf : ∀ n ∈ l, 0 ≤ n ∧ n ≤ 4294967295) (hs : s.size ≤ maxLen) :
    Calls Try.prog 5 #[.slice A l.length cap, .string s] w fun e w' => e = .returned (.bool true) ∧ Below w.heap.size w w' := by
  have hs' := hs
  unfold maxLen at hl hs
  by_cases hbig : 60 < l.length ∨ 200 < s.size
  · by_cases h60 : 60 < l.length
    · have hI : (60 : Int) < (l.length : Int) := by omega
      go_enter Try.func5, Try.ntmps5
      go_wp2_with fail
      refine (awake02 _).mono ?_; rintro e w1 ⟨rfl, hb⟩
      go_wp2_with fail
      go_ret
      exact ⟨rfl, hb⟩
    · have hI : (l.length : Int) ≤ 60 := by omega
      have hI2 : (200 : Int) < (s.size : Int) := by omega
      go_enter Try.func5, Try.ntmps5
      go_wp2_with fail
      refine (awake02 _).mono ?_; rintro e w1 ⟨rfl, hb⟩
      go_wp2_with fail
      go_ret
      exact ⟨rfl, hb⟩
  have hI : (l.length : Int) ≤ 60 := by omega
  have hI2 : (s.size : Int) ≤ 200 := by omega
  obtain ⟨i0, hi, hz0, hz1, hz2⟩ := info_parts info_int
  replace hbig := hide hbig
  go_enter Try.func5, Try.ntmps5
  go_wp2_with fail
  go_loopw [5, 6] (fun o i wr => ∃ k : Nat, k ≤ l.length ∧ i = .int .i64 k ∧ wr.ownsRow w.heap.size 3 1 o (uPick (l.take k)).length (iCells (uPick (l.take k))) ∧ Below w.heap.size w wr) (fun _ i _ => l.length - (intOf i).toNat)
  case atStart => exact ⟨0, by omega, rfl, World.ownsRow_nil .., Below.refl _ _⟩
  case round =>
    obtain ⟨k, hk, rfl, hown, hb⟩ := hrel
    by_cases hlt : k < l.length
    · have hltI : (k : Int) < (l.length : Int) := by omega
      obtain ⟨x, hx⟩ : ∃ x, l[k]? = some x := ⟨_, List.getElem?_eq_getElem hlt⟩
      obtain ⟨ad, rfl, had, hcc⟩ := hr.at_ (k := k) (by rw [List.length_map]; exact hlt)
      have hcw : wr.cell? (ad.add k) = some (.int .u32 x) := by
        rw [hb.cell (by rw [add_block]; exact had), hcc]
        obtain ⟨h1, rfl⟩ := List.getElem?_eq_some_iff.1 hx
        simp
      have hxw := hwf x (List.mem_of_getElem? hx)
      have hps := hide (uPick_snoc l k x hx)
      have hpl := uPick_len (l.take k)
      rw [List.length_take] at hpl
      have hpl2 : (uPick (l.take k)).length ≤ 60 := by omega
      replace hpl2 := hide hpl2
      clear hx hcc hpl
      obtain ⟨A', c', rfl⟩ := own_form hown
      have hm1 : x.tmod 1114112 = x % 1114112 := Int.tmod_eq_emod_of_nonneg hxw.1
      have hm2 : 0 ≤ x % 1114112 ∧ x % 1114112 < 1114112 := by omega
      by_cases h1 : x % 1114112 < 55296
      · have hp2 := hide (hps.out.trans (by rw [if_pos (.inl h1)]))
        go_wp2_with (at_builtin; refine wpList_app rfl (.tmp 43) (.tmp 45) 25 rfl w.heap.size 3 i0 _ 1 8 Try.underlying25 hi hz0 hz1 hz2 rfl (by omega) A' _ c' (iCells (uPick (l.take k))) rfl (hown.alloc _) ⟨wr.heap.size, 0, none⟩ 1 1 [.int .i64 (x % 1114112)] rfl rfl (news_at (cs := [_])) (by simp [Value.oneCell']) (by have := hpl2.out; unfold maxLen; omega) (by have := hpl2.out; omega) (by have := hb.size; simp; omega) (by omega) ?_; intro g cap3 w3 hown3 hb3)
        go_roundw
        case rel =>
          refine ⟨k + 1, by omega, by simp, ?_, hb.trans (((Below.refl w.heap.size wr).alloc hb.size _).trans hb3)⟩
          rw [hp2.out, List.length_append]; unfold iCells; rw [List.map_append]; exact hown3
        case measure => simp [intOf]; omega
      · have h1' : 55296 ≤ x % 1114112 := by omega
        by_cases h2 : 57343 < x % 1114112
        · have hp2 := hide (hps.out.trans (by rw [if_pos (.inr h2)]))
          go_wp2_with (at_builtin; refine wpList_app rfl (.tmp 43) (.tmp 45) 25 rfl w.heap.size 3 i0 _ 1 8 Try.underlying25 hi hz0 hz1 hz2 rfl (by omega) A' _ c' (iCells (uPick (l.take k))) rfl (hown.alloc _) ⟨wr.heap.size, 0, none⟩ 1 1 [.int .i64 (x % 1114112)] rfl rfl (news_at (cs := [_])) (by simp [Value.oneCell']) (by have := hpl2.out; unfold maxLen; omega) (by have := hpl2.out; omega) (by have := hb.size; simp; omega) (by omega) ?_; intro g cap3 w3 hown3 hb3)
          go_roundw
          case rel =>
            refine ⟨k + 1, by omega, by simp, ?_, hb.trans (((Below.refl w.heap.size wr).alloc hb.size _).trans hb3)⟩
            rw [hp2.out, List.length_append]; unfold iCells; rw [List.map_append]; exact hown3
          case measure => simp [intOf]; omega
        · have h2' : x % 1114112 ≤ 57343 := by omega
          have hp2 := hide (hps.out.trans (by rw [if_neg (by omega), List.append_nil]))
          go_wp2_with fail
          go_roundw
          case rel =>
            refine ⟨k + 1, by omega, by simp, ?_, hb⟩
            rw [hp2.out]; exact hown
          case measure => simp [intOf]; omega
    · obtain rfl : k = l.length := by omega
      rw [List.take_length] at hown
      have hch := uPick_char l
      have hpl := uPick_len l
      clear hr hwf
      generalize uPick l = c at *
      have hof := uOf_chars c hch
      have hbd := lay_bad c hch
      have hal := lay_all c hch
      have hct := lay_count c hch
      have hfl := flat_le c c.length
      rw [List.take_length] at hfl
      have hsz : (strOf (c.flatMap uPut)).size ≤ 240 := by rw [strOf_size]; omega
      have m1 := fun A cap W h => utf_Of_any A c cap (by omega) W h
      have m2 := fun W => utf_All_any (strOf (c.flatMap uPut)) (by omega) W
      have m3 := fun W => utf_All_any s (by omega) W
      have m4 := fun W => utf_Count_any (strOf (c.flatMap uPut)) (by unfold maxLen; omega) W
      have m5 := fun W => utf_Check_any s hs' W
      have m6 := fun W => utf_Count_any s hs' W
      rw [hof] at m1
      rw [strOf_list, hbd, hal] at m2
      rw [strOf_list, hct] at m4
      simp only [Bool.false_eq_true, if_false] at m2
      have hcl : c.length ≤ 60 := by omega
      have hol : (uAll s.data.toList).length ≤ 200 := by
        unfold uAll
        split
        · simp
        · rw [List.length_map]; have := uScan_len s.data.toList; rw [list_size] at this; omega
      have m7 := fun A cap W h => utf_Of_any A (uAll s.data.toList) cap (by omega) W h
      have hback := fun h => back_of s.data.toList h
      replace hback := hide hback
      clear hch hof hbd hal hct hfl hsz hpl
      generalize strOf (c.flatMap uPut) = t at *
      obtain ⟨A', c', rfl⟩ := own_form hown
      cases hbad : uBad s.data.toList with
      | true =>
        rw [hbad] at m3 m5
        simp only [if_true] at m3 m5
        clear hback hbad
        generalize uAll s.data.toList = O at *
        generalize uOf O = O2 at *
        go_wp2_with fail
        refine (m1 _ _ _ (own_rd hown)).mono ?_; rintro e w2 ⟨rfl, hb2⟩
        replace hown := own_below hown hb2 (Nat.le_refl _); replace hb := hb.step hb2; clear hb2
        go_wp2_with fail
        refine (m2 _).mono ?_; rintro e w3 ⟨v3, rfl, ho3, hb2⟩
        replace hown := own_below hown hb2 (Nat.le_refl _); replace hb := hb.step hb2; clear hb2
        go_wp2_with fail
        refine (m3 _).mono ?_; rintro e w4 ⟨v4, rfl, ho4, hb2⟩
        replace hown := own_below hown hb2 (Nat.le_refl _); replace ho3 := own_below ho3 hb2 (Nat.le_refl _); replace hb := hb.step hb2; clear hb2
        obtain ⟨A3, c3, rfl⟩ := own_form ho3
        obtain ⟨A4, c4, rfl⟩ := own_form ho4
        go_wp2_with fail
        refine (m7 _ _ _ (own_rd ho4)).mono ?_; rintro e w5 ⟨rfl, hb2⟩
        replace hown := own_below hown hb2 (Nat.le_refl _); replace ho3 := own_below ho3 hb2 (Nat.le_refl _); replace hb := hb.step hb2; clear hb2
        go_wp2_with fail
        refine (SameInts_any _ _ c3 c' c c _ (by unfold maxLen; omega) (own_rd ho3) (own_rd hown)).mono ?_; rintro e w6 ⟨rfl, n6, rfl⟩
        replace hb := hb.drewN n6
        clear ho3 ho4 hown
        generalize World.drewN _ n6 = w6 at *
        go_wp2_with fail
        refine (m4 _).mono ?_; rintro e w7 ⟨rfl, hb2⟩; replace hb := hb.step hb2; clear hb2
        go_wp2_with fail
        refine (m5 _).mono ?_; rintro e w8 ⟨rfl, hb2⟩; replace hb := hb.step hb2; clear hb2
        go_wp2_with fail
        refine (awake02 _).mono ?_; rintro e w16 ⟨rfl, hb2⟩; replace hb := hb.step hb2; clear hb2
        go_wp2_with fail
        go_ret
        exact ⟨rfl, hb⟩
      | false =>
        have hbk := hback.out hbad
        rw [hbad] at m3 m5
        simp only [Bool.false_eq_true, if_false] at m3 m5
        rw [hbk.1] at m7
        rw [hbk.2] at m6
        dsimp only at m7
        rw [strOf_of] at m7
        clear hback hbad hbk
        generalize uAll s.data.toList = O at *
        go_wp2_with fail
        refine (m1 _ _ _ (own_rd hown)).mono ?_; rintro e w2 ⟨rfl, hb2⟩
        replace hown := own_below hown hb2 (Nat.le_refl _); replace hb := hb.step hb2; clear hb2
        go_wp2_with fail
        refine (m2 _).mono ?_; rintro e w3 ⟨v3, rfl, ho3, hb2⟩
        replace hown := own_below hown hb2 (Nat.le_refl _); replace hb := hb.step hb2; clear hb2
        go_wp2_with fail
        refine (m3 _).mono ?_; rintro e w4 ⟨v4, rfl, ho4, hb2⟩
        replace hown := own_below hown hb2 (Nat.le_refl _); replace ho3 := own_below ho3 hb2 (Nat.le_refl _); replace hb := hb.step hb2; clear hb2
        obtain ⟨A3, c3, rfl⟩ := own_form ho3
        obtain ⟨A4, c4, rfl⟩ := own_form ho4
        go_wp2_with fail
        refine (m7 _ _ _ (own_rd ho4)).mono ?_; rintro e w5 ⟨rfl, hb2⟩
        replace hown := own_below hown hb2 (Nat.le_refl _); replace ho3 := own_below ho3 hb2 (Nat.le_refl _); replace hb := hb.step hb2; clear hb2
        go_wp2_with fail
        refine (SameInts_any _ _ c3 c' c c _ (by unfold maxLen; omega) (own_rd ho3) (own_rd hown)).mono ?_; rintro e w6 ⟨rfl, n6, rfl⟩
        replace hb := hb.drewN n6
        clear ho3 ho4 hown
        generalize World.drewN _ n6 = w6 at *
        go_wp2_with fail
        refine (m4 _).mono ?_; rintro e w7 ⟨rfl, hb2⟩; replace hb := hb.step hb2; clear hb2
        go_wp2_with fail
        refine (m5 _).mono ?_; rintro e w8 ⟨rfl, hb2⟩; replace hb := hb.step hb2; clear hb2
        go_wp2_with fail
        refine (m6 _).mono ?_; rintro e w9 ⟨rfl, hb2⟩; replace hb := hb.step hb2; clear hb2
        go_wp2_with fail
        refine (awake02 _).mono ?_; rintro e w16 ⟨rfl, hb2⟩; replace hb := hb.step hb2; clear hb2
        go_wp2_with fail
        go_ret
        exact ⟨rfl, hb⟩
theorem uBad_parts (a b c : List UInt8) (h : uScan a = uScan b ++ uScan c) (hb : uBad a = false) : uBad b = false := by
  unfold uBad at hb ⊢
  rw [h, List.any_append, Bool.or_eq_false_iff] at hb
  exact hb.1
theorem lowS_low (s : ByteArray) : lowS (lowS s) = lowS s := by
  unfold lowS
  rw [strOf_list, List.map_map]
  congr 1
  apply List.map_congr_left
  intro b _
  exact uLow_low b
theorem lowS_size (s : ByteArray) : (lowS s).size = s.size := by
  unfold lowS
  rw [strOf_size, List.length_map, list_size]
set_option maxRecDepth 1000000 in
set_option maxHeartbeats 8000000 in
theorem UtfCuts_walk (s : ByteArray) (n : Int) (hs : s.size ≤ maxLen) (hn : 0 ≤ n ∧ n ≤ 255) (w : World) :
    Calls Try.prog 6 #[.string s, .int .u8 n] w fun e w' => e = .returned (.bool true) ∧ Below w.heap.size w w' := by
  have hs' := hs
  unfold maxLen at hs
  by_cases h200 : 200 < s.size
  · have hI : (200 : Int) < (s.size : Int) := by omega
    go_enter Try.func6, Try.ntmps6
    go_wp2_with fail
    refine (awake02 _).mono ?_; rintro e w1 ⟨rfl, hb⟩
    go_wp2_with fail
    go_ret
    exact ⟨rfl, hb⟩
  have hI : (s.size : Int) ≤ 200 := by omega
  have hparts := uCut_parts s.data.toList n hn.1
  have hle := uCut_le s.data.toList n hn.1
  have cu0 := fun W => utf_Cut_any s hs' n (by omega) W
  obtain ⟨q, hq⟩ : ∃ q, q = uCut s.data.toList n := ⟨_, rfl⟩
  rw [← hq] at hparts hle cu0
  rw [list_size] at hle hparts
  have htl : (s.extract 0 q).data.toList = s.data.toList.take q := by rw [ext_list, List.drop_zero]
  have htz : (s.extract 0 q).size = q := by rw [← list_size, htl, List.length_take, list_size]; omega
  have hrl := rest_list s q
  have hrz := rest_size s q
  have cu : ∀ W, Calls Try.prog 17 #[.string (s.extract 0 q), .int .i64 n] W fun e w' => e = .returned (.string (s.extract 0 q)) ∧ Below W.heap.size W w' := fun W => by
    have := utf_Cut_any (s.extract 0 q) (by rw [htz]; unfold maxLen; omega) n (by omega) W
    rw [htl, hparts.2.1] at this
    have e : (s.extract 0 q).extract 0 q = s.extract 0 q := by
      have := ext_all (s.extract 0 q)
      rw [htz] at this; exact this
    rw [e] at this
    exact this
  have nx := fun W => utf_Next_any (s.extract q s.size) (by rw [hrz]; unfold maxLen; omega) W
  rw [hrl] at nx
  have c1 := fun W => utf_Count_any (s.extract 0 q) (by rw [htz]; unfold maxLen; omega) W
  have c2 := fun W => utf_Count_any (s.extract q s.size) (by rw [hrz]; unfold maxLen; omega) W
  have c3 := fun W => utf_Count_any s hs' W
  rw [htl] at c1
  rw [hrl] at c2
  have hcs := congrArg List.length hparts.1
  rw [List.length_append] at hcs
  have hsl := uScan_len s.data.toList
  rw [list_size] at hsl
  have k1 := fun W => utf_Check_any s hs' W
  have k2 := fun W => utf_Check_any (s.extract 0 q) (by rw [htz]; unfold maxLen; omega) W
  rw [htl] at k2
  have hbp := hide (uBad_parts _ _ _ hparts.1)
  have l1 := fun W => utf_Low_any s hs' W
  have hlz := lowS_size s
  have l2 := fun W => utf_Low_any (lowS s) (by rw [hlz]; exact hs') W
  rw [lowS_low] at l2
  have hk := hparts.2.2
  clear hparts hq htl hrl
  have hT0 : s.extract 0 (s.extract 0 q).size = s.extract 0 q := by rw [htz]
  have hU0 : s.extract (s.extract 0 q).size s.size = s.extract q s.size := by rw [htz]
  generalize uNext (s.data.toList.drop q) = p at *
  obtain ⟨pv, pk⟩ := p
  generalize (uScan (s.data.toList.take q)).length = a at *
  generalize (uScan (s.data.toList.drop q)).length = b at *
  generalize (uScan s.data.toList).length = c at *
  generalize lowS s = O at *
  dsimp only at nx hk
  obtain ⟨T, hT⟩ : ∃ T, T = s.extract 0 q := ⟨_, rfl⟩
  obtain ⟨U, hU⟩ : ∃ U, U = s.extract q s.size := ⟨_, rfl⟩
  rw [← hT] at hT0 hU0 cu cu0 c1 k2 htz
  rw [← hU] at hU0 c2 nx
  clear hT hU hrz
  subst htz
  have hqn : (T.size : Int) ≤ n := hle.2
  have hqs : (T.size : Int) ≤ (s.size : Int) := by omega
  have hqsN : T.size ≤ s.size := hle.1
  have hne : ∀ (x : ByteArray), (x.toList != x.toList) = false := fun x => by simp
  have heq : ∀ (x : ByteArray), (x.toList == x.toList) = true := fun x => by simp
  have hcI : (a : Int) + (b : Int) = (c : Int) := by omega
  clear hle hcs
  by_cases hfull : T.size = s.size
  case pos =>
    have hqB : (((T.size : Int)) == (s.size : Int)) = true := by simp; omega
    clear hk hfull
    cases hbad : uBad s.data.toList with
    | true =>
      rw [hbad] at k1
      simp only [if_true] at k1
      clear hbp k2 hbad
      go_enter Try.func6, Try.ntmps6
      go_wp2_with fail
      with_reducible refine (cu0 _).mono ?_; rintro e w1 ⟨rfl, hb⟩
      go_wp2_with fail
      with_reducible refine (nx _).mono ?_; rintro e w2 ⟨rfl, hb2⟩; replace hb := hb.step hb2; clear hb2
      go_wp2_with fail
      (refine wp_region_qb (by kernel_rfl) (by kernel_rfl) (fun kq => ?_); (try dsimp only [List.append]); (repeat (go_big_quiet_step ((first | (go_at_call 17; with_reducible exact (cu _).qb) | (go_at_call 13; first | with_reducible exact (c1 _).qb | with_reducible exact (c2 _).qb | with_reducible exact (c3 _).qb) | (go_at_call 15; first | with_reducible exact (k1 _).qb) | (go_at_call 19; first | with_reducible exact (l1 _).qb | with_reducible exact (l2 _).qb) | (go_at_call 7; exact (awake02 _).qb))))); refine wpQuiet_nil ?_; intro wq hwq; have hbq := below_of_class hwq; clear hwq kq)
      go_wp2_with fail
      go_ret
      exact ⟨rfl, hb.step hbq⟩
    | false =>
      rw [hbp.out hbad] at k2
      rw [hbad] at k1
      simp only [Bool.false_eq_true, if_false] at k1 k2
      clear hbp hbad
      go_enter Try.func6, Try.ntmps6
      go_wp2_with fail
      with_reducible refine (cu0 _).mono ?_; rintro e w1 ⟨rfl, hb⟩
      go_wp2_with fail
      with_reducible refine (nx _).mono ?_; rintro e w2 ⟨rfl, hb2⟩; replace hb := hb.step hb2; clear hb2
      go_wp2_with fail
      (refine wp_region_qb (by kernel_rfl) (by kernel_rfl) (fun kq => ?_); (try dsimp only [List.append]); (repeat (go_big_quiet_step ((first | (go_at_call 17; with_reducible exact (cu _).qb) | (go_at_call 13; first | with_reducible exact (c1 _).qb | with_reducible exact (c2 _).qb | with_reducible exact (c3 _).qb) | (go_at_call 15; first | with_reducible exact (k1 _).qb | with_reducible exact (k2 _).qb) | (go_at_call 19; first | with_reducible exact (l1 _).qb | with_reducible exact (l2 _).qb) | (go_at_call 7; exact (awake02 _).qb))))); refine wpQuiet_nil ?_; intro wq hwq; have hbq := below_of_class hwq; clear hwq kq)
      go_wp2_with fail
      go_ret
      exact ⟨rfl, hb.step hbq⟩
  case neg =>
    have hqB : (((T.size : Int)) == (s.size : Int)) = false := by simp; omega
    have hkI : n - (T.size : Int) < (pk : Int) := by
      rcases hk with hk | hk
      · exact absurd hk hfull
      · omega
    clear hk hfull
    cases hbad : uBad s.data.toList with
    | true =>
      rw [hbad] at k1
      simp only [if_true] at k1
      clear hbp k2 hbad
      go_enter Try.func6, Try.ntmps6
      go_wp2_with fail
      with_reducible refine (cu0 _).mono ?_; rintro e w1 ⟨rfl, hb⟩
      go_wp2_with fail
      with_reducible refine (nx _).mono ?_; rintro e w2 ⟨rfl, hb2⟩; replace hb := hb.step hb2; clear hb2
      go_wp2_with fail
      (refine wp_region_qb (by kernel_rfl) (by kernel_rfl) (fun kq => ?_); (try dsimp only [List.append]); (repeat (go_big_quiet_step ((first | (go_at_call 17; with_reducible exact (cu _).qb) | (go_at_call 13; first | with_reducible exact (c1 _).qb | with_reducible exact (c2 _).qb | with_reducible exact (c3 _).qb) | (go_at_call 15; first | with_reducible exact (k1 _).qb) | (go_at_call 19; first | with_reducible exact (l1 _).qb | with_reducible exact (l2 _).qb) | (go_at_call 7; exact (awake02 _).qb))))); refine wpQuiet_nil ?_; intro wq hwq; have hbq := below_of_class hwq; clear hwq kq)
      go_wp2_with fail
      go_ret
      exact ⟨rfl, hb.step hbq⟩
    | false =>
      rw [hbp.out hbad] at k2
      rw [hbad] at k1
      simp only [Bool.false_eq_true, if_false] at k1 k2
      clear hbp hbad
      go_enter Try.func6, Try.ntmps6
      go_wp2_with fail
      with_reducible refine (cu0 _).mono ?_; rintro e w1 ⟨rfl, hb⟩
      go_wp2_with fail
      with_reducible refine (nx _).mono ?_; rintro e w2 ⟨rfl, hb2⟩; replace hb := hb.step hb2; clear hb2
      go_wp2_with fail
      (refine wp_region_qb (by kernel_rfl) (by kernel_rfl) (fun kq => ?_); (try dsimp only [List.append]); (repeat (go_big_quiet_step ((first | (go_at_call 17; with_reducible exact (cu _).qb) | (go_at_call 13; first | with_reducible exact (c1 _).qb | with_reducible exact (c2 _).qb | with_reducible exact (c3 _).qb) | (go_at_call 15; first | with_reducible exact (k1 _).qb | with_reducible exact (k2 _).qb) | (go_at_call 19; first | with_reducible exact (l1 _).qb | with_reducible exact (l2 _).qb) | (go_at_call 7; exact (awake02 _).qb))))); refine wpQuiet_nil ?_; intro wq hwq; have hbq := below_of_class hwq; clear hwq kq)
      go_wp2_with fail
      go_ret
      exact ⟨rfl, hb.step hbq⟩
end Go.Proofs.Ytonokkcnbbljoaa
