/- Package config: the iterator over a config's fields: pieces 7, 6, 5. (Printed by gen32i.py.) -/
import Derived.Test.YtfbllioegeadfaaDoorCfI
namespace Go.Proofs.YtfbllioegeadfaaDoor
open Go.RowKit Go.Shelf
attribute [local go_sem] Oper.semAt_some
set_option linter.unusedSimpArgs false
set_option linter.unusedVariables false
variable {n l g1 g2 B : Nat} {J : Nat → World → Prop} {Jx : World → Prop} {Q : Exit → Act → World → Prop}
set_option maxRecDepth 100000 in
set_option maxHeartbeats 4000000 in
theorem it_no7 (h : ItC n l g1 g2 B J Jx Q) {x3 x4 x5 x6 x7 x8 x9 x10 x11 x12 x13 x14 x15 x16 x17 x18 x19 x20 x21 x22 x23 x24 x25 x26 x27 x28 x29 x30 x31 x32 x33 x34 x35 x36 x37 x38 x39 x40 x41 x42 x43 x44 x45 x46 x47 x48 x49 x50 x51 x52 x53 x54 x55 x56 x57 x58 x59 x60 x61 x62 x63 x64 x65 x66 x67 x69 x70 x71 x72 x73 x74 x75 x76 x77 x78 x79 x80 x81 x82 x83 x84 x85 x86 x87 x88 x89 x90 x91 x92 x93 x94 x95 x96 x97 x98 x99 x100 x101 x102 x103 x104 x105 x106 x107 x108 x109 x110 x111 x112 x113 x114 x115 x116 : Value} {W : World} (hJ2 : Jx W) {L : Array Bool} (hL : L = #[true, true, true, true, true, true, true, true, true, true, true, true, true, true, true, true, true, true, true, true, true, true, true, true, true, true, true, true, true, true, true, true, true, true, true, true, true, true, true, true, true, true, true, true, true, true, true, true, true, true, true, true, true, true, true, true, true, true, true, true, true, true, true, true, true, false, false, false, false, false, false, false, false, false, false, false, false, false, false, false, false, false, false, false, false, false, false, false, false, false, false, false, false, false, false, false, false, false, false, false, false, false, false, false, false, false, false, false, false, false, false, false, false]) :
    wpAnyIn Fence.wide n Tryd.prog .any ops36 Q 48 L { tmps := #[.func (.yield l) #[] #[], .pointer (some ⟨g1, 0, none⟩), .pointer (some ⟨g2, 0, none⟩), x3, x4, x5, x6, x7, x8, x9, x10, x11, x12, x13, x14, x15, x16, x17, x18, x19, x20, x21, x22, x23, x24, x25, x26, x27, x28, x29, x30, x31, x32, x33, x34, x35, x36, x37, x38, x39, x40, x41, x42, x43, x44, x45, x46, x47, x48, x49, x50, x51, x52, x53, x54, x55, x56, x57, x58, x59, x60, x61, x62, x63, x64, x65, x66, x67, .bool false, x69, x70, x71, x72, x73, x74, x75, x76, x77, x78, x79, x80, x81, x82, x83, x84, x85, x86, x87, x88, x89, x90, x91, x92, x93, x94, x95, x96, x97, x98, x99, x100, x101, x102, x103, x104, x105, x106, x107, x108, x109, x110, x111, x112, x113, x114, x115, x116], defers := [] } W := by
  subst hL
  unfold ops36 opsOf Tryd.f36
  dsimp only []
  refine wpAnyIn_take (i := 65) (v := undef) rfl rfl (by kernel_rfl) (by kernel_rfl) (by kernel_rfl) (fun c a w hq => h.hQp _ _ _ _ _ hq) ⟨Or.inr ⟨rfl, rfl⟩, fun _ => rfl⟩ ?_
  refine wpAnyIn_ready (rs := [66]) (by kernel_rfl) (by simp) ?_
  refine AllReadyIn.cons rfl (fun K hK => ?_) AllReadyIn.nil
  go_simp
  refine hK _ _ ?_; clear hK K
  refine wpAnyIn_ready (rs := [67]) (by kernel_rfl) (by simp) ?_
  refine AllReadyIn.cons rfl (fun K hK => ?_) AllReadyIn.nil
  go_simp
  refine hK _ _ ?_; clear hK K
  refine wpAnyIn_ready (rs := [68]) (by kernel_rfl) (by simp) ?_
  refine AllReadyIn.cons rfl (fun K hK => ?_) AllReadyIn.nil
  go_simp
  refine hK _ _ ?_; clear hK K
  refine wpAnyIn_ready (rs := [69]) (by kernel_rfl) (by simp) ?_
  refine AllReadyIn.cons rfl (fun K hK => ?_) AllReadyIn.nil
  go_simp
  refine hK _ _ ?_; clear hK K
  refine wpAnyIn_ready (rs := [70]) (by kernel_rfl) (by simp) ?_
  refine AllReadyIn.cons rfl (fun K hK => ?_) AllReadyIn.nil
  go_simp
  refine hK _ _ ?_; clear hK K
  refine wpAnyIn_ready (rs := [71]) (by kernel_rfl) (by simp) ?_
  refine AllReadyIn.cons rfl (fun K hK => ?_) AllReadyIn.nil
  go_simp
  refine ⟨(by first | exact trivial | exact fun _ _ => trivial), hK _ _ ?_⟩; clear hK K
  refine wpAnyIn_ready (rs := [72]) (by kernel_rfl) (by simp) ?_
  refine AllReadyIn.cons rfl (fun K hK => ?_) AllReadyIn.nil
  go_simp
  refine ⟨(by first | exact trivial | exact fun _ _ => trivial), hK _ _ ?_⟩; clear hK K
  refine wpAnyIn_ready (rs := [73]) (by kernel_rfl) (by simp) ?_
  refine AllReadyIn.cons rfl (fun K hK => ?_) AllReadyIn.nil
  go_simp
  refine hK _ _ ?_; clear hK K
  refine wpAnyIn_ready (rs := [74]) (by kernel_rfl) (by simp) ?_
  refine AllReadyIn.cons rfl (fun K hK => ?_) AllReadyIn.nil
  go_simp
  refine hK _ _ ?_; clear hK K
  exact it_no8 h hJ2 (by kernel_rfl)
set_option maxRecDepth 100000 in
set_option maxHeartbeats 4000000 in
theorem it_go7 (h : ItC n l g1 g2 B J Jx Q) {x3 x4 x5 x6 x7 x8 x9 x10 x11 x12 x13 x14 x15 x16 x17 x18 x19 x20 x21 x22 x23 x24 x25 x26 x27 x28 x29 x30 x31 x32 x33 x34 x35 x36 x37 x38 x39 x40 x41 x42 x43 x44 x45 x46 x47 x48 x49 x50 x51 x52 x53 x54 x55 x56 x57 x58 x59 x60 x61 x62 x63 x64 x65 x66 x67 x69 x70 x71 x72 x73 x74 x75 x76 x77 x78 x79 x80 x81 x82 x83 x84 x85 x86 x87 x88 x89 x90 x91 x92 x93 x94 x95 x96 x97 x98 x99 x100 x101 x102 x103 x104 x105 x106 x107 x108 x109 x110 x111 x112 x113 x114 x115 x116 : Value} {W : World} (hJ : J 7 W) {L : Array Bool} (hL : L = #[true, true, true, true, true, true, true, true, true, true, true, true, true, true, true, true, true, true, true, true, true, true, true, true, true, true, true, true, true, true, true, true, true, true, true, true, true, true, true, true, true, true, true, true, true, true, true, true, true, true, true, true, true, true, true, true, true, true, true, true, true, true, true, true, true, false, false, false, false, false, false, false, false, false, false, false, false, false, false, false, false, false, false, false, false, false, false, false, false, false, false, false, false, false, false, false, false, false, false, false, false, false, false, false, false, false, false, false, false, false, false, false, false]) :
    wpAnyIn Fence.wide n Tryd.prog .any ops36 Q 48 L { tmps := #[.func (.yield l) #[] #[], .pointer (some ⟨g1, 0, none⟩), .pointer (some ⟨g2, 0, none⟩), x3, x4, x5, x6, x7, x8, x9, x10, x11, x12, x13, x14, x15, x16, x17, x18, x19, x20, x21, x22, x23, x24, x25, x26, x27, x28, x29, x30, x31, x32, x33, x34, x35, x36, x37, x38, x39, x40, x41, x42, x43, x44, x45, x46, x47, x48, x49, x50, x51, x52, x53, x54, x55, x56, x57, x58, x59, x60, x61, x62, x63, x64, x65, x66, x67, .bool true, x69, x70, x71, x72, x73, x74, x75, x76, x77, x78, x79, x80, x81, x82, x83, x84, x85, x86, x87, x88, x89, x90, x91, x92, x93, x94, x95, x96, x97, x98, x99, x100, x101, x102, x103, x104, x105, x106, x107, x108, x109, x110, x111, x112, x113, x114, x115, x116], defers := [] } W := by
  subst hL
  obtain ⟨k1, k2, hlt⟩ := h.hH _ _ hJ
  have k1_0 := k1.cell 0; have k1_f0 := k1.frozen 0; simp only [List.set_cons_zero, List.set_cons_succ, List.getElem?_cons_zero, List.getElem?_cons_succ] at k1_0; have lt_k1 := k1.lt; have k2_0 := k2.cell 0; have k2_f0 := k2.frozen 0; simp only [List.set_cons_zero, List.set_cons_succ, List.getElem?_cons_zero, List.getElem?_cons_succ] at k2_0; have lt_k2 := k2.lt
  unfold ops36 opsOf Tryd.f36
  dsimp only []
  refine wpAnyIn_take (i := 65) (v := ?v10) rfl rfl (by kernel_rfl) (by kernel_rfl) (by kernel_rfl) (fun c a w hq => h.hQp _ _ _ _ _ hq) ⟨Or.inl ⟨by rfl, ?_⟩, fun _ => rfl⟩ ?_
  case refine_1 => (intro w; go_simp; try with_reducible rfl)
  refine wpAnyIn_ready (rs := [66]) (by kernel_rfl) (by simp) ?_
  refine AllReadyIn.cons rfl (fun K hK => ?_) AllReadyIn.nil
  go_simp
  refine hK _ _ ?_; clear hK K
  refine wpAnyIn_ready (rs := [67]) (by kernel_rfl) (by simp) ?_
  refine AllReadyIn.cons rfl (fun K hK => ?_) AllReadyIn.nil
  go_simp
  refine hK _ _ ?_; clear hK K
  refine wpAnyIn_ready (rs := [68]) (by kernel_rfl) (by simp) ?_
  refine AllReadyIn.cons rfl (fun K hK => ?_) AllReadyIn.nil
  go_simp
  refine hK _ _ ?_; clear hK K
  refine wpAnyIn_ready (rs := [69]) (by kernel_rfl) (by simp) ?_
  refine AllReadyIn.cons rfl (fun K hK => ?_) AllReadyIn.nil
  go_simp
  refine hK _ _ ?_; clear hK K
  refine wpAnyIn_ready (rs := [70]) (by kernel_rfl) (by simp) ?_
  refine AllReadyIn.cons rfl (fun K hK => ?_) AllReadyIn.nil
  go_simp
  refine hK _ _ ?_; clear hK K
  refine wpAnyIn_ready (rs := [71]) (by kernel_rfl) (by simp) ?_
  refine AllReadyIn.cons rfl (fun K hK => ?_) AllReadyIn.nil
  go_simp
  refine ⟨trivial, (fun h => by cases h), ?_⟩
  refine (callsIn_wide.2 (config_places_any B 4 3 3 (by decide) (Nat.le_refl _) _)).mono ?_
  rintro e w1 ⟨A, d, rfl, hd, hrd, hfr, hb1⟩
  refine hK _ _ ?_
  clear hK K
  have hJ1 := h.hJ _ _ _ hJ hb1
  obtain ⟨fn, tmps, assign, body, hy, hR⟩ := h.hY 7 _ _ (by decide) hJ1 ⟨A, d, rfl, hd, hrd, fun ad e => by have := hfr ad e; omega⟩
  clear hJ
  refine wpAnyIn_ready (rs := [72]) (by kernel_rfl) (by simp) ?_
  refine AllReadyIn.cons rfl (fun K hK => ?_) AllReadyIn.nil
  simp only [keyB, cntN] at hy
  go_simp
  refine ⟨(fun h => by cases h), hR.mono ?_⟩
  rintro e w2 (⟨rfl, hJ2⟩ | ⟨rfl, hJ2⟩)
  · refine hK _ _ ?_; clear hK K hR hy
    refine wpAnyIn_ready (rs := [73]) (by kernel_rfl) (by simp) ?_
    refine AllReadyIn.cons rfl (fun K hK => ?_) AllReadyIn.nil
    go_simp
    refine hK _ _ ?_; clear hK K
    refine wpAnyIn_ready (rs := [74]) (by kernel_rfl) (by simp) ?_
    refine AllReadyIn.cons rfl (fun K hK => ?_) AllReadyIn.nil
    go_simp
    refine hK _ _ ?_; clear hK K
    exact it_go8 h hJ2 (by kernel_rfl)
  · refine hK _ _ ?_; clear hK K hR hy
    refine wpAnyIn_ready (rs := [73]) (by kernel_rfl) (by simp) ?_
    refine AllReadyIn.cons rfl (fun K hK => ?_) AllReadyIn.nil
    go_simp
    refine hK _ _ ?_; clear hK K
    refine wpAnyIn_ready (rs := [74]) (by kernel_rfl) (by simp) ?_
    refine AllReadyIn.cons rfl (fun K hK => ?_) AllReadyIn.nil
    go_simp
    refine hK _ _ ?_; clear hK K
    exact it_no8 h hJ2 (by kernel_rfl)
set_option maxRecDepth 100000 in
set_option maxHeartbeats 4000000 in
theorem it_nb6 (h : ItC n l g1 g2 B J Jx Q) {x3 x4 x5 x6 x7 x8 x9 x10 x11 x12 x13 x14 x15 x16 x17 x18 x19 x20 x21 x22 x23 x24 x25 x26 x27 x28 x29 x30 x31 x32 x33 x34 x35 x36 x37 x38 x39 x40 x41 x42 x43 x44 x45 x46 x47 x48 x49 x50 x51 x52 x53 x54 x56 x57 x58 x59 x60 x61 x62 x63 x64 x65 x66 x67 x68 x69 x70 x71 x72 x73 x74 x75 x76 x77 x78 x79 x80 x81 x82 x83 x84 x85 x86 x87 x88 x89 x90 x91 x92 x93 x94 x95 x96 x97 x98 x99 x100 x101 x102 x103 x104 x105 x106 x107 x108 x109 x110 x111 x112 x113 x114 x115 x116 : Value} {W : World} (hJ2 : Jx W) {L : Array Bool} (hL : L = #[true, true, true, true, true, true, true, true, true, true, true, true, true, true, true, true, true, true, true, true, true, true, true, true, true, true, true, true, true, true, true, true, true, true, true, true, true, true, true, true, true, true, true, true, true, true, true, true, true, true, true, true, true, true, true, true, true, true, true, true, true, false, false, false, false, false, false, false, false, false, false, false, false, false, false, false, false, false, false, false, false, false, false, false, false, false, false, false, false, false, false, false, false, false, false, false, false, false, false, false, false, false, false, false, false, false, false, false, false, false, false, false, false]) :
    wpAnyIn Fence.wide n Tryd.prog .any ops36 Q 52 L { tmps := #[.func (.yield l) #[] #[], .pointer (some ⟨g1, 0, none⟩), .pointer (some ⟨g2, 0, none⟩), x3, x4, x5, x6, x7, x8, x9, x10, x11, x12, x13, x14, x15, x16, x17, x18, x19, x20, x21, x22, x23, x24, x25, x26, x27, x28, x29, x30, x31, x32, x33, x34, x35, x36, x37, x38, x39, x40, x41, x42, x43, x44, x45, x46, x47, x48, x49, x50, x51, x52, x53, x54, .bool false, x56, x57, x58, x59, x60, x61, x62, x63, x64, x65, x66, x67, x68, x69, x70, x71, x72, x73, x74, x75, x76, x77, x78, x79, x80, x81, x82, x83, x84, x85, x86, x87, x88, x89, x90, x91, x92, x93, x94, x95, x96, x97, x98, x99, x100, x101, x102, x103, x104, x105, x106, x107, x108, x109, x110, x111, x112, x113, x114, x115, x116], defers := [] } W := by
  subst hL
  unfold ops36 opsOf Tryd.f36
  dsimp only []
  refine wpAnyIn_ready (rs := [61]) (by kernel_rfl) (by simp) ?_
  refine AllReadyIn.cons rfl (fun K hK => ?_) AllReadyIn.nil
  go_simp
  refine hK _ _ ?_; clear hK K
  refine wpAnyIn_ready (rs := [62]) (by kernel_rfl) (by simp) ?_
  refine AllReadyIn.cons rfl (fun K hK => ?_) AllReadyIn.nil
  go_simp
  refine ⟨(by first | exact trivial | exact fun _ _ => trivial), hK _ _ ?_⟩; clear hK K
  refine wpAnyIn_ready (rs := [63]) (by kernel_rfl) (by simp) ?_
  refine AllReadyIn.cons rfl (fun K hK => ?_) AllReadyIn.nil
  go_simp
  refine hK _ _ ?_; clear hK K
  refine wpAnyIn_ready (rs := [64]) (by kernel_rfl) (by simp) ?_
  refine AllReadyIn.cons rfl (fun K hK => ?_) AllReadyIn.nil
  go_simp
  refine hK _ _ ?_; clear hK K
  exact it_no7 h hJ2 (by kernel_rfl)
set_option maxRecDepth 100000 in
set_option maxHeartbeats 4000000 in
theorem it_no6 (h : ItC n l g1 g2 B J Jx Q) {x3 x4 x5 x6 x7 x8 x9 x10 x11 x12 x13 x14 x15 x16 x17 x18 x19 x20 x21 x22 x23 x24 x25 x26 x27 x28 x29 x30 x31 x32 x33 x34 x35 x36 x37 x38 x39 x40 x41 x42 x43 x44 x45 x46 x47 x48 x49 x50 x51 x52 x53 x54 x56 x57 x58 x59 x60 x61 x62 x63 x64 x65 x66 x67 x68 x69 x70 x71 x72 x73 x74 x75 x76 x77 x78 x79 x80 x81 x82 x83 x84 x85 x86 x87 x88 x89 x90 x91 x92 x93 x94 x95 x96 x97 x98 x99 x100 x101 x102 x103 x104 x105 x106 x107 x108 x109 x110 x111 x112 x113 x114 x115 x116 : Value} {W : World} (hJ2 : Jx W) {L : Array Bool} (hL : L = #[true, true, true, true, true, true, true, true, true, true, true, true, true, true, true, true, true, true, true, true, true, true, true, true, true, true, true, true, true, true, true, true, true, true, true, true, true, true, true, true, true, true, true, true, true, true, true, true, true, true, true, true, false, false, false, false, false, false, false, false, false, false, false, false, false, false, false, false, false, false, false, false, false, false, false, false, false, false, false, false, false, false, false, false, false, false, false, false, false, false, false, false, false, false, false, false, false, false, false, false, false, false, false, false, false, false, false, false, false, false, false, false, false]) :
    wpAnyIn Fence.wide n Tryd.prog .any ops36 Q 61 L { tmps := #[.func (.yield l) #[] #[], .pointer (some ⟨g1, 0, none⟩), .pointer (some ⟨g2, 0, none⟩), x3, x4, x5, x6, x7, x8, x9, x10, x11, x12, x13, x14, x15, x16, x17, x18, x19, x20, x21, x22, x23, x24, x25, x26, x27, x28, x29, x30, x31, x32, x33, x34, x35, x36, x37, x38, x39, x40, x41, x42, x43, x44, x45, x46, x47, x48, x49, x50, x51, x52, x53, x54, .bool false, x56, x57, x58, x59, x60, x61, x62, x63, x64, x65, x66, x67, x68, x69, x70, x71, x72, x73, x74, x75, x76, x77, x78, x79, x80, x81, x82, x83, x84, x85, x86, x87, x88, x89, x90, x91, x92, x93, x94, x95, x96, x97, x98, x99, x100, x101, x102, x103, x104, x105, x106, x107, x108, x109, x110, x111, x112, x113, x114, x115, x116], defers := [] } W := by
  subst hL
  unfold ops36 opsOf Tryd.f36
  dsimp only []
  refine wpAnyIn_take (i := 52) (v := undef) rfl rfl (by kernel_rfl) (by kernel_rfl) (by kernel_rfl) (fun c a w hq => h.hQp _ _ _ _ _ hq) ⟨Or.inr ⟨rfl, rfl⟩, fun _ => rfl⟩ ?_
  refine wpAnyIn_ready (rs := [53, 57]) (by kernel_rfl) (by simp) ?_
  refine AllReadyIn.cons rfl (fun K hK => ?_) ?_
  · go_simp
    refine hK _ _ ?_; clear hK K
    refine wpAnyIn_take (i := 54) (v := undef) rfl rfl (by kernel_rfl) (by kernel_rfl) (by kernel_rfl) (fun c a w hq => h.hQp _ _ _ _ _ hq) ⟨Or.inr ⟨rfl, rfl⟩, fun _ => rfl⟩ ?_
    refine wpAnyIn_take (i := 55) (v := undef) rfl rfl (by kernel_rfl) (by kernel_rfl) (by kernel_rfl) (fun c a w hq => h.hQp _ _ _ _ _ hq) ⟨Or.inr ⟨rfl, rfl⟩, fun _ => rfl⟩ ?_
    refine wpAnyIn_take (i := 56) (v := undef) rfl rfl (by kernel_rfl) (by kernel_rfl) (by kernel_rfl) (fun c a w hq => h.hQp _ _ _ _ _ hq) ⟨Or.inr ⟨rfl, rfl⟩, fun _ => rfl⟩ ?_
    refine wpAnyIn_ready (rs := [57]) (by kernel_rfl) (by simp) ?_
    refine AllReadyIn.cons rfl (fun K hK => ?_) AllReadyIn.nil
    go_simp
    refine hK _ _ ?_; clear hK K
    refine wpAnyIn_ready (rs := [58]) (by kernel_rfl) (by simp) ?_
    refine AllReadyIn.cons rfl (fun K hK => ?_) AllReadyIn.nil
    go_simp
    refine hK _ _ ?_; clear hK K
    refine wpAnyIn_ready (rs := [59]) (by kernel_rfl) (by simp) ?_
    refine AllReadyIn.cons rfl (fun K hK => ?_) AllReadyIn.nil
    go_simp
    refine hK _ _ ?_; clear hK K
    refine wpAnyIn_ready (rs := [60]) (by kernel_rfl) (by simp) ?_
    refine AllReadyIn.cons rfl (fun K hK => ?_) AllReadyIn.nil
    go_simp
    refine hK _ _ ?_; clear hK K
    exact it_nb6 h hJ2 (by kernel_rfl)
  refine AllReadyIn.cons rfl (fun K hK => ?_) AllReadyIn.nil
  · go_simp
    refine hK _ _ ?_; clear hK K
    refine wpAnyIn_take (i := 58) (v := undef) rfl rfl (by kernel_rfl) (by kernel_rfl) (by kernel_rfl) (fun c a w hq => h.hQp _ _ _ _ _ hq) ⟨Or.inr ⟨rfl, rfl⟩, fun _ => rfl⟩ ?_
    refine wpAnyIn_take (i := 59) (v := undef) rfl rfl (by kernel_rfl) (by kernel_rfl) (by kernel_rfl) (fun c a w hq => h.hQp _ _ _ _ _ hq) ⟨Or.inr ⟨rfl, rfl⟩, fun _ => rfl⟩ ?_
    refine wpAnyIn_take (i := 60) (v := undef) rfl rfl (by kernel_rfl) (by kernel_rfl) (by kernel_rfl) (fun c a w hq => h.hQp _ _ _ _ _ hq) ⟨Or.inr ⟨rfl, rfl⟩, fun _ => rfl⟩ ?_
    refine wpAnyIn_ready (rs := [53]) (by kernel_rfl) (by simp) ?_
    refine AllReadyIn.cons rfl (fun K hK => ?_) AllReadyIn.nil
    go_simp
    refine hK _ _ ?_; clear hK K
    refine wpAnyIn_ready (rs := [54]) (by kernel_rfl) (by simp) ?_
    refine AllReadyIn.cons rfl (fun K hK => ?_) AllReadyIn.nil
    go_simp
    refine hK _ _ ?_; clear hK K
    refine wpAnyIn_ready (rs := [55]) (by kernel_rfl) (by simp) ?_
    refine AllReadyIn.cons rfl (fun K hK => ?_) AllReadyIn.nil
    go_simp
    refine hK _ _ ?_; clear hK K
    refine wpAnyIn_ready (rs := [56]) (by kernel_rfl) (by simp) ?_
    refine AllReadyIn.cons rfl (fun K hK => ?_) AllReadyIn.nil
    go_simp
    refine hK _ _ ?_; clear hK K
    exact it_nb6 h hJ2 (by kernel_rfl)
set_option maxRecDepth 100000 in
set_option maxHeartbeats 4000000 in
theorem it_b6 (h : ItC n l g1 g2 B J Jx Q) {x3 x4 x5 x6 x7 x8 x9 x10 x11 x12 x13 x14 x15 x16 x17 x18 x19 x20 x21 x22 x23 x24 x25 x26 x27 x28 x29 x30 x31 x32 x33 x34 x35 x36 x37 x38 x39 x40 x41 x42 x43 x44 x45 x46 x47 x48 x49 x50 x51 x52 x53 x54 x57 x58 x59 x61 x62 x63 x65 x66 x67 x68 x69 x70 x71 x72 x73 x74 x75 x76 x77 x78 x79 x80 x81 x82 x83 x84 x85 x86 x87 x88 x89 x90 x91 x92 x93 x94 x95 x96 x97 x98 x99 x100 x101 x102 x103 x104 x105 x106 x107 x108 x109 x110 x111 x112 x113 x114 x115 x116 : Value} {W : World} (hJ : J 6 W) {L : Array Bool} (hL : L = #[true, true, true, true, true, true, true, true, true, true, true, true, true, true, true, true, true, true, true, true, true, true, true, true, true, true, true, true, true, true, true, true, true, true, true, true, true, true, true, true, true, true, true, true, true, true, true, true, true, true, true, true, true, true, true, true, true, true, true, true, true, false, false, false, false, false, false, false, false, false, false, false, false, false, false, false, false, false, false, false, false, false, false, false, false, false, false, false, false, false, false, false, false, false, false, false, false, false, false, false, false, false, false, false, false, false, false, false, false, false, false, false, false]) :
    wpAnyIn Fence.wide n Tryd.prog .any ops36 Q 52 L { tmps := #[.func (.yield l) #[] #[], .pointer (some ⟨g1, 0, none⟩), .pointer (some ⟨g2, 0, none⟩), x3, x4, x5, x6, x7, x8, x9, x10, x11, x12, x13, x14, x15, x16, x17, x18, x19, x20, x21, x22, x23, x24, x25, x26, x27, x28, x29, x30, x31, x32, x33, x34, x35, x36, x37, x38, x39, x40, x41, x42, x43, x44, x45, x46, x47, x48, x49, x50, x51, x52, x53, x54, .bool true, .func (.yield l) #[] #[], x57, x58, x59, .pointer (some ⟨B, 2, none⟩), x61, x62, x63, .pointer (some ⟨B, 3, none⟩), x65, x66, x67, x68, x69, x70, x71, x72, x73, x74, x75, x76, x77, x78, x79, x80, x81, x82, x83, x84, x85, x86, x87, x88, x89, x90, x91, x92, x93, x94, x95, x96, x97, x98, x99, x100, x101, x102, x103, x104, x105, x106, x107, x108, x109, x110, x111, x112, x113, x114, x115, x116], defers := [] } W := by
  subst hL
  obtain ⟨k1, k2, hlt⟩ := h.hH _ _ hJ
  unfold ops36 opsOf Tryd.f36
  dsimp only []
  refine wpAnyIn_ready (rs := [61]) (by kernel_rfl) (by simp) ?_
  refine AllReadyIn.cons rfl (fun K hK => ?_) AllReadyIn.nil
  go_simp
  refine hK _ _ ?_; clear hK K
  have hJ1 := h.hJ _ _ _ hJ (((Below.refl _ W).alloc1 (.cells #[.pointer (some ⟨B, 2, none⟩), .pointer (some ⟨B, 3, none⟩)] 69)))
  obtain ⟨fn, tmps, assign, body, hy, hR⟩ := h.hY 6 _ _ (by decide) hJ1 ⟨_, _, rfl, Nat.le_refl _, (Bk.new W 69 [.pointer (some ⟨B, 2, none⟩), .pointer (some ⟨B, 3, none⟩)]).rd, fun ad e => by cases e; simp; omega⟩
  clear hJ
  refine wpAnyIn_ready (rs := [62]) (by kernel_rfl) (by simp) ?_
  refine AllReadyIn.cons rfl (fun K hK => ?_) AllReadyIn.nil
  simp only [keyB, cntN] at hy
  go_simp
  refine ⟨(fun h => by cases h), hR.mono ?_⟩
  rintro e w2 (⟨rfl, hJ2⟩ | ⟨rfl, hJ2⟩)
  · refine hK _ _ ?_; clear hK K hR hy
    refine wpAnyIn_ready (rs := [63]) (by kernel_rfl) (by simp) ?_
    refine AllReadyIn.cons rfl (fun K hK => ?_) AllReadyIn.nil
    go_simp
    refine hK _ _ ?_; clear hK K
    refine wpAnyIn_ready (rs := [64]) (by kernel_rfl) (by simp) ?_
    refine AllReadyIn.cons rfl (fun K hK => ?_) AllReadyIn.nil
    go_simp
    refine hK _ _ ?_; clear hK K
    exact it_go7 h hJ2 (by kernel_rfl)
  · refine hK _ _ ?_; clear hK K hR hy
    refine wpAnyIn_ready (rs := [63]) (by kernel_rfl) (by simp) ?_
    refine AllReadyIn.cons rfl (fun K hK => ?_) AllReadyIn.nil
    go_simp
    refine hK _ _ ?_; clear hK K
    refine wpAnyIn_ready (rs := [64]) (by kernel_rfl) (by simp) ?_
    refine AllReadyIn.cons rfl (fun K hK => ?_) AllReadyIn.nil
    go_simp
    refine hK _ _ ?_; clear hK K
    exact it_no7 h hJ2 (by kernel_rfl)
set_option maxRecDepth 100000 in
set_option maxHeartbeats 4000000 in
theorem it_go6 (h : ItC n l g1 g2 B J Jx Q) {x3 x4 x5 x6 x7 x8 x9 x10 x11 x12 x13 x14 x15 x16 x17 x18 x19 x20 x21 x22 x23 x24 x25 x26 x27 x28 x29 x30 x31 x32 x33 x34 x35 x36 x37 x38 x39 x40 x41 x42 x43 x44 x45 x46 x47 x48 x49 x50 x51 x52 x53 x54 x56 x57 x58 x59 x60 x61 x62 x63 x64 x65 x66 x67 x68 x69 x70 x71 x72 x73 x74 x75 x76 x77 x78 x79 x80 x81 x82 x83 x84 x85 x86 x87 x88 x89 x90 x91 x92 x93 x94 x95 x96 x97 x98 x99 x100 x101 x102 x103 x104 x105 x106 x107 x108 x109 x110 x111 x112 x113 x114 x115 x116 : Value} {W : World} (hJ : J 6 W) {L : Array Bool} (hL : L = #[true, true, true, true, true, true, true, true, true, true, true, true, true, true, true, true, true, true, true, true, true, true, true, true, true, true, true, true, true, true, true, true, true, true, true, true, true, true, true, true, true, true, true, true, true, true, true, true, true, true, true, true, false, false, false, false, false, false, false, false, false, false, false, false, false, false, false, false, false, false, false, false, false, false, false, false, false, false, false, false, false, false, false, false, false, false, false, false, false, false, false, false, false, false, false, false, false, false, false, false, false, false, false, false, false, false, false, false, false, false, false, false, false]) :
    wpAnyIn Fence.wide n Tryd.prog .any ops36 Q 61 L { tmps := #[.func (.yield l) #[] #[], .pointer (some ⟨g1, 0, none⟩), .pointer (some ⟨g2, 0, none⟩), x3, x4, x5, x6, x7, x8, x9, x10, x11, x12, x13, x14, x15, x16, x17, x18, x19, x20, x21, x22, x23, x24, x25, x26, x27, x28, x29, x30, x31, x32, x33, x34, x35, x36, x37, x38, x39, x40, x41, x42, x43, x44, x45, x46, x47, x48, x49, x50, x51, x52, x53, x54, .bool true, x56, x57, x58, x59, x60, x61, x62, x63, x64, x65, x66, x67, x68, x69, x70, x71, x72, x73, x74, x75, x76, x77, x78, x79, x80, x81, x82, x83, x84, x85, x86, x87, x88, x89, x90, x91, x92, x93, x94, x95, x96, x97, x98, x99, x100, x101, x102, x103, x104, x105, x106, x107, x108, x109, x110, x111, x112, x113, x114, x115, x116], defers := [] } W := by
  subst hL
  obtain ⟨k1, k2, hlt⟩ := h.hH _ _ hJ
  have k1_0 := k1.cell 0; have k1_f0 := k1.frozen 0; simp only [List.set_cons_zero, List.set_cons_succ, List.getElem?_cons_zero, List.getElem?_cons_succ] at k1_0; have lt_k1 := k1.lt; have k2_0 := k2.cell 0; have k2_f0 := k2.frozen 0; simp only [List.set_cons_zero, List.set_cons_succ, List.getElem?_cons_zero, List.getElem?_cons_succ] at k2_0; have lt_k2 := k2.lt
  unfold ops36 opsOf Tryd.f36
  dsimp only []
  refine wpAnyIn_take (i := 52) (v := ?v18) rfl rfl (by kernel_rfl) (by kernel_rfl) (by kernel_rfl) (fun c a w hq => h.hQp _ _ _ _ _ hq) ⟨Or.inl ⟨by rfl, ?_⟩, fun _ => rfl⟩ ?_
  case refine_1 => (intro w; go_simp; try with_reducible rfl)
  refine wpAnyIn_ready (rs := [53, 57]) (by kernel_rfl) (by simp) ?_
  refine AllReadyIn.cons rfl (fun K hK => ?_) ?_
  · go_simp
    refine hK _ _ ?_; clear hK K
    refine wpAnyIn_take (i := 54) (v := ?v19) rfl rfl (by kernel_rfl) (by kernel_rfl) (by kernel_rfl) (fun c a w hq => h.hQp _ _ _ _ _ hq) ⟨Or.inl ⟨by rfl, ?_⟩, fun _ => rfl⟩ ?_
    case refine_1 => (intro w; go_simp; try with_reducible rfl)
    refine wpAnyIn_take (i := 55) (v := ?v20) rfl rfl (by kernel_rfl) (by kernel_rfl) (by kernel_rfl) (fun c a w hq => h.hQp _ _ _ _ _ hq) ⟨Or.inl ⟨by rfl, ?_⟩, fun _ => rfl⟩ ?_
    case refine_1 => (intro w; go_simp; try with_reducible rfl)
    refine wpAnyIn_take (i := 56) (v := ?v21) rfl rfl (by kernel_rfl) (by kernel_rfl) (by kernel_rfl) (fun c a w hq => h.hQp _ _ _ _ _ hq) ⟨Or.inl ⟨by rfl, ?_⟩, fun _ => rfl⟩ ?_
    case refine_1 => (intro w; go_simp; try with_reducible rfl)
    refine wpAnyIn_ready (rs := [57]) (by kernel_rfl) (by simp) ?_
    refine AllReadyIn.cons rfl (fun K hK => ?_) AllReadyIn.nil
    go_simp
    refine hK _ _ ?_; clear hK K
    refine wpAnyIn_ready (rs := [58]) (by kernel_rfl) (by simp) ?_
    refine AllReadyIn.cons rfl (fun K hK => ?_) AllReadyIn.nil
    go_simp
    refine hK _ _ ?_; clear hK K
    refine wpAnyIn_ready (rs := [59]) (by kernel_rfl) (by simp) ?_
    refine AllReadyIn.cons rfl (fun K hK => ?_) AllReadyIn.nil
    go_simp
    refine hK _ _ ?_; clear hK K
    refine wpAnyIn_ready (rs := [60]) (by kernel_rfl) (by simp) ?_
    refine AllReadyIn.cons rfl (fun K hK => ?_) AllReadyIn.nil
    go_simp
    refine hK _ _ ?_; clear hK K
    exact it_b6 h hJ (by kernel_rfl)
  refine AllReadyIn.cons rfl (fun K hK => ?_) AllReadyIn.nil
  · go_simp
    refine hK _ _ ?_; clear hK K
    refine wpAnyIn_take (i := 58) (v := ?v22) rfl rfl (by kernel_rfl) (by kernel_rfl) (by kernel_rfl) (fun c a w hq => h.hQp _ _ _ _ _ hq) ⟨Or.inl ⟨by rfl, ?_⟩, fun _ => rfl⟩ ?_
    case refine_1 => (intro w; go_simp; try with_reducible rfl)
    refine wpAnyIn_take (i := 59) (v := ?v23) rfl rfl (by kernel_rfl) (by kernel_rfl) (by kernel_rfl) (fun c a w hq => h.hQp _ _ _ _ _ hq) ⟨Or.inl ⟨by rfl, ?_⟩, fun _ => rfl⟩ ?_
    case refine_1 => (intro w; go_simp; try with_reducible rfl)
    refine wpAnyIn_take (i := 60) (v := ?v24) rfl rfl (by kernel_rfl) (by kernel_rfl) (by kernel_rfl) (fun c a w hq => h.hQp _ _ _ _ _ hq) ⟨Or.inl ⟨by rfl, ?_⟩, fun _ => rfl⟩ ?_
    case refine_1 => (intro w; go_simp; try with_reducible rfl)
    refine wpAnyIn_ready (rs := [53]) (by kernel_rfl) (by simp) ?_
    refine AllReadyIn.cons rfl (fun K hK => ?_) AllReadyIn.nil
    go_simp
    refine hK _ _ ?_; clear hK K
    refine wpAnyIn_ready (rs := [54]) (by kernel_rfl) (by simp) ?_
    refine AllReadyIn.cons rfl (fun K hK => ?_) AllReadyIn.nil
    go_simp
    refine hK _ _ ?_; clear hK K
    refine wpAnyIn_ready (rs := [55]) (by kernel_rfl) (by simp) ?_
    refine AllReadyIn.cons rfl (fun K hK => ?_) AllReadyIn.nil
    go_simp
    refine hK _ _ ?_; clear hK K
    refine wpAnyIn_ready (rs := [56]) (by kernel_rfl) (by simp) ?_
    refine AllReadyIn.cons rfl (fun K hK => ?_) AllReadyIn.nil
    go_simp
    refine hK _ _ ?_; clear hK K
    exact it_b6 h hJ (by kernel_rfl)
set_option maxRecDepth 100000 in
set_option maxHeartbeats 4000000 in
theorem it_nb5 (h : ItC n l g1 g2 B J Jx Q) {x3 x4 x5 x6 x7 x8 x9 x10 x11 x12 x13 x14 x15 x16 x17 x18 x19 x20 x21 x22 x23 x24 x25 x26 x27 x28 x29 x30 x31 x32 x33 x34 x35 x36 x37 x38 x39 x40 x41 x43 x44 x45 x46 x47 x48 x49 x50 x51 x52 x53 x54 x55 x56 x57 x58 x59 x60 x61 x62 x63 x64 x65 x66 x67 x68 x69 x70 x71 x72 x73 x74 x75 x76 x77 x78 x79 x80 x81 x82 x83 x84 x85 x86 x87 x88 x89 x90 x91 x92 x93 x94 x95 x96 x97 x98 x99 x100 x101 x102 x103 x104 x105 x106 x107 x108 x109 x110 x111 x112 x113 x114 x115 x116 : Value} {W : World} (hJ2 : Jx W) {L : Array Bool} (hL : L = #[true, true, true, true, true, true, true, true, true, true, true, true, true, true, true, true, true, true, true, true, true, true, true, true, true, true, true, true, true, true, true, true, true, true, true, true, true, true, true, true, true, true, true, true, true, true, true, true, false, false, false, false, false, false, false, false, false, false, false, false, false, false, false, false, false, false, false, false, false, false, false, false, false, false, false, false, false, false, false, false, false, false, false, false, false, false, false, false, false, false, false, false, false, false, false, false, false, false, false, false, false, false, false, false, false, false, false, false, false, false, false, false, false]) :
    wpAnyIn Fence.wide n Tryd.prog .any ops36 Q 65 L { tmps := #[.func (.yield l) #[] #[], .pointer (some ⟨g1, 0, none⟩), .pointer (some ⟨g2, 0, none⟩), x3, x4, x5, x6, x7, x8, x9, x10, x11, x12, x13, x14, x15, x16, x17, x18, x19, x20, x21, x22, x23, x24, x25, x26, x27, x28, x29, x30, x31, x32, x33, x34, x35, x36, x37, x38, x39, x40, x41, .bool false, x43, x44, x45, x46, x47, x48, x49, x50, x51, x52, x53, x54, x55, x56, x57, x58, x59, x60, x61, x62, x63, x64, x65, x66, x67, x68, x69, x70, x71, x72, x73, x74, x75, x76, x77, x78, x79, x80, x81, x82, x83, x84, x85, x86, x87, x88, x89, x90, x91, x92, x93, x94, x95, x96, x97, x98, x99, x100, x101, x102, x103, x104, x105, x106, x107, x108, x109, x110, x111, x112, x113, x114, x115, x116], defers := [] } W := by
  subst hL
  unfold ops36 opsOf Tryd.f36
  dsimp only []
  refine wpAnyIn_ready (rs := [48]) (by kernel_rfl) (by simp) ?_
  refine AllReadyIn.cons rfl (fun K hK => ?_) AllReadyIn.nil
  go_simp
  refine hK _ _ ?_; clear hK K
  refine wpAnyIn_ready (rs := [49]) (by kernel_rfl) (by simp) ?_
  refine AllReadyIn.cons rfl (fun K hK => ?_) AllReadyIn.nil
  go_simp
  refine ⟨(by first | exact trivial | exact fun _ _ => trivial), hK _ _ ?_⟩; clear hK K
  refine wpAnyIn_ready (rs := [50]) (by kernel_rfl) (by simp) ?_
  refine AllReadyIn.cons rfl (fun K hK => ?_) AllReadyIn.nil
  go_simp
  refine hK _ _ ?_; clear hK K
  refine wpAnyIn_ready (rs := [51]) (by kernel_rfl) (by simp) ?_
  refine AllReadyIn.cons rfl (fun K hK => ?_) AllReadyIn.nil
  go_simp
  refine hK _ _ ?_; clear hK K
  exact it_no6 h hJ2 (by kernel_rfl)
set_option maxRecDepth 100000 in
set_option maxHeartbeats 4000000 in
theorem it_no5 (h : ItC n l g1 g2 B J Jx Q) {x3 x4 x5 x6 x7 x8 x9 x10 x11 x12 x13 x14 x15 x16 x17 x18 x19 x20 x21 x22 x23 x24 x25 x26 x27 x28 x29 x30 x31 x32 x33 x34 x35 x36 x37 x38 x39 x40 x41 x43 x44 x45 x46 x47 x48 x49 x50 x51 x52 x53 x54 x55 x56 x57 x58 x59 x60 x61 x62 x63 x64 x65 x66 x67 x68 x69 x70 x71 x72 x73 x74 x75 x76 x77 x78 x79 x80 x81 x82 x83 x84 x85 x86 x87 x88 x89 x90 x91 x92 x93 x94 x95 x96 x97 x98 x99 x100 x101 x102 x103 x104 x105 x106 x107 x108 x109 x110 x111 x112 x113 x114 x115 x116 : Value} {W : World} (hJ2 : Jx W) {L : Array Bool} (hL : L = #[true, true, true, true, true, true, true, true, true, true, true, true, true, true, true, true, true, true, true, true, true, true, true, true, true, true, true, true, true, true, true, true, true, true, true, true, true, true, true, false, false, false, false, false, false, false, false, false, false, false, false, false, false, false, false, false, false, false, false, false, false, false, false, false, false, false, false, false, false, false, false, false, false, false, false, false, false, false, false, false, false, false, false, false, false, false, false, false, false, false, false, false, false, false, false, false, false, false, false, false, false, false, false, false, false, false, false, false, false, false, false, false, false]) :
    wpAnyIn Fence.wide n Tryd.prog .any ops36 Q 74 L { tmps := #[.func (.yield l) #[] #[], .pointer (some ⟨g1, 0, none⟩), .pointer (some ⟨g2, 0, none⟩), x3, x4, x5, x6, x7, x8, x9, x10, x11, x12, x13, x14, x15, x16, x17, x18, x19, x20, x21, x22, x23, x24, x25, x26, x27, x28, x29, x30, x31, x32, x33, x34, x35, x36, x37, x38, x39, x40, x41, .bool false, x43, x44, x45, x46, x47, x48, x49, x50, x51, x52, x53, x54, x55, x56, x57, x58, x59, x60, x61, x62, x63, x64, x65, x66, x67, x68, x69, x70, x71, x72, x73, x74, x75, x76, x77, x78, x79, x80, x81, x82, x83, x84, x85, x86, x87, x88, x89, x90, x91, x92, x93, x94, x95, x96, x97, x98, x99, x100, x101, x102, x103, x104, x105, x106, x107, x108, x109, x110, x111, x112, x113, x114, x115, x116], defers := [] } W := by
  subst hL
  unfold ops36 opsOf Tryd.f36
  dsimp only []
  refine wpAnyIn_take (i := 39) (v := undef) rfl rfl (by kernel_rfl) (by kernel_rfl) (by kernel_rfl) (fun c a w hq => h.hQp _ _ _ _ _ hq) ⟨Or.inr ⟨rfl, rfl⟩, fun _ => rfl⟩ ?_
  refine wpAnyIn_ready (rs := [40, 44]) (by kernel_rfl) (by simp) ?_
  refine AllReadyIn.cons rfl (fun K hK => ?_) ?_
  · go_simp
    refine hK _ _ ?_; clear hK K
    refine wpAnyIn_take (i := 41) (v := undef) rfl rfl (by kernel_rfl) (by kernel_rfl) (by kernel_rfl) (fun c a w hq => h.hQp _ _ _ _ _ hq) ⟨Or.inr ⟨rfl, rfl⟩, fun _ => rfl⟩ ?_
    refine wpAnyIn_take (i := 42) (v := undef) rfl rfl (by kernel_rfl) (by kernel_rfl) (by kernel_rfl) (fun c a w hq => h.hQp _ _ _ _ _ hq) ⟨Or.inr ⟨rfl, rfl⟩, fun _ => rfl⟩ ?_
    refine wpAnyIn_take (i := 43) (v := undef) rfl rfl (by kernel_rfl) (by kernel_rfl) (by kernel_rfl) (fun c a w hq => h.hQp _ _ _ _ _ hq) ⟨Or.inr ⟨rfl, rfl⟩, fun _ => rfl⟩ ?_
    refine wpAnyIn_ready (rs := [44]) (by kernel_rfl) (by simp) ?_
    refine AllReadyIn.cons rfl (fun K hK => ?_) AllReadyIn.nil
    go_simp
    refine hK _ _ ?_; clear hK K
    refine wpAnyIn_ready (rs := [45]) (by kernel_rfl) (by simp) ?_
    refine AllReadyIn.cons rfl (fun K hK => ?_) AllReadyIn.nil
    go_simp
    refine hK _ _ ?_; clear hK K
    refine wpAnyIn_ready (rs := [46]) (by kernel_rfl) (by simp) ?_
    refine AllReadyIn.cons rfl (fun K hK => ?_) AllReadyIn.nil
    go_simp
    refine hK _ _ ?_; clear hK K
    refine wpAnyIn_ready (rs := [47]) (by kernel_rfl) (by simp) ?_
    refine AllReadyIn.cons rfl (fun K hK => ?_) AllReadyIn.nil
    go_simp
    refine hK _ _ ?_; clear hK K
    exact it_nb5 h hJ2 (by kernel_rfl)
  refine AllReadyIn.cons rfl (fun K hK => ?_) AllReadyIn.nil
  · go_simp
    refine hK _ _ ?_; clear hK K
    refine wpAnyIn_take (i := 45) (v := undef) rfl rfl (by kernel_rfl) (by kernel_rfl) (by kernel_rfl) (fun c a w hq => h.hQp _ _ _ _ _ hq) ⟨Or.inr ⟨rfl, rfl⟩, fun _ => rfl⟩ ?_
    refine wpAnyIn_take (i := 46) (v := undef) rfl rfl (by kernel_rfl) (by kernel_rfl) (by kernel_rfl) (fun c a w hq => h.hQp _ _ _ _ _ hq) ⟨Or.inr ⟨rfl, rfl⟩, fun _ => rfl⟩ ?_
    refine wpAnyIn_take (i := 47) (v := undef) rfl rfl (by kernel_rfl) (by kernel_rfl) (by kernel_rfl) (fun c a w hq => h.hQp _ _ _ _ _ hq) ⟨Or.inr ⟨rfl, rfl⟩, fun _ => rfl⟩ ?_
    refine wpAnyIn_ready (rs := [40]) (by kernel_rfl) (by simp) ?_
    refine AllReadyIn.cons rfl (fun K hK => ?_) AllReadyIn.nil
    go_simp
    refine hK _ _ ?_; clear hK K
    refine wpAnyIn_ready (rs := [41]) (by kernel_rfl) (by simp) ?_
    refine AllReadyIn.cons rfl (fun K hK => ?_) AllReadyIn.nil
    go_simp
    refine hK _ _ ?_; clear hK K
    refine wpAnyIn_ready (rs := [42]) (by kernel_rfl) (by simp) ?_
    refine AllReadyIn.cons rfl (fun K hK => ?_) AllReadyIn.nil
    go_simp
    refine hK _ _ ?_; clear hK K
    refine wpAnyIn_ready (rs := [43]) (by kernel_rfl) (by simp) ?_
    refine AllReadyIn.cons rfl (fun K hK => ?_) AllReadyIn.nil
    go_simp
    refine hK _ _ ?_; clear hK K
    exact it_nb5 h hJ2 (by kernel_rfl)
set_option maxRecDepth 100000 in
set_option maxHeartbeats 4000000 in
theorem it_b5 (h : ItC n l g1 g2 B J Jx Q) {x3 x4 x5 x6 x7 x8 x9 x10 x11 x12 x13 x14 x15 x16 x17 x18 x19 x20 x21 x22 x23 x24 x25 x26 x27 x28 x29 x30 x31 x32 x33 x34 x35 x36 x37 x38 x39 x40 x41 x44 x45 x46 x48 x49 x50 x52 x53 x54 x55 x56 x57 x58 x59 x60 x61 x62 x63 x64 x65 x66 x67 x68 x69 x70 x71 x72 x73 x74 x75 x76 x77 x78 x79 x80 x81 x82 x83 x84 x85 x86 x87 x88 x89 x90 x91 x92 x93 x94 x95 x96 x97 x98 x99 x100 x101 x102 x103 x104 x105 x106 x107 x108 x109 x110 x111 x112 x113 x114 x115 x116 : Value} {W : World} (hJ : J 5 W) {L : Array Bool} (hL : L = #[true, true, true, true, true, true, true, true, true, true, true, true, true, true, true, true, true, true, true, true, true, true, true, true, true, true, true, true, true, true, true, true, true, true, true, true, true, true, true, true, true, true, true, true, true, true, true, true, false, false, false, false, false, false, false, false, false, false, false, false, false, false, false, false, false, false, false, false, false, false, false, false, false, false, false, false, false, false, false, false, false, false, false, false, false, false, false, false, false, false, false, false, false, false, false, false, false, false, false, false, false, false, false, false, false, false, false, false, false, false, false, false, false]) :
    wpAnyIn Fence.wide n Tryd.prog .any ops36 Q 65 L { tmps := #[.func (.yield l) #[] #[], .pointer (some ⟨g1, 0, none⟩), .pointer (some ⟨g2, 0, none⟩), x3, x4, x5, x6, x7, x8, x9, x10, x11, x12, x13, x14, x15, x16, x17, x18, x19, x20, x21, x22, x23, x24, x25, x26, x27, x28, x29, x30, x31, x32, x33, x34, x35, x36, x37, x38, x39, x40, x41, .bool true, .func (.yield l) #[] #[], x44, x45, x46, .pointer (some ⟨B, 0, none⟩), x48, x49, x50, .pointer (some ⟨B, 1, none⟩), x52, x53, x54, x55, x56, x57, x58, x59, x60, x61, x62, x63, x64, x65, x66, x67, x68, x69, x70, x71, x72, x73, x74, x75, x76, x77, x78, x79, x80, x81, x82, x83, x84, x85, x86, x87, x88, x89, x90, x91, x92, x93, x94, x95, x96, x97, x98, x99, x100, x101, x102, x103, x104, x105, x106, x107, x108, x109, x110, x111, x112, x113, x114, x115, x116], defers := [] } W := by
  subst hL
  obtain ⟨k1, k2, hlt⟩ := h.hH _ _ hJ
  unfold ops36 opsOf Tryd.f36
  dsimp only []
  refine wpAnyIn_ready (rs := [48]) (by kernel_rfl) (by simp) ?_
  refine AllReadyIn.cons rfl (fun K hK => ?_) AllReadyIn.nil
  go_simp
  refine hK _ _ ?_; clear hK K
  have hJ1 := h.hJ _ _ _ hJ (((Below.refl _ W).alloc1 (.cells #[.pointer (some ⟨B, 0, none⟩), .pointer (some ⟨B, 1, none⟩)] 69)))
  obtain ⟨fn, tmps, assign, body, hy, hR⟩ := h.hY 5 _ _ (by decide) hJ1 ⟨_, _, rfl, Nat.le_refl _, (Bk.new W 69 [.pointer (some ⟨B, 0, none⟩), .pointer (some ⟨B, 1, none⟩)]).rd, fun ad e => by cases e; simp; omega⟩
  clear hJ
  refine wpAnyIn_ready (rs := [49]) (by kernel_rfl) (by simp) ?_
  refine AllReadyIn.cons rfl (fun K hK => ?_) AllReadyIn.nil
  simp only [keyB, cntN] at hy
  go_simp
  refine ⟨(fun h => by cases h), hR.mono ?_⟩
  rintro e w2 (⟨rfl, hJ2⟩ | ⟨rfl, hJ2⟩)
  · refine hK _ _ ?_; clear hK K hR hy
    refine wpAnyIn_ready (rs := [50]) (by kernel_rfl) (by simp) ?_
    refine AllReadyIn.cons rfl (fun K hK => ?_) AllReadyIn.nil
    go_simp
    refine hK _ _ ?_; clear hK K
    refine wpAnyIn_ready (rs := [51]) (by kernel_rfl) (by simp) ?_
    refine AllReadyIn.cons rfl (fun K hK => ?_) AllReadyIn.nil
    go_simp
    refine hK _ _ ?_; clear hK K
    exact it_go6 h hJ2 (by kernel_rfl)
  · refine hK _ _ ?_; clear hK K hR hy
    refine wpAnyIn_ready (rs := [50]) (by kernel_rfl) (by simp) ?_
    refine AllReadyIn.cons rfl (fun K hK => ?_) AllReadyIn.nil
    go_simp
    refine hK _ _ ?_; clear hK K
    refine wpAnyIn_ready (rs := [51]) (by kernel_rfl) (by simp) ?_
    refine AllReadyIn.cons rfl (fun K hK => ?_) AllReadyIn.nil
    go_simp
    refine hK _ _ ?_; clear hK K
    exact it_no6 h hJ2 (by kernel_rfl)
set_option maxRecDepth 100000 in
set_option maxHeartbeats 4000000 in
theorem it_go5 (h : ItC n l g1 g2 B J Jx Q) {x3 x4 x5 x6 x7 x8 x9 x10 x11 x12 x13 x14 x15 x16 x17 x18 x19 x20 x21 x22 x23 x24 x25 x26 x27 x28 x29 x30 x31 x32 x33 x34 x35 x36 x37 x38 x39 x40 x41 x43 x44 x45 x46 x47 x48 x49 x50 x51 x52 x53 x54 x55 x56 x57 x58 x59 x60 x61 x62 x63 x64 x65 x66 x67 x68 x69 x70 x71 x72 x73 x74 x75 x76 x77 x78 x79 x80 x81 x82 x83 x84 x85 x86 x87 x88 x89 x90 x91 x92 x93 x94 x95 x96 x97 x98 x99 x100 x101 x102 x103 x104 x105 x106 x107 x108 x109 x110 x111 x112 x113 x114 x115 x116 : Value} {W : World} (hJ : J 5 W) {L : Array Bool} (hL : L = #[true, true, true, true, true, true, true, true, true, true, true, true, true, true, true, true, true, true, true, true, true, true, true, true, true, true, true, true, true, true, true, true, true, true, true, true, true, true, true, false, false, false, false, false, false, false, false, false, false, false, false, false, false, false, false, false, false, false, false, false, false, false, false, false, false, false, false, false, false, false, false, false, false, false, false, false, false, false, false, false, false, false, false, false, false, false, false, false, false, false, false, false, false, false, false, false, false, false, false, false, false, false, false, false, false, false, false, false, false, false, false, false, false]) :
    wpAnyIn Fence.wide n Tryd.prog .any ops36 Q 74 L { tmps := #[.func (.yield l) #[] #[], .pointer (some ⟨g1, 0, none⟩), .pointer (some ⟨g2, 0, none⟩), x3, x4, x5, x6, x7, x8, x9, x10, x11, x12, x13, x14, x15, x16, x17, x18, x19, x20, x21, x22, x23, x24, x25, x26, x27, x28, x29, x30, x31, x32, x33, x34, x35, x36, x37, x38, x39, x40, x41, .bool true, x43, x44, x45, x46, x47, x48, x49, x50, x51, x52, x53, x54, x55, x56, x57, x58, x59, x60, x61, x62, x63, x64, x65, x66, x67, x68, x69, x70, x71, x72, x73, x74, x75, x76, x77, x78, x79, x80, x81, x82, x83, x84, x85, x86, x87, x88, x89, x90, x91, x92, x93, x94, x95, x96, x97, x98, x99, x100, x101, x102, x103, x104, x105, x106, x107, x108, x109, x110, x111, x112, x113, x114, x115, x116], defers := [] } W := by
  subst hL
  obtain ⟨k1, k2, hlt⟩ := h.hH _ _ hJ
  have k1_0 := k1.cell 0; have k1_f0 := k1.frozen 0; simp only [List.set_cons_zero, List.set_cons_succ, List.getElem?_cons_zero, List.getElem?_cons_succ] at k1_0; have lt_k1 := k1.lt; have k2_0 := k2.cell 0; have k2_f0 := k2.frozen 0; simp only [List.set_cons_zero, List.set_cons_succ, List.getElem?_cons_zero, List.getElem?_cons_succ] at k2_0; have lt_k2 := k2.lt
  unfold ops36 opsOf Tryd.f36
  dsimp only []
  refine wpAnyIn_take (i := 39) (v := ?v32) rfl rfl (by kernel_rfl) (by kernel_rfl) (by kernel_rfl) (fun c a w hq => h.hQp _ _ _ _ _ hq) ⟨Or.inl ⟨by rfl, ?_⟩, fun _ => rfl⟩ ?_
  case refine_1 => (intro w; go_simp; try with_reducible rfl)
  refine wpAnyIn_ready (rs := [40, 44]) (by kernel_rfl) (by simp) ?_
  refine AllReadyIn.cons rfl (fun K hK => ?_) ?_
  · go_simp
    refine hK _ _ ?_; clear hK K
    refine wpAnyIn_take (i := 41) (v := ?v33) rfl rfl (by kernel_rfl) (by kernel_rfl) (by kernel_rfl) (fun c a w hq => h.hQp _ _ _ _ _ hq) ⟨Or.inl ⟨by rfl, ?_⟩, fun _ => rfl⟩ ?_
    case refine_1 => (intro w; go_simp; try with_reducible rfl)
    refine wpAnyIn_take (i := 42) (v := ?v34) rfl rfl (by kernel_rfl) (by kernel_rfl) (by kernel_rfl) (fun c a w hq => h.hQp _ _ _ _ _ hq) ⟨Or.inl ⟨by rfl, ?_⟩, fun _ => rfl⟩ ?_
    case refine_1 => (intro w; go_simp; try with_reducible rfl)
    refine wpAnyIn_take (i := 43) (v := ?v35) rfl rfl (by kernel_rfl) (by kernel_rfl) (by kernel_rfl) (fun c a w hq => h.hQp _ _ _ _ _ hq) ⟨Or.inl ⟨by rfl, ?_⟩, fun _ => rfl⟩ ?_
    case refine_1 => (intro w; go_simp; try with_reducible rfl)
    refine wpAnyIn_ready (rs := [44]) (by kernel_rfl) (by simp) ?_
    refine AllReadyIn.cons rfl (fun K hK => ?_) AllReadyIn.nil
    go_simp
    refine hK _ _ ?_; clear hK K
    refine wpAnyIn_ready (rs := [45]) (by kernel_rfl) (by simp) ?_
    refine AllReadyIn.cons rfl (fun K hK => ?_) AllReadyIn.nil
    go_simp
    refine hK _ _ ?_; clear hK K
    refine wpAnyIn_ready (rs := [46]) (by kernel_rfl) (by simp) ?_
    refine AllReadyIn.cons rfl (fun K hK => ?_) AllReadyIn.nil
    go_simp
    refine hK _ _ ?_; clear hK K
    refine wpAnyIn_ready (rs := [47]) (by kernel_rfl) (by simp) ?_
    refine AllReadyIn.cons rfl (fun K hK => ?_) AllReadyIn.nil
    go_simp
    refine hK _ _ ?_; clear hK K
    exact it_b5 h hJ (by kernel_rfl)
  refine AllReadyIn.cons rfl (fun K hK => ?_) AllReadyIn.nil
  · go_simp
    refine hK _ _ ?_; clear hK K
    refine wpAnyIn_take (i := 45) (v := ?v36) rfl rfl (by kernel_rfl) (by kernel_rfl) (by kernel_rfl) (fun c a w hq => h.hQp _ _ _ _ _ hq) ⟨Or.inl ⟨by rfl, ?_⟩, fun _ => rfl⟩ ?_
    case refine_1 => (intro w; go_simp; try with_reducible rfl)
    refine wpAnyIn_take (i := 46) (v := ?v37) rfl rfl (by kernel_rfl) (by kernel_rfl) (by kernel_rfl) (fun c a w hq => h.hQp _ _ _ _ _ hq) ⟨Or.inl ⟨by rfl, ?_⟩, fun _ => rfl⟩ ?_
    case refine_1 => (intro w; go_simp; try with_reducible rfl)
    refine wpAnyIn_take (i := 47) (v := ?v38) rfl rfl (by kernel_rfl) (by kernel_rfl) (by kernel_rfl) (fun c a w hq => h.hQp _ _ _ _ _ hq) ⟨Or.inl ⟨by rfl, ?_⟩, fun _ => rfl⟩ ?_
    case refine_1 => (intro w; go_simp; try with_reducible rfl)
    refine wpAnyIn_ready (rs := [40]) (by kernel_rfl) (by simp) ?_
    refine AllReadyIn.cons rfl (fun K hK => ?_) AllReadyIn.nil
    go_simp
    refine hK _ _ ?_; clear hK K
    refine wpAnyIn_ready (rs := [41]) (by kernel_rfl) (by simp) ?_
    refine AllReadyIn.cons rfl (fun K hK => ?_) AllReadyIn.nil
    go_simp
    refine hK _ _ ?_; clear hK K
    refine wpAnyIn_ready (rs := [42]) (by kernel_rfl) (by simp) ?_
    refine AllReadyIn.cons rfl (fun K hK => ?_) AllReadyIn.nil
    go_simp
    refine hK _ _ ?_; clear hK K
    refine wpAnyIn_ready (rs := [43]) (by kernel_rfl) (by simp) ?_
    refine AllReadyIn.cons rfl (fun K hK => ?_) AllReadyIn.nil
    go_simp
    refine hK _ _ ?_; clear hK K
    exact it_b5 h hJ (by kernel_rfl)
end Go.Proofs.YtfbllioegeadfaaDoor
