/- Package config: the iterator over a config's fields: one region that draws its order, with twelve yields: walked in twelve pieces, from the last one. (Printed by gen32i.py.) -/
import Derived.Test.YtfbllioegeadfaaDoorCf3
import Derived.Test.YtfbllioegeadfaaDoorCfR
namespace Go.Proofs.YtfbllioegeadfaaDoor
open Go.RowKit Go.Shelf
attribute [local go_sem] Oper.semAt_some
set_option linter.unusedSimpArgs false
set_option linter.unusedVariables false

def keyB : Nat → ByteArray
  | 0 => ⟨#[99, 101, 108, 108, 115]⟩
  | 1 => ⟨#[113, 117, 97, 110, 116, 117, 109]⟩
  | 2 => ⟨#[116, 111, 116, 97, 108]⟩
  | 3 => ⟨#[98, 97, 116, 99, 104]⟩
  | 4 => ⟨#[99, 114, 101, 100, 105, 116]⟩
  | 5 => ⟨#[97, 108, 108]⟩
  | 6 => ⟨#[101, 97, 99, 104]⟩
  | 7 => ⟨#[117, 112]⟩
  | 8 => ⟨#[100, 111, 119, 110]⟩
  | 9 => ⟨#[104, 111, 108, 100]⟩
  | 10 => ⟨#[108, 111]⟩
  | _ => ⟨#[104, 105]⟩
def offN : Nat → Nat
  | 0 => 19
  | 1 => 20
  | 2 => 21
  | 3 => 22
  | 4 => 23
  | 5 => 0
  | 6 => 2
  | 7 => 4
  | 8 => 7
  | 9 => 10
  | 10 => 11
  | _ => 15
def cntN : Nat → Nat
  | 0 => 1
  | 1 => 1
  | 2 => 1
  | 3 => 1
  | 4 => 1
  | 5 => 2
  | 6 => 2
  | 7 => 3
  | 8 => 3
  | 9 => 1
  | 10 => 4
  | _ => 4
/-- what the iterator reads: its two captured cells -/
structure Hd32 (g1 g2 B : Nat) (W : World) : Prop where
  k1 : Bk W g1 76 [.pointer (some ⟨B, 0, none⟩)]
  k2 : Bk W g2 87 [.pointer (some ⟨B, 0, none⟩)]
  lt : B < W.heap.size
/-- what is yielded in round s -/
def En32 (B s : Nat) (W : World) (vs : Array Value) : Prop := ∃ A c, vs = #[.string (keyB s), .slice A (cntN s) c] ∧ cntN s ≤ c ∧ Rd W W.heap.size A (ptrs B (offN s) (cntN s)) ∧ ∀ ad, A = some ad → ad.block ≠ B
def opsOf (f : Func) : Array Oper := match f.body with
  | some (.region _ o _) => o
  | _ => #[]
noncomputable def ops36 : Array Oper := opsOf Tryd.f36
structure ItC (n l g1 g2 B : Nat) (J : Nat → World → Prop) (Jx : World → Prop) (Q : Exit → Act → World → Prop) : Prop where
  hJ : ∀ s W1 W2, J s W1 → Below W1.heap.size W1 W2 → J s W2
  hH : ∀ s W1, J s W1 → Hd32 g1 g2 B W1
  hY : ∀ s vs W1, s < 12 → J s W1 → En32 B s W1 vs → YieldAt Fence.wide (n - 1) Tryd.prog l vs W1 fun e W' => (e = .returned (.bool true) ∧ J (s + 1) W') ∨ (e = .returned (.bool false) ∧ Jx W')
  hQ : ∀ a W, a.defers = [] → (J 12 W ∨ Jx W) → Q .normal a W
  hQp : ∀ c a o v w, Q (.panic c) (Act.put a o v) w → Q (.panic c) a w
variable {n l g1 g2 B : Nat} {J : Nat → World → Prop} {Jx : World → Prop} {Q : Exit → Act → World → Prop}
set_option maxRecDepth 100000 in
set_option maxHeartbeats 4000000 in
theorem it_no11 (h : ItC n l g1 g2 B J Jx Q) {x3 x4 x5 x6 x7 x8 x9 x10 x11 x12 x13 x14 x15 x16 x17 x18 x19 x20 x21 x22 x23 x24 x25 x26 x27 x28 x29 x30 x31 x32 x33 x34 x35 x36 x37 x38 x39 x40 x41 x42 x43 x44 x45 x46 x47 x48 x49 x50 x51 x52 x53 x54 x55 x56 x57 x58 x59 x60 x61 x62 x63 x64 x65 x66 x67 x68 x69 x70 x71 x72 x73 x74 x75 x76 x77 x78 x79 x80 x81 x82 x83 x84 x85 x86 x87 x88 x89 x90 x91 x92 x93 x94 x95 x96 x97 x98 x99 x100 x101 x102 x103 x104 x105 x106 x108 x109 x110 x111 x112 x113 x114 x115 x116 : Value} {W : World} (hJ2 : Jx W) {L : Array Bool} (hL : L = #[true, true, true, true, true, true, true, true, true, true, true, true, true, true, true, true, true, true, true, true, true, true, true, true, true, true, true, true, true, true, true, true, true, true, true, true, true, true, true, true, true, true, true, true, true, true, true, true, true, true, true, true, true, true, true, true, true, true, true, true, true, true, true, true, true, true, true, true, true, true, true, true, true, true, true, true, true, true, true, true, true, true, true, true, true, true, true, true, true, true, true, true, true, true, true, true, true, true, true, true, true, true, true, true, false, false, false, false, false, false, false, false, false]) :
    wpAnyIn Fence.wide n Tryd.prog .any ops36 Q 9 L { tmps := #[.func (.yield l) #[] #[], .pointer (some ⟨g1, 0, none⟩), .pointer (some ⟨g2, 0, none⟩), x3, x4, x5, x6, x7, x8, x9, x10, x11, x12, x13, x14, x15, x16, x17, x18, x19, x20, x21, x22, x23, x24, x25, x26, x27, x28, x29, x30, x31, x32, x33, x34, x35, x36, x37, x38, x39, x40, x41, x42, x43, x44, x45, x46, x47, x48, x49, x50, x51, x52, x53, x54, x55, x56, x57, x58, x59, x60, x61, x62, x63, x64, x65, x66, x67, x68, x69, x70, x71, x72, x73, x74, x75, x76, x77, x78, x79, x80, x81, x82, x83, x84, x85, x86, x87, x88, x89, x90, x91, x92, x93, x94, x95, x96, x97, x98, x99, x100, x101, x102, x103, x104, x105, x106, .bool false, x108, x109, x110, x111, x112, x113, x114, x115, x116], defers := [] } W := by
  subst hL
  unfold ops36 opsOf Tryd.f36
  dsimp only []
  refine wpAnyIn_take (i := 104) (v := undef) rfl rfl (by kernel_rfl) (by kernel_rfl) (by kernel_rfl) (fun c a w hq => h.hQp _ _ _ _ _ hq) ⟨Or.inr ⟨rfl, rfl⟩, fun _ => rfl⟩ ?_
  refine wpAnyIn_ready (rs := [105]) (by kernel_rfl) (by simp) ?_
  refine AllReadyIn.cons rfl (fun K hK => ?_) AllReadyIn.nil
  go_simp
  refine hK _ _ ?_; clear hK K
  refine wpAnyIn_ready (rs := [106]) (by kernel_rfl) (by simp) ?_
  refine AllReadyIn.cons rfl (fun K hK => ?_) AllReadyIn.nil
  go_simp
  refine hK _ _ ?_; clear hK K
  refine wpAnyIn_ready (rs := [107]) (by kernel_rfl) (by simp) ?_
  refine AllReadyIn.cons rfl (fun K hK => ?_) AllReadyIn.nil
  go_simp
  refine hK _ _ ?_; clear hK K
  refine wpAnyIn_ready (rs := [108]) (by kernel_rfl) (by simp) ?_
  refine AllReadyIn.cons rfl (fun K hK => ?_) AllReadyIn.nil
  go_simp
  refine hK _ _ ?_; clear hK K
  refine wpAnyIn_ready (rs := [109]) (by kernel_rfl) (by simp) ?_
  refine AllReadyIn.cons rfl (fun K hK => ?_) AllReadyIn.nil
  go_simp
  refine hK _ _ ?_; clear hK K
  refine wpAnyIn_ready (rs := [110]) (by kernel_rfl) (by simp) ?_
  refine AllReadyIn.cons rfl (fun K hK => ?_) AllReadyIn.nil
  go_simp
  refine ⟨(by first | exact trivial | exact fun _ _ => trivial), hK _ _ ?_⟩; clear hK K
  refine wpAnyIn_ready (rs := [111]) (by kernel_rfl) (by simp) ?_
  refine AllReadyIn.cons rfl (fun K hK => ?_) AllReadyIn.nil
  go_simp
  refine ⟨(by first | exact trivial | exact fun _ _ => trivial), hK _ _ ?_⟩; clear hK K
  refine wpAnyIn_ready (rs := [112]) (by kernel_rfl) (by simp) ?_
  refine AllReadyIn.cons rfl (fun K hK => ?_) AllReadyIn.nil
  go_simp
  refine hK _ _ ?_; clear hK K
  refine wpAnyIn_done (by kernel_rfl) ?_ _
  exact h.hQ _ _ rfl (Or.inr hJ2)
set_option maxRecDepth 100000 in
set_option maxHeartbeats 4000000 in
theorem it_go11 (h : ItC n l g1 g2 B J Jx Q) {x3 x4 x5 x6 x7 x8 x9 x10 x11 x12 x13 x14 x15 x16 x17 x18 x19 x20 x21 x22 x23 x24 x25 x26 x27 x28 x29 x30 x31 x32 x33 x34 x35 x36 x37 x38 x39 x40 x41 x42 x43 x44 x45 x46 x47 x48 x49 x50 x51 x52 x53 x54 x55 x56 x57 x58 x59 x60 x61 x62 x63 x64 x65 x66 x67 x68 x69 x70 x71 x72 x73 x74 x75 x76 x77 x78 x79 x80 x81 x82 x83 x84 x85 x86 x87 x88 x89 x90 x91 x92 x93 x94 x95 x96 x97 x98 x99 x100 x101 x102 x103 x104 x105 x106 x108 x109 x110 x111 x112 x113 x114 x115 x116 : Value} {W : World} (hJ : J 11 W) {L : Array Bool} (hL : L = #[true, true, true, true, true, true, true, true, true, true, true, true, true, true, true, true, true, true, true, true, true, true, true, true, true, true, true, true, true, true, true, true, true, true, true, true, true, true, true, true, true, true, true, true, true, true, true, true, true, true, true, true, true, true, true, true, true, true, true, true, true, true, true, true, true, true, true, true, true, true, true, true, true, true, true, true, true, true, true, true, true, true, true, true, true, true, true, true, true, true, true, true, true, true, true, true, true, true, true, true, true, true, true, true, false, false, false, false, false, false, false, false, false]) :
    wpAnyIn Fence.wide n Tryd.prog .any ops36 Q 9 L { tmps := #[.func (.yield l) #[] #[], .pointer (some ⟨g1, 0, none⟩), .pointer (some ⟨g2, 0, none⟩), x3, x4, x5, x6, x7, x8, x9, x10, x11, x12, x13, x14, x15, x16, x17, x18, x19, x20, x21, x22, x23, x24, x25, x26, x27, x28, x29, x30, x31, x32, x33, x34, x35, x36, x37, x38, x39, x40, x41, x42, x43, x44, x45, x46, x47, x48, x49, x50, x51, x52, x53, x54, x55, x56, x57, x58, x59, x60, x61, x62, x63, x64, x65, x66, x67, x68, x69, x70, x71, x72, x73, x74, x75, x76, x77, x78, x79, x80, x81, x82, x83, x84, x85, x86, x87, x88, x89, x90, x91, x92, x93, x94, x95, x96, x97, x98, x99, x100, x101, x102, x103, x104, x105, x106, .bool true, x108, x109, x110, x111, x112, x113, x114, x115, x116], defers := [] } W := by
  subst hL
  obtain ⟨k1, k2, hlt⟩ := h.hH _ _ hJ
  have k1_0 := k1.cell 0; have k1_f0 := k1.frozen 0; simp only [List.set_cons_zero, List.set_cons_succ, List.getElem?_cons_zero, List.getElem?_cons_succ] at k1_0; have lt_k1 := k1.lt; have k2_0 := k2.cell 0; have k2_f0 := k2.frozen 0; simp only [List.set_cons_zero, List.set_cons_succ, List.getElem?_cons_zero, List.getElem?_cons_succ] at k2_0; have lt_k2 := k2.lt
  unfold ops36 opsOf Tryd.f36
  dsimp only []
  refine wpAnyIn_take (i := 104) (v := ?v2) rfl rfl (by kernel_rfl) (by kernel_rfl) (by kernel_rfl) (fun c a w hq => h.hQp _ _ _ _ _ hq) ⟨Or.inl ⟨by rfl, ?_⟩, fun _ => rfl⟩ ?_
  case refine_1 => (intro w; go_simp; try with_reducible rfl)
  refine wpAnyIn_ready (rs := [105]) (by kernel_rfl) (by simp) ?_
  refine AllReadyIn.cons rfl (fun K hK => ?_) AllReadyIn.nil
  go_simp
  refine hK _ _ ?_; clear hK K
  refine wpAnyIn_ready (rs := [106]) (by kernel_rfl) (by simp) ?_
  refine AllReadyIn.cons rfl (fun K hK => ?_) AllReadyIn.nil
  go_simp
  refine hK _ _ ?_; clear hK K
  refine wpAnyIn_ready (rs := [107]) (by kernel_rfl) (by simp) ?_
  refine AllReadyIn.cons rfl (fun K hK => ?_) AllReadyIn.nil
  go_simp
  refine hK _ _ ?_; clear hK K
  refine wpAnyIn_ready (rs := [108]) (by kernel_rfl) (by simp) ?_
  refine AllReadyIn.cons rfl (fun K hK => ?_) AllReadyIn.nil
  go_simp
  refine hK _ _ ?_; clear hK K
  refine wpAnyIn_ready (rs := [109]) (by kernel_rfl) (by simp) ?_
  refine AllReadyIn.cons rfl (fun K hK => ?_) AllReadyIn.nil
  go_simp
  refine hK _ _ ?_; clear hK K
  refine wpAnyIn_ready (rs := [110]) (by kernel_rfl) (by simp) ?_
  refine AllReadyIn.cons rfl (fun K hK => ?_) AllReadyIn.nil
  go_simp
  refine ⟨trivial, (fun h => by cases h), ?_⟩
  refine (callsIn_wide.2 (config_places_any B 15 4 4 (by decide) (Nat.le_refl _) _)).mono ?_
  rintro e w1 ⟨A, d, rfl, hd, hrd, hfr, hb1⟩
  refine hK _ _ ?_
  clear hK K
  have hJ1 := h.hJ _ _ _ hJ hb1
  obtain ⟨fn, tmps, assign, body, hy, hR⟩ := h.hY 11 _ _ (by decide) hJ1 ⟨A, d, rfl, hd, hrd, fun ad e => by have := hfr ad e; omega⟩
  clear hJ
  refine wpAnyIn_ready (rs := [111]) (by kernel_rfl) (by simp) ?_
  refine AllReadyIn.cons rfl (fun K hK => ?_) AllReadyIn.nil
  simp only [keyB, cntN] at hy
  go_simp
  refine ⟨(fun h => by cases h), hR.mono ?_⟩
  rintro e w2 (⟨rfl, hJ2⟩ | ⟨rfl, hJ2⟩)
  · refine hK _ _ ?_; clear hK K hR hy
    refine wpAnyIn_ready (rs := [112]) (by kernel_rfl) (by simp) ?_
    refine AllReadyIn.cons rfl (fun K hK => ?_) AllReadyIn.nil
    go_simp
    refine hK _ _ ?_; clear hK K
    refine wpAnyIn_done (by kernel_rfl) ?_ _
    exact h.hQ _ _ rfl (Or.inl hJ2)
  · refine hK _ _ ?_; clear hK K hR hy
    refine wpAnyIn_ready (rs := [112]) (by kernel_rfl) (by simp) ?_
    refine AllReadyIn.cons rfl (fun K hK => ?_) AllReadyIn.nil
    go_simp
    refine hK _ _ ?_; clear hK K
    refine wpAnyIn_done (by kernel_rfl) ?_ _
    exact h.hQ _ _ rfl (Or.inr hJ2)
set_option maxRecDepth 100000 in
set_option maxHeartbeats 4000000 in
theorem it_no10 (h : ItC n l g1 g2 B J Jx Q) {x3 x4 x5 x6 x7 x8 x9 x10 x11 x12 x13 x14 x15 x16 x17 x18 x19 x20 x21 x22 x23 x24 x25 x26 x27 x28 x29 x30 x31 x32 x33 x34 x35 x36 x37 x38 x39 x40 x41 x42 x43 x44 x45 x46 x47 x48 x49 x50 x51 x52 x53 x54 x55 x56 x57 x58 x59 x60 x61 x62 x63 x64 x65 x66 x67 x68 x69 x70 x71 x72 x73 x74 x75 x76 x77 x78 x79 x80 x81 x82 x83 x84 x85 x86 x87 x88 x89 x90 x91 x92 x93 x94 x95 x96 x98 x99 x100 x101 x102 x103 x104 x105 x106 x107 x108 x109 x110 x111 x112 x113 x114 x115 x116 : Value} {W : World} (hJ2 : Jx W) {L : Array Bool} (hL : L = #[true, true, true, true, true, true, true, true, true, true, true, true, true, true, true, true, true, true, true, true, true, true, true, true, true, true, true, true, true, true, true, true, true, true, true, true, true, true, true, true, true, true, true, true, true, true, true, true, true, true, true, true, true, true, true, true, true, true, true, true, true, true, true, true, true, true, true, true, true, true, true, true, true, true, true, true, true, true, true, true, true, true, true, true, true, true, true, true, true, true, true, true, true, true, false, false, false, false, false, false, false, false, false, false, false, false, false, false, false, false, false, false, false]) :
    wpAnyIn Fence.wide n Tryd.prog .any ops36 Q 19 L { tmps := #[.func (.yield l) #[] #[], .pointer (some ⟨g1, 0, none⟩), .pointer (some ⟨g2, 0, none⟩), x3, x4, x5, x6, x7, x8, x9, x10, x11, x12, x13, x14, x15, x16, x17, x18, x19, x20, x21, x22, x23, x24, x25, x26, x27, x28, x29, x30, x31, x32, x33, x34, x35, x36, x37, x38, x39, x40, x41, x42, x43, x44, x45, x46, x47, x48, x49, x50, x51, x52, x53, x54, x55, x56, x57, x58, x59, x60, x61, x62, x63, x64, x65, x66, x67, x68, x69, x70, x71, x72, x73, x74, x75, x76, x77, x78, x79, x80, x81, x82, x83, x84, x85, x86, x87, x88, x89, x90, x91, x92, x93, x94, x95, x96, .bool false, x98, x99, x100, x101, x102, x103, x104, x105, x106, x107, x108, x109, x110, x111, x112, x113, x114, x115, x116], defers := [] } W := by
  subst hL
  unfold ops36 opsOf Tryd.f36
  dsimp only []
  refine wpAnyIn_take (i := 94) (v := undef) rfl rfl (by kernel_rfl) (by kernel_rfl) (by kernel_rfl) (fun c a w hq => h.hQp _ _ _ _ _ hq) ⟨Or.inr ⟨rfl, rfl⟩, fun _ => rfl⟩ ?_
  refine wpAnyIn_ready (rs := [95]) (by kernel_rfl) (by simp) ?_
  refine AllReadyIn.cons rfl (fun K hK => ?_) AllReadyIn.nil
  go_simp
  refine hK _ _ ?_; clear hK K
  refine wpAnyIn_ready (rs := [96]) (by kernel_rfl) (by simp) ?_
  refine AllReadyIn.cons rfl (fun K hK => ?_) AllReadyIn.nil
  go_simp
  refine hK _ _ ?_; clear hK K
  refine wpAnyIn_ready (rs := [97]) (by kernel_rfl) (by simp) ?_
  refine AllReadyIn.cons rfl (fun K hK => ?_) AllReadyIn.nil
  go_simp
  refine hK _ _ ?_; clear hK K
  refine wpAnyIn_ready (rs := [98]) (by kernel_rfl) (by simp) ?_
  refine AllReadyIn.cons rfl (fun K hK => ?_) AllReadyIn.nil
  go_simp
  refine hK _ _ ?_; clear hK K
  refine wpAnyIn_ready (rs := [99]) (by kernel_rfl) (by simp) ?_
  refine AllReadyIn.cons rfl (fun K hK => ?_) AllReadyIn.nil
  go_simp
  refine hK _ _ ?_; clear hK K
  refine wpAnyIn_ready (rs := [100]) (by kernel_rfl) (by simp) ?_
  refine AllReadyIn.cons rfl (fun K hK => ?_) AllReadyIn.nil
  go_simp
  refine ⟨(by first | exact trivial | exact fun _ _ => trivial), hK _ _ ?_⟩; clear hK K
  refine wpAnyIn_ready (rs := [101]) (by kernel_rfl) (by simp) ?_
  refine AllReadyIn.cons rfl (fun K hK => ?_) AllReadyIn.nil
  go_simp
  refine ⟨(by first | exact trivial | exact fun _ _ => trivial), hK _ _ ?_⟩; clear hK K
  refine wpAnyIn_ready (rs := [102]) (by kernel_rfl) (by simp) ?_
  refine AllReadyIn.cons rfl (fun K hK => ?_) AllReadyIn.nil
  go_simp
  refine hK _ _ ?_; clear hK K
  refine wpAnyIn_ready (rs := [103]) (by kernel_rfl) (by simp) ?_
  refine AllReadyIn.cons rfl (fun K hK => ?_) AllReadyIn.nil
  go_simp
  refine hK _ _ ?_; clear hK K
  exact it_no11 h hJ2 (by kernel_rfl)
set_option maxRecDepth 100000 in
set_option maxHeartbeats 4000000 in
theorem it_go10 (h : ItC n l g1 g2 B J Jx Q) {x3 x4 x5 x6 x7 x8 x9 x10 x11 x12 x13 x14 x15 x16 x17 x18 x19 x20 x21 x22 x23 x24 x25 x26 x27 x28 x29 x30 x31 x32 x33 x34 x35 x36 x37 x38 x39 x40 x41 x42 x43 x44 x45 x46 x47 x48 x49 x50 x51 x52 x53 x54 x55 x56 x57 x58 x59 x60 x61 x62 x63 x64 x65 x66 x67 x68 x69 x70 x71 x72 x73 x74 x75 x76 x77 x78 x79 x80 x81 x82 x83 x84 x85 x86 x87 x88 x89 x90 x91 x92 x93 x94 x95 x96 x98 x99 x100 x101 x102 x103 x104 x105 x106 x107 x108 x109 x110 x111 x112 x113 x114 x115 x116 : Value} {W : World} (hJ : J 10 W) {L : Array Bool} (hL : L = #[true, true, true, true, true, true, true, true, true, true, true, true, true, true, true, true, true, true, true, true, true, true, true, true, true, true, true, true, true, true, true, true, true, true, true, true, true, true, true, true, true, true, true, true, true, true, true, true, true, true, true, true, true, true, true, true, true, true, true, true, true, true, true, true, true, true, true, true, true, true, true, true, true, true, true, true, true, true, true, true, true, true, true, true, true, true, true, true, true, true, true, true, true, true, false, false, false, false, false, false, false, false, false, false, false, false, false, false, false, false, false, false, false]) :
    wpAnyIn Fence.wide n Tryd.prog .any ops36 Q 19 L { tmps := #[.func (.yield l) #[] #[], .pointer (some ⟨g1, 0, none⟩), .pointer (some ⟨g2, 0, none⟩), x3, x4, x5, x6, x7, x8, x9, x10, x11, x12, x13, x14, x15, x16, x17, x18, x19, x20, x21, x22, x23, x24, x25, x26, x27, x28, x29, x30, x31, x32, x33, x34, x35, x36, x37, x38, x39, x40, x41, x42, x43, x44, x45, x46, x47, x48, x49, x50, x51, x52, x53, x54, x55, x56, x57, x58, x59, x60, x61, x62, x63, x64, x65, x66, x67, x68, x69, x70, x71, x72, x73, x74, x75, x76, x77, x78, x79, x80, x81, x82, x83, x84, x85, x86, x87, x88, x89, x90, x91, x92, x93, x94, x95, x96, .bool true, x98, x99, x100, x101, x102, x103, x104, x105, x106, x107, x108, x109, x110, x111, x112, x113, x114, x115, x116], defers := [] } W := by
  subst hL
  obtain ⟨k1, k2, hlt⟩ := h.hH _ _ hJ
  have k1_0 := k1.cell 0; have k1_f0 := k1.frozen 0; simp only [List.set_cons_zero, List.set_cons_succ, List.getElem?_cons_zero, List.getElem?_cons_succ] at k1_0; have lt_k1 := k1.lt; have k2_0 := k2.cell 0; have k2_f0 := k2.frozen 0; simp only [List.set_cons_zero, List.set_cons_succ, List.getElem?_cons_zero, List.getElem?_cons_succ] at k2_0; have lt_k2 := k2.lt
  unfold ops36 opsOf Tryd.f36
  dsimp only []
  refine wpAnyIn_take (i := 94) (v := ?v4) rfl rfl (by kernel_rfl) (by kernel_rfl) (by kernel_rfl) (fun c a w hq => h.hQp _ _ _ _ _ hq) ⟨Or.inl ⟨by rfl, ?_⟩, fun _ => rfl⟩ ?_
  case refine_1 => (intro w; go_simp; try with_reducible rfl)
  refine wpAnyIn_ready (rs := [95]) (by kernel_rfl) (by simp) ?_
  refine AllReadyIn.cons rfl (fun K hK => ?_) AllReadyIn.nil
  go_simp
  refine hK _ _ ?_; clear hK K
  refine wpAnyIn_ready (rs := [96]) (by kernel_rfl) (by simp) ?_
  refine AllReadyIn.cons rfl (fun K hK => ?_) AllReadyIn.nil
  go_simp
  refine hK _ _ ?_; clear hK K
  refine wpAnyIn_ready (rs := [97]) (by kernel_rfl) (by simp) ?_
  refine AllReadyIn.cons rfl (fun K hK => ?_) AllReadyIn.nil
  go_simp
  refine hK _ _ ?_; clear hK K
  refine wpAnyIn_ready (rs := [98]) (by kernel_rfl) (by simp) ?_
  refine AllReadyIn.cons rfl (fun K hK => ?_) AllReadyIn.nil
  go_simp
  refine hK _ _ ?_; clear hK K
  refine wpAnyIn_ready (rs := [99]) (by kernel_rfl) (by simp) ?_
  refine AllReadyIn.cons rfl (fun K hK => ?_) AllReadyIn.nil
  go_simp
  refine hK _ _ ?_; clear hK K
  refine wpAnyIn_ready (rs := [100]) (by kernel_rfl) (by simp) ?_
  refine AllReadyIn.cons rfl (fun K hK => ?_) AllReadyIn.nil
  go_simp
  refine ⟨trivial, (fun h => by cases h), ?_⟩
  refine (callsIn_wide.2 (config_places_any B 11 4 4 (by decide) (Nat.le_refl _) _)).mono ?_
  rintro e w1 ⟨A, d, rfl, hd, hrd, hfr, hb1⟩
  refine hK _ _ ?_
  clear hK K
  have hJ1 := h.hJ _ _ _ hJ hb1
  obtain ⟨fn, tmps, assign, body, hy, hR⟩ := h.hY 10 _ _ (by decide) hJ1 ⟨A, d, rfl, hd, hrd, fun ad e => by have := hfr ad e; omega⟩
  clear hJ
  refine wpAnyIn_ready (rs := [101]) (by kernel_rfl) (by simp) ?_
  refine AllReadyIn.cons rfl (fun K hK => ?_) AllReadyIn.nil
  simp only [keyB, cntN] at hy
  go_simp
  refine ⟨(fun h => by cases h), hR.mono ?_⟩
  rintro e w2 (⟨rfl, hJ2⟩ | ⟨rfl, hJ2⟩)
  · refine hK _ _ ?_; clear hK K hR hy
    refine wpAnyIn_ready (rs := [102]) (by kernel_rfl) (by simp) ?_
    refine AllReadyIn.cons rfl (fun K hK => ?_) AllReadyIn.nil
    go_simp
    refine hK _ _ ?_; clear hK K
    refine wpAnyIn_ready (rs := [103]) (by kernel_rfl) (by simp) ?_
    refine AllReadyIn.cons rfl (fun K hK => ?_) AllReadyIn.nil
    go_simp
    refine hK _ _ ?_; clear hK K
    exact it_go11 h hJ2 (by kernel_rfl)
  · refine hK _ _ ?_; clear hK K hR hy
    refine wpAnyIn_ready (rs := [102]) (by kernel_rfl) (by simp) ?_
    refine AllReadyIn.cons rfl (fun K hK => ?_) AllReadyIn.nil
    go_simp
    refine hK _ _ ?_; clear hK K
    refine wpAnyIn_ready (rs := [103]) (by kernel_rfl) (by simp) ?_
    refine AllReadyIn.cons rfl (fun K hK => ?_) AllReadyIn.nil
    go_simp
    refine hK _ _ ?_; clear hK K
    exact it_no11 h hJ2 (by kernel_rfl)
set_option maxRecDepth 100000 in
set_option maxHeartbeats 4000000 in
theorem it_no9 (h : ItC n l g1 g2 B J Jx Q) {x3 x4 x5 x6 x7 x8 x9 x10 x11 x12 x13 x14 x15 x16 x17 x18 x19 x20 x21 x22 x23 x24 x25 x26 x27 x28 x29 x30 x31 x32 x33 x34 x35 x36 x37 x38 x39 x40 x41 x42 x43 x44 x45 x46 x47 x48 x49 x50 x51 x52 x53 x54 x55 x56 x57 x58 x59 x60 x61 x62 x63 x64 x65 x66 x67 x68 x69 x70 x71 x72 x73 x74 x75 x76 x77 x78 x79 x80 x81 x82 x83 x84 x85 x86 x87 x89 x90 x91 x92 x93 x94 x95 x96 x97 x98 x99 x100 x101 x102 x103 x104 x105 x106 x107 x108 x109 x110 x111 x112 x113 x114 x115 x116 : Value} {W : World} (hJ2 : Jx W) {L : Array Bool} (hL : L = #[true, true, true, true, true, true, true, true, true, true, true, true, true, true, true, true, true, true, true, true, true, true, true, true, true, true, true, true, true, true, true, true, true, true, true, true, true, true, true, true, true, true, true, true, true, true, true, true, true, true, true, true, true, true, true, true, true, true, true, true, true, true, true, true, true, true, true, true, true, true, true, true, true, true, true, true, true, true, true, true, true, true, true, true, true, false, false, false, false, false, false, false, false, false, false, false, false, false, false, false, false, false, false, false, false, false, false, false, false, false, false, false, false]) :
    wpAnyIn Fence.wide n Tryd.prog .any ops36 Q 28 L { tmps := #[.func (.yield l) #[] #[], .pointer (some ⟨g1, 0, none⟩), .pointer (some ⟨g2, 0, none⟩), x3, x4, x5, x6, x7, x8, x9, x10, x11, x12, x13, x14, x15, x16, x17, x18, x19, x20, x21, x22, x23, x24, x25, x26, x27, x28, x29, x30, x31, x32, x33, x34, x35, x36, x37, x38, x39, x40, x41, x42, x43, x44, x45, x46, x47, x48, x49, x50, x51, x52, x53, x54, x55, x56, x57, x58, x59, x60, x61, x62, x63, x64, x65, x66, x67, x68, x69, x70, x71, x72, x73, x74, x75, x76, x77, x78, x79, x80, x81, x82, x83, x84, x85, x86, x87, .bool false, x89, x90, x91, x92, x93, x94, x95, x96, x97, x98, x99, x100, x101, x102, x103, x104, x105, x106, x107, x108, x109, x110, x111, x112, x113, x114, x115, x116], defers := [] } W := by
  subst hL
  unfold ops36 opsOf Tryd.f36
  dsimp only []
  refine wpAnyIn_take (i := 85) (v := undef) rfl rfl (by kernel_rfl) (by kernel_rfl) (by kernel_rfl) (fun c a w hq => h.hQp _ _ _ _ _ hq) ⟨Or.inr ⟨rfl, rfl⟩, fun _ => rfl⟩ ?_
  refine wpAnyIn_ready (rs := [86]) (by kernel_rfl) (by simp) ?_
  refine AllReadyIn.cons rfl (fun K hK => ?_) AllReadyIn.nil
  go_simp
  refine hK _ _ ?_; clear hK K
  refine wpAnyIn_ready (rs := [87]) (by kernel_rfl) (by simp) ?_
  refine AllReadyIn.cons rfl (fun K hK => ?_) AllReadyIn.nil
  go_simp
  refine hK _ _ ?_; clear hK K
  refine wpAnyIn_ready (rs := [88]) (by kernel_rfl) (by simp) ?_
  refine AllReadyIn.cons rfl (fun K hK => ?_) AllReadyIn.nil
  go_simp
  refine hK _ _ ?_; clear hK K
  refine wpAnyIn_ready (rs := [89]) (by kernel_rfl) (by simp) ?_
  refine AllReadyIn.cons rfl (fun K hK => ?_) AllReadyIn.nil
  go_simp
  refine hK _ _ ?_; clear hK K
  refine wpAnyIn_ready (rs := [90]) (by kernel_rfl) (by simp) ?_
  refine AllReadyIn.cons rfl (fun K hK => ?_) AllReadyIn.nil
  go_simp
  refine hK _ _ ?_; clear hK K
  refine wpAnyIn_ready (rs := [91]) (by kernel_rfl) (by simp) ?_
  refine AllReadyIn.cons rfl (fun K hK => ?_) AllReadyIn.nil
  go_simp
  refine ⟨(by first | exact trivial | exact fun _ _ => trivial), hK _ _ ?_⟩; clear hK K
  refine wpAnyIn_ready (rs := [92]) (by kernel_rfl) (by simp) ?_
  refine AllReadyIn.cons rfl (fun K hK => ?_) AllReadyIn.nil
  go_simp
  refine hK _ _ ?_; clear hK K
  refine wpAnyIn_ready (rs := [93]) (by kernel_rfl) (by simp) ?_
  refine AllReadyIn.cons rfl (fun K hK => ?_) AllReadyIn.nil
  go_simp
  refine hK _ _ ?_; clear hK K
  exact it_no10 h hJ2 (by kernel_rfl)
set_option maxRecDepth 100000 in
set_option maxHeartbeats 4000000 in
theorem it_b9 (h : ItC n l g1 g2 B J Jx Q) {x3 x4 x5 x6 x7 x8 x9 x10 x11 x12 x13 x14 x15 x16 x17 x18 x19 x20 x21 x22 x23 x24 x25 x26 x27 x28 x29 x30 x31 x32 x33 x34 x35 x36 x37 x38 x39 x40 x41 x42 x43 x44 x45 x46 x47 x48 x49 x50 x51 x52 x53 x54 x55 x56 x57 x58 x59 x60 x61 x62 x63 x64 x65 x66 x67 x68 x69 x70 x71 x72 x73 x74 x75 x76 x77 x78 x79 x80 x81 x82 x83 x84 x85 x86 x87 x90 x91 x92 x94 x95 x96 x97 x98 x99 x100 x101 x102 x103 x104 x105 x106 x107 x108 x109 x110 x111 x112 x113 x114 x115 x116 : Value} {W : World} (hJ : J 9 W) {L : Array Bool} (hL : L = #[true, true, true, true, true, true, true, true, true, true, true, true, true, true, true, true, true, true, true, true, true, true, true, true, true, true, true, true, true, true, true, true, true, true, true, true, true, true, true, true, true, true, true, true, true, true, true, true, true, true, true, true, true, true, true, true, true, true, true, true, true, true, true, true, true, true, true, true, true, true, true, true, true, true, true, true, true, true, true, true, true, true, true, true, true, true, true, true, true, true, false, false, false, false, false, false, false, false, false, false, false, false, false, false, false, false, false, false, false, false, false, false, false]) :
    wpAnyIn Fence.wide n Tryd.prog .any ops36 Q 23 L { tmps := #[.func (.yield l) #[] #[], .pointer (some ⟨g1, 0, none⟩), .pointer (some ⟨g2, 0, none⟩), x3, x4, x5, x6, x7, x8, x9, x10, x11, x12, x13, x14, x15, x16, x17, x18, x19, x20, x21, x22, x23, x24, x25, x26, x27, x28, x29, x30, x31, x32, x33, x34, x35, x36, x37, x38, x39, x40, x41, x42, x43, x44, x45, x46, x47, x48, x49, x50, x51, x52, x53, x54, x55, x56, x57, x58, x59, x60, x61, x62, x63, x64, x65, x66, x67, x68, x69, x70, x71, x72, x73, x74, x75, x76, x77, x78, x79, x80, x81, x82, x83, x84, x85, x86, x87, .bool true, .func (.yield l) #[] #[], x90, x91, x92, .pointer (some ⟨B, 10, none⟩), x94, x95, x96, x97, x98, x99, x100, x101, x102, x103, x104, x105, x106, x107, x108, x109, x110, x111, x112, x113, x114, x115, x116], defers := [] } W := by
  subst hL
  obtain ⟨k1, k2, hlt⟩ := h.hH _ _ hJ
  unfold ops36 opsOf Tryd.f36
  dsimp only []
  refine wpAnyIn_ready (rs := [90]) (by kernel_rfl) (by simp) ?_
  refine AllReadyIn.cons rfl (fun K hK => ?_) AllReadyIn.nil
  go_simp
  refine hK _ _ ?_; clear hK K
  have hJ1 := h.hJ _ _ _ hJ (((Below.refl _ W).alloc1 (.cells #[.pointer (some ⟨B, 10, none⟩)] 69)))
  obtain ⟨fn, tmps, assign, body, hy, hR⟩ := h.hY 9 _ _ (by decide) hJ1 ⟨_, _, rfl, Nat.le_refl _, (Bk.new W 69 [.pointer (some ⟨B, 10, none⟩)]).rd, fun ad e => by cases e; simp; omega⟩
  clear hJ
  refine wpAnyIn_ready (rs := [91]) (by kernel_rfl) (by simp) ?_
  refine AllReadyIn.cons rfl (fun K hK => ?_) AllReadyIn.nil
  simp only [keyB, cntN] at hy
  go_simp
  refine ⟨(fun h => by cases h), hR.mono ?_⟩
  rintro e w2 (⟨rfl, hJ2⟩ | ⟨rfl, hJ2⟩)
  · refine hK _ _ ?_; clear hK K hR hy
    refine wpAnyIn_ready (rs := [92]) (by kernel_rfl) (by simp) ?_
    refine AllReadyIn.cons rfl (fun K hK => ?_) AllReadyIn.nil
    go_simp
    refine hK _ _ ?_; clear hK K
    refine wpAnyIn_ready (rs := [93]) (by kernel_rfl) (by simp) ?_
    refine AllReadyIn.cons rfl (fun K hK => ?_) AllReadyIn.nil
    go_simp
    refine hK _ _ ?_; clear hK K
    exact it_go10 h hJ2 (by kernel_rfl)
  · refine hK _ _ ?_; clear hK K hR hy
    refine wpAnyIn_ready (rs := [92]) (by kernel_rfl) (by simp) ?_
    refine AllReadyIn.cons rfl (fun K hK => ?_) AllReadyIn.nil
    go_simp
    refine hK _ _ ?_; clear hK K
    refine wpAnyIn_ready (rs := [93]) (by kernel_rfl) (by simp) ?_
    refine AllReadyIn.cons rfl (fun K hK => ?_) AllReadyIn.nil
    go_simp
    refine hK _ _ ?_; clear hK K
    exact it_no10 h hJ2 (by kernel_rfl)
set_option maxRecDepth 100000 in
set_option maxHeartbeats 4000000 in
theorem it_go9 (h : ItC n l g1 g2 B J Jx Q) {x3 x4 x5 x6 x7 x8 x9 x10 x11 x12 x13 x14 x15 x16 x17 x18 x19 x20 x21 x22 x23 x24 x25 x26 x27 x28 x29 x30 x31 x32 x33 x34 x35 x36 x37 x38 x39 x40 x41 x42 x43 x44 x45 x46 x47 x48 x49 x50 x51 x52 x53 x54 x55 x56 x57 x58 x59 x60 x61 x62 x63 x64 x65 x66 x67 x68 x69 x70 x71 x72 x73 x74 x75 x76 x77 x78 x79 x80 x81 x82 x83 x84 x85 x86 x87 x89 x90 x91 x92 x93 x94 x95 x96 x97 x98 x99 x100 x101 x102 x103 x104 x105 x106 x107 x108 x109 x110 x111 x112 x113 x114 x115 x116 : Value} {W : World} (hJ : J 9 W) {L : Array Bool} (hL : L = #[true, true, true, true, true, true, true, true, true, true, true, true, true, true, true, true, true, true, true, true, true, true, true, true, true, true, true, true, true, true, true, true, true, true, true, true, true, true, true, true, true, true, true, true, true, true, true, true, true, true, true, true, true, true, true, true, true, true, true, true, true, true, true, true, true, true, true, true, true, true, true, true, true, true, true, true, true, true, true, true, true, true, true, true, true, false, false, false, false, false, false, false, false, false, false, false, false, false, false, false, false, false, false, false, false, false, false, false, false, false, false, false, false]) :
    wpAnyIn Fence.wide n Tryd.prog .any ops36 Q 28 L { tmps := #[.func (.yield l) #[] #[], .pointer (some ⟨g1, 0, none⟩), .pointer (some ⟨g2, 0, none⟩), x3, x4, x5, x6, x7, x8, x9, x10, x11, x12, x13, x14, x15, x16, x17, x18, x19, x20, x21, x22, x23, x24, x25, x26, x27, x28, x29, x30, x31, x32, x33, x34, x35, x36, x37, x38, x39, x40, x41, x42, x43, x44, x45, x46, x47, x48, x49, x50, x51, x52, x53, x54, x55, x56, x57, x58, x59, x60, x61, x62, x63, x64, x65, x66, x67, x68, x69, x70, x71, x72, x73, x74, x75, x76, x77, x78, x79, x80, x81, x82, x83, x84, x85, x86, x87, .bool true, x89, x90, x91, x92, x93, x94, x95, x96, x97, x98, x99, x100, x101, x102, x103, x104, x105, x106, x107, x108, x109, x110, x111, x112, x113, x114, x115, x116], defers := [] } W := by
  subst hL
  obtain ⟨k1, k2, hlt⟩ := h.hH _ _ hJ
  have k1_0 := k1.cell 0; have k1_f0 := k1.frozen 0; simp only [List.set_cons_zero, List.set_cons_succ, List.getElem?_cons_zero, List.getElem?_cons_succ] at k1_0; have lt_k1 := k1.lt; have k2_0 := k2.cell 0; have k2_f0 := k2.frozen 0; simp only [List.set_cons_zero, List.set_cons_succ, List.getElem?_cons_zero, List.getElem?_cons_succ] at k2_0; have lt_k2 := k2.lt
  unfold ops36 opsOf Tryd.f36
  dsimp only []
  refine wpAnyIn_take (i := 85) (v := ?v6) rfl rfl (by kernel_rfl) (by kernel_rfl) (by kernel_rfl) (fun c a w hq => h.hQp _ _ _ _ _ hq) ⟨Or.inl ⟨by rfl, ?_⟩, fun _ => rfl⟩ ?_
  case refine_1 => (intro w; go_simp; try with_reducible rfl)
  refine wpAnyIn_ready (rs := [86]) (by kernel_rfl) (by simp) ?_
  refine AllReadyIn.cons rfl (fun K hK => ?_) AllReadyIn.nil
  go_simp
  refine hK _ _ ?_; clear hK K
  refine wpAnyIn_ready (rs := [87]) (by kernel_rfl) (by simp) ?_
  refine AllReadyIn.cons rfl (fun K hK => ?_) AllReadyIn.nil
  go_simp
  refine hK _ _ ?_; clear hK K
  refine wpAnyIn_ready (rs := [88]) (by kernel_rfl) (by simp) ?_
  refine AllReadyIn.cons rfl (fun K hK => ?_) AllReadyIn.nil
  go_simp
  refine hK _ _ ?_; clear hK K
  refine wpAnyIn_ready (rs := [89]) (by kernel_rfl) (by simp) ?_
  refine AllReadyIn.cons rfl (fun K hK => ?_) AllReadyIn.nil
  go_simp
  refine hK _ _ ?_; clear hK K
  exact it_b9 h hJ (by kernel_rfl)
set_option maxRecDepth 100000 in
set_option maxHeartbeats 4000000 in
theorem it_no8 (h : ItC n l g1 g2 B J Jx Q) {x3 x4 x5 x6 x7 x8 x9 x10 x11 x12 x13 x14 x15 x16 x17 x18 x19 x20 x21 x22 x23 x24 x25 x26 x27 x28 x29 x30 x31 x32 x33 x34 x35 x36 x37 x38 x39 x40 x41 x42 x43 x44 x45 x46 x47 x48 x49 x50 x51 x52 x53 x54 x55 x56 x57 x58 x59 x60 x61 x62 x63 x64 x65 x66 x67 x68 x69 x70 x71 x72 x73 x74 x75 x76 x77 x79 x80 x81 x82 x83 x84 x85 x86 x87 x88 x89 x90 x91 x92 x93 x94 x95 x96 x97 x98 x99 x100 x101 x102 x103 x104 x105 x106 x107 x108 x109 x110 x111 x112 x113 x114 x115 x116 : Value} {W : World} (hJ2 : Jx W) {L : Array Bool} (hL : L = #[true, true, true, true, true, true, true, true, true, true, true, true, true, true, true, true, true, true, true, true, true, true, true, true, true, true, true, true, true, true, true, true, true, true, true, true, true, true, true, true, true, true, true, true, true, true, true, true, true, true, true, true, true, true, true, true, true, true, true, true, true, true, true, true, true, true, true, true, true, true, true, true, true, true, true, false, false, false, false, false, false, false, false, false, false, false, false, false, false, false, false, false, false, false, false, false, false, false, false, false, false, false, false, false, false, false, false, false, false, false, false, false, false]) :
    wpAnyIn Fence.wide n Tryd.prog .any ops36 Q 38 L { tmps := #[.func (.yield l) #[] #[], .pointer (some ⟨g1, 0, none⟩), .pointer (some ⟨g2, 0, none⟩), x3, x4, x5, x6, x7, x8, x9, x10, x11, x12, x13, x14, x15, x16, x17, x18, x19, x20, x21, x22, x23, x24, x25, x26, x27, x28, x29, x30, x31, x32, x33, x34, x35, x36, x37, x38, x39, x40, x41, x42, x43, x44, x45, x46, x47, x48, x49, x50, x51, x52, x53, x54, x55, x56, x57, x58, x59, x60, x61, x62, x63, x64, x65, x66, x67, x68, x69, x70, x71, x72, x73, x74, x75, x76, x77, .bool false, x79, x80, x81, x82, x83, x84, x85, x86, x87, x88, x89, x90, x91, x92, x93, x94, x95, x96, x97, x98, x99, x100, x101, x102, x103, x104, x105, x106, x107, x108, x109, x110, x111, x112, x113, x114, x115, x116], defers := [] } W := by
  subst hL
  unfold ops36 opsOf Tryd.f36
  dsimp only []
  refine wpAnyIn_take (i := 75) (v := undef) rfl rfl (by kernel_rfl) (by kernel_rfl) (by kernel_rfl) (fun c a w hq => h.hQp _ _ _ _ _ hq) ⟨Or.inr ⟨rfl, rfl⟩, fun _ => rfl⟩ ?_
  refine wpAnyIn_ready (rs := [76]) (by kernel_rfl) (by simp) ?_
  refine AllReadyIn.cons rfl (fun K hK => ?_) AllReadyIn.nil
  go_simp
  refine hK _ _ ?_; clear hK K
  refine wpAnyIn_ready (rs := [77]) (by kernel_rfl) (by simp) ?_
  refine AllReadyIn.cons rfl (fun K hK => ?_) AllReadyIn.nil
  go_simp
  refine hK _ _ ?_; clear hK K
  refine wpAnyIn_ready (rs := [78]) (by kernel_rfl) (by simp) ?_
  refine AllReadyIn.cons rfl (fun K hK => ?_) AllReadyIn.nil
  go_simp
  refine hK _ _ ?_; clear hK K
  refine wpAnyIn_ready (rs := [79]) (by kernel_rfl) (by simp) ?_
  refine AllReadyIn.cons rfl (fun K hK => ?_) AllReadyIn.nil
  go_simp
  refine hK _ _ ?_; clear hK K
  refine wpAnyIn_ready (rs := [80]) (by kernel_rfl) (by simp) ?_
  refine AllReadyIn.cons rfl (fun K hK => ?_) AllReadyIn.nil
  go_simp
  refine hK _ _ ?_; clear hK K
  refine wpAnyIn_ready (rs := [81]) (by kernel_rfl) (by simp) ?_
  refine AllReadyIn.cons rfl (fun K hK => ?_) AllReadyIn.nil
  go_simp
  refine ⟨(by first | exact trivial | exact fun _ _ => trivial), hK _ _ ?_⟩; clear hK K
  refine wpAnyIn_ready (rs := [82]) (by kernel_rfl) (by simp) ?_
  refine AllReadyIn.cons rfl (fun K hK => ?_) AllReadyIn.nil
  go_simp
  refine ⟨(by first | exact trivial | exact fun _ _ => trivial), hK _ _ ?_⟩; clear hK K
  refine wpAnyIn_ready (rs := [83]) (by kernel_rfl) (by simp) ?_
  refine AllReadyIn.cons rfl (fun K hK => ?_) AllReadyIn.nil
  go_simp
  refine hK _ _ ?_; clear hK K
  refine wpAnyIn_ready (rs := [84]) (by kernel_rfl) (by simp) ?_
  refine AllReadyIn.cons rfl (fun K hK => ?_) AllReadyIn.nil
  go_simp
  refine hK _ _ ?_; clear hK K
  exact it_no9 h hJ2 (by kernel_rfl)
set_option maxRecDepth 100000 in
set_option maxHeartbeats 4000000 in
theorem it_go8 (h : ItC n l g1 g2 B J Jx Q) {x3 x4 x5 x6 x7 x8 x9 x10 x11 x12 x13 x14 x15 x16 x17 x18 x19 x20 x21 x22 x23 x24 x25 x26 x27 x28 x29 x30 x31 x32 x33 x34 x35 x36 x37 x38 x39 x40 x41 x42 x43 x44 x45 x46 x47 x48 x49 x50 x51 x52 x53 x54 x55 x56 x57 x58 x59 x60 x61 x62 x63 x64 x65 x66 x67 x68 x69 x70 x71 x72 x73 x74 x75 x76 x77 x79 x80 x81 x82 x83 x84 x85 x86 x87 x88 x89 x90 x91 x92 x93 x94 x95 x96 x97 x98 x99 x100 x101 x102 x103 x104 x105 x106 x107 x108 x109 x110 x111 x112 x113 x114 x115 x116 : Value} {W : World} (hJ : J 8 W) {L : Array Bool} (hL : L = #[true, true, true, true, true, true, true, true, true, true, true, true, true, true, true, true, true, true, true, true, true, true, true, true, true, true, true, true, true, true, true, true, true, true, true, true, true, true, true, true, true, true, true, true, true, true, true, true, true, true, true, true, true, true, true, true, true, true, true, true, true, true, true, true, true, true, true, true, true, true, true, true, true, true, true, false, false, false, false, false, false, false, false, false, false, false, false, false, false, false, false, false, false, false, false, false, false, false, false, false, false, false, false, false, false, false, false, false, false, false, false, false, false]) :
    wpAnyIn Fence.wide n Tryd.prog .any ops36 Q 38 L { tmps := #[.func (.yield l) #[] #[], .pointer (some ⟨g1, 0, none⟩), .pointer (some ⟨g2, 0, none⟩), x3, x4, x5, x6, x7, x8, x9, x10, x11, x12, x13, x14, x15, x16, x17, x18, x19, x20, x21, x22, x23, x24, x25, x26, x27, x28, x29, x30, x31, x32, x33, x34, x35, x36, x37, x38, x39, x40, x41, x42, x43, x44, x45, x46, x47, x48, x49, x50, x51, x52, x53, x54, x55, x56, x57, x58, x59, x60, x61, x62, x63, x64, x65, x66, x67, x68, x69, x70, x71, x72, x73, x74, x75, x76, x77, .bool true, x79, x80, x81, x82, x83, x84, x85, x86, x87, x88, x89, x90, x91, x92, x93, x94, x95, x96, x97, x98, x99, x100, x101, x102, x103, x104, x105, x106, x107, x108, x109, x110, x111, x112, x113, x114, x115, x116], defers := [] } W := by
  subst hL
  obtain ⟨k1, k2, hlt⟩ := h.hH _ _ hJ
  have k1_0 := k1.cell 0; have k1_f0 := k1.frozen 0; simp only [List.set_cons_zero, List.set_cons_succ, List.getElem?_cons_zero, List.getElem?_cons_succ] at k1_0; have lt_k1 := k1.lt; have k2_0 := k2.cell 0; have k2_f0 := k2.frozen 0; simp only [List.set_cons_zero, List.set_cons_succ, List.getElem?_cons_zero, List.getElem?_cons_succ] at k2_0; have lt_k2 := k2.lt
  unfold ops36 opsOf Tryd.f36
  dsimp only []
  refine wpAnyIn_take (i := 75) (v := ?v8) rfl rfl (by kernel_rfl) (by kernel_rfl) (by kernel_rfl) (fun c a w hq => h.hQp _ _ _ _ _ hq) ⟨Or.inl ⟨by rfl, ?_⟩, fun _ => rfl⟩ ?_
  case refine_1 => (intro w; go_simp; try with_reducible rfl)
  refine wpAnyIn_ready (rs := [76]) (by kernel_rfl) (by simp) ?_
  refine AllReadyIn.cons rfl (fun K hK => ?_) AllReadyIn.nil
  go_simp
  refine hK _ _ ?_; clear hK K
  refine wpAnyIn_ready (rs := [77]) (by kernel_rfl) (by simp) ?_
  refine AllReadyIn.cons rfl (fun K hK => ?_) AllReadyIn.nil
  go_simp
  refine hK _ _ ?_; clear hK K
  refine wpAnyIn_ready (rs := [78]) (by kernel_rfl) (by simp) ?_
  refine AllReadyIn.cons rfl (fun K hK => ?_) AllReadyIn.nil
  go_simp
  refine hK _ _ ?_; clear hK K
  refine wpAnyIn_ready (rs := [79]) (by kernel_rfl) (by simp) ?_
  refine AllReadyIn.cons rfl (fun K hK => ?_) AllReadyIn.nil
  go_simp
  refine hK _ _ ?_; clear hK K
  refine wpAnyIn_ready (rs := [80]) (by kernel_rfl) (by simp) ?_
  refine AllReadyIn.cons rfl (fun K hK => ?_) AllReadyIn.nil
  go_simp
  refine hK _ _ ?_; clear hK K
  refine wpAnyIn_ready (rs := [81]) (by kernel_rfl) (by simp) ?_
  refine AllReadyIn.cons rfl (fun K hK => ?_) AllReadyIn.nil
  go_simp
  refine ⟨trivial, (fun h => by cases h), ?_⟩
  refine (callsIn_wide.2 (config_places_any B 7 3 3 (by decide) (Nat.le_refl _) _)).mono ?_
  rintro e w1 ⟨A, d, rfl, hd, hrd, hfr, hb1⟩
  refine hK _ _ ?_
  clear hK K
  have hJ1 := h.hJ _ _ _ hJ hb1
  obtain ⟨fn, tmps, assign, body, hy, hR⟩ := h.hY 8 _ _ (by decide) hJ1 ⟨A, d, rfl, hd, hrd, fun ad e => by have := hfr ad e; omega⟩
  clear hJ
  refine wpAnyIn_ready (rs := [82]) (by kernel_rfl) (by simp) ?_
  refine AllReadyIn.cons rfl (fun K hK => ?_) AllReadyIn.nil
  simp only [keyB, cntN] at hy
  go_simp
  refine ⟨(fun h => by cases h), hR.mono ?_⟩
  rintro e w2 (⟨rfl, hJ2⟩ | ⟨rfl, hJ2⟩)
  · refine hK _ _ ?_; clear hK K hR hy
    refine wpAnyIn_ready (rs := [83]) (by kernel_rfl) (by simp) ?_
    refine AllReadyIn.cons rfl (fun K hK => ?_) AllReadyIn.nil
    go_simp
    refine hK _ _ ?_; clear hK K
    refine wpAnyIn_ready (rs := [84]) (by kernel_rfl) (by simp) ?_
    refine AllReadyIn.cons rfl (fun K hK => ?_) AllReadyIn.nil
    go_simp
    refine hK _ _ ?_; clear hK K
    exact it_go9 h hJ2 (by kernel_rfl)
  · refine hK _ _ ?_; clear hK K hR hy
    refine wpAnyIn_ready (rs := [83]) (by kernel_rfl) (by simp) ?_
    refine AllReadyIn.cons rfl (fun K hK => ?_) AllReadyIn.nil
    go_simp
    refine hK _ _ ?_; clear hK K
    refine wpAnyIn_ready (rs := [84]) (by kernel_rfl) (by simp) ?_
    refine AllReadyIn.cons rfl (fun K hK => ?_) AllReadyIn.nil
    go_simp
    refine hK _ _ ?_; clear hK K
    exact it_no9 h hJ2 (by kernel_rfl)
end Go.Proofs.YtfbllioegeadfaaDoor
