/- Package config: the iterator over a config's fields, as a law of its own. -/
import Derived.Test.YtfbllioegeadfaaDoorCfK
namespace Go.Proofs.YtfbllioegeadfaaDoor
open Go.RowKit Go.Shelf
set_option linter.unusedSimpArgs false
set_option linter.unusedVariables false

set_option maxRecDepth 100000 in
set_option maxHeartbeats 4000000 in
theorem fields1_seq (n g1 g2 B : Nat) : SeqF Fence.wide n Tryd.prog 36 #[.pointer (some ⟨g1, 0, none⟩), .pointer (some ⟨g2, 0, none⟩)] 12 (Hd32 g1 g2 B) (En32 B) := fun l J Jx W hJ hH hY h0 => by
  refine callsIn_of_wp Tryd.func36 rfl trivial ?_ rfl
  simp only [Tryd.ntmps36, List.size_toArray, List.length_cons, List.length_nil, Nat.reduceAdd, Nat.reduceSub, Array.replicate_succ, Array.replicate_zero, List.push_toArray, List.append_toArray, List.nil_append, List.cons_append]
  refine wpIn_region_any (by kernel_rfl) ?_
  refine it_go0 (J := J) (Jx := Jx) (B := B) ⟨hJ, hH, hY, ?_, ?_⟩ (hJ _ _ _ h0 (Below.refl _ _).drew) (by kernel_rfl)
  · intro a W hd hj
    exact bodyPost_end (v := .tuple #[]) (results_none rfl _ _ _) hd ⟨⟨_, rfl⟩, hj⟩
  · intro c a o v w hq
    cases o <;> exact hq
end Go.Proofs.YtfbllioegeadfaaDoor
