-- A walk, out of the kit's print program run by wip/ownprint.sh and turned by wip/qprune.py. Lean checks it.
import Derived.Test.YtegehkenmkmflaaQ0
import Derived.Test.YtegehkenmkmflaaQ2
import Derived.Test.YtegehkenmkmflaaQ4
namespace Go.Proofs.Ytegehkenmkmflaa.Q
open Go.RowKit Go.Proofs.YtegehkenmkmflaaW.PrintWords Go.Proofs.YtegehkenmkmflaaW.PrintLast Go.Proofs.YtegehkenmkmflaaW.PrintMore
attribute [local go_sem] max2_int min2_int max_two min_two max_three min_three max_four min_four   -- for this text's walks alone
set_option linter.unusedVariables false
set_option linter.unusedSimpArgs false

/-! ### bulwarklaw15_works: function 21 -/
-- by hand: making
def bulwarklaw15_works.f : Option (Bool) := some true
set_option maxHeartbeats 8000000 in
set_option maxRecDepth 100000 in
theorem All_neg (w : World) (v : Value) : Calls Try.prog 37 #[.agg #[.int .i64 0, .int .i64 0, .slice none 0 0, .slice none 0 0, .int .i64 0, v], .int .i64 (-1), .slice none 0 0] w fun e w' => e = .returned (.tuple #[.slice none 0 0, .slice none 0 0, .int .i64 2]) ∧ Below w.heap.size w w' := by
  have HB := Aside0.mk (Below.refl w.heap.size w)
  go_enter Try.func37, Try.ntmps37
  go_wp2
  go_ret3
  exact ⟨rfl, below_alloc HB.out _⟩
set_option maxHeartbeats 8000000 in
set_option maxRecDepth 100000 in
theorem bulwarklaw15_works.calls (r : Bool) (w : World) (h : bulwarklaw15_works.f = some r) :
    Calls Try.prog 21 #[] w fun e w' => e = .returned (.bool r) ∧ Below w.heap.size w w' := by
  unfold bulwarklaw15_works.f at h
  obtain rfl := Option.some.inj h
  clear h
  have HB := Aside0.mk (Below.refl w.heap.size w)
  have r1 := Aside0.mk (show place_Room.f 20 4088 = some (3, 4088, true) by decide +kernel)
  have r2 := Aside0.mk (show place_Room.f 20 4089 = some (4, 4096, true) by decide +kernel)
  have n1 := Aside0.mk (show place_Next.f 20 64 100 8 = some (64, 104, true) by decide +kernel)
  have n2 := Aside0.mk (show place_Next.f 20 65 8 64 = some (128, 8, true) by decide +kernel)
  have n3 := Aside0.mk (show place_Next.f 20 65279 8 8 = some (0, 0, false) by decide +kernel)
  go_enter Try.func21, Try.ntmps21
  go_wp2_with fail
  refine (place_Room.calls 20 4088 3 4088 true _ r1.out).mono ?_
  rintro e w1 ⟨rfl, ⟨d1, rfl⟩⟩
  go_wp2_with fail
  refine (place_Room.calls 20 4089 4 4096 true _ r2.out).mono ?_
  rintro e w1 ⟨rfl, ⟨d2, rfl⟩⟩
  go_wp2_with fail
  refine (place_Next.calls 20 64 100 8 64 104 true _ n1.out).mono ?_
  rintro e w1 ⟨rfl, hb1⟩
  have HB1 := Aside0.mk (below_step (pw_below_drewN HB.out _) hb1)
  clear hb1
  go_wp2_with fail
  refine (place_Next.calls 20 65 8 64 128 8 true _ n2.out).mono ?_
  rintro e w2 ⟨rfl, hb2⟩
  have HB2 := Aside0.mk (below_step HB1.out hb2)
  clear hb2
  go_wp2_with fail
  refine (place_Next.calls 20 65279 8 8 0 0 false _ n3.out).mono ?_
  rintro e w3 ⟨rfl, hb3⟩
  have HB3 := Aside0.mk (below_step HB2.out hb3)
  clear hb3
  go_wp2_with fail
  refine (All_neg _ _).mono ?_
  rintro e w4 ⟨rfl, hb4⟩
  have HB4 := Aside0.mk (below_step HB3.out hb4)
  clear hb4
  go_wp2
  go_ret
  exact ⟨rfl, HB4.out⟩

end Go.Proofs.Ytegehkenmkmflaa.Q
