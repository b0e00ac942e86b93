-- A walk, out of the kit's print program run by wip/ownprint.sh and turned by wip/qprune.py. Lean checks it.
import Derived.Test.YtkfgloolpjlddaaQ0
import Derived.Test.YtkfgloolpjlddaaQ1
import Derived.Test.YtkfgloolpjlddaaQ25
import Derived.Test.YtkfgloolpjlddaaQ28
import Derived.Test.YtkfgloolpjlddaaQ38
import Derived.Test.YtkfgloolpjlddaaQ39
import Derived.Test.YtkfgloolpjlddaaQ42
import Derived.Test.YtkfgloolpjlddaaQ43
import Derived.Test.YtkfgloolpjlddaaQ44
import Derived.Test.YtkfgloolpjlddaaQ45
import Derived.Test.YtkfgloolpjlddaaQ46
namespace Go.Proofs.Ytkfgloolpjlddaa.Q
open Go.RowKit Go.Proofs.YtkfgloolpjlddaaW.PrintWords Go.Proofs.YtkfgloolpjlddaaW.PrintLast Go.Proofs.YtkfgloolpjlddaaW.PrintMore
attribute [local go_sem] max2_int min2_int max_two min_two max_three min_three max_four min_four   -- for this text's walks alone
set_option linter.unusedVariables false
set_option linter.unusedSimpArgs false

attribute [local go_sem high] eqA27
/-! ### bulwarklaw03_CapaMoves: function 7 -/
def bulwarklaw03_CapaMoves.f (k : Nat) (a0_0 : Bool) (a0_1 : Int) (a0_2 : Int) (a0_3 : Int) (a0_4 : Int) (a0_5 : Int) (a0_6 : Int) (a1 : Int) (a2 : Int) (a3 : Int) : Option (Bool) := (capa_SetAddr.f a0_0 a0_1 a0_2 a0_3 a0_4 a0_5 a0_6 a1).bind fun bt410 => ((bulwarkref03_SetAddr.f k a0_0 a0_1 a0_2 a0_3 a0_4 a0_5 a0_6 a1).bind fun bt417 => (if (bt410.1 == bt417.1 && (bt410.2.1 == bt417.2.1 && (bt410.2.2.1 == bt417.2.2.1 && (bt410.2.2.2.1 == bt417.2.2.2.1 && ((bt410.2.2.2.2.1 == bt417.2.2.2.2.1 && (bt410.2.2.2.2.2.1 == bt417.2.2.2.2.2.1 && (bt410.2.2.2.2.2.2 == bt417.2.2.2.2.2.2)))))))) = true then ((capa_SetBounds.f k a0_0 a0_1 a0_2 a0_3 a0_4 a0_5 a0_6 a2).bind fun bt424 => ((bulwarkref03_SetBounds.f k a0_0 a0_1 a0_2 a0_3 a0_4 a0_5 a0_6 a2).bind fun bt431 => (if (bt424.1 == bt431.1 && (bt424.2.1 == bt431.2.1 && (bt424.2.2.1 == bt431.2.2.1 && (bt424.2.2.2.1 == bt431.2.2.2.1 && ((bt424.2.2.2.2.1 == bt431.2.2.2.2.1 && (bt424.2.2.2.2.2.1 == bt431.2.2.2.2.2.1 && (bt424.2.2.2.2.2.2 == bt431.2.2.2.2.2.2)))))))) = true then ((capa_AndPerms.f a0_0 a0_1 a0_2 a0_3 a0_4 a0_5 a0_6 a3).bind fun bt438 => ((bulwarkref03_AndPerms.f k a0_0 a0_1 a0_2 a0_3 a0_4 a0_5 a0_6 a3).bind fun bt445 => (if (bt438.1 == bt445.1 && (bt438.2.1 == bt445.2.1 && (bt438.2.2.1 == bt445.2.2.1 && (bt438.2.2.2.1 == bt445.2.2.2.1 && ((bt438.2.2.2.2.1 == bt445.2.2.2.2.1 && (bt438.2.2.2.2.2.1 == bt445.2.2.2.2.2.1 && (bt438.2.2.2.2.2.2 == bt445.2.2.2.2.2.2)))))))) = true then ((capa_ClearTag.f a0_0 a0_1 a0_2 a0_3 a0_4 a0_5 a0_6).bind fun bt452 => ((bulwarkref03_ClearTag.f a0_0 a0_1 a0_2 a0_3 a0_4 a0_5 a0_6).bind fun bt459 => (if (bt452.1 == bt459.1 && (bt452.2.1 == bt459.2.1 && (bt452.2.2.1 == bt459.2.2.1 && (bt452.2.2.2.1 == bt459.2.2.2.1 && ((bt452.2.2.2.2.1 == bt459.2.2.2.2.1 && (bt452.2.2.2.2.2.1 == bt459.2.2.2.2.2.1 && (bt452.2.2.2.2.2.2 == bt459.2.2.2.2.2.2)))))))) = true then ((bulwarklaw03_lives.f k).bind fun t466 => (some t466)) else (some false)))) else (some false)))) else (some false)))) else (some false)))
theorem bulwarklaw03_CapaMoves.mono : ∀ a0 a1 a2 a3 a4 a5 a6 a7 a8 a9 k, LeO (bulwarklaw03_CapaMoves.f k a0 a1 a2 a3 a4 a5 a6 a7 a8 a9) (bulwarklaw03_CapaMoves.f (k + 1) a0 a1 a2 a3 a4 a5 a6 a7 a8 a9) := by
  intro a0 a1 a2 a3 a4 a5 a6 a7 a8 a9 k
  unfold bulwarklaw03_CapaMoves.f
  repeat' first
      | (with_reducible exact bulwarklaw03_lives.mono _)
      | (with_reducible exact bulwarkref03_AndPerms.mono _ _ _ _ _ _ _ _ _)
      | (with_reducible exact bulwarkref03_SetAddr.mono _ _ _ _ _ _ _ _ _)
      | (with_reducible exact bulwarkref03_SetBounds.mono _ _ _ _ _ _ _ _ _)
      | (with_reducible exact capa_SetBounds.mono _ _ _ _ _ _ _ _ _)
      | (with_reducible exact LeO.refl _)
      | (with_reducible exact LeO.none _)
      | (with_reducible refine LeO.ite ?_ ?_)
      | (with_reducible refine LeO.bind ?_ (fun _ => ?_))
      | exact bulwarklaw03_lives.mono _
      | exact bulwarkref03_AndPerms.mono _ _ _ _ _ _ _ _ _
      | exact bulwarkref03_SetAddr.mono _ _ _ _ _ _ _ _ _
      | exact bulwarkref03_SetBounds.mono _ _ _ _ _ _ _ _ _
      | exact capa_SetBounds.mono _ _ _ _ _ _ _ _ _
      | exact LeO.none _
      | refine LeO.ite ?_ ?_
      | refine LeO.bind ?_ (fun _ => ?_)
def bulwarklaw03_CapaMoves.T1 : Bool × List (List Nat × List Nat) := (true, [([], []), ([], []), ([0, 1], [0, 1]), ([], []), ([], []), ([3, 4, 2], [3, 4]), ([2, 5], [2, 5]), ([6, 5], [6]), ([7], [7]), ([7], [7]), ([8, 9, 7, 7], [7, 8, 9]), ([7], [7]), ([7], [7]), ([11, 12, 10, 7], [7, 11, 12]), ([10, 13, 7], [7, 10, 13]), ([7, 14], [7, 14]), ([15, 13], [15]), ([16], [16]), ([16], [16]), ([17, 18, 16, 16], [16, 17, 18]), ([16], [16]), ([16], [16]), ([20, 21, 19, 16], [16, 20, 21]), ([19, 22, 16], [16, 19, 22]), ([16, 23], [16, 23]), ([24, 22], [24]), ([25], [25]), ([26, 25, 25], [25, 26]), ([25], [25]), ([28, 27, 25], [25, 28]), ([27, 29, 25], [25, 27, 29]), ([25, 30], [25, 30]), ([31, 29], [31]), ([32, 32], [32]), ([32, 33], [32, 33]), ([34, 33, 0, 1, 2, 3, 4, 5, 6, 7, 8, 9, 10, 11, 12, 13, 14, 15, 16, 17, 18, 19, 20, 21, 22, 23, 24, 25, 26, 27, 28, 29, 30, 31, 32, 33, 34], [34])])
def bulwarklaw03_CapaMoves.B1 : List Nat := [0, 0, 3, 0, 0, 31, 63, 127, 255, 255, 1023, 255, 255, 8191, 16383, 32767, 65535, 131071, 131071, 524287, 131071, 131071, 4194303, 8388607, 16777215, 33554431, 67108863, 134217727, 67108863, 536870911, 1073741823, 2147483647, 4294967295, 8589934591, 17179869183, 34359738367]
theorem bulwarklaw03_CapaMoves.tab1 : rtab .any (opsOf Try.f7 1) = bulwarklaw03_CapaMoves.T1 := by kernel_rfl
theorem bulwarklaw03_CapaMoves.bits1 : waitsOk bulwarklaw03_CapaMoves.T1.2 bulwarklaw03_CapaMoves.B1 = true := by kernel_rfl
set_option maxHeartbeats 8000000 in
set_option maxRecDepth 100000 in
theorem bulwarklaw03_CapaMoves.calls (k : Nat) (a0_0 : Bool) (a0_1 : Int) (a0_2 : Int) (a0_3 : Int) (a0_4 : Int) (a0_5 : Int) (a0_6 : Int) (a1 : Int) (a2 : Int) (a3 : Int) (r : Bool) (w : World) (h : bulwarklaw03_CapaMoves.f k a0_0 a0_1 a0_2 a0_3 a0_4 a0_5 a0_6 a1 a2 a3 = some r) (hr : r = true) :
    Calls Try.prog 7 #[.agg #[.bool a0_0, .int .u32 a0_1, .int .u8 a0_2, .int .u8 a0_3, .int .u8 a0_4, .int .u16 a0_5, .int .u16 a0_6], .int .u32 a1, .int .u32 a2, .int .u32 a3] w fun e w' => e = .returned (.bool r) ∧ Below w.heap.size w w' := by
  have hr' := Aside0.mk hr
  clear hr
  have hu27 := Try.underlying27
  have HB := Aside0.mk (Below.refl w.heap.size w)
  have H : ((capa_SetAddr.f a0_0 a0_1 a0_2 a0_3 a0_4 a0_5 a0_6 a1).bind fun bt410 => ((bulwarkref03_SetAddr.f k a0_0 a0_1 a0_2 a0_3 a0_4 a0_5 a0_6 a1).bind fun bt417 => (if (bt410.1 == bt417.1 && (bt410.2.1 == bt417.2.1 && (bt410.2.2.1 == bt417.2.2.1 && (bt410.2.2.2.1 == bt417.2.2.2.1 && ((bt410.2.2.2.2.1 == bt417.2.2.2.2.1 && (bt410.2.2.2.2.2.1 == bt417.2.2.2.2.2.1 && (bt410.2.2.2.2.2.2 == bt417.2.2.2.2.2.2)))))))) = true then ((capa_SetBounds.f k a0_0 a0_1 a0_2 a0_3 a0_4 a0_5 a0_6 a2).bind fun bt424 => ((bulwarkref03_SetBounds.f k a0_0 a0_1 a0_2 a0_3 a0_4 a0_5 a0_6 a2).bind fun bt431 => (if (bt424.1 == bt431.1 && (bt424.2.1 == bt431.2.1 && (bt424.2.2.1 == bt431.2.2.1 && (bt424.2.2.2.1 == bt431.2.2.2.1 && ((bt424.2.2.2.2.1 == bt431.2.2.2.2.1 && (bt424.2.2.2.2.2.1 == bt431.2.2.2.2.2.1 && (bt424.2.2.2.2.2.2 == bt431.2.2.2.2.2.2)))))))) = true then ((capa_AndPerms.f a0_0 a0_1 a0_2 a0_3 a0_4 a0_5 a0_6 a3).bind fun bt438 => ((bulwarkref03_AndPerms.f k a0_0 a0_1 a0_2 a0_3 a0_4 a0_5 a0_6 a3).bind fun bt445 => (if (bt438.1 == bt445.1 && (bt438.2.1 == bt445.2.1 && (bt438.2.2.1 == bt445.2.2.1 && (bt438.2.2.2.1 == bt445.2.2.2.1 && ((bt438.2.2.2.2.1 == bt445.2.2.2.2.1 && (bt438.2.2.2.2.2.1 == bt445.2.2.2.2.2.1 && (bt438.2.2.2.2.2.2 == bt445.2.2.2.2.2.2)))))))) = true then ((capa_ClearTag.f a0_0 a0_1 a0_2 a0_3 a0_4 a0_5 a0_6).bind fun bt452 => ((bulwarkref03_ClearTag.f a0_0 a0_1 a0_2 a0_3 a0_4 a0_5 a0_6).bind fun bt459 => (if (bt452.1 == bt459.1 && (bt452.2.1 == bt459.2.1 && (bt452.2.2.1 == bt459.2.2.1 && (bt452.2.2.2.1 == bt459.2.2.2.1 && ((bt452.2.2.2.2.1 == bt459.2.2.2.2.1 && (bt452.2.2.2.2.2.1 == bt459.2.2.2.2.2.1 && (bt452.2.2.2.2.2.2 == bt459.2.2.2.2.2.2)))))))) = true then ((bulwarklaw03_lives.f k).bind fun t466 => (some t466)) else (some false)))) else (some false)))) else (some false)))) else (some false)))) = some r := h
  clear h
  replace H := Option.bind_eq_some_iff.mp H
  obtain ⟨⟨t410, t411, t412, t413, t414, t415, t416⟩, A50, H⟩ := H
  replace H : ((bulwarkref03_SetAddr.f k a0_0 a0_1 a0_2 a0_3 a0_4 a0_5 a0_6 a1).bind fun bt417 => (if (t410 == bt417.1 && (t411 == bt417.2.1 && (t412 == bt417.2.2.1 && (t413 == bt417.2.2.2.1 && ((t414 == bt417.2.2.2.2.1 && (t415 == bt417.2.2.2.2.2.1 && (t416 == bt417.2.2.2.2.2.2)))))))) = true then ((capa_SetBounds.f k a0_0 a0_1 a0_2 a0_3 a0_4 a0_5 a0_6 a2).bind fun bt424 => ((bulwarkref03_SetBounds.f k a0_0 a0_1 a0_2 a0_3 a0_4 a0_5 a0_6 a2).bind fun bt431 => (if (bt424.1 == bt431.1 && (bt424.2.1 == bt431.2.1 && (bt424.2.2.1 == bt431.2.2.1 && (bt424.2.2.2.1 == bt431.2.2.2.1 && ((bt424.2.2.2.2.1 == bt431.2.2.2.2.1 && (bt424.2.2.2.2.2.1 == bt431.2.2.2.2.2.1 && (bt424.2.2.2.2.2.2 == bt431.2.2.2.2.2.2)))))))) = true then ((capa_AndPerms.f a0_0 a0_1 a0_2 a0_3 a0_4 a0_5 a0_6 a3).bind fun bt438 => ((bulwarkref03_AndPerms.f k a0_0 a0_1 a0_2 a0_3 a0_4 a0_5 a0_6 a3).bind fun bt445 => (if (bt438.1 == bt445.1 && (bt438.2.1 == bt445.2.1 && (bt438.2.2.1 == bt445.2.2.1 && (bt438.2.2.2.1 == bt445.2.2.2.1 && ((bt438.2.2.2.2.1 == bt445.2.2.2.2.1 && (bt438.2.2.2.2.2.1 == bt445.2.2.2.2.2.1 && (bt438.2.2.2.2.2.2 == bt445.2.2.2.2.2.2)))))))) = true then ((capa_ClearTag.f a0_0 a0_1 a0_2 a0_3 a0_4 a0_5 a0_6).bind fun bt452 => ((bulwarkref03_ClearTag.f a0_0 a0_1 a0_2 a0_3 a0_4 a0_5 a0_6).bind fun bt459 => (if (bt452.1 == bt459.1 && (bt452.2.1 == bt459.2.1 && (bt452.2.2.1 == bt459.2.2.1 && (bt452.2.2.2.1 == bt459.2.2.2.1 && ((bt452.2.2.2.2.1 == bt459.2.2.2.2.1 && (bt452.2.2.2.2.2.1 == bt459.2.2.2.2.2.1 && (bt452.2.2.2.2.2.2 == bt459.2.2.2.2.2.2)))))))) = true then ((bulwarklaw03_lives.f k).bind fun t466 => (some t466)) else (some false)))) else (some false)))) else (some false)))) else (some false))) = some r := H
  have A5 := Aside0.mk A50
  clear A50
  replace H := Option.bind_eq_some_iff.mp H
  obtain ⟨⟨t417, t418, t419, t420, t421, t422, t423⟩, A60, H⟩ := H
  replace H : (if (t410 == t417 && (t411 == t418 && (t412 == t419 && (t413 == t420 && ((t414 == t421 && (t415 == t422 && (t416 == t423)))))))) = true then ((capa_SetBounds.f k a0_0 a0_1 a0_2 a0_3 a0_4 a0_5 a0_6 a2).bind fun bt424 => ((bulwarkref03_SetBounds.f k a0_0 a0_1 a0_2 a0_3 a0_4 a0_5 a0_6 a2).bind fun bt431 => (if (bt424.1 == bt431.1 && (bt424.2.1 == bt431.2.1 && (bt424.2.2.1 == bt431.2.2.1 && (bt424.2.2.2.1 == bt431.2.2.2.1 && ((bt424.2.2.2.2.1 == bt431.2.2.2.2.1 && (bt424.2.2.2.2.2.1 == bt431.2.2.2.2.2.1 && (bt424.2.2.2.2.2.2 == bt431.2.2.2.2.2.2)))))))) = true then ((capa_AndPerms.f a0_0 a0_1 a0_2 a0_3 a0_4 a0_5 a0_6 a3).bind fun bt438 => ((bulwarkref03_AndPerms.f k a0_0 a0_1 a0_2 a0_3 a0_4 a0_5 a0_6 a3).bind fun bt445 => (if (bt438.1 == bt445.1 && (bt438.2.1 == bt445.2.1 && (bt438.2.2.1 == bt445.2.2.1 && (bt438.2.2.2.1 == bt445.2.2.2.1 && ((bt438.2.2.2.2.1 == bt445.2.2.2.2.1 && (bt438.2.2.2.2.2.1 == bt445.2.2.2.2.2.1 && (bt438.2.2.2.2.2.2 == bt445.2.2.2.2.2.2)))))))) = true then ((capa_ClearTag.f a0_0 a0_1 a0_2 a0_3 a0_4 a0_5 a0_6).bind fun bt452 => ((bulwarkref03_ClearTag.f a0_0 a0_1 a0_2 a0_3 a0_4 a0_5 a0_6).bind fun bt459 => (if (bt452.1 == bt459.1 && (bt452.2.1 == bt459.2.1 && (bt452.2.2.1 == bt459.2.2.1 && (bt452.2.2.2.1 == bt459.2.2.2.1 && ((bt452.2.2.2.2.1 == bt459.2.2.2.2.1 && (bt452.2.2.2.2.2.1 == bt459.2.2.2.2.2.1 && (bt452.2.2.2.2.2.2 == bt459.2.2.2.2.2.2)))))))) = true then ((bulwarklaw03_lives.f k).bind fun t466 => (some t466)) else (some false)))) else (some false)))) else (some false)))) else (some false)) = some r := H
  have A6 := Aside0.mk A60
  clear A60
  by_cases c7 : (t410 == t417 && (t411 == t418 && (t412 == t419 && (t413 == t420 && ((t414 == t421 && (t415 == t422 && (t416 == t423)))))))) = true
  · rw [if_pos c7] at H
    have c7b0 : (t410 == t417 && (t411 == t418 && (t412 == t419 && (t413 == t420 && ((t414 == t421 && (t415 == t422 && (t416 == t423)))))))) = true := c7
    (try (have c7b1 : decide (t410 = t417 && (t411 == t418 && (t412 == t419 && (t413 == t420 && ((t414 == t421 && (t415 == t422 && (t416 == t423)))))))) = true := by simpa using c7))
    (try (have c7b2 : (t410 == t417 && (t411 == t418 && (t412 == t419 && (t413 == t420 && ((t414 == t421 && (t415 == t422 && (t416 == t423)))))))) = true := by simpa using c7))
    clear c7
    replace H := Option.bind_eq_some_iff.mp H
    obtain ⟨⟨t424, t425, t426, t427, t428, t429, t430⟩, A80, H⟩ := H
    replace H : ((bulwarkref03_SetBounds.f k a0_0 a0_1 a0_2 a0_3 a0_4 a0_5 a0_6 a2).bind fun bt431 => (if (t424 == bt431.1 && (t425 == bt431.2.1 && (t426 == bt431.2.2.1 && (t427 == bt431.2.2.2.1 && ((t428 == bt431.2.2.2.2.1 && (t429 == bt431.2.2.2.2.2.1 && (t430 == bt431.2.2.2.2.2.2)))))))) = true then ((capa_AndPerms.f a0_0 a0_1 a0_2 a0_3 a0_4 a0_5 a0_6 a3).bind fun bt438 => ((bulwarkref03_AndPerms.f k a0_0 a0_1 a0_2 a0_3 a0_4 a0_5 a0_6 a3).bind fun bt445 => (if (bt438.1 == bt445.1 && (bt438.2.1 == bt445.2.1 && (bt438.2.2.1 == bt445.2.2.1 && (bt438.2.2.2.1 == bt445.2.2.2.1 && ((bt438.2.2.2.2.1 == bt445.2.2.2.2.1 && (bt438.2.2.2.2.2.1 == bt445.2.2.2.2.2.1 && (bt438.2.2.2.2.2.2 == bt445.2.2.2.2.2.2)))))))) = true then ((capa_ClearTag.f a0_0 a0_1 a0_2 a0_3 a0_4 a0_5 a0_6).bind fun bt452 => ((bulwarkref03_ClearTag.f a0_0 a0_1 a0_2 a0_3 a0_4 a0_5 a0_6).bind fun bt459 => (if (bt452.1 == bt459.1 && (bt452.2.1 == bt459.2.1 && (bt452.2.2.1 == bt459.2.2.1 && (bt452.2.2.2.1 == bt459.2.2.2.1 && ((bt452.2.2.2.2.1 == bt459.2.2.2.2.1 && (bt452.2.2.2.2.2.1 == bt459.2.2.2.2.2.1 && (bt452.2.2.2.2.2.2 == bt459.2.2.2.2.2.2)))))))) = true then ((bulwarklaw03_lives.f k).bind fun t466 => (some t466)) else (some false)))) else (some false)))) else (some false))) = some r := H
    have A8 := Aside0.mk A80
    clear A80
    replace H := Option.bind_eq_some_iff.mp H
    obtain ⟨⟨t431, t432, t433, t434, t435, t436, t437⟩, A90, H⟩ := H
    replace H : (if (t424 == t431 && (t425 == t432 && (t426 == t433 && (t427 == t434 && ((t428 == t435 && (t429 == t436 && (t430 == t437)))))))) = true then ((capa_AndPerms.f a0_0 a0_1 a0_2 a0_3 a0_4 a0_5 a0_6 a3).bind fun bt438 => ((bulwarkref03_AndPerms.f k a0_0 a0_1 a0_2 a0_3 a0_4 a0_5 a0_6 a3).bind fun bt445 => (if (bt438.1 == bt445.1 && (bt438.2.1 == bt445.2.1 && (bt438.2.2.1 == bt445.2.2.1 && (bt438.2.2.2.1 == bt445.2.2.2.1 && ((bt438.2.2.2.2.1 == bt445.2.2.2.2.1 && (bt438.2.2.2.2.2.1 == bt445.2.2.2.2.2.1 && (bt438.2.2.2.2.2.2 == bt445.2.2.2.2.2.2)))))))) = true then ((capa_ClearTag.f a0_0 a0_1 a0_2 a0_3 a0_4 a0_5 a0_6).bind fun bt452 => ((bulwarkref03_ClearTag.f a0_0 a0_1 a0_2 a0_3 a0_4 a0_5 a0_6).bind fun bt459 => (if (bt452.1 == bt459.1 && (bt452.2.1 == bt459.2.1 && (bt452.2.2.1 == bt459.2.2.1 && (bt452.2.2.2.1 == bt459.2.2.2.1 && ((bt452.2.2.2.2.1 == bt459.2.2.2.2.1 && (bt452.2.2.2.2.2.1 == bt459.2.2.2.2.2.1 && (bt452.2.2.2.2.2.2 == bt459.2.2.2.2.2.2)))))))) = true then ((bulwarklaw03_lives.f k).bind fun t466 => (some t466)) else (some false)))) else (some false)))) else (some false)) = some r := H
    have A9 := Aside0.mk A90
    clear A90
    by_cases c10 : (t424 == t431 && (t425 == t432 && (t426 == t433 && (t427 == t434 && ((t428 == t435 && (t429 == t436 && (t430 == t437)))))))) = true
    · rw [if_pos c10] at H
      have c10b0 : (t424 == t431 && (t425 == t432 && (t426 == t433 && (t427 == t434 && ((t428 == t435 && (t429 == t436 && (t430 == t437)))))))) = true := c10
      (try (have c10b1 : decide (t424 = t431 && (t425 == t432 && (t426 == t433 && (t427 == t434 && ((t428 == t435 && (t429 == t436 && (t430 == t437)))))))) = true := by simpa using c10))
      (try (have c10b2 : (t424 == t431 && (t425 == t432 && (t426 == t433 && (t427 == t434 && ((t428 == t435 && (t429 == t436 && (t430 == t437)))))))) = true := by simpa using c10))
      clear c10
      replace H := Option.bind_eq_some_iff.mp H
      obtain ⟨⟨t438, t439, t440, t441, t442, t443, t444⟩, A110, H⟩ := H
      replace H : ((bulwarkref03_AndPerms.f k a0_0 a0_1 a0_2 a0_3 a0_4 a0_5 a0_6 a3).bind fun bt445 => (if (t438 == bt445.1 && (t439 == bt445.2.1 && (t440 == bt445.2.2.1 && (t441 == bt445.2.2.2.1 && ((t442 == bt445.2.2.2.2.1 && (t443 == bt445.2.2.2.2.2.1 && (t444 == bt445.2.2.2.2.2.2)))))))) = true then ((capa_ClearTag.f a0_0 a0_1 a0_2 a0_3 a0_4 a0_5 a0_6).bind fun bt452 => ((bulwarkref03_ClearTag.f a0_0 a0_1 a0_2 a0_3 a0_4 a0_5 a0_6).bind fun bt459 => (if (bt452.1 == bt459.1 && (bt452.2.1 == bt459.2.1 && (bt452.2.2.1 == bt459.2.2.1 && (bt452.2.2.2.1 == bt459.2.2.2.1 && ((bt452.2.2.2.2.1 == bt459.2.2.2.2.1 && (bt452.2.2.2.2.2.1 == bt459.2.2.2.2.2.1 && (bt452.2.2.2.2.2.2 == bt459.2.2.2.2.2.2)))))))) = true then ((bulwarklaw03_lives.f k).bind fun t466 => (some t466)) else (some false)))) else (some false))) = some r := H
      have A11 := Aside0.mk A110
      clear A110
      replace H := Option.bind_eq_some_iff.mp H
      obtain ⟨⟨t445, t446, t447, t448, t449, t450, t451⟩, A120, H⟩ := H
      replace H : (if (t438 == t445 && (t439 == t446 && (t440 == t447 && (t441 == t448 && ((t442 == t449 && (t443 == t450 && (t444 == t451)))))))) = true then ((capa_ClearTag.f a0_0 a0_1 a0_2 a0_3 a0_4 a0_5 a0_6).bind fun bt452 => ((bulwarkref03_ClearTag.f a0_0 a0_1 a0_2 a0_3 a0_4 a0_5 a0_6).bind fun bt459 => (if (bt452.1 == bt459.1 && (bt452.2.1 == bt459.2.1 && (bt452.2.2.1 == bt459.2.2.1 && (bt452.2.2.2.1 == bt459.2.2.2.1 && ((bt452.2.2.2.2.1 == bt459.2.2.2.2.1 && (bt452.2.2.2.2.2.1 == bt459.2.2.2.2.2.1 && (bt452.2.2.2.2.2.2 == bt459.2.2.2.2.2.2)))))))) = true then ((bulwarklaw03_lives.f k).bind fun t466 => (some t466)) else (some false)))) else (some false)) = some r := H
      have A12 := Aside0.mk A120
      clear A120
      by_cases c13 : (t438 == t445 && (t439 == t446 && (t440 == t447 && (t441 == t448 && ((t442 == t449 && (t443 == t450 && (t444 == t451)))))))) = true
      · rw [if_pos c13] at H
        have c13b0 : (t438 == t445 && (t439 == t446 && (t440 == t447 && (t441 == t448 && ((t442 == t449 && (t443 == t450 && (t444 == t451)))))))) = true := c13
        (try (have c13b1 : decide (t438 = t445 && (t439 == t446 && (t440 == t447 && (t441 == t448 && ((t442 == t449 && (t443 == t450 && (t444 == t451)))))))) = true := by simpa using c13))
        (try (have c13b2 : (t438 == t445 && (t439 == t446 && (t440 == t447 && (t441 == t448 && ((t442 == t449 && (t443 == t450 && (t444 == t451)))))))) = true := by simpa using c13))
        clear c13
        replace H := Option.bind_eq_some_iff.mp H
        obtain ⟨⟨t452, t453, t454, t455, t456, t457, t458⟩, A140, H⟩ := H
        replace H : ((bulwarkref03_ClearTag.f a0_0 a0_1 a0_2 a0_3 a0_4 a0_5 a0_6).bind fun bt459 => (if (t452 == bt459.1 && (t453 == bt459.2.1 && (t454 == bt459.2.2.1 && (t455 == bt459.2.2.2.1 && ((t456 == bt459.2.2.2.2.1 && (t457 == bt459.2.2.2.2.2.1 && (t458 == bt459.2.2.2.2.2.2)))))))) = true then ((bulwarklaw03_lives.f k).bind fun t466 => (some t466)) else (some false))) = some r := H
        have A14 := Aside0.mk A140
        clear A140
        replace H := Option.bind_eq_some_iff.mp H
        obtain ⟨⟨t459, t460, t461, t462, t463, t464, t465⟩, A150, H⟩ := H
        replace H : (if (t452 == t459 && (t453 == t460 && (t454 == t461 && (t455 == t462 && ((t456 == t463 && (t457 == t464 && (t458 == t465)))))))) = true then ((bulwarklaw03_lives.f k).bind fun t466 => (some t466)) else (some false)) = some r := H
        have A15 := Aside0.mk A150
        clear A150
        by_cases c16 : (t452 == t459 && (t453 == t460 && (t454 == t461 && (t455 == t462 && ((t456 == t463 && (t457 == t464 && (t458 == t465)))))))) = true
        · rw [if_pos c16] at H
          have c16b0 : (t452 == t459 && (t453 == t460 && (t454 == t461 && (t455 == t462 && ((t456 == t463 && (t457 == t464 && (t458 == t465)))))))) = true := c16
          (try (have c16b1 : decide (t452 = t459 && (t453 == t460 && (t454 == t461 && (t455 == t462 && ((t456 == t463 && (t457 == t464 && (t458 == t465)))))))) = true := by simpa using c16))
          (try (have c16b2 : (t452 == t459 && (t453 == t460 && (t454 == t461 && (t455 == t462 && ((t456 == t463 && (t457 == t464 && (t458 == t465)))))))) = true := by simpa using c16))
          clear c16
          replace H := Option.bind_eq_some_iff.mp H
          obtain ⟨t466, A170, H⟩ := H
          replace H : (some t466) = some r := H
          have A17 := Aside0.mk A170
          clear A170
          obtain rfl := Option.some.inj H
          go_enter Try.func7, Try.ntmps7
          try go_wp2_with (first | ((with_reducible refine gate_dst (N := 4) rfl ?_); refine box_event ?hg (N := 4) ?hd (cs := #[.bool a0_0, .int .u32 a0_1, .int .u8 a0_2, .int .u8 a0_3, .int .u8 a0_4, .int .u16 a0_5, .int .u16 a0_6]) (t := 27) ?hr ?_; (case hd => rfl); (case hg => rfl); (case hr => first | (go_simp; done) | (go_simp; rfl)); intro gb409 hg w18 hbox hb; have n0_ := Aside0.mk (below_step (by repeat (first | (with_reducible first | exact HB.out | apply below_alloc | apply pw_below_drewN | apply below_drew1) | exact HB.out)) hb); have n1_ := Aside0.mk (hbox); have n2_ := Aside0.mk ((by rw [hg]; exact (below_size (by repeat (first | (with_reducible first | exact HB.out | apply below_alloc | apply pw_below_drewN | apply below_drew1) | exact HB.out))) : w.heap.size ≤ gb409)); have n3_ := Aside0.mk ((by rw [hg]; exact (below_size (by repeat (first | (with_reducible first | exact HB.out | apply below_alloc | apply pw_below_drewN | apply below_drew1) | exact HB.out))) : w.heap.size ≤ gb409)); clear HB; have HB := n0_; have BK409 := n1_; have GW409 := n2_; have GE409 := n3_; clear n0_ n1_ n2_ n3_; clear hb hbox hg))
          have n0_ := Aside0.mk (blk_drew BK409.out)
          have n1_ := Aside0.mk (below_drew1 HB.out)
          clear BK409
          clear HB
          have BK409 := n0_
          have HB := n1_
          clear n0_ n1_
          refine start_ (n := 36) (S := fun w' => w'.cell? ⟨gb409, 0, none⟩ = some (.bool a0_0) ∧ w'.cell? ⟨gb409, 1, none⟩ = some (.int .u32 a0_1) ∧ w'.cell? ⟨gb409, 2, none⟩ = some (.int .u8 a0_2) ∧ w'.cell? ⟨gb409, 3, none⟩ = some (.int .u8 a0_3) ∧ w'.cell? ⟨gb409, 4, none⟩ = some (.int .u8 a0_4) ∧ w'.cell? ⟨gb409, 5, none⟩ = some (.int .u16 a0_5) ∧ w'.cell? ⟨gb409, 6, none⟩ = some (.int .u16 a0_6)) (ds := []) #[false, false, false, false, false, false, false, false, false, false, false, false, false, false, false, false, false, false, false, false, false, false, false, false, false, false, false, false, false, false, false, false, false, false, false, false] (by kernel_rfl) rfl rfl ⟨(blk_cell BK409.out 0).trans rfl, (blk_cell BK409.out 1).trans rfl, (blk_cell BK409.out 2).trans rfl, (blk_cell BK409.out 3).trans rfl, (blk_cell BK409.out 4).trans rfl, (blk_cell BK409.out 5).trans rfl, (blk_cell BK409.out 6).trans rfl⟩ (fun hHeld => ?_); refine with_tabW bulwarklaw03_CapaMoves.tab1 bulwarklaw03_CapaMoves.bits1 (fun HT_ HW_ => ?_)
          generalize w18.drew = w19 at BK409 HB hHeld ⊢
          refine pure_ (i := 1) (N := some 10) (v := ?_) (a' := ?_) #[false, true, false, false, false, false, false, false, false, false, false, false, false, false, false, false, false, false, false, false, false, false, false, false, false, false, false, false, false, false, false, false, false, false, false, false] rfl rfl (any_of HT_.out (by kernel_rfl)) (fun _ _ _ h => h) (Or.inl ⟨by rfl, ?_⟩) ?_ ?_
          rotate_left
          · intro w'
            go_simp
            with_reducible rfl
          rotate_left
          · simp only [Act.put, List.setIfInBounds_toArray, List.set_cons_zero, List.set_cons_succ, i64_w, i32_w]
            rfl
          refine pure_ (i := 4) (N := some 13) (v := ?_) (a' := ?_) #[false, true, false, false, true, false, false, false, false, false, false, false, false, false, false, false, false, false, false, false, false, false, false, false, false, false, false, false, false, false, false, false, false, false, false, false] rfl rfl (any_of HT_.out (by kernel_rfl)) (fun _ _ _ h => h) (Or.inl ⟨by rfl, ?_⟩) ?_ ?_
          rotate_left
          · intro w'
            go_simp
            with_reducible rfl
          rotate_left
          · simp only [Act.put, List.setIfInBounds_toArray, List.set_cons_zero, List.set_cons_succ, i64_w, i32_w]
            rfl
          refine take_ (i := 0) (N := some 9) (v := ?_) (a' := ?_) #[true, true, false, false, true, false, false, false, false, false, false, false, false, false, false, false, false, false, false, false, false, false, false, false, false, false, false, false, false, false, false, false, false, false, false, false] rfl rfl (take_ofW HT_.out HW_.out (by kernel_rfl)) (fun _ _ _ h => h) (Or.inl ⟨by rfl, ?_⟩) hHeld ?_ ?_
          rotate_left
          · rintro w' ⟨s0, s1, s2, s3, s4, s5, s6⟩
            go_simp
            with_reducible rfl
          rotate_left
          · simp only [Act.put, List.setIfInBounds_toArray, List.set_cons_zero, List.set_cons_succ, i64_w, i32_w]
            rfl
          refine take_ (i := 3) (N := some 12) (v := ?_) (a' := ?_) #[true, true, false, true, true, false, false, false, false, false, false, false, false, false, false, false, false, false, false, false, false, false, false, false, false, false, false, false, false, false, false, false, false, false, false, false] rfl rfl (take_ofW HT_.out HW_.out (by kernel_rfl)) (fun _ _ _ h => h) (Or.inl ⟨by rfl, ?_⟩) hHeld ?_ ?_
          rotate_left
          · rintro w' ⟨s0, s1, s2, s3, s4, s5, s6⟩
            go_simp
            with_reducible rfl
          rotate_left
          · simp only [Act.put, List.setIfInBounds_toArray, List.set_cons_zero, List.set_cons_succ, i64_w, i32_w]
            rfl
          refine one_ (i := 2) (N := some 11) #[true, true, true, true, true, false, false, false, false, false, false, false, false, false, false, false, false, false, false, false, false, false, false, false, false, false, false, false, false, false, false, false, false, false, false, false] rfl rfl (one_of HT_.out (by kernel_rfl)) (by decide) (fun K hK => ?_)
          refine goes_ Try.func29 (by kernel_rfl) rfl #[.agg #[.bool a0_0, .int .u32 a0_1, .int .u8 a0_2, .int .u8 a0_3, .int .u8 a0_4, .int .u16 a0_5, .int .u16 a0_6], .int .u32 a1] (by rfl) rfl rfl (by (try simp only [List.map_toArray, List.map_cons, List.map_nil]); first | done | rfl | (simp only [List.length_drop, List.length_take]; rfl)) ?_
          with_reducible refine (capa_SetAddr.calls a0_0 a0_1 a0_2 a0_3 a0_4 a0_5 a0_6 a1 t410 t411 t412 t413 t414 t415 t416 _ A5.out).mono ?_
          rintro e w20 ⟨rfl, hb⟩
          refine ⟨_, rfl, ?_⟩
          have n0_ := Aside0.mk (blk_below (g := gb409) (o := .cells #[.bool a0_0, .int .u32 a0_1, .int .u8 a0_2, .int .u8 a0_3, .int .u8 a0_4, .int .u16 a0_5, .int .u16 a0_6] 27 (0, 0)) (by (with_reducible repeat (first | refine blk_drewN ?_ _ | refine blk_drew ?_ | refine blk_alloc ?_ _)); exact BK409.out) hb)
          have n1_ := Aside0.mk (below_step (by repeat (first | (with_reducible first | exact HB.out | apply below_alloc | apply pw_below_drewN | apply below_drew1 | refine below_set ?_ GE409.out) | exact HB.out)) hb)
          clear BK409
          clear HB
          have BK409 := n0_
          have HB := n1_
          clear n0_ n1_
          (try clear hb)
          (try clear hb2)
          (try clear hk)
          (try clear hi)
          refine hK.out _ _ ⟨(blk_cell BK409.out 0).trans rfl, (blk_cell BK409.out 1).trans rfl, (blk_cell BK409.out 2).trans rfl, (blk_cell BK409.out 3).trans rfl, (blk_cell BK409.out 4).trans rfl, (blk_cell BK409.out 5).trans rfl, (blk_cell BK409.out 6).trans rfl⟩ (fun hHeld => ?_)
          clear hK K
          refine norm_ (a' := ?_) ?_ ?_
          rotate_left
          · show Act.put _ (some 11) _ = _
            simp only [Act.put, List.setIfInBounds_toArray, List.set_cons_zero, List.set_cons_succ, i64_w, i32_w]
            rfl
          refine one_ (i := 5) (N := some 14) #[true, true, true, true, true, true, false, false, false, false, false, false, false, false, false, false, false, false, false, false, false, false, false, false, false, false, false, false, false, false, false, false, false, false, false, false] rfl rfl (one_of HT_.out (by kernel_rfl)) (by decide) (fun K hK => ?_)
          refine goes_ Try.func32 (by kernel_rfl) rfl #[.agg #[.bool a0_0, .int .u32 a0_1, .int .u8 a0_2, .int .u8 a0_3, .int .u8 a0_4, .int .u16 a0_5, .int .u16 a0_6], .int .u32 a1] (by rfl) rfl rfl (by (try simp only [List.map_toArray, List.map_cons, List.map_nil]); first | done | rfl | (simp only [List.length_drop, List.length_take]; rfl)) ?_
          with_reducible refine (bulwarkref03_SetAddr.calls k a0_0 a0_1 a0_2 a0_3 a0_4 a0_5 a0_6 a1 t417 t418 t419 t420 t421 t422 t423 _ A6.out).mono ?_
          rintro e w21 ⟨rfl, hb⟩
          refine ⟨_, rfl, ?_⟩
          have n0_ := Aside0.mk (blk_below (g := gb409) (o := .cells #[.bool a0_0, .int .u32 a0_1, .int .u8 a0_2, .int .u8 a0_3, .int .u8 a0_4, .int .u16 a0_5, .int .u16 a0_6] 27 (0, 0)) (by (with_reducible repeat (first | refine blk_drewN ?_ _ | refine blk_drew ?_ | refine blk_alloc ?_ _)); exact BK409.out) hb)
          have n1_ := Aside0.mk (below_step (by repeat (first | (with_reducible first | exact HB.out | apply below_alloc | apply pw_below_drewN | apply below_drew1 | refine below_set ?_ GE409.out) | exact HB.out)) hb)
          clear BK409
          clear HB
          have BK409 := n0_
          have HB := n1_
          clear n0_ n1_
          (try clear hb)
          (try clear hb2)
          (try clear hk)
          (try clear hi)
          refine hK.out _ _ ⟨(blk_cell BK409.out 0).trans rfl, (blk_cell BK409.out 1).trans rfl, (blk_cell BK409.out 2).trans rfl, (blk_cell BK409.out 3).trans rfl, (blk_cell BK409.out 4).trans rfl, (blk_cell BK409.out 5).trans rfl, (blk_cell BK409.out 6).trans rfl⟩ (fun hHeld => ?_)
          clear hK K
          refine norm_ (a' := ?_) ?_ ?_
          rotate_left
          · show Act.put _ (some 14) _ = _
            simp only [Act.put, List.setIfInBounds_toArray, List.set_cons_zero, List.set_cons_succ, i64_w, i32_w]
            rfl
          refine pure_ (i := 6) (N := some 15) (v := ?_) (a' := ?_) #[true, true, true, true, true, true, true, false, false, false, false, false, false, false, false, false, false, false, false, false, false, false, false, false, false, false, false, false, false, false, false, false, false, false, false, false] rfl rfl (any_of HT_.out (by kernel_rfl)) (fun _ _ _ h => h) (Or.inl ⟨by rfl, ?_⟩) ?_ ?_
          rotate_left
          · intro w'
            go_simp
            with_reducible rfl
          rotate_left
          · simp only [Act.put, List.setIfInBounds_toArray, List.set_cons_zero, List.set_cons_succ, i64_w, i32_w]
            rfl
          refine pure_ (i := 7) (N := some 16) (v := ?_) (a' := ?_) #[true, true, true, true, true, true, true, true, false, false, false, false, false, false, false, false, false, false, false, false, false, false, false, false, false, false, false, false, false, false, false, false, false, false, false, false] rfl rfl (any_of HT_.out (by kernel_rfl)) (fun _ _ _ h => h) (Or.inl ⟨by rfl, ?_⟩) ?_ ?_
          rotate_left
          · intro w'
            go_simp
            with_reducible rfl
          rotate_left
          · simp only [Act.put, List.setIfInBounds_toArray, List.set_cons_zero, List.set_cons_succ, i64_w, i32_w]
            rfl
          refine pure_ (i := 9) (N := some 18) (v := ?_) (a' := ?_) #[true, true, true, true, true, true, true, true, false, true, false, false, false, false, false, false, false, false, false, false, false, false, false, false, false, false, false, false, false, false, false, false, false, false, false, false] rfl rfl (any_of HT_.out (by kernel_rfl)) (fun _ _ _ h => h) (Or.inl ⟨by rfl, ?_⟩) ?_ ?_
          rotate_left
          · intro w'
            go_simp
            with_reducible rfl
          rotate_left
          · simp only [Act.put, List.setIfInBounds_toArray, List.set_cons_zero, List.set_cons_succ, i64_w, i32_w]
            rfl
          refine pure_ (i := 12) (N := some 21) (v := ?_) (a' := ?_) #[true, true, true, true, true, true, true, true, false, true, false, false, true, false, false, false, false, false, false, false, false, false, false, false, false, false, false, false, false, false, false, false, false, false, false, false] rfl rfl (any_of HT_.out (by kernel_rfl)) (fun _ _ _ h => h) (Or.inl ⟨by rfl, ?_⟩) ?_ ?_
          rotate_left
          · intro w'
            go_simp
            with_reducible rfl
          rotate_left
          · simp only [Act.put, List.setIfInBounds_toArray, List.set_cons_zero, List.set_cons_succ, i64_w, i32_w]
            rfl
          refine take_ (i := 8) (N := some 17) (v := ?_) (a' := ?_) #[true, true, true, true, true, true, true, true, true, true, false, false, true, false, false, false, false, false, false, false, false, false, false, false, false, false, false, false, false, false, false, false, false, false, false, false] rfl rfl (take_ofW HT_.out HW_.out (by kernel_rfl)) (fun _ _ _ h => h) (Or.inl ⟨by rfl, ?_⟩) hHeld ?_ ?_
          rotate_left
          · rintro w' ⟨s0, s1, s2, s3, s4, s5, s6⟩
            go_simp
            with_reducible rfl
          rotate_left
          · simp only [Act.put, List.setIfInBounds_toArray, List.set_cons_zero, List.set_cons_succ, i64_w, i32_w]
            rfl
          refine take_ (i := 11) (N := some 20) (v := ?_) (a' := ?_) #[true, true, true, true, true, true, true, true, true, true, false, true, true, false, false, false, false, false, false, false, false, false, false, false, false, false, false, false, false, false, false, false, false, false, false, false] rfl rfl (take_ofW HT_.out HW_.out (by kernel_rfl)) (fun _ _ _ h => h) (Or.inl ⟨by rfl, ?_⟩) hHeld ?_ ?_
          rotate_left
          · rintro w' ⟨s0, s1, s2, s3, s4, s5, s6⟩
            go_simp
            with_reducible rfl
          rotate_left
          · simp only [Act.put, List.setIfInBounds_toArray, List.set_cons_zero, List.set_cons_succ, i64_w, i32_w]
            rfl
          refine one_ (i := 10) (N := some 19) #[true, true, true, true, true, true, true, true, true, true, true, true, true, false, false, false, false, false, false, false, false, false, false, false, false, false, false, false, false, false, false, false, false, false, false, false] rfl rfl (one_of HT_.out (by kernel_rfl)) (by decide) (fun K hK => ?_)
          refine goes_ Try.func30 (by kernel_rfl) rfl #[.agg #[.bool a0_0, .int .u32 a0_1, .int .u8 a0_2, .int .u8 a0_3, .int .u8 a0_4, .int .u16 a0_5, .int .u16 a0_6], .int .u32 a2] (by rfl) rfl rfl (by (try simp only [List.map_toArray, List.map_cons, List.map_nil]); first | done | rfl | (simp only [List.length_drop, List.length_take]; rfl)) ?_
          with_reducible refine (capa_SetBounds.calls k a0_0 a0_1 a0_2 a0_3 a0_4 a0_5 a0_6 a2 t424 t425 t426 t427 t428 t429 t430 _ A8.out).mono ?_
          rintro e w22 ⟨rfl, hb⟩
          refine ⟨_, rfl, ?_⟩
          have n0_ := Aside0.mk (blk_below (g := gb409) (o := .cells #[.bool a0_0, .int .u32 a0_1, .int .u8 a0_2, .int .u8 a0_3, .int .u8 a0_4, .int .u16 a0_5, .int .u16 a0_6] 27 (0, 0)) (by (with_reducible repeat (first | refine blk_drewN ?_ _ | refine blk_drew ?_ | refine blk_alloc ?_ _)); exact BK409.out) hb)
          have n1_ := Aside0.mk (below_step (by repeat (first | (with_reducible first | exact HB.out | apply below_alloc | apply pw_below_drewN | apply below_drew1 | refine below_set ?_ GE409.out) | exact HB.out)) hb)
          clear BK409
          clear HB
          have BK409 := n0_
          have HB := n1_
          clear n0_ n1_
          (try clear hb)
          (try clear hb2)
          (try clear hk)
          (try clear hi)
          refine hK.out _ _ ⟨(blk_cell BK409.out 0).trans rfl, (blk_cell BK409.out 1).trans rfl, (blk_cell BK409.out 2).trans rfl, (blk_cell BK409.out 3).trans rfl, (blk_cell BK409.out 4).trans rfl, (blk_cell BK409.out 5).trans rfl, (blk_cell BK409.out 6).trans rfl⟩ (fun hHeld => ?_)
          clear hK K
          refine norm_ (a' := ?_) ?_ ?_
          rotate_left
          · show Act.put _ (some 19) _ = _
            simp only [Act.put, List.setIfInBounds_toArray, List.set_cons_zero, List.set_cons_succ, i64_w, i32_w]
            rfl
          refine one_ (i := 13) (N := some 22) #[true, true, true, true, true, true, true, true, true, true, true, true, true, true, false, false, false, false, false, false, false, false, false, false, false, false, false, false, false, false, false, false, false, false, false, false] rfl rfl (one_of HT_.out (by kernel_rfl)) (by decide) (fun K hK => ?_)
          refine goes_ Try.func33 (by kernel_rfl) rfl #[.agg #[.bool a0_0, .int .u32 a0_1, .int .u8 a0_2, .int .u8 a0_3, .int .u8 a0_4, .int .u16 a0_5, .int .u16 a0_6], .int .u32 a2] (by rfl) rfl rfl (by (try simp only [List.map_toArray, List.map_cons, List.map_nil]); first | done | rfl | (simp only [List.length_drop, List.length_take]; rfl)) ?_
          with_reducible refine (bulwarkref03_SetBounds.calls k a0_0 a0_1 a0_2 a0_3 a0_4 a0_5 a0_6 a2 t431 t432 t433 t434 t435 t436 t437 _ A9.out).mono ?_
          rintro e w23 ⟨rfl, hb⟩
          refine ⟨_, rfl, ?_⟩
          have n0_ := Aside0.mk (blk_below (g := gb409) (o := .cells #[.bool a0_0, .int .u32 a0_1, .int .u8 a0_2, .int .u8 a0_3, .int .u8 a0_4, .int .u16 a0_5, .int .u16 a0_6] 27 (0, 0)) (by (with_reducible repeat (first | refine blk_drewN ?_ _ | refine blk_drew ?_ | refine blk_alloc ?_ _)); exact BK409.out) hb)
          have n1_ := Aside0.mk (below_step (by repeat (first | (with_reducible first | exact HB.out | apply below_alloc | apply pw_below_drewN | apply below_drew1 | refine below_set ?_ GE409.out) | exact HB.out)) hb)
          clear BK409
          clear HB
          have BK409 := n0_
          have HB := n1_
          clear n0_ n1_
          (try clear hb)
          (try clear hb2)
          (try clear hk)
          (try clear hi)
          refine hK.out _ _ ⟨(blk_cell BK409.out 0).trans rfl, (blk_cell BK409.out 1).trans rfl, (blk_cell BK409.out 2).trans rfl, (blk_cell BK409.out 3).trans rfl, (blk_cell BK409.out 4).trans rfl, (blk_cell BK409.out 5).trans rfl, (blk_cell BK409.out 6).trans rfl⟩ (fun hHeld => ?_)
          clear hK K
          refine norm_ (a' := ?_) ?_ ?_
          rotate_left
          · show Act.put _ (some 22) _ = _
            simp only [Act.put, List.setIfInBounds_toArray, List.set_cons_zero, List.set_cons_succ, i64_w, i32_w]
            rfl
          refine pure_ (i := 14) (N := some 23) (v := ?_) (a' := ?_) #[true, true, true, true, true, true, true, true, true, true, true, true, true, true, true, false, false, false, false, false, false, false, false, false, false, false, false, false, false, false, false, false, false, false, false, false] rfl rfl (any_of HT_.out (by kernel_rfl)) (fun _ _ _ h => h) (Or.inl ⟨by rfl, ?_⟩) ?_ ?_
          rotate_left
          · intro w'
            go_simp
            with_reducible rfl
          rotate_left
          · simp only [Act.put, List.setIfInBounds_toArray, List.set_cons_zero, List.set_cons_succ, i64_w, i32_w]
            rfl
          refine pure_ (i := 15) (N := some 24) (v := ?_) (a' := ?_) #[true, true, true, true, true, true, true, true, true, true, true, true, true, true, true, true, false, false, false, false, false, false, false, false, false, false, false, false, false, false, false, false, false, false, false, false] rfl rfl (any_of HT_.out (by kernel_rfl)) (fun _ _ _ h => h) (Or.inl ⟨by rfl, ?_⟩) ?_ ?_
          rotate_left
          · intro w'
            go_simp
            with_reducible rfl
          rotate_left
          · simp only [Act.put, List.setIfInBounds_toArray, List.set_cons_zero, List.set_cons_succ, i64_w, i32_w]
            rfl
          refine pure_ (i := 16) (N := some 25) (v := ?_) (a' := ?_) #[true, true, true, true, true, true, true, true, true, true, true, true, true, true, true, true, true, false, false, false, false, false, false, false, false, false, false, false, false, false, false, false, false, false, false, false] rfl rfl (any_of HT_.out (by kernel_rfl)) (fun _ _ _ h => h) (Or.inl ⟨by rfl, ?_⟩) ?_ ?_
          rotate_left
          · intro w'
            go_simp
            with_reducible rfl
          rotate_left
          · simp only [Act.put, List.setIfInBounds_toArray, List.set_cons_zero, List.set_cons_succ, i64_w, i32_w]
            rfl
          refine pure_ (i := 18) (N := some 27) (v := ?_) (a' := ?_) #[true, true, true, true, true, true, true, true, true, true, true, true, true, true, true, true, true, false, true, false, false, false, false, false, false, false, false, false, false, false, false, false, false, false, false, false] rfl rfl (any_of HT_.out (by kernel_rfl)) (fun _ _ _ h => h) (Or.inl ⟨by rfl, ?_⟩) ?_ ?_
          rotate_left
          · intro w'
            go_simp
            with_reducible rfl
          rotate_left
          · simp only [Act.put, List.setIfInBounds_toArray, List.set_cons_zero, List.set_cons_succ, i64_w, i32_w]
            rfl
          refine pure_ (i := 21) (N := some 30) (v := ?_) (a' := ?_) #[true, true, true, true, true, true, true, true, true, true, true, true, true, true, true, true, true, false, true, false, false, true, false, false, false, false, false, false, false, false, false, false, false, false, false, false] rfl rfl (any_of HT_.out (by kernel_rfl)) (fun _ _ _ h => h) (Or.inl ⟨by rfl, ?_⟩) ?_ ?_
          rotate_left
          · intro w'
            go_simp
            with_reducible rfl
          rotate_left
          · simp only [Act.put, List.setIfInBounds_toArray, List.set_cons_zero, List.set_cons_succ, i64_w, i32_w]
            rfl
          refine take_ (i := 17) (N := some 26) (v := ?_) (a' := ?_) #[true, true, true, true, true, true, true, true, true, true, true, true, true, true, true, true, true, true, true, false, false, true, false, false, false, false, false, false, false, false, false, false, false, false, false, false] rfl rfl (take_ofW HT_.out HW_.out (by kernel_rfl)) (fun _ _ _ h => h) (Or.inl ⟨by rfl, ?_⟩) hHeld ?_ ?_
          rotate_left
          · rintro w' ⟨s0, s1, s2, s3, s4, s5, s6⟩
            go_simp
            with_reducible rfl
          rotate_left
          · simp only [Act.put, List.setIfInBounds_toArray, List.set_cons_zero, List.set_cons_succ, i64_w, i32_w]
            rfl
          refine take_ (i := 20) (N := some 29) (v := ?_) (a' := ?_) #[true, true, true, true, true, true, true, true, true, true, true, true, true, true, true, true, true, true, true, false, true, true, false, false, false, false, false, false, false, false, false, false, false, false, false, false] rfl rfl (take_ofW HT_.out HW_.out (by kernel_rfl)) (fun _ _ _ h => h) (Or.inl ⟨by rfl, ?_⟩) hHeld ?_ ?_
          rotate_left
          · rintro w' ⟨s0, s1, s2, s3, s4, s5, s6⟩
            go_simp
            with_reducible rfl
          rotate_left
          · simp only [Act.put, List.setIfInBounds_toArray, List.set_cons_zero, List.set_cons_succ, i64_w, i32_w]
            rfl
          refine one_ (i := 19) (N := some 28) #[true, true, true, true, true, true, true, true, true, true, true, true, true, true, true, true, true, true, true, true, true, true, false, false, false, false, false, false, false, false, false, false, false, false, false, false] rfl rfl (one_of HT_.out (by kernel_rfl)) (by decide) (fun K hK => ?_)
          refine goes_ Try.func31 (by kernel_rfl) rfl #[.agg #[.bool a0_0, .int .u32 a0_1, .int .u8 a0_2, .int .u8 a0_3, .int .u8 a0_4, .int .u16 a0_5, .int .u16 a0_6], .int .u32 a3] (by rfl) rfl rfl (by (try simp only [List.map_toArray, List.map_cons, List.map_nil]); first | done | rfl | (simp only [List.length_drop, List.length_take]; rfl)) ?_
          with_reducible refine (capa_AndPerms.calls a0_0 a0_1 a0_2 a0_3 a0_4 a0_5 a0_6 a3 t438 t439 t440 t441 t442 t443 t444 _ A11.out).mono ?_
          rintro e w24 ⟨rfl, hb⟩
          refine ⟨_, rfl, ?_⟩
          have n0_ := Aside0.mk (blk_below (g := gb409) (o := .cells #[.bool a0_0, .int .u32 a0_1, .int .u8 a0_2, .int .u8 a0_3, .int .u8 a0_4, .int .u16 a0_5, .int .u16 a0_6] 27 (0, 0)) (by (with_reducible repeat (first | refine blk_drewN ?_ _ | refine blk_drew ?_ | refine blk_alloc ?_ _)); exact BK409.out) hb)
          have n1_ := Aside0.mk (below_step (by repeat (first | (with_reducible first | exact HB.out | apply below_alloc | apply pw_below_drewN | apply below_drew1 | refine below_set ?_ GE409.out) | exact HB.out)) hb)
          clear BK409
          clear HB
          have BK409 := n0_
          have HB := n1_
          clear n0_ n1_
          (try clear hb)
          (try clear hb2)
          (try clear hk)
          (try clear hi)
          refine hK.out _ _ ⟨(blk_cell BK409.out 0).trans rfl, (blk_cell BK409.out 1).trans rfl, (blk_cell BK409.out 2).trans rfl, (blk_cell BK409.out 3).trans rfl, (blk_cell BK409.out 4).trans rfl, (blk_cell BK409.out 5).trans rfl, (blk_cell BK409.out 6).trans rfl⟩ (fun hHeld => ?_)
          clear hK K
          refine norm_ (a' := ?_) ?_ ?_
          rotate_left
          · show Act.put _ (some 28) _ = _
            simp only [Act.put, List.setIfInBounds_toArray, List.set_cons_zero, List.set_cons_succ, i64_w, i32_w]
            rfl
          refine one_ (i := 22) (N := some 31) #[true, true, true, true, true, true, true, true, true, true, true, true, true, true, true, true, true, true, true, true, true, true, true, false, false, false, false, false, false, false, false, false, false, false, false, false] rfl rfl (one_of HT_.out (by kernel_rfl)) (by decide) (fun K hK => ?_)
          refine goes_ Try.func34 (by kernel_rfl) rfl #[.agg #[.bool a0_0, .int .u32 a0_1, .int .u8 a0_2, .int .u8 a0_3, .int .u8 a0_4, .int .u16 a0_5, .int .u16 a0_6], .int .u32 a3] (by rfl) rfl rfl (by (try simp only [List.map_toArray, List.map_cons, List.map_nil]); first | done | rfl | (simp only [List.length_drop, List.length_take]; rfl)) ?_
          with_reducible refine (bulwarkref03_AndPerms.calls k a0_0 a0_1 a0_2 a0_3 a0_4 a0_5 a0_6 a3 t445 t446 t447 t448 t449 t450 t451 _ A12.out).mono ?_
          rintro e w25 ⟨rfl, hb⟩
          refine ⟨_, rfl, ?_⟩
          have n0_ := Aside0.mk (blk_below (g := gb409) (o := .cells #[.bool a0_0, .int .u32 a0_1, .int .u8 a0_2, .int .u8 a0_3, .int .u8 a0_4, .int .u16 a0_5, .int .u16 a0_6] 27 (0, 0)) (by (with_reducible repeat (first | refine blk_drewN ?_ _ | refine blk_drew ?_ | refine blk_alloc ?_ _)); exact BK409.out) hb)
          have n1_ := Aside0.mk (below_step (by repeat (first | (with_reducible first | exact HB.out | apply below_alloc | apply pw_below_drewN | apply below_drew1 | refine below_set ?_ GE409.out) | exact HB.out)) hb)
          clear BK409
          clear HB
          have BK409 := n0_
          have HB := n1_
          clear n0_ n1_
          (try clear hb)
          (try clear hb2)
          (try clear hk)
          (try clear hi)
          refine hK.out _ _ ⟨(blk_cell BK409.out 0).trans rfl, (blk_cell BK409.out 1).trans rfl, (blk_cell BK409.out 2).trans rfl, (blk_cell BK409.out 3).trans rfl, (blk_cell BK409.out 4).trans rfl, (blk_cell BK409.out 5).trans rfl, (blk_cell BK409.out 6).trans rfl⟩ (fun hHeld => ?_)
          clear hK K
          refine norm_ (a' := ?_) ?_ ?_
          rotate_left
          · show Act.put _ (some 31) _ = _
            simp only [Act.put, List.setIfInBounds_toArray, List.set_cons_zero, List.set_cons_succ, i64_w, i32_w]
            rfl
          refine pure_ (i := 23) (N := some 32) (v := ?_) (a' := ?_) #[true, true, true, true, true, true, true, true, true, true, true, true, true, true, true, true, true, true, true, true, true, true, true, true, false, false, false, false, false, false, false, false, false, false, false, false] rfl rfl (any_of HT_.out (by kernel_rfl)) (fun _ _ _ h => h) (Or.inl ⟨by rfl, ?_⟩) ?_ ?_
          rotate_left
          · intro w'
            go_simp
            with_reducible rfl
          rotate_left
          · simp only [Act.put, List.setIfInBounds_toArray, List.set_cons_zero, List.set_cons_succ, i64_w, i32_w]
            rfl
          refine pure_ (i := 24) (N := some 33) (v := ?_) (a' := ?_) #[true, true, true, true, true, true, true, true, true, true, true, true, true, true, true, true, true, true, true, true, true, true, true, true, true, false, false, false, false, false, false, false, false, false, false, false] rfl rfl (any_of HT_.out (by kernel_rfl)) (fun _ _ _ h => h) (Or.inl ⟨by rfl, ?_⟩) ?_ ?_
          rotate_left
          · intro w'
            go_simp
            with_reducible rfl
          rotate_left
          · simp only [Act.put, List.setIfInBounds_toArray, List.set_cons_zero, List.set_cons_succ, i64_w, i32_w]
            rfl
          refine pure_ (i := 25) (N := some 34) (v := ?_) (a' := ?_) #[true, true, true, true, true, true, true, true, true, true, true, true, true, true, true, true, true, true, true, true, true, true, true, true, true, true, false, false, false, false, false, false, false, false, false, false] rfl rfl (any_of HT_.out (by kernel_rfl)) (fun _ _ _ h => h) (Or.inl ⟨by rfl, ?_⟩) ?_ ?_
          rotate_left
          · intro w'
            go_simp
            with_reducible rfl
          rotate_left
          · simp only [Act.put, List.setIfInBounds_toArray, List.set_cons_zero, List.set_cons_succ, i64_w, i32_w]
            rfl
          refine take_ (i := 26) (N := some 35) (v := ?_) (a' := ?_) #[true, true, true, true, true, true, true, true, true, true, true, true, true, true, true, true, true, true, true, true, true, true, true, true, true, true, true, false, false, false, false, false, false, false, false, false] rfl rfl (take_ofW HT_.out HW_.out (by kernel_rfl)) (fun _ _ _ h => h) (Or.inl ⟨by rfl, ?_⟩) hHeld ?_ ?_
          rotate_left
          · rintro w' ⟨s0, s1, s2, s3, s4, s5, s6⟩
            go_simp
            with_reducible rfl
          rotate_left
          · simp only [Act.put, List.setIfInBounds_toArray, List.set_cons_zero, List.set_cons_succ, i64_w, i32_w]
            rfl
          refine take_ (i := 28) (N := some 37) (v := ?_) (a' := ?_) #[true, true, true, true, true, true, true, true, true, true, true, true, true, true, true, true, true, true, true, true, true, true, true, true, true, true, true, false, true, false, false, false, false, false, false, false] rfl rfl (take_ofW HT_.out HW_.out (by kernel_rfl)) (fun _ _ _ h => h) (Or.inl ⟨by rfl, ?_⟩) hHeld ?_ ?_
          rotate_left
          · rintro w' ⟨s0, s1, s2, s3, s4, s5, s6⟩
            go_simp
            with_reducible rfl
          rotate_left
          · simp only [Act.put, List.setIfInBounds_toArray, List.set_cons_zero, List.set_cons_succ, i64_w, i32_w]
            rfl
          refine one_ (i := 27) (N := some 36) #[true, true, true, true, true, true, true, true, true, true, true, true, true, true, true, true, true, true, true, true, true, true, true, true, true, true, true, true, true, false, false, false, false, false, false, false] rfl rfl (one_of HT_.out (by kernel_rfl)) (by decide) (fun K hK => ?_)
          refine goes_ Try.func35 (by kernel_rfl) rfl #[.agg #[.bool a0_0, .int .u32 a0_1, .int .u8 a0_2, .int .u8 a0_3, .int .u8 a0_4, .int .u16 a0_5, .int .u16 a0_6]] (by rfl) rfl rfl (by (try simp only [List.map_toArray, List.map_cons, List.map_nil]); first | done | rfl | (simp only [List.length_drop, List.length_take]; rfl)) ?_
          with_reducible refine (capa_ClearTag.calls a0_0 a0_1 a0_2 a0_3 a0_4 a0_5 a0_6 t452 t453 t454 t455 t456 t457 t458 _ A14.out).mono ?_
          rintro e w26 ⟨rfl, hb⟩
          refine ⟨_, rfl, ?_⟩
          have n0_ := Aside0.mk (blk_below (g := gb409) (o := .cells #[.bool a0_0, .int .u32 a0_1, .int .u8 a0_2, .int .u8 a0_3, .int .u8 a0_4, .int .u16 a0_5, .int .u16 a0_6] 27 (0, 0)) (by (with_reducible repeat (first | refine blk_drewN ?_ _ | refine blk_drew ?_ | refine blk_alloc ?_ _)); exact BK409.out) hb)
          have n1_ := Aside0.mk (below_step (by repeat (first | (with_reducible first | exact HB.out | apply below_alloc | apply pw_below_drewN | apply below_drew1 | refine below_set ?_ GE409.out) | exact HB.out)) hb)
          clear BK409
          clear HB
          have BK409 := n0_
          have HB := n1_
          clear n0_ n1_
          (try clear hb)
          (try clear hb2)
          (try clear hk)
          (try clear hi)
          refine hK.out _ _ ⟨(blk_cell BK409.out 0).trans rfl, (blk_cell BK409.out 1).trans rfl, (blk_cell BK409.out 2).trans rfl, (blk_cell BK409.out 3).trans rfl, (blk_cell BK409.out 4).trans rfl, (blk_cell BK409.out 5).trans rfl, (blk_cell BK409.out 6).trans rfl⟩ (fun hHeld => ?_)
          clear hK K
          refine norm_ (a' := ?_) ?_ ?_
          rotate_left
          · show Act.put _ (some 36) _ = _
            simp only [Act.put, List.setIfInBounds_toArray, List.set_cons_zero, List.set_cons_succ, i64_w, i32_w]
            rfl
          refine one_ (i := 29) (N := some 38) #[true, true, true, true, true, true, true, true, true, true, true, true, true, true, true, true, true, true, true, true, true, true, true, true, true, true, true, true, true, true, false, false, false, false, false, false] rfl rfl (one_of HT_.out (by kernel_rfl)) (by decide) (fun K hK => ?_)
          refine goes_ Try.func36 (by kernel_rfl) rfl #[.agg #[.bool a0_0, .int .u32 a0_1, .int .u8 a0_2, .int .u8 a0_3, .int .u8 a0_4, .int .u16 a0_5, .int .u16 a0_6]] (by rfl) rfl rfl (by (try simp only [List.map_toArray, List.map_cons, List.map_nil]); first | done | rfl | (simp only [List.length_drop, List.length_take]; rfl)) ?_
          with_reducible refine (bulwarkref03_ClearTag.calls a0_0 a0_1 a0_2 a0_3 a0_4 a0_5 a0_6 t459 t460 t461 t462 t463 t464 t465 _ A15.out).mono ?_
          rintro e w27 ⟨rfl, hb⟩
          refine ⟨_, rfl, ?_⟩
          have n0_ := Aside0.mk (blk_below (g := gb409) (o := .cells #[.bool a0_0, .int .u32 a0_1, .int .u8 a0_2, .int .u8 a0_3, .int .u8 a0_4, .int .u16 a0_5, .int .u16 a0_6] 27 (0, 0)) (by (with_reducible repeat (first | refine blk_drewN ?_ _ | refine blk_drew ?_ | refine blk_alloc ?_ _)); exact BK409.out) hb)
          have n1_ := Aside0.mk (below_step (by repeat (first | (with_reducible first | exact HB.out | apply below_alloc | apply pw_below_drewN | apply below_drew1 | refine below_set ?_ GE409.out) | exact HB.out)) hb)
          clear BK409
          clear HB
          have BK409 := n0_
          have HB := n1_
          clear n0_ n1_
          (try clear hb)
          (try clear hb2)
          (try clear hk)
          (try clear hi)
          refine hK.out _ _ ⟨(blk_cell BK409.out 0).trans rfl, (blk_cell BK409.out 1).trans rfl, (blk_cell BK409.out 2).trans rfl, (blk_cell BK409.out 3).trans rfl, (blk_cell BK409.out 4).trans rfl, (blk_cell BK409.out 5).trans rfl, (blk_cell BK409.out 6).trans rfl⟩ (fun hHeld => ?_)
          clear hK K
          refine norm_ (a' := ?_) ?_ ?_
          rotate_left
          · show Act.put _ (some 38) _ = _
            simp only [Act.put, List.setIfInBounds_toArray, List.set_cons_zero, List.set_cons_succ, i64_w, i32_w]
            rfl
          refine pure_ (i := 30) (N := some 39) (v := ?_) (a' := ?_) #[true, true, true, true, true, true, true, true, true, true, true, true, true, true, true, true, true, true, true, true, true, true, true, true, true, true, true, true, true, true, true, false, false, false, false, false] rfl rfl (any_of HT_.out (by kernel_rfl)) (fun _ _ _ h => h) (Or.inl ⟨by rfl, ?_⟩) ?_ ?_
          rotate_left
          · intro w'
            go_simp
            with_reducible rfl
          rotate_left
          · simp only [Act.put, List.setIfInBounds_toArray, List.set_cons_zero, List.set_cons_succ, i64_w, i32_w]
            rfl
          refine pure_ (i := 31) (N := some 40) (v := ?_) (a' := ?_) #[true, true, true, true, true, true, true, true, true, true, true, true, true, true, true, true, true, true, true, true, true, true, true, true, true, true, true, true, true, true, true, true, false, false, false, false] rfl rfl (any_of HT_.out (by kernel_rfl)) (fun _ _ _ h => h) (Or.inl ⟨by rfl, ?_⟩) ?_ ?_
          rotate_left
          · intro w'
            go_simp
            with_reducible rfl
          rotate_left
          · simp only [Act.put, List.setIfInBounds_toArray, List.set_cons_zero, List.set_cons_succ, i64_w, i32_w]
            rfl
          refine pure_ (i := 32) (N := some 41) (v := ?_) (a' := ?_) #[true, true, true, true, true, true, true, true, true, true, true, true, true, true, true, true, true, true, true, true, true, true, true, true, true, true, true, true, true, true, true, true, true, false, false, false] rfl rfl (any_of HT_.out (by kernel_rfl)) (fun _ _ _ h => h) (Or.inl ⟨by rfl, ?_⟩) ?_ ?_
          rotate_left
          · intro w'
            go_simp
            with_reducible rfl
          rotate_left
          · simp only [Act.put, List.setIfInBounds_toArray, List.set_cons_zero, List.set_cons_succ, i64_w, i32_w]
            rfl
          refine one_ (i := 33) (N := some 42) #[true, true, true, true, true, true, true, true, true, true, true, true, true, true, true, true, true, true, true, true, true, true, true, true, true, true, true, true, true, true, true, true, true, true, false, false] rfl rfl (one_of HT_.out (by kernel_rfl)) (by decide) (fun K hK => ?_)
          refine goes_ Try.func21 (by kernel_rfl) rfl #[] (by rfl) rfl rfl (by (try simp only [List.map_toArray, List.map_cons, List.map_nil]); first | done | rfl | (simp only [List.length_drop, List.length_take]; rfl)) ?_
          with_reducible refine (bulwarklaw03_lives.calls k  t466 _ A17.out).mono ?_
          rintro e w28 ⟨rfl, hb⟩
          refine ⟨_, rfl, ?_⟩
          have n0_ := Aside0.mk (blk_below (g := gb409) (o := .cells #[.bool a0_0, .int .u32 a0_1, .int .u8 a0_2, .int .u8 a0_3, .int .u8 a0_4, .int .u16 a0_5, .int .u16 a0_6] 27 (0, 0)) (by (with_reducible repeat (first | refine blk_drewN ?_ _ | refine blk_drew ?_ | refine blk_alloc ?_ _)); exact BK409.out) hb)
          have n1_ := Aside0.mk (below_step (by repeat (first | (with_reducible first | exact HB.out | apply below_alloc | apply pw_below_drewN | apply below_drew1 | refine below_set ?_ GE409.out) | exact HB.out)) hb)
          clear BK409
          clear HB
          have BK409 := n0_
          have HB := n1_
          clear n0_ n1_
          (try clear hb)
          (try clear hb2)
          (try clear hk)
          (try clear hi)
          refine hK.out _ _ ⟨(blk_cell BK409.out 0).trans rfl, (blk_cell BK409.out 1).trans rfl, (blk_cell BK409.out 2).trans rfl, (blk_cell BK409.out 3).trans rfl, (blk_cell BK409.out 4).trans rfl, (blk_cell BK409.out 5).trans rfl, (blk_cell BK409.out 6).trans rfl⟩ (fun hHeld => ?_)
          clear hK K
          refine norm_ (a' := ?_) ?_ ?_
          rotate_left
          · show Act.put _ (some 42) _ = _
            simp only [Act.put, List.setIfInBounds_toArray, List.set_cons_zero, List.set_cons_succ, i64_w, i32_w]
            rfl
          refine pure_ (i := 34) (N := some 43) (v := ?_) (a' := ?_) #[true, true, true, true, true, true, true, true, true, true, true, true, true, true, true, true, true, true, true, true, true, true, true, true, true, true, true, true, true, true, true, true, true, true, true, false] rfl rfl (any_of HT_.out (by kernel_rfl)) (fun _ _ _ h => h) (Or.inl ⟨by rfl, ?_⟩) ?_ ?_
          rotate_left
          · intro w'
            go_simp
            with_reducible rfl
          rotate_left
          · simp only [Act.put, List.setIfInBounds_toArray, List.set_cons_zero, List.set_cons_succ, i64_w, i32_w]
            rfl
          refine pure_ (i := 35) (N := some 8) (v := ?_) (a' := ?_) #[true, true, true, true, true, true, true, true, true, true, true, true, true, true, true, true, true, true, true, true, true, true, true, true, true, true, true, true, true, true, true, true, true, true, true, true] rfl rfl (any_of HT_.out (by kernel_rfl)) (fun _ _ _ h => h) (Or.inl ⟨by rfl, ?_⟩) ?_ ?_
          rotate_left
          · intro w'
            go_simp
            with_reducible rfl
          rotate_left
          · simp only [Act.put, List.setIfInBounds_toArray, List.set_cons_zero, List.set_cons_succ, i64_w, i32_w]
            rfl
          refine done_ (done_of HT_.out (by kernel_rfl)) ?_
          try go_wp2
          go_ret
          exact ⟨by first | rfl | (simp [errW_none, errW_some] <;> rfl) | (simp [*, errW_none, errW_some] <;> rfl), by repeat (first | (with_reducible first | exact HB.out | apply below_alloc | apply pw_below_drewN | apply below_drew1 | refine below_set ?_ GE409.out) | exact HB.out)⟩
        · rw [if_neg c16] at H
          exact absurd ((Option.some.inj H).trans hr'.out) (by decide)
      · rw [if_neg c13] at H
        exact absurd ((Option.some.inj H).trans hr'.out) (by decide)
    · rw [if_neg c10] at H
      exact absurd ((Option.some.inj H).trans hr'.out) (by decide)
  · rw [if_neg c7] at H
    exact absurd ((Option.some.inj H).trans hr'.out) (by decide)
end Go.Proofs.Ytkfgloolpjlddaa.Q
