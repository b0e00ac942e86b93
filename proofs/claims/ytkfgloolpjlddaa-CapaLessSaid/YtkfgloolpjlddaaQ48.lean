-- A walk, out of the kit's print program run by wip/ownprint.sh and turned by wip/qprune.py. Lean checks it.
import Derived.Test.YtkfgloolpjlddaaQ0
import Derived.Test.YtkfgloolpjlddaaQ11
import Derived.Test.YtkfgloolpjlddaaQ23
import Derived.Test.YtkfgloolpjlddaaQ24
import Derived.Test.YtkfgloolpjlddaaQ25
import Derived.Test.YtkfgloolpjlddaaQ28
import Derived.Test.YtkfgloolpjlddaaQ32
import Derived.Test.YtkfgloolpjlddaaQ38
import Derived.Test.YtkfgloolpjlddaaQ39
import Derived.Test.YtkfgloolpjlddaaQ45
namespace Go.Proofs.Ytkfgloolpjlddaa.Q
open Go.RowKit Go.Proofs.YtkfgloolpjlddaaW.PrintWords Go.Proofs.YtkfgloolpjlddaaW.PrintLast Go.Proofs.YtkfgloolpjlddaaW.PrintMore
attribute [local go_sem] max2_int min2_int max_two min_two max_three min_three max_four min_four   -- for this text's walks alone
set_option linter.unusedVariables false
set_option linter.unusedSimpArgs false

/-! ### bulwarklaw03_CapaLess: function 8 -/
def bulwarklaw03_CapaLess.l0 : Nat → List (S27) → Int → Bool → Int → Int → Int → Int → Int → Int → Option (Bool)
  | 0, _, _, _, _, _, _, _, _, _ => none
  | k + 1, x11, x12, x468000, x468001, x468002, x468003, x468004, x468005, x468006 => if x12 < (x11.length : Int) then (if 0 ≤ x12 then (if (rd_T27 x11 x12).f0 = true then (if x468000 = true then (if x468003 = 0 then ((capa_Subset.f ((rd_T27 x11 x12).f0) ((rd_T27 x11 x12).f1) ((rd_T27 x11 x12).f2) ((rd_T27 x11 x12).f3) ((rd_T27 x11 x12).f4.f0) ((rd_T27 x11 x12).f4.f1) ((rd_T27 x11 x12).f4.f2) x468000 x468001 x468002 x468003 x468004 x468005 x468006).bind fun t515 => (if t515 = true then (bulwarklaw03_CapaLess.l0 k x11 (wrap64 (x12 + 1)) x468000 x468001 x468002 x468003 x468004 x468005 x468006) else (some false))) else (some false)) else (some false)) else (bulwarklaw03_CapaLess.l0 k x11 (wrap64 (x12 + 1)) x468000 x468001 x468002 x468003 x468004 x468005 x468006)) else (none)) else ((capa_Unseal.f x468000 x468001 x468002 x468003 x468004 x468005 x468006).bind fun bt516 => (if bt516.1 = true then (if x468000 = true then (if x468003 = 0 then (some false) else ((bulwarklaw03_lives.f k).bind fun t524 => (some t524))) else (some false)) else ((bulwarklaw03_lives.f k).bind fun t525 => (some t525))))
def bulwarklaw03_CapaLess.f (k : Nat) (a0_0 : Bool) (a0_1 : Int) (a0_2 : Int) (a0_3 : Int) (a0_4 : Int) (a0_5 : Int) (a0_6 : Int) (a1 : Int) (a2 : Int) (a3 : Int) (a4 : Int) : Option (Bool) := (capa_SetAddr.f a0_0 a0_1 a0_2 a0_3 a0_4 a0_5 a0_6 a1).bind fun bt468 => ((capa_SetBounds.f k a0_0 a0_1 a0_2 a0_3 a0_4 a0_5 a0_6 a2).bind fun bt475 => ((capa_AndPerms.f a0_0 a0_1 a0_2 a0_3 a0_4 a0_5 a0_6 a3).bind fun bt482 => ((capa_Sentry.f a0_0 a0_1 a0_2 a0_3 a0_4 a0_5 a0_6).bind fun bt489 => ((capa_Seal.f a0_0 a0_1 a0_2 a0_3 a0_4 a0_5 a0_6 a4).bind fun bt496 => ((capa_ClearTag.f a0_0 a0_1 a0_2 a0_3 a0_4 a0_5 a0_6).bind fun bt503 => (bulwarklaw03_CapaLess.l0 k (([(⟨bt468.1, bt468.2.1, bt468.2.2.1, bt468.2.2.2.1, (⟨bt468.2.2.2.2.1, bt468.2.2.2.2.2.1, bt468.2.2.2.2.2.2⟩ : S25)⟩ : S27), (⟨bt475.1, bt475.2.1, bt475.2.2.1, bt475.2.2.2.1, (⟨bt475.2.2.2.2.1, bt475.2.2.2.2.2.1, bt475.2.2.2.2.2.2⟩ : S25)⟩ : S27), (⟨bt482.1, bt482.2.1, bt482.2.2.1, bt482.2.2.2.1, (⟨bt482.2.2.2.2.1, bt482.2.2.2.2.2.1, bt482.2.2.2.2.2.2⟩ : S25)⟩ : S27), (⟨bt489.1, bt489.2.1, bt489.2.2.1, bt489.2.2.2.1, (⟨bt489.2.2.2.2.1, bt489.2.2.2.2.2.1, bt489.2.2.2.2.2.2⟩ : S25)⟩ : S27), (⟨bt496.1, bt496.2.1, bt496.2.2.1, bt496.2.2.2.1, (⟨bt496.2.2.2.2.1, bt496.2.2.2.2.2.1, bt496.2.2.2.2.2.2⟩ : S25)⟩ : S27), (⟨bt503.1, bt503.2.1, bt503.2.2.1, bt503.2.2.2.1, (⟨bt503.2.2.2.2.1, bt503.2.2.2.2.2.1, bt503.2.2.2.2.2.2⟩ : S25)⟩ : S27)] : List (S27))) 0 a0_0 a0_1 a0_2 a0_3 a0_4 a0_5 a0_6))))))
theorem bulwarklaw03_CapaLess.mono_l : ∀ k, (∀ y0 y1 y2 y3 y4 y5 y6 y7 y8, LeO (bulwarklaw03_CapaLess.l0 k y0 y1 y2 y3 y4 y5 y6 y7 y8) (bulwarklaw03_CapaLess.l0 (k + 1) y0 y1 y2 y3 y4 y5 y6 y7 y8))
  | 0 => fun _ _ _ _ _ _ _ _ _ r h => by simp [bulwarklaw03_CapaLess.l0] at h
  | k + 1 => by
    have ih0 := bulwarklaw03_CapaLess.mono_l k
    · intro y0 y1 y2 y3 y4 y5 y6 y7 y8
      unfold bulwarklaw03_CapaLess.l0
      repeat' first
      | (with_reducible exact ih0 _ _ _ _ _ _ _ _ _)
      | (with_reducible exact bulwarklaw03_lives.mono _)
      | (with_reducible exact capa_SetBounds.mono _ _ _ _ _ _ _ _ _)
      | (with_reducible exact LeO.refl _)
      | (with_reducible exact LeO.none _)
      | (with_reducible refine LeO.ite ?_ ?_)
      | (with_reducible refine LeO.bind ?_ (fun _ => ?_))
      | exact ih0 _ _ _ _ _ _ _ _ _
      | exact bulwarklaw03_lives.mono _
      | exact capa_SetBounds.mono _ _ _ _ _ _ _ _ _
      | exact LeO.none _
      | refine LeO.ite ?_ ?_
      | refine LeO.bind ?_ (fun _ => ?_)
theorem bulwarklaw03_CapaLess.mono : ∀ a0 a1 a2 a3 a4 a5 a6 a7 a8 a9 a10 k, LeO (bulwarklaw03_CapaLess.f k a0 a1 a2 a3 a4 a5 a6 a7 a8 a9 a10) (bulwarklaw03_CapaLess.f (k + 1) a0 a1 a2 a3 a4 a5 a6 a7 a8 a9 a10) := by
  intro a0 a1 a2 a3 a4 a5 a6 a7 a8 a9 a10 k
  have ih0 := bulwarklaw03_CapaLess.mono_l k
  unfold bulwarklaw03_CapaLess.f
  repeat' first
      | (with_reducible exact ih0 _ _ _ _ _ _ _ _ _)
      | (with_reducible exact bulwarklaw03_lives.mono _)
      | (with_reducible exact capa_SetBounds.mono _ _ _ _ _ _ _ _ _)
      | (with_reducible exact LeO.refl _)
      | (with_reducible exact LeO.none _)
      | (with_reducible refine LeO.ite ?_ ?_)
      | (with_reducible refine LeO.bind ?_ (fun _ => ?_))
      | exact ih0 _ _ _ _ _ _ _ _ _
      | exact bulwarklaw03_lives.mono _
      | exact capa_SetBounds.mono _ _ _ _ _ _ _ _ _
      | exact LeO.none _
      | refine LeO.ite ?_ ?_
      | refine LeO.bind ?_ (fun _ => ?_)
def bulwarklaw03_CapaLess.T1 : Bool × List (List Nat × List Nat) := (true, [([], []), ([], []), ([0, 1], [0, 1]), ([], []), ([], []), ([3, 4, 2], [3, 4]), ([], []), ([], []), ([6, 7, 5], [6, 7]), ([], []), ([9, 8], [9]), ([], []), ([], []), ([11, 12, 10], [11, 12]), ([], []), ([14, 13], [14]), ([2, 5, 8, 10, 13, 15], [2, 5, 8, 10, 13, 15]), ([16, 15, 0, 1, 2, 3, 4, 5, 6, 7, 8, 9, 10, 11, 12, 13, 14, 15, 16], [16])])
def bulwarklaw03_CapaLess.B1 : List Nat := [0, 0, 3, 0, 0, 31, 0, 0, 255, 0, 1023, 0, 0, 8191, 0, 32767, 65535, 131071]
theorem bulwarklaw03_CapaLess.tab1 : rtab .any (opsOf Try.f8 1) = bulwarklaw03_CapaLess.T1 := by kernel_rfl
theorem bulwarklaw03_CapaLess.bits1 : waitsOk bulwarklaw03_CapaLess.T1.2 bulwarklaw03_CapaLess.B1 = true := by kernel_rfl
def bulwarklaw03_CapaLess.T5 : Bool × List (List Nat × List Nat) := (true, [([], []), ([], []), ([0, 1], [0, 1]), ([2], [2]), ([3], [3]), ([4], [4]), ([5], [5]), ([6, 5], [5, 6]), ([7, 5], [5, 7]), ([8, 5, 5], [5, 8]), ([9], [9]), ([10, 9], [9, 10]), ([11, 9], [9, 11]), ([9, 12, 5], [5, 9, 12]), ([13, 9, 5], [5, 13]), ([14], [14]), ([14], [14]), ([15, 16, 14], [14, 15, 16]), ([17, 14], [14, 17]), ([14], [14]), ([18, 19, 14, 14], [14, 18, 19]), ([20, 14], [14, 20]), ([14, 21, 5], [5, 14, 21]), ([5, 22], [5, 22])])
def bulwarklaw03_CapaLess.B5 : List Nat := [0, 0, 3, 7, 15, 31, 63, 127, 255, 511, 1023, 2047, 4095, 8191, 16383, 32767, 32767, 131071, 262143, 32767, 1048575, 2097151, 4194303, 8388607]
theorem bulwarklaw03_CapaLess.tab5 : rtab .any (opsOf Try.f8 5) = bulwarklaw03_CapaLess.T5 := by kernel_rfl
theorem bulwarklaw03_CapaLess.bits5 : waitsOk bulwarklaw03_CapaLess.T5.2 bulwarklaw03_CapaLess.B5 = true := by kernel_rfl
set_option maxHeartbeats 8000000 in
set_option maxRecDepth 100000 in
theorem bulwarklaw03_CapaLess.calls (k : Nat) (a0_0 : Bool) (a0_1 : Int) (a0_2 : Int) (a0_3 : Int) (a0_4 : Int) (a0_5 : Int) (a0_6 : Int) (a1 : Int) (a2 : Int) (a3 : Int) (a4 : Int) (r : Bool) (w : World) (h : bulwarklaw03_CapaLess.f k a0_0 a0_1 a0_2 a0_3 a0_4 a0_5 a0_6 a1 a2 a3 a4 = some r) (hr : r = true) :
    Calls Try.prog 8 #[.agg #[.bool a0_0, .int .u32 a0_1, .int .u8 a0_2, .int .u8 a0_3, .int .u8 a0_4, .int .u16 a0_5, .int .u16 a0_6], .int .u32 a1, .int .u32 a2, .int .u32 a3, .int .u32 a4] w fun e w' => e = .returned (.bool r) ∧ Below w.heap.size w w' := by
  have hr' := Aside0.mk hr
  clear hr
  have hu27 := Try.underlying27
  have HB := Aside0.mk (Below.refl w.heap.size w)
  have H : ((capa_SetAddr.f a0_0 a0_1 a0_2 a0_3 a0_4 a0_5 a0_6 a1).bind fun bt468 => ((capa_SetBounds.f k a0_0 a0_1 a0_2 a0_3 a0_4 a0_5 a0_6 a2).bind fun bt475 => ((capa_AndPerms.f a0_0 a0_1 a0_2 a0_3 a0_4 a0_5 a0_6 a3).bind fun bt482 => ((capa_Sentry.f a0_0 a0_1 a0_2 a0_3 a0_4 a0_5 a0_6).bind fun bt489 => ((capa_Seal.f a0_0 a0_1 a0_2 a0_3 a0_4 a0_5 a0_6 a4).bind fun bt496 => ((capa_ClearTag.f a0_0 a0_1 a0_2 a0_3 a0_4 a0_5 a0_6).bind fun bt503 => (bulwarklaw03_CapaLess.l0 k (([(⟨bt468.1, bt468.2.1, bt468.2.2.1, bt468.2.2.2.1, (⟨bt468.2.2.2.2.1, bt468.2.2.2.2.2.1, bt468.2.2.2.2.2.2⟩ : S25)⟩ : S27), (⟨bt475.1, bt475.2.1, bt475.2.2.1, bt475.2.2.2.1, (⟨bt475.2.2.2.2.1, bt475.2.2.2.2.2.1, bt475.2.2.2.2.2.2⟩ : S25)⟩ : S27), (⟨bt482.1, bt482.2.1, bt482.2.2.1, bt482.2.2.2.1, (⟨bt482.2.2.2.2.1, bt482.2.2.2.2.2.1, bt482.2.2.2.2.2.2⟩ : S25)⟩ : S27), (⟨bt489.1, bt489.2.1, bt489.2.2.1, bt489.2.2.2.1, (⟨bt489.2.2.2.2.1, bt489.2.2.2.2.2.1, bt489.2.2.2.2.2.2⟩ : S25)⟩ : S27), (⟨bt496.1, bt496.2.1, bt496.2.2.1, bt496.2.2.2.1, (⟨bt496.2.2.2.2.1, bt496.2.2.2.2.2.1, bt496.2.2.2.2.2.2⟩ : S25)⟩ : S27), (⟨bt503.1, bt503.2.1, bt503.2.2.1, bt503.2.2.2.1, (⟨bt503.2.2.2.2.1, bt503.2.2.2.2.2.1, bt503.2.2.2.2.2.2⟩ : S25)⟩ : S27)] : List (S27))) 0 a0_0 a0_1 a0_2 a0_3 a0_4 a0_5 a0_6))))))) = some r := h
  clear h
  replace H := Option.bind_eq_some_iff.mp H
  obtain ⟨⟨t468, t469, t470, t471, t472, t473, t474⟩, A60, H⟩ := H
  replace H : ((capa_SetBounds.f k a0_0 a0_1 a0_2 a0_3 a0_4 a0_5 a0_6 a2).bind fun bt475 => ((capa_AndPerms.f a0_0 a0_1 a0_2 a0_3 a0_4 a0_5 a0_6 a3).bind fun bt482 => ((capa_Sentry.f a0_0 a0_1 a0_2 a0_3 a0_4 a0_5 a0_6).bind fun bt489 => ((capa_Seal.f a0_0 a0_1 a0_2 a0_3 a0_4 a0_5 a0_6 a4).bind fun bt496 => ((capa_ClearTag.f a0_0 a0_1 a0_2 a0_3 a0_4 a0_5 a0_6).bind fun bt503 => (bulwarklaw03_CapaLess.l0 k (([(⟨t468, t469, t470, t471, (⟨t472, t473, t474⟩ : S25)⟩ : S27), (⟨bt475.1, bt475.2.1, bt475.2.2.1, bt475.2.2.2.1, (⟨bt475.2.2.2.2.1, bt475.2.2.2.2.2.1, bt475.2.2.2.2.2.2⟩ : S25)⟩ : S27), (⟨bt482.1, bt482.2.1, bt482.2.2.1, bt482.2.2.2.1, (⟨bt482.2.2.2.2.1, bt482.2.2.2.2.2.1, bt482.2.2.2.2.2.2⟩ : S25)⟩ : S27), (⟨bt489.1, bt489.2.1, bt489.2.2.1, bt489.2.2.2.1, (⟨bt489.2.2.2.2.1, bt489.2.2.2.2.2.1, bt489.2.2.2.2.2.2⟩ : S25)⟩ : S27), (⟨bt496.1, bt496.2.1, bt496.2.2.1, bt496.2.2.2.1, (⟨bt496.2.2.2.2.1, bt496.2.2.2.2.2.1, bt496.2.2.2.2.2.2⟩ : S25)⟩ : S27), (⟨bt503.1, bt503.2.1, bt503.2.2.1, bt503.2.2.2.1, (⟨bt503.2.2.2.2.1, bt503.2.2.2.2.2.1, bt503.2.2.2.2.2.2⟩ : S25)⟩ : S27)] : List (S27))) 0 a0_0 a0_1 a0_2 a0_3 a0_4 a0_5 a0_6)))))) = some r := H
  have A6 := Aside0.mk A60
  clear A60
  replace H := Option.bind_eq_some_iff.mp H
  obtain ⟨⟨t475, t476, t477, t478, t479, t480, t481⟩, A70, H⟩ := H
  replace H : ((capa_AndPerms.f a0_0 a0_1 a0_2 a0_3 a0_4 a0_5 a0_6 a3).bind fun bt482 => ((capa_Sentry.f a0_0 a0_1 a0_2 a0_3 a0_4 a0_5 a0_6).bind fun bt489 => ((capa_Seal.f a0_0 a0_1 a0_2 a0_3 a0_4 a0_5 a0_6 a4).bind fun bt496 => ((capa_ClearTag.f a0_0 a0_1 a0_2 a0_3 a0_4 a0_5 a0_6).bind fun bt503 => (bulwarklaw03_CapaLess.l0 k (([(⟨t468, t469, t470, t471, (⟨t472, t473, t474⟩ : S25)⟩ : S27), (⟨t475, t476, t477, t478, (⟨t479, t480, t481⟩ : S25)⟩ : S27), (⟨bt482.1, bt482.2.1, bt482.2.2.1, bt482.2.2.2.1, (⟨bt482.2.2.2.2.1, bt482.2.2.2.2.2.1, bt482.2.2.2.2.2.2⟩ : S25)⟩ : S27), (⟨bt489.1, bt489.2.1, bt489.2.2.1, bt489.2.2.2.1, (⟨bt489.2.2.2.2.1, bt489.2.2.2.2.2.1, bt489.2.2.2.2.2.2⟩ : S25)⟩ : S27), (⟨bt496.1, bt496.2.1, bt496.2.2.1, bt496.2.2.2.1, (⟨bt496.2.2.2.2.1, bt496.2.2.2.2.2.1, bt496.2.2.2.2.2.2⟩ : S25)⟩ : S27), (⟨bt503.1, bt503.2.1, bt503.2.2.1, bt503.2.2.2.1, (⟨bt503.2.2.2.2.1, bt503.2.2.2.2.2.1, bt503.2.2.2.2.2.2⟩ : S25)⟩ : S27)] : List (S27))) 0 a0_0 a0_1 a0_2 a0_3 a0_4 a0_5 a0_6))))) = some r := H
  have A7 := Aside0.mk A70
  clear A70
  replace H := Option.bind_eq_some_iff.mp H
  obtain ⟨⟨t482, t483, t484, t485, t486, t487, t488⟩, A80, H⟩ := H
  replace H : ((capa_Sentry.f a0_0 a0_1 a0_2 a0_3 a0_4 a0_5 a0_6).bind fun bt489 => ((capa_Seal.f a0_0 a0_1 a0_2 a0_3 a0_4 a0_5 a0_6 a4).bind fun bt496 => ((capa_ClearTag.f a0_0 a0_1 a0_2 a0_3 a0_4 a0_5 a0_6).bind fun bt503 => (bulwarklaw03_CapaLess.l0 k (([(⟨t468, t469, t470, t471, (⟨t472, t473, t474⟩ : S25)⟩ : S27), (⟨t475, t476, t477, t478, (⟨t479, t480, t481⟩ : S25)⟩ : S27), (⟨t482, t483, t484, t485, (⟨t486, t487, t488⟩ : S25)⟩ : S27), (⟨bt489.1, bt489.2.1, bt489.2.2.1, bt489.2.2.2.1, (⟨bt489.2.2.2.2.1, bt489.2.2.2.2.2.1, bt489.2.2.2.2.2.2⟩ : S25)⟩ : S27), (⟨bt496.1, bt496.2.1, bt496.2.2.1, bt496.2.2.2.1, (⟨bt496.2.2.2.2.1, bt496.2.2.2.2.2.1, bt496.2.2.2.2.2.2⟩ : S25)⟩ : S27), (⟨bt503.1, bt503.2.1, bt503.2.2.1, bt503.2.2.2.1, (⟨bt503.2.2.2.2.1, bt503.2.2.2.2.2.1, bt503.2.2.2.2.2.2⟩ : S25)⟩ : S27)] : List (S27))) 0 a0_0 a0_1 a0_2 a0_3 a0_4 a0_5 a0_6)))) = some r := H
  have A8 := Aside0.mk A80
  clear A80
  replace H := Option.bind_eq_some_iff.mp H
  obtain ⟨⟨t489, t490, t491, t492, t493, t494, t495⟩, A90, H⟩ := H
  replace H : ((capa_Seal.f a0_0 a0_1 a0_2 a0_3 a0_4 a0_5 a0_6 a4).bind fun bt496 => ((capa_ClearTag.f a0_0 a0_1 a0_2 a0_3 a0_4 a0_5 a0_6).bind fun bt503 => (bulwarklaw03_CapaLess.l0 k (([(⟨t468, t469, t470, t471, (⟨t472, t473, t474⟩ : S25)⟩ : S27), (⟨t475, t476, t477, t478, (⟨t479, t480, t481⟩ : S25)⟩ : S27), (⟨t482, t483, t484, t485, (⟨t486, t487, t488⟩ : S25)⟩ : S27), (⟨t489, t490, t491, t492, (⟨t493, t494, t495⟩ : S25)⟩ : S27), (⟨bt496.1, bt496.2.1, bt496.2.2.1, bt496.2.2.2.1, (⟨bt496.2.2.2.2.1, bt496.2.2.2.2.2.1, bt496.2.2.2.2.2.2⟩ : S25)⟩ : S27), (⟨bt503.1, bt503.2.1, bt503.2.2.1, bt503.2.2.2.1, (⟨bt503.2.2.2.2.1, bt503.2.2.2.2.2.1, bt503.2.2.2.2.2.2⟩ : S25)⟩ : S27)] : List (S27))) 0 a0_0 a0_1 a0_2 a0_3 a0_4 a0_5 a0_6))) = some r := H
  have A9 := Aside0.mk A90
  clear A90
  replace H := Option.bind_eq_some_iff.mp H
  obtain ⟨⟨t496, t497, t498, t499, t500, t501, t502⟩, A100, H⟩ := H
  replace H : ((capa_ClearTag.f a0_0 a0_1 a0_2 a0_3 a0_4 a0_5 a0_6).bind fun bt503 => (bulwarklaw03_CapaLess.l0 k (([(⟨t468, t469, t470, t471, (⟨t472, t473, t474⟩ : S25)⟩ : S27), (⟨t475, t476, t477, t478, (⟨t479, t480, t481⟩ : S25)⟩ : S27), (⟨t482, t483, t484, t485, (⟨t486, t487, t488⟩ : S25)⟩ : S27), (⟨t489, t490, t491, t492, (⟨t493, t494, t495⟩ : S25)⟩ : S27), (⟨t496, t497, t498, t499, (⟨t500, t501, t502⟩ : S25)⟩ : S27), (⟨bt503.1, bt503.2.1, bt503.2.2.1, bt503.2.2.2.1, (⟨bt503.2.2.2.2.1, bt503.2.2.2.2.2.1, bt503.2.2.2.2.2.2⟩ : S25)⟩ : S27)] : List (S27))) 0 a0_0 a0_1 a0_2 a0_3 a0_4 a0_5 a0_6)) = some r := H
  have A10 := Aside0.mk A100
  clear A100
  replace H := Option.bind_eq_some_iff.mp H
  obtain ⟨⟨t503, t504, t505, t506, t507, t508, t509⟩, A110, H⟩ := H
  replace H : (bulwarklaw03_CapaLess.l0 k (([(⟨t468, t469, t470, t471, (⟨t472, t473, t474⟩ : S25)⟩ : S27), (⟨t475, t476, t477, t478, (⟨t479, t480, t481⟩ : S25)⟩ : S27), (⟨t482, t483, t484, t485, (⟨t486, t487, t488⟩ : S25)⟩ : S27), (⟨t489, t490, t491, t492, (⟨t493, t494, t495⟩ : S25)⟩ : S27), (⟨t496, t497, t498, t499, (⟨t500, t501, t502⟩ : S25)⟩ : S27), (⟨t503, t504, t505, t506, (⟨t507, t508, t509⟩ : S25)⟩ : S27)] : List (S27))) 0 a0_0 a0_1 a0_2 a0_3 a0_4 a0_5 a0_6) = some r := H
  have A11 := Aside0.mk A110
  clear A110
  obtain ⟨y510, hy510⟩ : ∃ y_ : List (S27), y_ = (([(⟨t468, t469, t470, t471, (⟨t472, t473, t474⟩ : S25)⟩ : S27), (⟨t475, t476, t477, t478, (⟨t479, t480, t481⟩ : S25)⟩ : S27), (⟨t482, t483, t484, t485, (⟨t486, t487, t488⟩ : S25)⟩ : S27), (⟨t489, t490, t491, t492, (⟨t493, t494, t495⟩ : S25)⟩ : S27), (⟨t496, t497, t498, t499, (⟨t500, t501, t502⟩ : S25)⟩ : S27), (⟨t503, t504, t505, t506, (⟨t507, t508, t509⟩ : S25)⟩ : S27)] : List (S27))) := ⟨_, rfl⟩
  replace H : (bulwarklaw03_CapaLess.l0 k y510 0 a0_0 a0_1 a0_2 a0_3 a0_4 a0_5 a0_6) = some r := by first | (rw [hy510]; with_reducible exact H) | (have H2_ := (Option.bind_some _ _).symm.trans H; rw [hy510]; with_reducible exact H2_) | (have H2_ := (Option.bind_some _ _).symm.trans H; with_reducible exact H2_) | with_reducible exact H | (rw [hy510]; exact H) | exact H
  have Ny510 := Aside0.mk hy510
  clear hy510
  have H' := Aside0.mk H
  clear H
  go_enter Try.func8, Try.ntmps8
  try go_wp2_with (first | ((with_reducible refine gate_dst (N := 5) rfl ?_); refine box_event ?hg (N := 5) ?hd (cs := #[.bool a0_0, .int .u32 a0_1, .int .u8 a0_2, .int .u8 a0_3, .int .u8 a0_4, .int .u16 a0_5, .int .u16 a0_6]) (t := 27) ?hr ?_; (case hd => rfl); (case hg => rfl); (case hr => first | (go_simp; done) | (go_simp; rfl)); intro gb467 hg w12 hbox hb; have n0_ := Aside0.mk (below_step (by repeat (first | (with_reducible first | exact HB.out | apply below_alloc | apply pw_below_drewN | apply below_drew1) | exact HB.out)) hb); have n1_ := Aside0.mk (hbox); have n2_ := Aside0.mk ((by rw [hg]; exact (below_size (by repeat (first | (with_reducible first | exact HB.out | apply below_alloc | apply pw_below_drewN | apply below_drew1) | exact HB.out))) : w.heap.size ≤ gb467)); have n3_ := Aside0.mk ((by rw [hg]; exact (below_size (by repeat (first | (with_reducible first | exact HB.out | apply below_alloc | apply pw_below_drewN | apply below_drew1) | exact HB.out))) : w.heap.size ≤ gb467)); clear HB; have HB := n0_; have BK467 := n1_; have GW467 := n2_; have GE467 := n3_; clear n0_ n1_ n2_ n3_; clear hb hbox hg))
  have n0_ := Aside0.mk (blk_drew BK467.out)
  have n1_ := Aside0.mk (below_drew1 HB.out)
  clear BK467
  clear HB
  have BK467 := n0_
  have HB := n1_
  clear n0_ n1_
  refine start_ (n := 18) (S := fun w' => w'.cell? ⟨gb467, 0, none⟩ = some (.bool a0_0) ∧ w'.cell? ⟨gb467, 1, none⟩ = some (.int .u32 a0_1) ∧ w'.cell? ⟨gb467, 2, none⟩ = some (.int .u8 a0_2) ∧ w'.cell? ⟨gb467, 3, none⟩ = some (.int .u8 a0_3) ∧ w'.cell? ⟨gb467, 4, none⟩ = some (.int .u8 a0_4) ∧ w'.cell? ⟨gb467, 5, none⟩ = some (.int .u16 a0_5) ∧ w'.cell? ⟨gb467, 6, none⟩ = some (.int .u16 a0_6)) (ds := []) #[false, false, false, false, false, false, false, false, false, false, false, false, false, false, false, false, false, false] (by kernel_rfl) rfl rfl ⟨(blk_cell BK467.out 0).trans rfl, (blk_cell BK467.out 1).trans rfl, (blk_cell BK467.out 2).trans rfl, (blk_cell BK467.out 3).trans rfl, (blk_cell BK467.out 4).trans rfl, (blk_cell BK467.out 5).trans rfl, (blk_cell BK467.out 6).trans rfl⟩ (fun hHeld => ?_); refine with_tabW bulwarklaw03_CapaLess.tab1 bulwarklaw03_CapaLess.bits1 (fun HT_ HW_ => ?_)
  generalize w12.drew = w13 at BK467 HB hHeld ⊢
  refine pure_ (i := 1) (N := some 15) (v := ?_) (a' := ?_) #[false, true, false, false, false, false, false, false, false, false, false, false, false, false, false, false, false, false] rfl rfl (any_of HT_.out (by kernel_rfl)) (fun _ _ _ h => h) (Or.inl ⟨by rfl, ?_⟩) ?_ ?_
  rotate_left
  · intro w'
    go_simp
    with_reducible rfl
  rotate_left
  · simp only [Act.put, List.setIfInBounds_toArray, List.set_cons_zero, List.set_cons_succ, i64_w, i32_w]
    rfl
  refine pure_ (i := 4) (N := some 18) (v := ?_) (a' := ?_) #[false, true, false, false, true, false, false, false, false, false, false, false, false, false, false, false, false, false] rfl rfl (any_of HT_.out (by kernel_rfl)) (fun _ _ _ h => h) (Or.inl ⟨by rfl, ?_⟩) ?_ ?_
  rotate_left
  · intro w'
    go_simp
    with_reducible rfl
  rotate_left
  · simp only [Act.put, List.setIfInBounds_toArray, List.set_cons_zero, List.set_cons_succ, i64_w, i32_w]
    rfl
  refine pure_ (i := 7) (N := some 21) (v := ?_) (a' := ?_) #[false, true, false, false, true, false, false, true, false, false, false, false, false, false, false, false, false, false] rfl rfl (any_of HT_.out (by kernel_rfl)) (fun _ _ _ h => h) (Or.inl ⟨by rfl, ?_⟩) ?_ ?_
  rotate_left
  · intro w'
    go_simp
    with_reducible rfl
  rotate_left
  · simp only [Act.put, List.setIfInBounds_toArray, List.set_cons_zero, List.set_cons_succ, i64_w, i32_w]
    rfl
  refine pure_ (i := 12) (N := some 26) (v := ?_) (a' := ?_) #[false, true, false, false, true, false, false, true, false, false, false, false, true, false, false, false, false, false] rfl rfl (any_of HT_.out (by kernel_rfl)) (fun _ _ _ h => h) (Or.inl ⟨by rfl, ?_⟩) ?_ ?_
  rotate_left
  · intro w'
    go_simp
    with_reducible rfl
  rotate_left
  · simp only [Act.put, List.setIfInBounds_toArray, List.set_cons_zero, List.set_cons_succ, i64_w, i32_w]
    rfl
  refine take_ (i := 0) (N := some 14) (v := ?_) (a' := ?_) #[true, true, false, false, true, false, false, true, false, false, false, false, true, false, false, false, false, false] rfl rfl (take_ofW HT_.out HW_.out (by kernel_rfl)) (fun _ _ _ h => h) (Or.inl ⟨by rfl, ?_⟩) hHeld ?_ ?_
  rotate_left
  · rintro w' ⟨s0, s1, s2, s3, s4, s5, s6⟩
    go_simp
    with_reducible rfl
  rotate_left
  · simp only [Act.put, List.setIfInBounds_toArray, List.set_cons_zero, List.set_cons_succ, i64_w, i32_w]
    rfl
  refine take_ (i := 3) (N := some 17) (v := ?_) (a' := ?_) #[true, true, false, true, true, false, false, true, false, false, false, false, true, false, false, false, false, false] rfl rfl (take_ofW HT_.out HW_.out (by kernel_rfl)) (fun _ _ _ h => h) (Or.inl ⟨by rfl, ?_⟩) hHeld ?_ ?_
  rotate_left
  · rintro w' ⟨s0, s1, s2, s3, s4, s5, s6⟩
    go_simp
    with_reducible rfl
  rotate_left
  · simp only [Act.put, List.setIfInBounds_toArray, List.set_cons_zero, List.set_cons_succ, i64_w, i32_w]
    rfl
  refine take_ (i := 6) (N := some 20) (v := ?_) (a' := ?_) #[true, true, false, true, true, false, true, true, false, false, false, false, true, false, false, false, false, false] rfl rfl (take_ofW HT_.out HW_.out (by kernel_rfl)) (fun _ _ _ h => h) (Or.inl ⟨by rfl, ?_⟩) hHeld ?_ ?_
  rotate_left
  · rintro w' ⟨s0, s1, s2, s3, s4, s5, s6⟩
    go_simp
    with_reducible rfl
  rotate_left
  · simp only [Act.put, List.setIfInBounds_toArray, List.set_cons_zero, List.set_cons_succ, i64_w, i32_w]
    rfl
  refine take_ (i := 9) (N := some 23) (v := ?_) (a' := ?_) #[true, true, false, true, true, false, true, true, false, true, false, false, true, false, false, false, false, false] rfl rfl (take_ofW HT_.out HW_.out (by kernel_rfl)) (fun _ _ _ h => h) (Or.inl ⟨by rfl, ?_⟩) hHeld ?_ ?_
  rotate_left
  · rintro w' ⟨s0, s1, s2, s3, s4, s5, s6⟩
    go_simp
    with_reducible rfl
  rotate_left
  · simp only [Act.put, List.setIfInBounds_toArray, List.set_cons_zero, List.set_cons_succ, i64_w, i32_w]
    rfl
  refine take_ (i := 11) (N := some 25) (v := ?_) (a' := ?_) #[true, true, false, true, true, false, true, true, false, true, false, true, true, false, false, false, false, false] rfl rfl (take_ofW HT_.out HW_.out (by kernel_rfl)) (fun _ _ _ h => h) (Or.inl ⟨by rfl, ?_⟩) hHeld ?_ ?_
  rotate_left
  · rintro w' ⟨s0, s1, s2, s3, s4, s5, s6⟩
    go_simp
    with_reducible rfl
  rotate_left
  · simp only [Act.put, List.setIfInBounds_toArray, List.set_cons_zero, List.set_cons_succ, i64_w, i32_w]
    rfl
  refine take_ (i := 14) (N := some 28) (v := ?_) (a' := ?_) #[true, true, false, true, true, false, true, true, false, true, false, true, true, false, true, false, false, false] rfl rfl (take_ofW HT_.out HW_.out (by kernel_rfl)) (fun _ _ _ h => h) (Or.inl ⟨by rfl, ?_⟩) hHeld ?_ ?_
  rotate_left
  · rintro w' ⟨s0, s1, s2, s3, s4, s5, s6⟩
    go_simp
    with_reducible rfl
  rotate_left
  · simp only [Act.put, List.setIfInBounds_toArray, List.set_cons_zero, List.set_cons_succ, i64_w, i32_w]
    rfl
  refine one_ (i := 2) (N := some 16) #[true, true, true, true, true, false, true, true, false, true, false, true, true, false, true, false, false, false] rfl rfl (one_of HT_.out (by kernel_rfl)) (by decide) (fun K hK => ?_)
  refine goes_ Try.func29 (by kernel_rfl) rfl #[.agg #[.bool a0_0, .int .u32 a0_1, .int .u8 a0_2, .int .u8 a0_3, .int .u8 a0_4, .int .u16 a0_5, .int .u16 a0_6], .int .u32 a1] (by rfl) rfl rfl (by (try simp only [List.map_toArray, List.map_cons, List.map_nil]); first | done | rfl | (simp only [List.length_drop, List.length_take]; rfl)) ?_
  with_reducible refine (capa_SetAddr.calls a0_0 a0_1 a0_2 a0_3 a0_4 a0_5 a0_6 a1 t468 t469 t470 t471 t472 t473 t474 _ A6.out).mono ?_
  rintro e w14 ⟨rfl, hb⟩
  refine ⟨_, rfl, ?_⟩
  have n0_ := Aside0.mk (blk_below (g := gb467) (o := .cells #[.bool a0_0, .int .u32 a0_1, .int .u8 a0_2, .int .u8 a0_3, .int .u8 a0_4, .int .u16 a0_5, .int .u16 a0_6] 27 (0, 0)) (by (with_reducible repeat (first | refine blk_drewN ?_ _ | refine blk_drew ?_ | refine blk_alloc ?_ _)); exact BK467.out) hb)
  have n1_ := Aside0.mk (below_step (by repeat (first | (with_reducible first | exact HB.out | apply below_alloc | apply pw_below_drewN | apply below_drew1 | refine below_set ?_ GE467.out) | exact HB.out)) hb)
  clear BK467
  clear HB
  have BK467 := n0_
  have HB := n1_
  clear n0_ n1_
  (try clear hb)
  (try clear hb2)
  (try clear hk)
  (try clear hi)
  refine hK.out _ _ ⟨(blk_cell BK467.out 0).trans rfl, (blk_cell BK467.out 1).trans rfl, (blk_cell BK467.out 2).trans rfl, (blk_cell BK467.out 3).trans rfl, (blk_cell BK467.out 4).trans rfl, (blk_cell BK467.out 5).trans rfl, (blk_cell BK467.out 6).trans rfl⟩ (fun hHeld => ?_)
  clear hK K
  refine norm_ (a' := ?_) ?_ ?_
  rotate_left
  · show Act.put _ (some 16) _ = _
    simp only [Act.put, List.setIfInBounds_toArray, List.set_cons_zero, List.set_cons_succ, i64_w, i32_w]
    rfl
  refine one_ (i := 5) (N := some 19) #[true, true, true, true, true, true, true, true, false, true, false, true, true, false, true, false, false, false] rfl rfl (one_of HT_.out (by kernel_rfl)) (by decide) (fun K hK => ?_)
  refine goes_ Try.func30 (by kernel_rfl) rfl #[.agg #[.bool a0_0, .int .u32 a0_1, .int .u8 a0_2, .int .u8 a0_3, .int .u8 a0_4, .int .u16 a0_5, .int .u16 a0_6], .int .u32 a2] (by rfl) rfl rfl (by (try simp only [List.map_toArray, List.map_cons, List.map_nil]); first | done | rfl | (simp only [List.length_drop, List.length_take]; rfl)) ?_
  with_reducible refine (capa_SetBounds.calls k a0_0 a0_1 a0_2 a0_3 a0_4 a0_5 a0_6 a2 t475 t476 t477 t478 t479 t480 t481 _ A7.out).mono ?_
  rintro e w15 ⟨rfl, hb⟩
  refine ⟨_, rfl, ?_⟩
  have n0_ := Aside0.mk (blk_below (g := gb467) (o := .cells #[.bool a0_0, .int .u32 a0_1, .int .u8 a0_2, .int .u8 a0_3, .int .u8 a0_4, .int .u16 a0_5, .int .u16 a0_6] 27 (0, 0)) (by (with_reducible repeat (first | refine blk_drewN ?_ _ | refine blk_drew ?_ | refine blk_alloc ?_ _)); exact BK467.out) hb)
  have n1_ := Aside0.mk (below_step (by repeat (first | (with_reducible first | exact HB.out | apply below_alloc | apply pw_below_drewN | apply below_drew1 | refine below_set ?_ GE467.out) | exact HB.out)) hb)
  clear BK467
  clear HB
  have BK467 := n0_
  have HB := n1_
  clear n0_ n1_
  (try clear hb)
  (try clear hb2)
  (try clear hk)
  (try clear hi)
  refine hK.out _ _ ⟨(blk_cell BK467.out 0).trans rfl, (blk_cell BK467.out 1).trans rfl, (blk_cell BK467.out 2).trans rfl, (blk_cell BK467.out 3).trans rfl, (blk_cell BK467.out 4).trans rfl, (blk_cell BK467.out 5).trans rfl, (blk_cell BK467.out 6).trans rfl⟩ (fun hHeld => ?_)
  clear hK K
  refine norm_ (a' := ?_) ?_ ?_
  rotate_left
  · show Act.put _ (some 19) _ = _
    simp only [Act.put, List.setIfInBounds_toArray, List.set_cons_zero, List.set_cons_succ, i64_w, i32_w]
    rfl
  refine one_ (i := 8) (N := some 22) #[true, true, true, true, true, true, true, true, true, true, false, true, true, false, true, false, false, false] rfl rfl (one_of HT_.out (by kernel_rfl)) (by decide) (fun K hK => ?_)
  refine goes_ Try.func31 (by kernel_rfl) rfl #[.agg #[.bool a0_0, .int .u32 a0_1, .int .u8 a0_2, .int .u8 a0_3, .int .u8 a0_4, .int .u16 a0_5, .int .u16 a0_6], .int .u32 a3] (by rfl) rfl rfl (by (try simp only [List.map_toArray, List.map_cons, List.map_nil]); first | done | rfl | (simp only [List.length_drop, List.length_take]; rfl)) ?_
  with_reducible refine (capa_AndPerms.calls a0_0 a0_1 a0_2 a0_3 a0_4 a0_5 a0_6 a3 t482 t483 t484 t485 t486 t487 t488 _ A8.out).mono ?_
  rintro e w16 ⟨rfl, hb⟩
  refine ⟨_, rfl, ?_⟩
  have n0_ := Aside0.mk (blk_below (g := gb467) (o := .cells #[.bool a0_0, .int .u32 a0_1, .int .u8 a0_2, .int .u8 a0_3, .int .u8 a0_4, .int .u16 a0_5, .int .u16 a0_6] 27 (0, 0)) (by (with_reducible repeat (first | refine blk_drewN ?_ _ | refine blk_drew ?_ | refine blk_alloc ?_ _)); exact BK467.out) hb)
  have n1_ := Aside0.mk (below_step (by repeat (first | (with_reducible first | exact HB.out | apply below_alloc | apply pw_below_drewN | apply below_drew1 | refine below_set ?_ GE467.out) | exact HB.out)) hb)
  clear BK467
  clear HB
  have BK467 := n0_
  have HB := n1_
  clear n0_ n1_
  (try clear hb)
  (try clear hb2)
  (try clear hk)
  (try clear hi)
  refine hK.out _ _ ⟨(blk_cell BK467.out 0).trans rfl, (blk_cell BK467.out 1).trans rfl, (blk_cell BK467.out 2).trans rfl, (blk_cell BK467.out 3).trans rfl, (blk_cell BK467.out 4).trans rfl, (blk_cell BK467.out 5).trans rfl, (blk_cell BK467.out 6).trans rfl⟩ (fun hHeld => ?_)
  clear hK K
  refine norm_ (a' := ?_) ?_ ?_
  rotate_left
  · show Act.put _ (some 22) _ = _
    simp only [Act.put, List.setIfInBounds_toArray, List.set_cons_zero, List.set_cons_succ, i64_w, i32_w]
    rfl
  refine one_ (i := 10) (N := some 24) #[true, true, true, true, true, true, true, true, true, true, true, true, true, false, true, false, false, false] rfl rfl (one_of HT_.out (by kernel_rfl)) (by decide) (fun K hK => ?_)
  refine goes_ Try.func23 (by kernel_rfl) rfl #[.agg #[.bool a0_0, .int .u32 a0_1, .int .u8 a0_2, .int .u8 a0_3, .int .u8 a0_4, .int .u16 a0_5, .int .u16 a0_6]] (by rfl) rfl rfl (by (try simp only [List.map_toArray, List.map_cons, List.map_nil]); first | done | rfl | (simp only [List.length_drop, List.length_take]; rfl)) ?_
  with_reducible refine (capa_Sentry.calls a0_0 a0_1 a0_2 a0_3 a0_4 a0_5 a0_6 t489 t490 t491 t492 t493 t494 t495 _ A9.out).mono ?_
  rintro e w17 ⟨rfl, hb⟩
  refine ⟨_, rfl, ?_⟩
  have n0_ := Aside0.mk (blk_below (g := gb467) (o := .cells #[.bool a0_0, .int .u32 a0_1, .int .u8 a0_2, .int .u8 a0_3, .int .u8 a0_4, .int .u16 a0_5, .int .u16 a0_6] 27 (0, 0)) (by (with_reducible repeat (first | refine blk_drewN ?_ _ | refine blk_drew ?_ | refine blk_alloc ?_ _)); exact BK467.out) hb)
  have n1_ := Aside0.mk (below_step (by repeat (first | (with_reducible first | exact HB.out | apply below_alloc | apply pw_below_drewN | apply below_drew1 | refine below_set ?_ GE467.out) | exact HB.out)) hb)
  clear BK467
  clear HB
  have BK467 := n0_
  have HB := n1_
  clear n0_ n1_
  (try clear hb)
  (try clear hb2)
  (try clear hk)
  (try clear hi)
  refine hK.out _ _ ⟨(blk_cell BK467.out 0).trans rfl, (blk_cell BK467.out 1).trans rfl, (blk_cell BK467.out 2).trans rfl, (blk_cell BK467.out 3).trans rfl, (blk_cell BK467.out 4).trans rfl, (blk_cell BK467.out 5).trans rfl, (blk_cell BK467.out 6).trans rfl⟩ (fun hHeld => ?_)
  clear hK K
  refine norm_ (a' := ?_) ?_ ?_
  rotate_left
  · show Act.put _ (some 24) _ = _
    simp only [Act.put, List.setIfInBounds_toArray, List.set_cons_zero, List.set_cons_succ, i64_w, i32_w]
    rfl
  refine one_ (i := 13) (N := some 27) #[true, true, true, true, true, true, true, true, true, true, true, true, true, true, true, false, false, false] rfl rfl (one_of HT_.out (by kernel_rfl)) (by decide) (fun K hK => ?_)
  refine goes_ Try.func25 (by kernel_rfl) rfl #[.agg #[.bool a0_0, .int .u32 a0_1, .int .u8 a0_2, .int .u8 a0_3, .int .u8 a0_4, .int .u16 a0_5, .int .u16 a0_6], .int .u32 a4] (by rfl) rfl rfl (by (try simp only [List.map_toArray, List.map_cons, List.map_nil]); first | done | rfl | (simp only [List.length_drop, List.length_take]; rfl)) ?_
  with_reducible refine (capa_Seal.calls a0_0 a0_1 a0_2 a0_3 a0_4 a0_5 a0_6 a4 t496 t497 t498 t499 t500 t501 t502 _ A10.out).mono ?_
  rintro e w18 ⟨rfl, hb⟩
  refine ⟨_, rfl, ?_⟩
  have n0_ := Aside0.mk (blk_below (g := gb467) (o := .cells #[.bool a0_0, .int .u32 a0_1, .int .u8 a0_2, .int .u8 a0_3, .int .u8 a0_4, .int .u16 a0_5, .int .u16 a0_6] 27 (0, 0)) (by (with_reducible repeat (first | refine blk_drewN ?_ _ | refine blk_drew ?_ | refine blk_alloc ?_ _)); exact BK467.out) hb)
  have n1_ := Aside0.mk (below_step (by repeat (first | (with_reducible first | exact HB.out | apply below_alloc | apply pw_below_drewN | apply below_drew1 | refine below_set ?_ GE467.out) | exact HB.out)) hb)
  clear BK467
  clear HB
  have BK467 := n0_
  have HB := n1_
  clear n0_ n1_
  (try clear hb)
  (try clear hb2)
  (try clear hk)
  (try clear hi)
  refine hK.out _ _ ⟨(blk_cell BK467.out 0).trans rfl, (blk_cell BK467.out 1).trans rfl, (blk_cell BK467.out 2).trans rfl, (blk_cell BK467.out 3).trans rfl, (blk_cell BK467.out 4).trans rfl, (blk_cell BK467.out 5).trans rfl, (blk_cell BK467.out 6).trans rfl⟩ (fun hHeld => ?_)
  clear hK K
  refine norm_ (a' := ?_) ?_ ?_
  rotate_left
  · show Act.put _ (some 27) _ = _
    simp only [Act.put, List.setIfInBounds_toArray, List.set_cons_zero, List.set_cons_succ, i64_w, i32_w]
    rfl
  refine one_ (i := 15) (N := some 29) #[true, true, true, true, true, true, true, true, true, true, true, true, true, true, true, true, false, false] rfl rfl (one_of HT_.out (by kernel_rfl)) (by decide) (fun K hK => ?_)
  refine goes_ Try.func35 (by kernel_rfl) rfl #[.agg #[.bool a0_0, .int .u32 a0_1, .int .u8 a0_2, .int .u8 a0_3, .int .u8 a0_4, .int .u16 a0_5, .int .u16 a0_6]] (by rfl) rfl rfl (by (try simp only [List.map_toArray, List.map_cons, List.map_nil]); first | done | rfl | (simp only [List.length_drop, List.length_take]; rfl)) ?_
  with_reducible refine (capa_ClearTag.calls a0_0 a0_1 a0_2 a0_3 a0_4 a0_5 a0_6 t503 t504 t505 t506 t507 t508 t509 _ A11.out).mono ?_
  rintro e w19 ⟨rfl, hb⟩
  refine ⟨_, rfl, ?_⟩
  have n0_ := Aside0.mk (blk_below (g := gb467) (o := .cells #[.bool a0_0, .int .u32 a0_1, .int .u8 a0_2, .int .u8 a0_3, .int .u8 a0_4, .int .u16 a0_5, .int .u16 a0_6] 27 (0, 0)) (by (with_reducible repeat (first | refine blk_drewN ?_ _ | refine blk_drew ?_ | refine blk_alloc ?_ _)); exact BK467.out) hb)
  have n1_ := Aside0.mk (below_step (by repeat (first | (with_reducible first | exact HB.out | apply below_alloc | apply pw_below_drewN | apply below_drew1 | refine below_set ?_ GE467.out) | exact HB.out)) hb)
  clear BK467
  clear HB
  have BK467 := n0_
  have HB := n1_
  clear n0_ n1_
  (try clear hb)
  (try clear hb2)
  (try clear hk)
  (try clear hi)
  refine hK.out _ _ ⟨(blk_cell BK467.out 0).trans rfl, (blk_cell BK467.out 1).trans rfl, (blk_cell BK467.out 2).trans rfl, (blk_cell BK467.out 3).trans rfl, (blk_cell BK467.out 4).trans rfl, (blk_cell BK467.out 5).trans rfl, (blk_cell BK467.out 6).trans rfl⟩ (fun hHeld => ?_)
  clear hK K
  refine norm_ (a' := ?_) ?_ ?_
  rotate_left
  · show Act.put _ (some 29) _ = _
    simp only [Act.put, List.setIfInBounds_toArray, List.set_cons_zero, List.set_cons_succ, i64_w, i32_w]
    rfl
  refine one_ (i := 16) (N := some 30) #[true, true, true, true, true, true, true, true, true, true, true, true, true, true, true, true, true, false] rfl rfl (one_of HT_.out (by kernel_rfl)) (by decide) (fun K hK => ?_)
  refine Kd.R_lit_step k27 _ 27 ?hg (N := 30) ?hd (xs := ([(⟨t468, t469, t470, t471, (⟨t472, t473, t474⟩ : S25)⟩ : S27), (⟨t475, t476, t477, t478, (⟨t479, t480, t481⟩ : S25)⟩ : S27), (⟨t482, t483, t484, t485, (⟨t486, t487, t488⟩ : S25)⟩ : S27), (⟨t489, t490, t491, t492, (⟨t493, t494, t495⟩ : S25)⟩ : S27), (⟨t496, t497, t498, t499, (⟨t500, t501, t502⟩ : S25)⟩ : S27), (⟨t503, t504, t505, t506, (⟨t507, t508, t509⟩ : S25)⟩ : S27)] : List (S27))) (inner := [.bool t468, .int .u32 t469, .int .u8 t470, .int .u8 t471, .int .u8 t472, .int .u16 t473, .int .u16 t474, .bool t475, .int .u32 t476, .int .u8 t477, .int .u8 t478, .int .u8 t479, .int .u16 t480, .int .u16 t481, .bool t482, .int .u32 t483, .int .u8 t484, .int .u8 t485, .int .u8 t486, .int .u16 t487, .int .u16 t488, .bool t489, .int .u32 t490, .int .u8 t491, .int .u8 t492, .int .u8 t493, .int .u16 t494, .int .u16 t495, .bool t496, .int .u32 t497, .int .u8 t498, .int .u8 t499, .int .u8 t500, .int .u16 t501, .int .u16 t502, .bool t503, .int .u32 t504, .int .u8 t505, .int .u8 t506, .int .u8 t507, .int .u16 t508, .int .u16 t509]) (ok := fun _ => True) (okp := fun _ => True) ?hr ?hp (fun _ hk => hk) trivial (Below.refl _ _) (Nat.le_refl _) (by simp) ?_; (case hd => rfl); (case hg => rfl); (case hr => first | (go_simp; done) | (go_simp; rfl)); (case hp => exact (Reps.c7 (show Kd.M k27 _ _ _ (⟨t468, t469, t470, t471, (⟨t472, t473, t474⟩ : S25)⟩ : S27) [.bool t468, .int .u32 t469, .int .u8 t470, .int .u8 t471, .int .u8 t472, .int .u16 t473, .int .u16 t474] from (k27_mkM _ _ _ (⟨t468, t469, t470, t471, (⟨t472, t473, t474⟩ : S25)⟩ : S27) )) (Reps.c7 (show Kd.M k27 _ _ _ (⟨t475, t476, t477, t478, (⟨t479, t480, t481⟩ : S25)⟩ : S27) [.bool t475, .int .u32 t476, .int .u8 t477, .int .u8 t478, .int .u8 t479, .int .u16 t480, .int .u16 t481] from (k27_mkM _ _ _ (⟨t475, t476, t477, t478, (⟨t479, t480, t481⟩ : S25)⟩ : S27) )) (Reps.c7 (show Kd.M k27 _ _ _ (⟨t482, t483, t484, t485, (⟨t486, t487, t488⟩ : S25)⟩ : S27) [.bool t482, .int .u32 t483, .int .u8 t484, .int .u8 t485, .int .u8 t486, .int .u16 t487, .int .u16 t488] from (k27_mkM _ _ _ (⟨t482, t483, t484, t485, (⟨t486, t487, t488⟩ : S25)⟩ : S27) )) (Reps.c7 (show Kd.M k27 _ _ _ (⟨t489, t490, t491, t492, (⟨t493, t494, t495⟩ : S25)⟩ : S27) [.bool t489, .int .u32 t490, .int .u8 t491, .int .u8 t492, .int .u8 t493, .int .u16 t494, .int .u16 t495] from (k27_mkM _ _ _ (⟨t489, t490, t491, t492, (⟨t493, t494, t495⟩ : S25)⟩ : S27) )) (Reps.c7 (show Kd.M k27 _ _ _ (⟨t496, t497, t498, t499, (⟨t500, t501, t502⟩ : S25)⟩ : S27) [.bool t496, .int .u32 t497, .int .u8 t498, .int .u8 t499, .int .u8 t500, .int .u16 t501, .int .u16 t502] from (k27_mkM _ _ _ (⟨t496, t497, t498, t499, (⟨t500, t501, t502⟩ : S25)⟩ : S27) )) (Reps.c7 (show Kd.M k27 _ _ _ (⟨t503, t504, t505, t506, (⟨t507, t508, t509⟩ : S25)⟩ : S27) [.bool t503, .int .u32 t504, .int .u8 t505, .int .u8 t506, .int .u8 t507, .int .u16 t508, .int .u16 t509] from (k27_mkM _ _ _ (⟨t503, t504, t505, t506, (⟨t507, t508, t509⟩ : S25)⟩ : S27) )) (Reps.none _ _))))))))
  intro v511 w20 ho21 hb hg_ hnew_
  clear hg_ hnew_
  (first | rw [← Ny510.out] at ho21 | (simp only [Int.reduceToNat] at ho21; rw [← Ny510.out] at ho21))
  have n0_ := Aside0.mk (Kd.R_lower (Kd.R_newB ho21 (g := gb467) (o := .cells #[.bool a0_0, .int .u32 a0_1, .int .u8 a0_2, .int .u8 a0_3, .int .u8 a0_4, .int .u16 a0_5, .int .u16 a0_6] 27 (0, 0)) (by (with_reducible repeat (first | refine blk_drewN ?_ _ | refine blk_drew ?_ | refine blk_alloc ?_ _)); exact BK467.out)) (below_size (by repeat (first | (with_reducible first | exact HB.out | apply below_alloc | apply pw_below_drewN | apply below_drew1 | refine below_set ?_ GE467.out) | exact HB.out))))
  have n1_ := Aside0.mk (blk_below (g := gb467) (o := .cells #[.bool a0_0, .int .u32 a0_1, .int .u8 a0_2, .int .u8 a0_3, .int .u8 a0_4, .int .u16 a0_5, .int .u16 a0_6] 27 (0, 0)) (by (with_reducible repeat (first | refine blk_drewN ?_ _ | refine blk_drew ?_ | refine blk_alloc ?_ _)); exact BK467.out) hb)
  have n2_ := Aside0.mk (below_step (by repeat (first | (with_reducible first | exact HB.out | apply below_alloc | apply pw_below_drewN | apply below_drew1 | refine below_set ?_ GE467.out) | exact HB.out)) hb)
  clear BK467
  clear HB
  have HO512 := n0_
  have BK467 := n1_
  have HB := n2_
  clear n0_ n1_ n2_
  clear hb ho21
  refine hK.out _ _ ⟨(blk_cell BK467.out 0).trans rfl, (blk_cell BK467.out 1).trans rfl, (blk_cell BK467.out 2).trans rfl, (blk_cell BK467.out 3).trans rfl, (blk_cell BK467.out 4).trans rfl, (blk_cell BK467.out 5).trans rfl, (blk_cell BK467.out 6).trans rfl⟩ (fun hHeld => ?_)
  clear hK K
  refine norm_ (a' := ?_) ?_ ?_
  rotate_left
  · show Act.put _ (some 30) _ = _
    simp only [Act.put, List.setIfInBounds_toArray, List.set_cons_zero, List.set_cons_succ, i64_w, i32_w]
    rfl
  refine pure_ (i := 17) (N := some 11) (v := ?_) (a' := ?_) #[true, true, true, true, true, true, true, true, true, true, true, true, true, true, true, true, true, true] rfl rfl (any_of HT_.out (by kernel_rfl)) (fun _ _ _ h => h) (Or.inl ⟨by rfl, ?_⟩) ?_ ?_
  rotate_left
  · intro w'
    go_simp
    with_reducible rfl
  rotate_left
  · simp only [Act.put, List.setIfInBounds_toArray, List.set_cons_zero, List.set_cons_succ, i64_w, i32_w]
    rfl
  refine done_ (done_of HT_.out (by kernel_rfl)) ?_
  try go_wp2
  go_loopg [12] k (fun kq v12 w' => ∃ (x12_1 : Int), v12 = .int .i64 x12_1 ∧ Aside0 (bulwarklaw03_CapaLess.l0 kq y510 x12_1 a0_0 a0_1 a0_2 a0_3 a0_4 a0_5 a0_6 = some r) ∧ Aside0 (kq ≤ k) ∧ Aside0 (Kd.R k27 27 w' w.heap.size (fun k_ => k_ ≠ gb467) v511 y510) ∧ Aside0 (w'.heap[gb467]? = some (.cells #[.bool a0_0, .int .u32 a0_1, .int .u8 a0_2, .int .u8 a0_3, .int .u8 a0_4, .int .u16 a0_5, .int .u16 a0_6] 27 (0, 0))) ∧ Aside0 (Below w.heap.size w w'))
  case atStart => exact ⟨(0), (by first | rfl | (simp; done) | (simp [*]; done)), H', ⟨Nat.le_refl _⟩, ⟨by (with_reducible repeat (first | apply Kd.R_alloc | apply Kd.R_drewN | apply Kd.R_drew)); exact Kd.R_mono HO512.out (fun _ hk => hk.2)⟩, ⟨by (with_reducible repeat (first | refine blk_drewN ?_ _ | refine blk_drew ?_ | refine blk_alloc ?_ _)); exact BK467.out⟩, ⟨by repeat (first | (with_reducible first | exact HB.out | apply below_alloc | apply pw_below_drewN | apply below_drew1 | refine below_set ?_ GE467.out) | exact HB.out)⟩⟩
  case round =>
    clear H'
    try clear c2
    try clear p2
    try clear c3
    try clear c7
    try clear c8
    obtain ⟨x12_1, rfl, HA, HK1, HO_11, BK467, HB⟩ := hrel
    cases gk with
    | zero => exact absurd HA.out (by simp [bulwarklaw03_CapaLess.l0])
    | succ k1 =>
      have H := HA.out
      clear HA
      simp only [bulwarklaw03_CapaLess.l0] at H
      by_cases c22 : x12_1 < (y510.length : Int)
      · rw [if_pos c22] at H
        have c22b0 : decide (x12_1 < (y510.length : Int)) = true := decide_eq_true c22
        clear c22
        by_cases c23 : 0 ≤ x12_1
        · rw [if_pos c23] at H
          have c23b0 : decide (0 ≤ x12_1) = true := decide_eq_true c23
          clear c23
          obtain ⟨bq24, hbq24⟩ : ∃ b_ : Bool, b_ = ((rd_T27 y510 x12_1).f0) := ⟨_, rfl⟩
          replace H : (if bq24 = true then (if a0_0 = true then (if a0_3 = 0 then ((capa_Subset.f (bq24) ((rd_T27 y510 x12_1).f1) ((rd_T27 y510 x12_1).f2) ((rd_T27 y510 x12_1).f3) ((rd_T27 y510 x12_1).f4.f0) ((rd_T27 y510 x12_1).f4.f1) ((rd_T27 y510 x12_1).f4.f2) a0_0 a0_1 a0_2 a0_3 a0_4 a0_5 a0_6).bind fun t515 => (if t515 = true then (bulwarklaw03_CapaLess.l0 k1 y510 (wrap64 (x12_1 + 1)) a0_0 a0_1 a0_2 a0_3 a0_4 a0_5 a0_6) else (some false))) else (some false)) else (some false)) else (bulwarklaw03_CapaLess.l0 k1 y510 (wrap64 (x12_1 + 1)) a0_0 a0_1 a0_2 a0_3 a0_4 a0_5 a0_6)) = some r := by rw [← hbq24] at H; exact H
          have Nbq24 := Aside0.mk hbq24
          clear hbq24
          by_cases c25 : bq24 = true
          · subst c25
            have H1 : (if a0_0 = true then (if a0_3 = 0 then ((capa_Subset.f (true) ((rd_T27 y510 x12_1).f1) ((rd_T27 y510 x12_1).f2) ((rd_T27 y510 x12_1).f3) ((rd_T27 y510 x12_1).f4.f0) ((rd_T27 y510 x12_1).f4.f1) ((rd_T27 y510 x12_1).f4.f2) a0_0 a0_1 a0_2 a0_3 a0_4 a0_5 a0_6).bind fun t515 => (if t515 = true then (bulwarklaw03_CapaLess.l0 k1 y510 (wrap64 (x12_1 + 1)) a0_0 a0_1 a0_2 a0_3 a0_4 a0_5 a0_6) else (some false))) else (some false)) else (some false)) = some r := by rw [if_pos rfl] at H; exact H
            clear H
            have H := H1
            clear H1
            by_cases c26 : a0_0 = true
            · subst c26
              have H1 : (if a0_3 = 0 then ((capa_Subset.f (true) ((rd_T27 y510 x12_1).f1) ((rd_T27 y510 x12_1).f2) ((rd_T27 y510 x12_1).f3) ((rd_T27 y510 x12_1).f4.f0) ((rd_T27 y510 x12_1).f4.f1) ((rd_T27 y510 x12_1).f4.f2) true a0_1 a0_2 a0_3 a0_4 a0_5 a0_6).bind fun t515 => (if t515 = true then (bulwarklaw03_CapaLess.l0 k1 y510 (wrap64 (x12_1 + 1)) true a0_1 a0_2 a0_3 a0_4 a0_5 a0_6) else (some false))) else (some false)) = some r := by rw [if_pos rfl] at H; exact H
              clear H
              have H := H1
              clear H1
              by_cases c27 : a0_3 = 0
              · rw [if_pos c27] at H
                have c27b0 : (a0_3 == 0) = true := beq_iff_eq.mpr c27
                have c27b1 : (a0_3 != 0) = false := bne_eq_false_iff_eq.mpr c27
                clear c27
                replace H := Option.bind_eq_some_iff.mp H
                obtain ⟨t515, A280, H⟩ := H
                replace H : (if t515 = true then (bulwarklaw03_CapaLess.l0 k1 y510 (wrap64 (x12_1 + 1)) true a0_1 a0_2 a0_3 a0_4 a0_5 a0_6) else (some false)) = some r := H
                have A28 := Aside0.mk A280
                clear A280
                by_cases c29 : t515 = true
                · subst c29
                  have H1 : (bulwarklaw03_CapaLess.l0 k1 y510 (wrap64 (x12_1 + 1)) true a0_1 a0_2 a0_3 a0_4 a0_5 a0_6) = some r := by rw [if_pos rfl] at H; exact H
                  clear H
                  have H := H1
                  clear H1
                  have H' := Aside0.mk H
                  clear H
                  obtain ⟨Ao30, co30, eo30⟩ := Kd.R_slice HO_11.out
                  subst eo30
                  try go_wp2
                  have n0_ := Aside0.mk (Kd.R_drew HO_11.out)
                  have n1_ := Aside0.mk (blk_drew BK467.out)
                  have n2_ := Aside0.mk (below_drew1 HB.out)
                  clear HO_11
                  clear BK467
                  clear HB
                  have HO_11 := n0_
                  have BK467 := n1_
                  have HB := n2_
                  clear n0_ n1_ n2_
                  have p513 : 0 ≤ (x12_1 : Int) := of_decide_eq_true (by first | (with_reducible assumption) | assumption)
                  have q513 : x12_1 < (y510.length : Int) := of_decide_eq_true (by first | (with_reducible assumption) | assumption)
                  obtain ⟨ad513, e513, hx513_0, hx513_1, hx513_2, hx513_3, hx513_4, hx513_5, hx513_6⟩ := at_T27 (Kd.R_reads' HO_11.out).2.2 x12_1 p513 q513
                  (try rw [← Nbq24.out] at hx513_0)
                  cases e513
                  replace p513 := eq_true p513
                  replace q513 := eq_true q513
                  have p514 : 0 ≤ (x12_1 : Int) := of_decide_eq_true (by first | (with_reducible assumption) | assumption)
                  have q514 : x12_1 < (y510.length : Int) := of_decide_eq_true (by first | (with_reducible assumption) | assumption)
                  obtain ⟨ad514, e514, hx514_0, hx514_1, hx514_2, hx514_3, hx514_4, hx514_5, hx514_6⟩ := at_T27 (Kd.R_reads' HO_11.out).2.2 x12_1 p514 q514
                  (try rw [← Nbq24.out] at hx514_0)
                  obtain rfl : ad513 = ad514 := (by injection e514)
                  replace p514 := eq_true p514
                  replace q514 := eq_true q514
                  refine start_ (n := 24) (S := fun w' => w'.cell? ⟨gb467, 0, none⟩ = some (.bool true) ∧ w'.cell? ⟨gb467, 1, none⟩ = some (.int .u32 a0_1) ∧ w'.cell? ⟨gb467, 2, none⟩ = some (.int .u8 a0_2) ∧ w'.cell? ⟨gb467, 3, none⟩ = some (.int .u8 a0_3) ∧ w'.cell? ⟨gb467, 4, none⟩ = some (.int .u8 a0_4) ∧ w'.cell? ⟨gb467, 5, none⟩ = some (.int .u16 a0_5) ∧ w'.cell? ⟨gb467, 6, none⟩ = some (.int .u16 a0_6) ∧ w'.cell? (ad513.add ((x12_1).toNat * 7)) = some (.bool true) ∧ w'.cell? ⟨(ad513.add ((x12_1).toNat * 7)).block, (ad513.add ((x12_1).toNat * 7)).off + 1, none⟩ = some (.int .u32 ((rd_T27 y510 x12_1).f1)) ∧ w'.cell? ⟨(ad513.add ((x12_1).toNat * 7)).block, (ad513.add ((x12_1).toNat * 7)).off + 2, none⟩ = some (.int .u8 ((rd_T27 y510 x12_1).f2)) ∧ w'.cell? ⟨(ad513.add ((x12_1).toNat * 7)).block, (ad513.add ((x12_1).toNat * 7)).off + 3, none⟩ = some (.int .u8 ((rd_T27 y510 x12_1).f3)) ∧ w'.cell? ⟨(ad513.add ((x12_1).toNat * 7)).block, (ad513.add ((x12_1).toNat * 7)).off + 4, none⟩ = some (.int .u8 ((rd_T27 y510 x12_1).f4.f0)) ∧ w'.cell? ⟨(ad513.add ((x12_1).toNat * 7)).block, (ad513.add ((x12_1).toNat * 7)).off + 5, none⟩ = some (.int .u16 ((rd_T27 y510 x12_1).f4.f1)) ∧ w'.cell? ⟨(ad513.add ((x12_1).toNat * 7)).block, (ad513.add ((x12_1).toNat * 7)).off + 6, none⟩ = some (.int .u16 ((rd_T27 y510 x12_1).f4.f2)) ∧ w'.cell? (ad513.add ((x12_1).toNat * 7)) = some (.bool (true)) ∧ w'.cell? ⟨(ad513.add ((x12_1).toNat * 7)).block, (ad513.add ((x12_1).toNat * 7)).off + 1, none⟩ = some (.int .u32 ((rd_T27 y510 x12_1).f1)) ∧ w'.cell? ⟨(ad513.add ((x12_1).toNat * 7)).block, (ad513.add ((x12_1).toNat * 7)).off + 2, none⟩ = some (.int .u8 ((rd_T27 y510 x12_1).f2)) ∧ w'.cell? ⟨(ad513.add ((x12_1).toNat * 7)).block, (ad513.add ((x12_1).toNat * 7)).off + 3, none⟩ = some (.int .u8 ((rd_T27 y510 x12_1).f3)) ∧ w'.cell? ⟨(ad513.add ((x12_1).toNat * 7)).block, (ad513.add ((x12_1).toNat * 7)).off + 4, none⟩ = some (.int .u8 ((rd_T27 y510 x12_1).f4.f0)) ∧ w'.cell? ⟨(ad513.add ((x12_1).toNat * 7)).block, (ad513.add ((x12_1).toNat * 7)).off + 5, none⟩ = some (.int .u16 ((rd_T27 y510 x12_1).f4.f1)) ∧ w'.cell? ⟨(ad513.add ((x12_1).toNat * 7)).block, (ad513.add ((x12_1).toNat * 7)).off + 6, none⟩ = some (.int .u16 ((rd_T27 y510 x12_1).f4.f2))) (ds := []) #[false, false, false, false, false, false, false, false, false, false, false, false, false, false, false, false, false, false, false, false, false, false, false, false] (by kernel_rfl) rfl rfl ⟨(blk_cell BK467.out 0).trans rfl, (blk_cell BK467.out 1).trans rfl, (blk_cell BK467.out 2).trans rfl, (blk_cell BK467.out 3).trans rfl, (blk_cell BK467.out 4).trans rfl, (blk_cell BK467.out 5).trans rfl, (blk_cell BK467.out 6).trans rfl, hx513_0, hx513_1, hx513_2, hx513_3, hx513_4, hx513_5, hx513_6, hx514_0, hx514_1, hx514_2, hx514_3, hx514_4, hx514_5, hx514_6⟩ (fun hHeld => ?_); refine with_tabW bulwarklaw03_CapaLess.tab5 bulwarklaw03_CapaLess.bits5 (fun HT_ HW_ => ?_)
                  generalize wr.drew = w31 at HO_11 BK467 HB hx513_0 hx513_1 hx513_2 hx513_3 hx513_4 hx513_5 hx513_6 hx514_0 hx514_1 hx514_2 hx514_3 hx514_4 hx514_5 hx514_6 hHeld ⊢
                  refine pure_ (i := 0) (N := some 37) (v := ?_) (a' := ?_) #[true, false, false, false, false, false, false, false, false, false, false, false, false, false, false, false, false, false, false, false, false, false, false, false] rfl rfl (any_of HT_.out (by kernel_rfl)) (fun _ _ _ h => h) (Or.inl ⟨by rfl, ?_⟩) ?_ ?_
                  rotate_left
                  · intro w'
                    go_simp
                    with_reducible rfl
                  rotate_left
                  · simp only [Act.put, List.setIfInBounds_toArray, List.set_cons_zero, List.set_cons_succ, i64_w, i32_w]
                    rfl
                  refine pure_ (i := 1) (N := some 38) (v := ?_) (a' := ?_) #[true, true, false, false, false, false, false, false, false, false, false, false, false, false, false, false, false, false, false, false, false, false, false, false] rfl rfl (any_of HT_.out (by kernel_rfl)) (fun _ _ _ h => h) (Or.inl ⟨by rfl, ?_⟩) ?_ ?_
                  rotate_left
                  · intro w'
                    go_simp
                    with_reducible rfl
                  rotate_left
                  · simp only [Act.put, List.setIfInBounds_toArray, List.set_cons_zero, List.set_cons_succ, i64_w, i32_w]
                    rfl
                  refine pure_ (i := 2) (N := some 39) (v := ?_) (a' := ?_) #[true, true, true, false, false, false, false, false, false, false, false, false, false, false, false, false, false, false, false, false, false, false, false, false] rfl rfl (any_of HT_.out (by kernel_rfl)) (fun _ _ _ h => h) (Or.inl ⟨by rfl, ?_⟩) ?_ ?_
                  rotate_left
                  · intro w'
                    go_simp
                    with_reducible rfl
                  rotate_left
                  · simp only [Act.put, List.setIfInBounds_toArray, List.set_cons_zero, List.set_cons_succ, i64_w, i32_w]
                    rfl
                  refine pure_ (i := 3) (N := some 40) (v := ?_) (a' := ?_) #[true, true, true, true, false, false, false, false, false, false, false, false, false, false, false, false, false, false, false, false, false, false, false, false] rfl rfl (any_of HT_.out (by kernel_rfl)) (fun _ _ _ h => h) (Or.inl ⟨by rfl, ?_⟩) ?_ ?_
                  rotate_left
                  · intro w'
                    go_simp
                    with_reducible rfl
                  rotate_left
                  · simp only [Act.put, List.setIfInBounds_toArray, List.set_cons_zero, List.set_cons_succ, i64_w, i32_w]
                    rfl
                  refine take_ (i := 4) (N := some 41) (v := ?_) (a' := ?_) #[true, true, true, true, true, false, false, false, false, false, false, false, false, false, false, false, false, false, false, false, false, false, false, false] rfl rfl (take_ofW HT_.out HW_.out (by kernel_rfl)) (fun _ _ _ h => h) (Or.inl ⟨by rfl, ?_⟩) hHeld ?_ ?_
                  rotate_left
                  · rintro w' ⟨s0, s1, s2, s3, s4, s5, s6, s7, s8, s9, s10, s11, s12, s13, s14, s15, s16, s17, s18, s19, s20⟩
                    go_simp
                    with_reducible rfl
                  rotate_left
                  · simp only [Act.put, List.setIfInBounds_toArray, List.set_cons_zero, List.set_cons_succ, i64_w, i32_w]
                    rfl
                  refine pure_ (i := 5) (N := some 42) (v := ?_) (a' := ?_) #[true, true, true, true, true, true, false, false, false, false, false, false, false, false, false, false, false, false, false, false, false, false, false, false] rfl rfl (any_of HT_.out (by kernel_rfl)) (fun _ _ _ h => h) (Or.inl ⟨by rfl, ?_⟩) ?_ ?_
                  rotate_left
                  · intro w'
                    go_simp
                    with_reducible rfl
                  rotate_left
                  · simp only [Act.put, List.setIfInBounds_toArray, List.set_cons_zero, List.set_cons_succ, i64_w, i32_w]
                    rfl
                  refine pure_ (i := 6) (N := some 43) (v := ?_) (a' := ?_) #[true, true, true, true, true, true, true, false, false, false, false, false, false, false, false, false, false, false, false, false, false, false, false, false] rfl rfl (any_of HT_.out (by kernel_rfl)) (fun _ _ _ h => h) (Or.inl ⟨by rfl, ?_⟩) ?_ ?_
                  rotate_left
                  · intro w'
                    go_simp
                    with_reducible rfl
                  rotate_left
                  · simp only [Act.put, List.setIfInBounds_toArray, List.set_cons_zero, List.set_cons_succ, i64_w, i32_w]
                    rfl
                  refine take_ (i := 7) (N := some 44) (v := ?_) (a' := ?_) #[true, true, true, true, true, true, true, true, false, false, false, false, false, false, false, false, false, false, false, false, false, false, false, false] rfl rfl (take_ofW HT_.out HW_.out (by kernel_rfl)) (fun _ _ _ h => h) (Or.inl ⟨by rfl, ?_⟩) hHeld ?_ ?_
                  rotate_left
                  · rintro w' ⟨s0, s1, s2, s3, s4, s5, s6, s7, s8, s9, s10, s11, s12, s13, s14, s15, s16, s17, s18, s19, s20⟩
                    go_simp
                    with_reducible rfl
                  rotate_left
                  · simp only [Act.put, List.setIfInBounds_toArray, List.set_cons_zero, List.set_cons_succ, i64_w, i32_w]
                    rfl
                  refine pure_ (i := 8) (N := some 45) (v := ?_) (a' := ?_) #[true, true, true, true, true, true, true, true, true, false, false, false, false, false, false, false, false, false, false, false, false, false, false, false] rfl rfl (any_of HT_.out (by kernel_rfl)) (fun _ _ _ h => h) (Or.inl ⟨by rfl, ?_⟩) ?_ ?_
                  rotate_left
                  · intro w'
                    go_simp
                    with_reducible rfl
                  rotate_left
                  · simp only [Act.put, List.setIfInBounds_toArray, List.set_cons_zero, List.set_cons_succ, i64_w, i32_w]
                    rfl
                  refine pure_ (i := 9) (N := some 46) (v := ?_) (a' := ?_) #[true, true, true, true, true, true, true, true, true, true, false, false, false, false, false, false, false, false, false, false, false, false, false, false] rfl rfl (any_of HT_.out (by kernel_rfl)) (fun _ _ _ h => h) (Or.inl ⟨by rfl, ?_⟩) ?_ ?_
                  rotate_left
                  · intro w'
                    go_simp
                    with_reducible rfl
                  rotate_left
                  · simp only [Act.put, List.setIfInBounds_toArray, List.set_cons_zero, List.set_cons_succ, i64_w, i32_w]
                    rfl
                  refine pure_ (i := 10) (N := some 47) (v := ?_) (a' := ?_) #[true, true, true, true, true, true, true, true, true, true, true, false, false, false, false, false, false, false, false, false, false, false, false, false] rfl rfl (any_of HT_.out (by kernel_rfl)) (fun _ _ _ h => h) (Or.inl ⟨by rfl, ?_⟩) ?_ ?_
                  rotate_left
                  · intro w'
                    go_simp
                    with_reducible rfl
                  rotate_left
                  · simp only [Act.put, List.setIfInBounds_toArray, List.set_cons_zero, List.set_cons_succ, i64_w, i32_w]
                    rfl
                  refine take_ (i := 11) (N := some 48) (v := ?_) (a' := ?_) #[true, true, true, true, true, true, true, true, true, true, true, true, false, false, false, false, false, false, false, false, false, false, false, false] rfl rfl (take_ofW HT_.out HW_.out (by kernel_rfl)) (fun _ _ _ h => h) (Or.inl ⟨by rfl, ?_⟩) hHeld ?_ ?_
                  rotate_left
                  · rintro w' ⟨s0, s1, s2, s3, s4, s5, s6, s7, s8, s9, s10, s11, s12, s13, s14, s15, s16, s17, s18, s19, s20⟩
                    go_simp
                    with_reducible rfl
                  rotate_left
                  · simp only [Act.put, List.setIfInBounds_toArray, List.set_cons_zero, List.set_cons_succ, i64_w, i32_w]
                    rfl
                  refine pure_ (i := 12) (N := some 49) (v := ?_) (a' := ?_) #[true, true, true, true, true, true, true, true, true, true, true, true, true, false, false, false, false, false, false, false, false, false, false, false] rfl rfl (any_of HT_.out (by kernel_rfl)) (fun _ _ _ h => h) (Or.inl ⟨by rfl, ?_⟩) ?_ ?_
                  rotate_left
                  · intro w'
                    go_simp
                    with_reducible rfl
                  rotate_left
                  · simp only [Act.put, List.setIfInBounds_toArray, List.set_cons_zero, List.set_cons_succ, i64_w, i32_w]
                    rfl
                  refine pure_ (i := 13) (N := some 50) (v := ?_) (a' := ?_) #[true, true, true, true, true, true, true, true, true, true, true, true, true, true, false, false, false, false, false, false, false, false, false, false] rfl rfl (any_of HT_.out (by kernel_rfl)) (fun _ _ _ h => h) (Or.inl ⟨by rfl, ?_⟩) ?_ ?_
                  rotate_left
                  · intro w'
                    go_simp
                    with_reducible rfl
                  rotate_left
                  · simp only [Act.put, List.setIfInBounds_toArray, List.set_cons_zero, List.set_cons_succ, i64_w, i32_w]
                    rfl
                  refine pure_ (i := 14) (N := some 51) (v := ?_) (a' := ?_) #[true, true, true, true, true, true, true, true, true, true, true, true, true, true, true, false, false, false, false, false, false, false, false, false] rfl rfl (any_of HT_.out (by kernel_rfl)) (fun _ _ _ h => h) (Or.inl ⟨by rfl, ?_⟩) ?_ ?_
                  rotate_left
                  · intro w'
                    go_simp
                    with_reducible rfl
                  rotate_left
                  · simp only [Act.put, List.setIfInBounds_toArray, List.set_cons_zero, List.set_cons_succ, i64_w, i32_w]
                    rfl
                  refine pure_ (i := 15) (N := some 52) (v := ?_) (a' := ?_) #[true, true, true, true, true, true, true, true, true, true, true, true, true, true, true, true, false, false, false, false, false, false, false, false] rfl rfl (any_of HT_.out (by kernel_rfl)) (fun _ _ _ h => h) (Or.inl ⟨by rfl, ?_⟩) ?_ ?_
                  rotate_left
                  · intro w'
                    go_simp
                    with_reducible rfl
                  rotate_left
                  · simp only [Act.put, List.setIfInBounds_toArray, List.set_cons_zero, List.set_cons_succ, i64_w, i32_w]
                    rfl
                  refine pure_ (i := 16) (N := some 53) (v := ?_) (a' := ?_) #[true, true, true, true, true, true, true, true, true, true, true, true, true, true, true, true, true, false, false, false, false, false, false, false] rfl rfl (any_of HT_.out (by kernel_rfl)) (fun _ _ _ h => h) (Or.inl ⟨by rfl, ?_⟩) ?_ ?_
                  rotate_left
                  · intro w'
                    go_simp
                    with_reducible rfl
                  rotate_left
                  · simp only [Act.put, List.setIfInBounds_toArray, List.set_cons_zero, List.set_cons_succ, i64_w, i32_w]
                    rfl
                  refine pure_ (i := 17) (N := some 54) (v := ?_) (a' := ?_) #[true, true, true, true, true, true, true, true, true, true, true, true, true, true, true, true, true, true, false, false, false, false, false, false] rfl rfl (any_of HT_.out (by kernel_rfl)) (fun _ _ _ h => h) (Or.inl ⟨by rfl, ?_⟩) ?_ ?_
                  rotate_left
                  · intro w'
                    go_simp
                    with_reducible rfl
                  rotate_left
                  · simp only [Act.put, List.setIfInBounds_toArray, List.set_cons_zero, List.set_cons_succ, i64_w, i32_w]
                    rfl
                  refine take_ (i := 18) (N := some 55) (v := ?_) (a' := ?_) #[true, true, true, true, true, true, true, true, true, true, true, true, true, true, true, true, true, true, true, false, false, false, false, false] rfl rfl (take_ofW HT_.out HW_.out (by kernel_rfl)) (fun _ _ _ h => h) (Or.inl ⟨by rfl, ?_⟩) hHeld ?_ ?_
                  rotate_left
                  · rintro w' ⟨s0, s1, s2, s3, s4, s5, s6, s7, s8, s9, s10, s11, s12, s13, s14, s15, s16, s17, s18, s19, s20⟩
                    go_simp
                    with_reducible rfl
                  rotate_left
                  · simp only [Act.put, List.setIfInBounds_toArray, List.set_cons_zero, List.set_cons_succ, i64_w, i32_w]
                    rfl
                  refine take_ (i := 19) (N := some 56) (v := ?_) (a' := ?_) #[true, true, true, true, true, true, true, true, true, true, true, true, true, true, true, true, true, true, true, true, false, false, false, false] rfl rfl (take_ofW HT_.out HW_.out (by kernel_rfl)) (fun _ _ _ h => h) (Or.inl ⟨by rfl, ?_⟩) hHeld ?_ ?_
                  rotate_left
                  · rintro w' ⟨s0, s1, s2, s3, s4, s5, s6, s7, s8, s9, s10, s11, s12, s13, s14, s15, s16, s17, s18, s19, s20⟩
                    go_simp
                    with_reducible rfl
                  rotate_left
                  · simp only [Act.put, List.setIfInBounds_toArray, List.set_cons_zero, List.set_cons_succ, i64_w, i32_w]
                    rfl
                  refine one_ (i := 20) (N := some 57) #[true, true, true, true, true, true, true, true, true, true, true, true, true, true, true, true, true, true, true, true, true, false, false, false] rfl rfl (one_of HT_.out (by kernel_rfl)) (by decide) (fun K hK => ?_)
                  refine goes_ Try.func13 (by kernel_rfl) rfl #[.agg #[.bool true, .int .u32 ((rd_T27 y510 x12_1).f1), .int .u8 ((rd_T27 y510 x12_1).f2), .int .u8 ((rd_T27 y510 x12_1).f3), .int .u8 ((rd_T27 y510 x12_1).f4.f0), .int .u16 ((rd_T27 y510 x12_1).f4.f1), .int .u16 ((rd_T27 y510 x12_1).f4.f2)], .agg #[.bool true, .int .u32 a0_1, .int .u8 a0_2, .int .u8 a0_3, .int .u8 a0_4, .int .u16 a0_5, .int .u16 a0_6]] (by rfl) rfl rfl (by (try simp only [List.map_toArray, List.map_cons, List.map_nil]); first | done | rfl | (simp only [List.length_drop, List.length_take]; rfl)) ?_
                  with_reducible refine (capa_Subset.calls true ((rd_T27 y510 x12_1).f1) ((rd_T27 y510 x12_1).f2) ((rd_T27 y510 x12_1).f3) ((rd_T27 y510 x12_1).f4.f0) ((rd_T27 y510 x12_1).f4.f1) ((rd_T27 y510 x12_1).f4.f2) true a0_1 a0_2 a0_3 a0_4 a0_5 a0_6 true _ A28.out).mono ?_
                  rintro e w32 ⟨rfl, hb⟩
                  have HS7_ := (hb.cell (World.block_lt_of_cell? _ _ (hHeld.2.2.2.2.2.2.2.1))).trans (hHeld.2.2.2.2.2.2.2.1)
                  have HS8_ := (hb.cell (World.block_lt_of_cell? _ _ (hHeld.2.2.2.2.2.2.2.2.1))).trans (hHeld.2.2.2.2.2.2.2.2.1)
                  have HS9_ := (hb.cell (World.block_lt_of_cell? _ _ (hHeld.2.2.2.2.2.2.2.2.2.1))).trans (hHeld.2.2.2.2.2.2.2.2.2.1)
                  have HS10_ := (hb.cell (World.block_lt_of_cell? _ _ (hHeld.2.2.2.2.2.2.2.2.2.2.1))).trans (hHeld.2.2.2.2.2.2.2.2.2.2.1)
                  have HS11_ := (hb.cell (World.block_lt_of_cell? _ _ (hHeld.2.2.2.2.2.2.2.2.2.2.2.1))).trans (hHeld.2.2.2.2.2.2.2.2.2.2.2.1)
                  have HS12_ := (hb.cell (World.block_lt_of_cell? _ _ (hHeld.2.2.2.2.2.2.2.2.2.2.2.2.1))).trans (hHeld.2.2.2.2.2.2.2.2.2.2.2.2.1)
                  have HS13_ := (hb.cell (World.block_lt_of_cell? _ _ (hHeld.2.2.2.2.2.2.2.2.2.2.2.2.2.1))).trans (hHeld.2.2.2.2.2.2.2.2.2.2.2.2.2.1)
                  have HS14_ := (hb.cell (World.block_lt_of_cell? _ _ (hHeld.2.2.2.2.2.2.2.2.2.2.2.2.2.2.1))).trans (hHeld.2.2.2.2.2.2.2.2.2.2.2.2.2.2.1)
                  have HS15_ := (hb.cell (World.block_lt_of_cell? _ _ (hHeld.2.2.2.2.2.2.2.2.2.2.2.2.2.2.2.1))).trans (hHeld.2.2.2.2.2.2.2.2.2.2.2.2.2.2.2.1)
                  have HS16_ := (hb.cell (World.block_lt_of_cell? _ _ (hHeld.2.2.2.2.2.2.2.2.2.2.2.2.2.2.2.2.1))).trans (hHeld.2.2.2.2.2.2.2.2.2.2.2.2.2.2.2.2.1)
                  have HS17_ := (hb.cell (World.block_lt_of_cell? _ _ (hHeld.2.2.2.2.2.2.2.2.2.2.2.2.2.2.2.2.2.1))).trans (hHeld.2.2.2.2.2.2.2.2.2.2.2.2.2.2.2.2.2.1)
                  have HS18_ := (hb.cell (World.block_lt_of_cell? _ _ (hHeld.2.2.2.2.2.2.2.2.2.2.2.2.2.2.2.2.2.2.1))).trans (hHeld.2.2.2.2.2.2.2.2.2.2.2.2.2.2.2.2.2.2.1)
                  have HS19_ := (hb.cell (World.block_lt_of_cell? _ _ (hHeld.2.2.2.2.2.2.2.2.2.2.2.2.2.2.2.2.2.2.2.1))).trans (hHeld.2.2.2.2.2.2.2.2.2.2.2.2.2.2.2.2.2.2.2.1)
                  have HS20_ := (hb.cell (World.block_lt_of_cell? _ _ (hHeld.2.2.2.2.2.2.2.2.2.2.2.2.2.2.2.2.2.2.2.2))).trans (hHeld.2.2.2.2.2.2.2.2.2.2.2.2.2.2.2.2.2.2.2.2)
                  refine ⟨_, rfl, ?_⟩
                  have n0_ := Aside0.mk (Kd.R_below (by (with_reducible repeat (first | apply Kd.R_alloc | apply Kd.R_drewN | apply Kd.R_drew)); exact HO_11.out) hb)
                  have n1_ := Aside0.mk (blk_below (g := gb467) (o := .cells #[.bool true, .int .u32 a0_1, .int .u8 a0_2, .int .u8 a0_3, .int .u8 a0_4, .int .u16 a0_5, .int .u16 a0_6] 27 (0, 0)) (by (with_reducible repeat (first | refine blk_drewN ?_ _ | refine blk_drew ?_ | refine blk_alloc ?_ _)); exact BK467.out) hb)
                  have n2_ := Aside0.mk (below_step (by repeat (first | (with_reducible first | exact HB.out | apply below_alloc | apply pw_below_drewN | apply below_drew1 | refine below_set ?_ GE467.out) | exact HB.out)) hb)
                  clear HO_11
                  clear BK467
                  clear HB
                  have HO_11 := n0_
                  have BK467 := n1_
                  have HB := n2_
                  clear n0_ n1_ n2_
                  (try clear hb)
                  (try clear hb2)
                  (try clear hk)
                  (try clear hi)
                  refine hK.out _ _ ⟨(blk_cell BK467.out 0).trans rfl, (blk_cell BK467.out 1).trans rfl, (blk_cell BK467.out 2).trans rfl, (blk_cell BK467.out 3).trans rfl, (blk_cell BK467.out 4).trans rfl, (blk_cell BK467.out 5).trans rfl, (blk_cell BK467.out 6).trans rfl, HS7_, HS8_, HS9_, HS10_, HS11_, HS12_, HS13_, HS14_, HS15_, HS16_, HS17_, HS18_, HS19_, HS20_⟩ (fun hHeld => ?_)
                  clear hK K
                  refine norm_ (a' := ?_) ?_ ?_
                  rotate_left
                  · show Act.put _ (some 57) _ = _
                    simp only [Act.put, List.setIfInBounds_toArray, List.set_cons_zero, List.set_cons_succ, i64_w, i32_w]
                    rfl
                  refine pure_ (i := 21) (N := some 58) (v := ?_) (a' := ?_) #[true, true, true, true, true, true, true, true, true, true, true, true, true, true, true, true, true, true, true, true, true, true, false, false] rfl rfl (any_of HT_.out (by kernel_rfl)) (fun _ _ _ h => h) (Or.inl ⟨by rfl, ?_⟩) ?_ ?_
                  rotate_left
                  · intro w'
                    go_simp
                    with_reducible rfl
                  rotate_left
                  · simp only [Act.put, List.setIfInBounds_toArray, List.set_cons_zero, List.set_cons_succ, i64_w, i32_w]
                    rfl
                  refine pure_ (i := 22) (N := some 59) (v := ?_) (a' := ?_) #[true, true, true, true, true, true, true, true, true, true, true, true, true, true, true, true, true, true, true, true, true, true, true, false] rfl rfl (any_of HT_.out (by kernel_rfl)) (fun _ _ _ h => h) (Or.inl ⟨by rfl, ?_⟩) ?_ ?_
                  rotate_left
                  · intro w'
                    go_simp
                    with_reducible rfl
                  rotate_left
                  · simp only [Act.put, List.setIfInBounds_toArray, List.set_cons_zero, List.set_cons_succ, i64_w, i32_w]
                    rfl
                  refine pure_ (i := 23) (N := some 60) (v := ?_) (a' := ?_) #[true, true, true, true, true, true, true, true, true, true, true, true, true, true, true, true, true, true, true, true, true, true, true, true] rfl rfl (any_of HT_.out (by kernel_rfl)) (fun _ _ _ h => h) (Or.inl ⟨by rfl, ?_⟩) ?_ ?_
                  rotate_left
                  · intro w'
                    go_simp
                    with_reducible rfl
                  rotate_left
                  · simp only [Act.put, List.setIfInBounds_toArray, List.set_cons_zero, List.set_cons_succ, i64_w, i32_w]
                    rfl
                  refine done_ (done_of HT_.out (by kernel_rfl)) ?_
                  try go_wp2
                  go_roundg k1
                  case measure => have := HK1.out; omega
                  case rel => exact ⟨(wrap64 (x12_1 + 1)), (by first | rfl | (simp; done) | (simp [*]; done)), H', ⟨by have := HK1.out; omega⟩, ⟨by (with_reducible repeat (first | apply Kd.R_alloc | apply Kd.R_drewN | apply Kd.R_drew)); exact HO_11.out⟩, ⟨by (with_reducible repeat (first | refine blk_drewN ?_ _ | refine blk_drew ?_ | refine blk_alloc ?_ _)); exact BK467.out⟩, ⟨by repeat (first | (with_reducible first | exact HB.out | apply below_alloc | apply pw_below_drewN | apply below_drew1 | refine below_set ?_ GE467.out) | exact HB.out)⟩⟩
                · replace c29 := Bool.eq_false_iff.mpr c29
                  subst c29
                  have H1 : (some false) = some r := by rw [if_neg (show ¬ (false = true) by decide)] at H; exact H
                  exact absurd ((Option.some.inj H1).trans hr'.out) (by decide)
              · rw [if_neg c27] at H
                exact absurd ((Option.some.inj H).trans hr'.out) (by decide)
            · replace c26 := Bool.eq_false_iff.mpr c26
              subst c26
              have H1 : (some false) = some r := by rw [if_neg (show ¬ (false = true) by decide)] at H; exact H
              exact absurd ((Option.some.inj H1).trans hr'.out) (by decide)
          · replace c25 := Bool.eq_false_iff.mpr c25
            subst c25
            have H1 : (bulwarklaw03_CapaLess.l0 k1 y510 (wrap64 (x12_1 + 1)) a0_0 a0_1 a0_2 a0_3 a0_4 a0_5 a0_6) = some r := by rw [if_neg (show ¬ (false = true) by decide)] at H; exact H
            clear H
            have H := H1
            clear H1
            have H' := Aside0.mk H
            clear H
            obtain ⟨Ao40, co40, eo40⟩ := Kd.R_slice HO_11.out
            subst eo40
            try go_wp2
            have n0_ := Aside0.mk (Kd.R_drew HO_11.out)
            have n1_ := Aside0.mk (blk_drew BK467.out)
            have n2_ := Aside0.mk (below_drew1 HB.out)
            clear HO_11
            clear BK467
            clear HB
            have HO_11 := n0_
            have BK467 := n1_
            have HB := n2_
            clear n0_ n1_ n2_
            have p513 : 0 ≤ (x12_1 : Int) := of_decide_eq_true (by first | (with_reducible assumption) | assumption)
            have q513 : x12_1 < (y510.length : Int) := of_decide_eq_true (by first | (with_reducible assumption) | assumption)
            obtain ⟨ad513, e513, hx513_0, hx513_1, hx513_2, hx513_3, hx513_4, hx513_5, hx513_6⟩ := at_T27 (Kd.R_reads' HO_11.out).2.2 x12_1 p513 q513
            (try rw [← Nbq24.out] at hx513_0)
            cases e513
            replace p513 := eq_true p513
            replace q513 := eq_true q513
            refine start_ (n := 24) (S := fun w' => w'.cell? (ad513.add ((x12_1).toNat * 7)) = some (.bool false) ∧ w'.cell? ⟨(ad513.add ((x12_1).toNat * 7)).block, (ad513.add ((x12_1).toNat * 7)).off + 1, none⟩ = some (.int .u32 ((rd_T27 y510 x12_1).f1)) ∧ w'.cell? ⟨(ad513.add ((x12_1).toNat * 7)).block, (ad513.add ((x12_1).toNat * 7)).off + 2, none⟩ = some (.int .u8 ((rd_T27 y510 x12_1).f2)) ∧ w'.cell? ⟨(ad513.add ((x12_1).toNat * 7)).block, (ad513.add ((x12_1).toNat * 7)).off + 3, none⟩ = some (.int .u8 ((rd_T27 y510 x12_1).f3)) ∧ w'.cell? ⟨(ad513.add ((x12_1).toNat * 7)).block, (ad513.add ((x12_1).toNat * 7)).off + 4, none⟩ = some (.int .u8 ((rd_T27 y510 x12_1).f4.f0)) ∧ w'.cell? ⟨(ad513.add ((x12_1).toNat * 7)).block, (ad513.add ((x12_1).toNat * 7)).off + 5, none⟩ = some (.int .u16 ((rd_T27 y510 x12_1).f4.f1)) ∧ w'.cell? ⟨(ad513.add ((x12_1).toNat * 7)).block, (ad513.add ((x12_1).toNat * 7)).off + 6, none⟩ = some (.int .u16 ((rd_T27 y510 x12_1).f4.f2))) (ds := []) #[false, false, false, false, false, false, false, false, false, false, false, false, false, false, false, false, false, false, false, false, false, false, false, false] (by kernel_rfl) rfl rfl ⟨hx513_0, hx513_1, hx513_2, hx513_3, hx513_4, hx513_5, hx513_6⟩ (fun hHeld => ?_); refine with_tabW bulwarklaw03_CapaLess.tab5 bulwarklaw03_CapaLess.bits5 (fun HT_ HW_ => ?_)
            generalize wr.drew = w41 at HO_11 BK467 HB hx513_0 hx513_1 hx513_2 hx513_3 hx513_4 hx513_5 hx513_6 hHeld ⊢
            refine pure_ (i := 0) (N := some 37) (v := ?_) (a' := ?_) #[true, false, false, false, false, false, false, false, false, false, false, false, false, false, false, false, false, false, false, false, false, false, false, false] rfl rfl (any_of HT_.out (by kernel_rfl)) (fun _ _ _ h => h) (Or.inl ⟨by rfl, ?_⟩) ?_ ?_
            rotate_left
            · intro w'
              go_simp
              with_reducible rfl
            rotate_left
            · simp only [Act.put, List.setIfInBounds_toArray, List.set_cons_zero, List.set_cons_succ, i64_w, i32_w]
              rfl
            refine pure_ (i := 1) (N := some 38) (v := ?_) (a' := ?_) #[true, true, false, false, false, false, false, false, false, false, false, false, false, false, false, false, false, false, false, false, false, false, false, false] rfl rfl (any_of HT_.out (by kernel_rfl)) (fun _ _ _ h => h) (Or.inl ⟨by rfl, ?_⟩) ?_ ?_
            rotate_left
            · intro w'
              go_simp
              with_reducible rfl
            rotate_left
            · simp only [Act.put, List.setIfInBounds_toArray, List.set_cons_zero, List.set_cons_succ, i64_w, i32_w]
              rfl
            refine pure_ (i := 2) (N := some 39) (v := ?_) (a' := ?_) #[true, true, true, false, false, false, false, false, false, false, false, false, false, false, false, false, false, false, false, false, false, false, false, false] rfl rfl (any_of HT_.out (by kernel_rfl)) (fun _ _ _ h => h) (Or.inl ⟨by rfl, ?_⟩) ?_ ?_
            rotate_left
            · intro w'
              go_simp
              with_reducible rfl
            rotate_left
            · simp only [Act.put, List.setIfInBounds_toArray, List.set_cons_zero, List.set_cons_succ, i64_w, i32_w]
              rfl
            refine pure_ (i := 3) (N := some 40) (v := ?_) (a' := ?_) #[true, true, true, true, false, false, false, false, false, false, false, false, false, false, false, false, false, false, false, false, false, false, false, false] rfl rfl (any_of HT_.out (by kernel_rfl)) (fun _ _ _ h => h) (Or.inl ⟨by rfl, ?_⟩) ?_ ?_
            rotate_left
            · intro w'
              go_simp
              with_reducible rfl
            rotate_left
            · simp only [Act.put, List.setIfInBounds_toArray, List.set_cons_zero, List.set_cons_succ, i64_w, i32_w]
              rfl
            refine take_ (i := 4) (N := some 41) (v := ?_) (a' := ?_) #[true, true, true, true, true, false, false, false, false, false, false, false, false, false, false, false, false, false, false, false, false, false, false, false] rfl rfl (take_ofW HT_.out HW_.out (by kernel_rfl)) (fun _ _ _ h => h) (Or.inl ⟨by rfl, ?_⟩) hHeld ?_ ?_
            rotate_left
            · rintro w' ⟨s0, s1, s2, s3, s4, s5, s6⟩
              go_simp
              with_reducible rfl
            rotate_left
            · simp only [Act.put, List.setIfInBounds_toArray, List.set_cons_zero, List.set_cons_succ, i64_w, i32_w]
              rfl
            refine pure_ (i := 5) (N := some 42) (v := ?_) (a' := ?_) #[true, true, true, true, true, true, false, false, false, false, false, false, false, false, false, false, false, false, false, false, false, false, false, false] rfl rfl (any_of HT_.out (by kernel_rfl)) (fun _ _ _ h => h) (Or.inl ⟨by rfl, ?_⟩) ?_ ?_
            rotate_left
            · intro w'
              go_simp
              with_reducible rfl
            rotate_left
            · simp only [Act.put, List.setIfInBounds_toArray, List.set_cons_zero, List.set_cons_succ, i64_w, i32_w]
              rfl
            refine pure_ (i := 6) (N := some 43) (v := undef) (a' := ?_) #[true, true, true, true, true, true, true, false, false, false, false, false, false, false, false, false, false, false, false, false, false, false, false, false] rfl rfl (any_of HT_.out (by kernel_rfl)) (fun _ _ _ h => h) (Or.inr ⟨by rfl, rfl⟩) ?_ ?_
            rotate_left
            · simp only [Act.put, List.setIfInBounds_toArray, List.set_cons_zero, List.set_cons_succ, i64_w, i32_w]
              rfl
            refine pure_ (i := 7) (N := some 44) (v := undef) (a' := ?_) #[true, true, true, true, true, true, true, true, false, false, false, false, false, false, false, false, false, false, false, false, false, false, false, false] rfl rfl (any_of HT_.out (by kernel_rfl)) (fun _ _ _ h => h) (Or.inr ⟨by rfl, rfl⟩) ?_ ?_
            rotate_left
            · simp only [Act.put, List.setIfInBounds_toArray, List.set_cons_zero, List.set_cons_succ, i64_w, i32_w]
              rfl
            refine pure_ (i := 8) (N := some 45) (v := undef) (a' := ?_) #[true, true, true, true, true, true, true, true, true, false, false, false, false, false, false, false, false, false, false, false, false, false, false, false] rfl rfl (any_of HT_.out (by kernel_rfl)) (fun _ _ _ h => h) (Or.inr ⟨by rfl, rfl⟩) ?_ ?_
            rotate_left
            · simp only [Act.put, List.setIfInBounds_toArray, List.set_cons_zero, List.set_cons_succ, i64_w, i32_w]
              rfl
            refine pure_ (i := 9) (N := some 46) (v := undef) (a' := ?_) #[true, true, true, true, true, true, true, true, true, true, false, false, false, false, false, false, false, false, false, false, false, false, false, false] rfl rfl (any_of HT_.out (by kernel_rfl)) (fun _ _ _ h => h) (Or.inr ⟨by rfl, rfl⟩) ?_ ?_
            rotate_left
            · simp only [Act.put, List.setIfInBounds_toArray, List.set_cons_zero, List.set_cons_succ, i64_w, i32_w]
              rfl
            refine pure_ (i := 10) (N := some 47) (v := undef) (a' := ?_) #[true, true, true, true, true, true, true, true, true, true, true, false, false, false, false, false, false, false, false, false, false, false, false, false] rfl rfl (any_of HT_.out (by kernel_rfl)) (fun _ _ _ h => h) (Or.inr ⟨by rfl, rfl⟩) ?_ ?_
            rotate_left
            · simp only [Act.put, List.setIfInBounds_toArray, List.set_cons_zero, List.set_cons_succ, i64_w, i32_w]
              rfl
            refine pure_ (i := 11) (N := some 48) (v := undef) (a' := ?_) #[true, true, true, true, true, true, true, true, true, true, true, true, false, false, false, false, false, false, false, false, false, false, false, false] rfl rfl (any_of HT_.out (by kernel_rfl)) (fun _ _ _ h => h) (Or.inr ⟨by rfl, rfl⟩) ?_ ?_
            rotate_left
            · simp only [Act.put, List.setIfInBounds_toArray, List.set_cons_zero, List.set_cons_succ, i64_w, i32_w]
              rfl
            refine pure_ (i := 12) (N := some 49) (v := undef) (a' := ?_) #[true, true, true, true, true, true, true, true, true, true, true, true, true, false, false, false, false, false, false, false, false, false, false, false] rfl rfl (any_of HT_.out (by kernel_rfl)) (fun _ _ _ h => h) (Or.inr ⟨by rfl, rfl⟩) ?_ ?_
            rotate_left
            · simp only [Act.put, List.setIfInBounds_toArray, List.set_cons_zero, List.set_cons_succ, i64_w, i32_w]
              rfl
            refine pure_ (i := 13) (N := some 50) (v := undef) (a' := ?_) #[true, true, true, true, true, true, true, true, true, true, true, true, true, true, false, false, false, false, false, false, false, false, false, false] rfl rfl (any_of HT_.out (by kernel_rfl)) (fun _ _ _ h => h) (Or.inr ⟨by rfl, rfl⟩) ?_ ?_
            rotate_left
            · simp only [Act.put, List.setIfInBounds_toArray, List.set_cons_zero, List.set_cons_succ, i64_w, i32_w]
              rfl
            refine pure_ (i := 14) (N := some 51) (v := undef) (a' := ?_) #[true, true, true, true, true, true, true, true, true, true, true, true, true, true, true, false, false, false, false, false, false, false, false, false] rfl rfl (any_of HT_.out (by kernel_rfl)) (fun _ _ _ h => h) (Or.inr ⟨by rfl, rfl⟩) ?_ ?_
            rotate_left
            · simp only [Act.put, List.setIfInBounds_toArray, List.set_cons_zero, List.set_cons_succ, i64_w, i32_w]
              rfl
            refine pure_ (i := 15) (N := some 52) (v := undef) (a' := ?_) #[true, true, true, true, true, true, true, true, true, true, true, true, true, true, true, true, false, false, false, false, false, false, false, false] rfl rfl (any_of HT_.out (by kernel_rfl)) (fun _ _ _ h => h) (Or.inr ⟨by rfl, rfl⟩) ?_ ?_
            rotate_left
            · simp only [Act.put, List.setIfInBounds_toArray, List.set_cons_zero, List.set_cons_succ, i64_w, i32_w]
              rfl
            refine pure_ (i := 16) (N := some 53) (v := undef) (a' := ?_) #[true, true, true, true, true, true, true, true, true, true, true, true, true, true, true, true, true, false, false, false, false, false, false, false] rfl rfl (any_of HT_.out (by kernel_rfl)) (fun _ _ _ h => h) (Or.inr ⟨by rfl, rfl⟩) ?_ ?_
            rotate_left
            · simp only [Act.put, List.setIfInBounds_toArray, List.set_cons_zero, List.set_cons_succ, i64_w, i32_w]
              rfl
            refine pure_ (i := 17) (N := some 54) (v := undef) (a' := ?_) #[true, true, true, true, true, true, true, true, true, true, true, true, true, true, true, true, true, true, false, false, false, false, false, false] rfl rfl (any_of HT_.out (by kernel_rfl)) (fun _ _ _ h => h) (Or.inr ⟨by rfl, rfl⟩) ?_ ?_
            rotate_left
            · simp only [Act.put, List.setIfInBounds_toArray, List.set_cons_zero, List.set_cons_succ, i64_w, i32_w]
              rfl
            refine pure_ (i := 18) (N := some 55) (v := undef) (a' := ?_) #[true, true, true, true, true, true, true, true, true, true, true, true, true, true, true, true, true, true, true, false, false, false, false, false] rfl rfl (any_of HT_.out (by kernel_rfl)) (fun _ _ _ h => h) (Or.inr ⟨by rfl, rfl⟩) ?_ ?_
            rotate_left
            · simp only [Act.put, List.setIfInBounds_toArray, List.set_cons_zero, List.set_cons_succ, i64_w, i32_w]
              rfl
            refine pure_ (i := 19) (N := some 56) (v := undef) (a' := ?_) #[true, true, true, true, true, true, true, true, true, true, true, true, true, true, true, true, true, true, true, true, false, false, false, false] rfl rfl (any_of HT_.out (by kernel_rfl)) (fun _ _ _ h => h) (Or.inr ⟨by rfl, rfl⟩) ?_ ?_
            rotate_left
            · simp only [Act.put, List.setIfInBounds_toArray, List.set_cons_zero, List.set_cons_succ, i64_w, i32_w]
              rfl
            refine pure_ (i := 20) (N := some 57) (v := undef) (a' := ?_) #[true, true, true, true, true, true, true, true, true, true, true, true, true, true, true, true, true, true, true, true, true, false, false, false] rfl rfl (any_of HT_.out (by kernel_rfl)) (fun _ _ _ h => h) (Or.inr ⟨by rfl, rfl⟩) ?_ ?_
            rotate_left
            · simp only [Act.put, List.setIfInBounds_toArray, List.set_cons_zero, List.set_cons_succ, i64_w, i32_w]
              rfl
            refine pure_ (i := 21) (N := some 58) (v := undef) (a' := ?_) #[true, true, true, true, true, true, true, true, true, true, true, true, true, true, true, true, true, true, true, true, true, true, false, false] rfl rfl (any_of HT_.out (by kernel_rfl)) (fun _ _ _ h => h) (Or.inr ⟨by rfl, rfl⟩) ?_ ?_
            rotate_left
            · simp only [Act.put, List.setIfInBounds_toArray, List.set_cons_zero, List.set_cons_succ, i64_w, i32_w]
              rfl
            refine pure_ (i := 22) (N := some 59) (v := undef) (a' := ?_) #[true, true, true, true, true, true, true, true, true, true, true, true, true, true, true, true, true, true, true, true, true, true, true, false] rfl rfl (any_of HT_.out (by kernel_rfl)) (fun _ _ _ h => h) (Or.inr ⟨by rfl, rfl⟩) ?_ ?_
            rotate_left
            · simp only [Act.put, List.setIfInBounds_toArray, List.set_cons_zero, List.set_cons_succ, i64_w, i32_w]
              rfl
            refine pure_ (i := 23) (N := some 60) (v := ?_) (a' := ?_) #[true, true, true, true, true, true, true, true, true, true, true, true, true, true, true, true, true, true, true, true, true, true, true, true] rfl rfl (any_of HT_.out (by kernel_rfl)) (fun _ _ _ h => h) (Or.inl ⟨by rfl, ?_⟩) ?_ ?_
            rotate_left
            · intro w'
              go_simp
              with_reducible rfl
            rotate_left
            · simp only [Act.put, List.setIfInBounds_toArray, List.set_cons_zero, List.set_cons_succ, i64_w, i32_w]
              rfl
            refine done_ (done_of HT_.out (by kernel_rfl)) ?_
            try go_wp2
            go_roundg k1
            case measure => have := HK1.out; omega
            case rel => exact ⟨(wrap64 (x12_1 + 1)), (by first | rfl | (simp; done) | (simp [*]; done)), H', ⟨by have := HK1.out; omega⟩, ⟨by (with_reducible repeat (first | apply Kd.R_alloc | apply Kd.R_drewN | apply Kd.R_drew)); exact HO_11.out⟩, ⟨by (with_reducible repeat (first | refine blk_drewN ?_ _ | refine blk_drew ?_ | refine blk_alloc ?_ _)); exact BK467.out⟩, ⟨by repeat (first | (with_reducible first | exact HB.out | apply below_alloc | apply pw_below_drewN | apply below_drew1 | refine below_set ?_ GE467.out) | exact HB.out)⟩⟩
        · rw [if_neg c23] at H
          exact absurd H (by simp)
      · rw [if_neg c22] at H
        have c22b0 : decide (x12_1 < (y510.length : Int)) = false := decide_eq_false c22
        clear c22
        replace H := Option.bind_eq_some_iff.mp H
        obtain ⟨⟨t516, t517, t518, t519, t520, t521, t522⟩, A420, H⟩ := H
        replace H : (if t516 = true then (if a0_0 = true then (if a0_3 = 0 then (some false) else ((bulwarklaw03_lives.f k1).bind fun t524 => (some t524))) else (some false)) else ((bulwarklaw03_lives.f k1).bind fun t525 => (some t525))) = some r := H
        have A42 := Aside0.mk A420
        clear A420
        by_cases c43 : t516 = true
        · subst c43
          have H1 : (if a0_0 = true then (if a0_3 = 0 then (some false) else ((bulwarklaw03_lives.f k1).bind fun t524 => (some t524))) else (some false)) = some r := by rw [if_pos rfl] at H; exact H
          clear H
          have H := H1
          clear H1
          by_cases c44 : a0_0 = true
          · subst c44
            have H1 : (if a0_3 = 0 then (some false) else ((bulwarklaw03_lives.f k1).bind fun t524 => (some t524))) = some r := by rw [if_pos rfl] at H; exact H
            clear H
            have H := H1
            clear H1
            by_cases c45 : a0_3 = 0
            · rw [if_pos c45] at H
              exact absurd ((Option.some.inj H).trans hr'.out) (by decide)
            · rw [if_neg c45] at H
              have c45b0 : (a0_3 == 0) = false := beq_eq_false_iff_ne.mpr c45
              have c45b1 : (a0_3 != 0) = true := bne_iff_ne.mpr c45
              replace H := Option.bind_eq_some_iff.mp H
              obtain ⟨t524, A530, H⟩ := H
              replace H : (some t524) = some r := H
              have A53 := Aside0.mk A530
              clear A530
              obtain rfl := Option.some.inj H
              obtain ⟨Ao54, co54, eo54⟩ := Kd.R_slice HO_11.out
              subst eo54
              have hcz55_0 : wr.cell? ⟨gb467, 0, none⟩ = some (.bool true) := (blk_cell BK467.out 0).trans rfl
              have hcz55_1 : wr.cell? ⟨gb467, 1, none⟩ = some (.int .u32 a0_1) := (blk_cell BK467.out 1).trans rfl
              have hcz55_2 : wr.cell? ⟨gb467, 2, none⟩ = some (.int .u8 a0_2) := (blk_cell BK467.out 2).trans rfl
              have hcz55_3 : wr.cell? ⟨gb467, 3, none⟩ = some (.int .u8 a0_3) := (blk_cell BK467.out 3).trans rfl
              have hcz55_4 : wr.cell? ⟨gb467, 4, none⟩ = some (.int .u8 a0_4) := (blk_cell BK467.out 4).trans rfl
              have hcz55_5 : wr.cell? ⟨gb467, 5, none⟩ = some (.int .u16 a0_5) := (blk_cell BK467.out 5).trans rfl
              have hcz55_6 : wr.cell? ⟨gb467, 6, none⟩ = some (.int .u16 a0_6) := (blk_cell BK467.out 6).trans rfl
              have hfz55_0 := blk_frozen BK467.out 0
              have hfz55_1 := blk_frozen BK467.out 1
              have hfz55_2 := blk_frozen BK467.out 2
              have hfz55_3 := blk_frozen BK467.out 3
              have hfz55_4 := blk_frozen BK467.out 4
              have hfz55_5 := blk_frozen BK467.out 5
              have hfz55_6 := blk_frozen BK467.out 6
              go_wp2_with (first | ((with_reducible refine gate_callee (f := 27) rfl ?_); refine goesL_ (some 62) rfl rfl Try.func27 (by kernel_rfl) rfl #[.agg #[.bool true, .int .u32 a0_1, .int .u8 a0_2, .int .u8 a0_3, .int .u8 a0_4, .int .u16 a0_5, .int .u16 a0_6]] rfl (by (try simp only [List.map_toArray, List.map_cons, List.map_nil]); first | done | rfl | (simp only [List.length_drop, List.length_take]; rfl)) ?_; (with_reducible refine (capa_Unseal.calls true a0_1 a0_2 a0_3 a0_4 a0_5 a0_6 true t517 t518 t519 t520 t521 t522 _ A42.out).mono ?_); rintro e w56 ⟨rfl, hb⟩; refine ⟨_, rfl, ?_⟩; have n0_ := Aside0.mk (Kd.R_below (by (with_reducible repeat (first | apply Kd.R_alloc | apply Kd.R_drewN | apply Kd.R_drew)); exact HO_11.out) hb); have n1_ := Aside0.mk (blk_below (g := gb467) (o := .cells #[.bool true, .int .u32 a0_1, .int .u8 a0_2, .int .u8 a0_3, .int .u8 a0_4, .int .u16 a0_5, .int .u16 a0_6] 27 (0, 0)) (by (with_reducible repeat (first | refine blk_drewN ?_ _ | refine blk_drew ?_ | refine blk_alloc ?_ _)); exact BK467.out) hb); have n2_ := Aside0.mk (below_step (by repeat (first | (with_reducible first | exact HB.out | apply below_alloc | apply pw_below_drewN | apply below_drew1 | refine below_set ?_ GE467.out) | exact HB.out)) hb); clear HO_11; clear BK467; clear HB; have HO_11 := n0_; have BK467 := n1_; have HB := n2_; clear n0_ n1_ n2_; (try clear hb); (try clear hb2); (try clear hk); (try clear hi)) | ((with_reducible refine gate_dst (N := 13) rfl ?_); refine box_event ?hg (N := 13) ?hd (cs := #[.bool false, .int .u32 0, .int .u8 0, .int .u8 0, .int .u8 0, .int .u16 0, .int .u16 0]) (t := 27) ?hr ?_; (case hd => rfl); (case hg => rfl); (case hr => first | (go_simp; done) | (go_simp; rfl)); intro gb523 hg w57 hbox hb; have n0_ := Aside0.mk (Kd.R_below (Kd.R_elderB (by (with_reducible repeat (first | apply Kd.R_alloc | apply Kd.R_drewN | apply Kd.R_drew)); exact HO_11.out) gb523 (Nat.le_of_eq hg.symm)) hb); have n1_ := Aside0.mk (blk_below (g := gb467) (o := .cells #[.bool true, .int .u32 a0_1, .int .u8 a0_2, .int .u8 a0_3, .int .u8 a0_4, .int .u16 a0_5, .int .u16 a0_6] 27 (0, 0)) (by (with_reducible repeat (first | refine blk_drewN ?_ _ | refine blk_drew ?_ | refine blk_alloc ?_ _)); exact BK467.out) hb); have n2_ := Aside0.mk (below_step (by repeat (first | (with_reducible first | exact HB.out | apply below_alloc | apply pw_below_drewN | apply below_drew1 | refine below_set ?_ GE467.out) | exact HB.out)) hb); have n3_ := Aside0.mk (hbox); have n4_ := Aside0.mk ((by rw [hg]; exact (below_size (by repeat (first | (with_reducible first | exact HB.out | apply below_alloc | apply pw_below_drewN | apply below_drew1 | refine below_set ?_ GE467.out) | exact HB.out))) : w.heap.size ≤ gb523)); have n5_ := Aside0.mk ((by rw [hg]; exact (below_size (by repeat (first | (with_reducible first | exact HB.out | apply below_alloc | apply pw_below_drewN | apply below_drew1 | refine below_set ?_ GE467.out) | exact HB.out))) : w.heap.size ≤ gb523)); have n6_ := Aside0.mk ((by rw [hg]; exact Nat.ne_of_lt (blk_lt (g := gb467) (o := .cells #[.bool true, .int .u32 a0_1, .int .u8 a0_2, .int .u8 a0_3, .int .u8 a0_4, .int .u16 a0_5, .int .u16 a0_6] 27 (0, 0)) (by (with_reducible repeat (first | refine blk_drewN ?_ _ | refine blk_drew ?_ | refine blk_alloc ?_ _)); exact BK467.out)) : gb467 ≠ gb523)); have n7_ := Aside0.mk ((by rw [hg]; exact Nat.ne_of_gt (blk_lt (g := gb467) (o := .cells #[.bool true, .int .u32 a0_1, .int .u8 a0_2, .int .u8 a0_3, .int .u8 a0_4, .int .u16 a0_5, .int .u16 a0_6] 27 (0, 0)) (by (with_reducible repeat (first | refine blk_drewN ?_ _ | refine blk_drew ?_ | refine blk_alloc ?_ _)); exact BK467.out)) : gb523 ≠ gb467)); clear HO_11; clear BK467; clear HB; have HO_11 := n0_; have BK467 := n1_; have HB := n2_; have BK523 := n3_; have GW523 := n4_; have GE523 := n5_; have NB467_523 := n6_; have NB523_467 := n7_; clear n0_ n1_ n2_ n3_ n4_ n5_ n6_ n7_; clear hb hbox hg; have hnb58 := NB523_467.out; have hnc58 := NB467_523.out; have hcz59_0 : w57.cell? ⟨gb523, 0, none⟩ = some (.bool false) := (blk_cell BK523.out 0).trans rfl; have hcz59_1 : w57.cell? ⟨gb523, 1, none⟩ = some (.int .u32 0) := (blk_cell BK523.out 1).trans rfl; have hcz59_2 : w57.cell? ⟨gb523, 2, none⟩ = some (.int .u8 0) := (blk_cell BK523.out 2).trans rfl; have hcz59_3 : w57.cell? ⟨gb523, 3, none⟩ = some (.int .u8 0) := (blk_cell BK523.out 3).trans rfl; have hcz59_4 : w57.cell? ⟨gb523, 4, none⟩ = some (.int .u8 0) := (blk_cell BK523.out 4).trans rfl; have hcz59_5 : w57.cell? ⟨gb523, 5, none⟩ = some (.int .u16 0) := (blk_cell BK523.out 5).trans rfl; have hcz59_6 : w57.cell? ⟨gb523, 6, none⟩ = some (.int .u16 0) := (blk_cell BK523.out 6).trans rfl; have hfz59_0 := blk_frozen BK523.out 0; have hfz59_1 := blk_frozen BK523.out 1; have hfz59_2 := blk_frozen BK523.out 2; have hfz59_3 := blk_frozen BK523.out 3; have hfz59_4 := blk_frozen BK523.out 4; have hfz59_5 := blk_frozen BK523.out 5; have hfz59_6 := blk_frozen BK523.out 6; have hcz60_0 : w57.cell? ⟨gb467, 0, none⟩ = some (.bool true) := (blk_cell BK467.out 0).trans rfl; have hcz60_1 : w57.cell? ⟨gb467, 1, none⟩ = some (.int .u32 a0_1) := (blk_cell BK467.out 1).trans rfl; have hcz60_2 : w57.cell? ⟨gb467, 2, none⟩ = some (.int .u8 a0_2) := (blk_cell BK467.out 2).trans rfl; have hcz60_3 : w57.cell? ⟨gb467, 3, none⟩ = some (.int .u8 a0_3) := (blk_cell BK467.out 3).trans rfl; have hcz60_4 : w57.cell? ⟨gb467, 4, none⟩ = some (.int .u8 a0_4) := (blk_cell BK467.out 4).trans rfl; have hcz60_5 : w57.cell? ⟨gb467, 5, none⟩ = some (.int .u16 a0_5) := (blk_cell BK467.out 5).trans rfl; have hcz60_6 : w57.cell? ⟨gb467, 6, none⟩ = some (.int .u16 a0_6) := (blk_cell BK467.out 6).trans rfl; have hfz60_0 := blk_frozen BK467.out 0; have hfz60_1 := blk_frozen BK467.out 1; have hfz60_2 := blk_frozen BK467.out 2; have hfz60_3 := blk_frozen BK467.out 3; have hfz60_4 := blk_frozen BK467.out 4; have hfz60_5 := blk_frozen BK467.out 5; have hfz60_6 := blk_frozen BK467.out 6) | (go_at_call 21; (with_reducible refine (bulwarklaw03_lives.calls k1  t524 _ A53.out).mono ?_); rintro e w61 ⟨rfl, hb⟩; have n0_ := Aside0.mk (Kd.R_below (by (with_reducible repeat (first | apply Kd.R_alloc | apply Kd.R_drewN | apply Kd.R_drew)); exact (Kd.R_mono (Kd.R_far (p := ⟨gb523, 6, none⟩) (Kd.R_far (p := ⟨gb523, 5, none⟩) (Kd.R_far (p := ⟨gb523, 4, none⟩) (Kd.R_far (p := ⟨gb523, 3, none⟩) (Kd.R_far (p := ⟨gb523, 2, none⟩) (Kd.R_far (p := ⟨gb523, 1, none⟩) (Kd.R_far (p := ⟨gb523, 0, none⟩) (Kd.R_mono HO_11.out (fun k_ hk => (⟨hk, hk.2⟩ : _ ∧ k_ ≠ gb523))) (fun _ hk => hk.2) (.bool true)) (fun _ hk => hk.2) (.int .u32 t517)) (fun _ hk => hk.2) (.int .u8 t518)) (fun _ hk => hk.2) (.int .u8 t519)) (fun _ hk => hk.2) (.int .u8 t520)) (fun _ hk => hk.2) (.int .u16 t521)) (fun _ hk => hk.2) (.int .u16 t522)) (fun _ h_ => h_.1))) hb); have n1_ := Aside0.mk (blk_below (g := gb467) (o := .cells #[.bool true, .int .u32 a0_1, .int .u8 a0_2, .int .u8 a0_3, .int .u8 a0_4, .int .u16 a0_5, .int .u16 a0_6] 27 (0, 0)) (by (with_reducible repeat (first | refine blk_drewN ?_ _ | refine blk_drew ?_ | refine blk_alloc ?_ _)); refine blk_far ?_ NB467_523.out _; (with_reducible repeat (first | refine blk_drewN ?_ _ | refine blk_drew ?_ | refine blk_alloc ?_ _)); refine blk_far ?_ NB467_523.out _; (with_reducible repeat (first | refine blk_drewN ?_ _ | refine blk_drew ?_ | refine blk_alloc ?_ _)); refine blk_far ?_ NB467_523.out _; (with_reducible repeat (first | refine blk_drewN ?_ _ | refine blk_drew ?_ | refine blk_alloc ?_ _)); refine blk_far ?_ NB467_523.out _; (with_reducible repeat (first | refine blk_drewN ?_ _ | refine blk_drew ?_ | refine blk_alloc ?_ _)); refine blk_far ?_ NB467_523.out _; (with_reducible repeat (first | refine blk_drewN ?_ _ | refine blk_drew ?_ | refine blk_alloc ?_ _)); refine blk_far ?_ NB467_523.out _; (with_reducible repeat (first | refine blk_drewN ?_ _ | refine blk_drew ?_ | refine blk_alloc ?_ _)); refine blk_far ?_ NB467_523.out _; (with_reducible repeat (first | refine blk_drewN ?_ _ | refine blk_drew ?_ | refine blk_alloc ?_ _)); exact BK467.out) hb); have n2_ := Aside0.mk (blk_below (g := gb523) (o := .cells #[.bool true, .int .u32 t517, .int .u8 t518, .int .u8 t519, .int .u8 t520, .int .u16 t521, .int .u16 t522] 27 (0, 0)) (by (with_reducible repeat (first | refine blk_drewN ?_ _ | refine blk_drew ?_ | refine blk_alloc ?_ _)); refine blk_put (cs := #[.bool true, .int .u32 t517, .int .u8 t518, .int .u8 t519, .int .u8 t520, .int .u16 t521, .int .u16 0]) ?_ 6 _ rfl; (with_reducible repeat (first | refine blk_drewN ?_ _ | refine blk_drew ?_ | refine blk_alloc ?_ _)); refine blk_put (cs := #[.bool true, .int .u32 t517, .int .u8 t518, .int .u8 t519, .int .u8 t520, .int .u16 0, .int .u16 0]) ?_ 5 _ rfl; (with_reducible repeat (first | refine blk_drewN ?_ _ | refine blk_drew ?_ | refine blk_alloc ?_ _)); refine blk_put (cs := #[.bool true, .int .u32 t517, .int .u8 t518, .int .u8 t519, .int .u8 0, .int .u16 0, .int .u16 0]) ?_ 4 _ rfl; (with_reducible repeat (first | refine blk_drewN ?_ _ | refine blk_drew ?_ | refine blk_alloc ?_ _)); refine blk_put (cs := #[.bool true, .int .u32 t517, .int .u8 t518, .int .u8 0, .int .u8 0, .int .u16 0, .int .u16 0]) ?_ 3 _ rfl; (with_reducible repeat (first | refine blk_drewN ?_ _ | refine blk_drew ?_ | refine blk_alloc ?_ _)); refine blk_put (cs := #[.bool true, .int .u32 t517, .int .u8 0, .int .u8 0, .int .u8 0, .int .u16 0, .int .u16 0]) ?_ 2 _ rfl; (with_reducible repeat (first | refine blk_drewN ?_ _ | refine blk_drew ?_ | refine blk_alloc ?_ _)); refine blk_put (cs := #[.bool true, .int .u32 0, .int .u8 0, .int .u8 0, .int .u8 0, .int .u16 0, .int .u16 0]) ?_ 1 _ rfl; (with_reducible repeat (first | refine blk_drewN ?_ _ | refine blk_drew ?_ | refine blk_alloc ?_ _)); refine blk_put (cs := #[.bool false, .int .u32 0, .int .u8 0, .int .u8 0, .int .u8 0, .int .u16 0, .int .u16 0]) ?_ 0 _ rfl; (with_reducible repeat (first | refine blk_drewN ?_ _ | refine blk_drew ?_ | refine blk_alloc ?_ _)); exact BK523.out) hb); have n3_ := Aside0.mk (below_step (by repeat (first | (with_reducible first | exact HB.out | apply below_alloc | apply pw_below_drewN | apply below_drew1 | refine below_set ?_ GE467.out | refine below_set ?_ GE523.out) | exact HB.out)) hb); clear HO_11; clear BK467; clear BK523; clear HB; have HO_11 := n0_; have BK467 := n1_; have BK523 := n2_; have HB := n3_; clear n0_ n1_ n2_ n3_; (try clear hb); (try clear hb2); (try clear hk); (try clear hi)))
              go_ret
              exact ⟨by first | rfl | (simp [errW_none, errW_some] <;> rfl) | (simp [*, errW_none, errW_some] <;> rfl), by repeat (first | (with_reducible first | exact HB.out | apply below_alloc | apply pw_below_drewN | apply below_drew1 | refine below_set ?_ GE467.out | refine below_set ?_ GE523.out) | exact HB.out)⟩
          · replace c44 := Bool.eq_false_iff.mpr c44
            subst c44
            have H1 : (some false) = some r := by rw [if_neg (show ¬ (false = true) by decide)] at H; exact H
            exact absurd ((Option.some.inj H1).trans hr'.out) (by decide)
        · replace c43 := Bool.eq_false_iff.mpr c43
          subst c43
          have H1 : ((bulwarklaw03_lives.f k1).bind fun t525 => (some t525)) = some r := by rw [if_neg (show ¬ (false = true) by decide)] at H; exact H
          clear H
          have H := H1
          clear H1
          replace H := Option.bind_eq_some_iff.mp H
          obtain ⟨t525, A690, H⟩ := H
          replace H : (some t525) = some r := H
          have A69 := Aside0.mk A690
          clear A690
          obtain rfl := Option.some.inj H
          obtain ⟨Ao70, co70, eo70⟩ := Kd.R_slice HO_11.out
          subst eo70
          have hcz71_0 : wr.cell? ⟨gb467, 0, none⟩ = some (.bool a0_0) := (blk_cell BK467.out 0).trans rfl
          have hcz71_1 : wr.cell? ⟨gb467, 1, none⟩ = some (.int .u32 a0_1) := (blk_cell BK467.out 1).trans rfl
          have hcz71_2 : wr.cell? ⟨gb467, 2, none⟩ = some (.int .u8 a0_2) := (blk_cell BK467.out 2).trans rfl
          have hcz71_3 : wr.cell? ⟨gb467, 3, none⟩ = some (.int .u8 a0_3) := (blk_cell BK467.out 3).trans rfl
          have hcz71_4 : wr.cell? ⟨gb467, 4, none⟩ = some (.int .u8 a0_4) := (blk_cell BK467.out 4).trans rfl
          have hcz71_5 : wr.cell? ⟨gb467, 5, none⟩ = some (.int .u16 a0_5) := (blk_cell BK467.out 5).trans rfl
          have hcz71_6 : wr.cell? ⟨gb467, 6, none⟩ = some (.int .u16 a0_6) := (blk_cell BK467.out 6).trans rfl
          have hfz71_0 := blk_frozen BK467.out 0
          have hfz71_1 := blk_frozen BK467.out 1
          have hfz71_2 := blk_frozen BK467.out 2
          have hfz71_3 := blk_frozen BK467.out 3
          have hfz71_4 := blk_frozen BK467.out 4
          have hfz71_5 := blk_frozen BK467.out 5
          have hfz71_6 := blk_frozen BK467.out 6
          go_wp2_with (first | ((with_reducible refine gate_callee (f := 27) rfl ?_); refine goesL_ (some 62) rfl rfl Try.func27 (by kernel_rfl) rfl #[.agg #[.bool a0_0, .int .u32 a0_1, .int .u8 a0_2, .int .u8 a0_3, .int .u8 a0_4, .int .u16 a0_5, .int .u16 a0_6]] rfl (by (try simp only [List.map_toArray, List.map_cons, List.map_nil]); first | done | rfl | (simp only [List.length_drop, List.length_take]; rfl)) ?_; (with_reducible refine (capa_Unseal.calls a0_0 a0_1 a0_2 a0_3 a0_4 a0_5 a0_6 false t517 t518 t519 t520 t521 t522 _ A42.out).mono ?_); rintro e w72 ⟨rfl, hb⟩; refine ⟨_, rfl, ?_⟩; have n0_ := Aside0.mk (Kd.R_below (by (with_reducible repeat (first | apply Kd.R_alloc | apply Kd.R_drewN | apply Kd.R_drew)); exact HO_11.out) hb); have n1_ := Aside0.mk (blk_below (g := gb467) (o := .cells #[.bool a0_0, .int .u32 a0_1, .int .u8 a0_2, .int .u8 a0_3, .int .u8 a0_4, .int .u16 a0_5, .int .u16 a0_6] 27 (0, 0)) (by (with_reducible repeat (first | refine blk_drewN ?_ _ | refine blk_drew ?_ | refine blk_alloc ?_ _)); exact BK467.out) hb); have n2_ := Aside0.mk (below_step (by repeat (first | (with_reducible first | exact HB.out | apply below_alloc | apply pw_below_drewN | apply below_drew1 | refine below_set ?_ GE467.out) | exact HB.out)) hb); clear HO_11; clear BK467; clear HB; have HO_11 := n0_; have BK467 := n1_; have HB := n2_; clear n0_ n1_ n2_; (try clear hb); (try clear hb2); (try clear hk); (try clear hi)) | ((with_reducible refine gate_dst (N := 13) rfl ?_); refine box_event ?hg (N := 13) ?hd (cs := #[.bool false, .int .u32 0, .int .u8 0, .int .u8 0, .int .u8 0, .int .u16 0, .int .u16 0]) (t := 27) ?hr ?_; (case hd => rfl); (case hg => rfl); (case hr => first | (go_simp; done) | (go_simp; rfl)); intro gb523 hg w73 hbox hb; have n0_ := Aside0.mk (Kd.R_below (Kd.R_elderB (by (with_reducible repeat (first | apply Kd.R_alloc | apply Kd.R_drewN | apply Kd.R_drew)); exact HO_11.out) gb523 (Nat.le_of_eq hg.symm)) hb); have n1_ := Aside0.mk (blk_below (g := gb467) (o := .cells #[.bool a0_0, .int .u32 a0_1, .int .u8 a0_2, .int .u8 a0_3, .int .u8 a0_4, .int .u16 a0_5, .int .u16 a0_6] 27 (0, 0)) (by (with_reducible repeat (first | refine blk_drewN ?_ _ | refine blk_drew ?_ | refine blk_alloc ?_ _)); exact BK467.out) hb); have n2_ := Aside0.mk (below_step (by repeat (first | (with_reducible first | exact HB.out | apply below_alloc | apply pw_below_drewN | apply below_drew1 | refine below_set ?_ GE467.out) | exact HB.out)) hb); have n3_ := Aside0.mk (hbox); have n4_ := Aside0.mk ((by rw [hg]; exact (below_size (by repeat (first | (with_reducible first | exact HB.out | apply below_alloc | apply pw_below_drewN | apply below_drew1 | refine below_set ?_ GE467.out) | exact HB.out))) : w.heap.size ≤ gb523)); have n5_ := Aside0.mk ((by rw [hg]; exact (below_size (by repeat (first | (with_reducible first | exact HB.out | apply below_alloc | apply pw_below_drewN | apply below_drew1 | refine below_set ?_ GE467.out) | exact HB.out))) : w.heap.size ≤ gb523)); have n6_ := Aside0.mk ((by rw [hg]; exact Nat.ne_of_lt (blk_lt (g := gb467) (o := .cells #[.bool a0_0, .int .u32 a0_1, .int .u8 a0_2, .int .u8 a0_3, .int .u8 a0_4, .int .u16 a0_5, .int .u16 a0_6] 27 (0, 0)) (by (with_reducible repeat (first | refine blk_drewN ?_ _ | refine blk_drew ?_ | refine blk_alloc ?_ _)); exact BK467.out)) : gb467 ≠ gb523)); have n7_ := Aside0.mk ((by rw [hg]; exact Nat.ne_of_gt (blk_lt (g := gb467) (o := .cells #[.bool a0_0, .int .u32 a0_1, .int .u8 a0_2, .int .u8 a0_3, .int .u8 a0_4, .int .u16 a0_5, .int .u16 a0_6] 27 (0, 0)) (by (with_reducible repeat (first | refine blk_drewN ?_ _ | refine blk_drew ?_ | refine blk_alloc ?_ _)); exact BK467.out)) : gb523 ≠ gb467)); clear HO_11; clear BK467; clear HB; have HO_11 := n0_; have BK467 := n1_; have HB := n2_; have BK523 := n3_; have GW523 := n4_; have GE523 := n5_; have NB467_523 := n6_; have NB523_467 := n7_; clear n0_ n1_ n2_ n3_ n4_ n5_ n6_ n7_; clear hb hbox hg; have hnb74 := NB523_467.out; have hnc74 := NB467_523.out; have hcz75_0 : w73.cell? ⟨gb523, 0, none⟩ = some (.bool false) := (blk_cell BK523.out 0).trans rfl; have hcz75_1 : w73.cell? ⟨gb523, 1, none⟩ = some (.int .u32 0) := (blk_cell BK523.out 1).trans rfl; have hcz75_2 : w73.cell? ⟨gb523, 2, none⟩ = some (.int .u8 0) := (blk_cell BK523.out 2).trans rfl; have hcz75_3 : w73.cell? ⟨gb523, 3, none⟩ = some (.int .u8 0) := (blk_cell BK523.out 3).trans rfl; have hcz75_4 : w73.cell? ⟨gb523, 4, none⟩ = some (.int .u8 0) := (blk_cell BK523.out 4).trans rfl; have hcz75_5 : w73.cell? ⟨gb523, 5, none⟩ = some (.int .u16 0) := (blk_cell BK523.out 5).trans rfl; have hcz75_6 : w73.cell? ⟨gb523, 6, none⟩ = some (.int .u16 0) := (blk_cell BK523.out 6).trans rfl; have hfz75_0 := blk_frozen BK523.out 0; have hfz75_1 := blk_frozen BK523.out 1; have hfz75_2 := blk_frozen BK523.out 2; have hfz75_3 := blk_frozen BK523.out 3; have hfz75_4 := blk_frozen BK523.out 4; have hfz75_5 := blk_frozen BK523.out 5; have hfz75_6 := blk_frozen BK523.out 6) | (go_at_call 21; (with_reducible refine (bulwarklaw03_lives.calls k1  t525 _ A69.out).mono ?_); rintro e w76 ⟨rfl, hb⟩; have n0_ := Aside0.mk (Kd.R_below (by (with_reducible repeat (first | apply Kd.R_alloc | apply Kd.R_drewN | apply Kd.R_drew)); exact (Kd.R_mono (Kd.R_far (p := ⟨gb523, 6, none⟩) (Kd.R_far (p := ⟨gb523, 5, none⟩) (Kd.R_far (p := ⟨gb523, 4, none⟩) (Kd.R_far (p := ⟨gb523, 3, none⟩) (Kd.R_far (p := ⟨gb523, 2, none⟩) (Kd.R_far (p := ⟨gb523, 1, none⟩) (Kd.R_far (p := ⟨gb523, 0, none⟩) (Kd.R_mono HO_11.out (fun k_ hk => (⟨hk, hk.2⟩ : _ ∧ k_ ≠ gb523))) (fun _ hk => hk.2) (.bool false)) (fun _ hk => hk.2) (.int .u32 t517)) (fun _ hk => hk.2) (.int .u8 t518)) (fun _ hk => hk.2) (.int .u8 t519)) (fun _ hk => hk.2) (.int .u8 t520)) (fun _ hk => hk.2) (.int .u16 t521)) (fun _ hk => hk.2) (.int .u16 t522)) (fun _ h_ => h_.1))) hb); have n1_ := Aside0.mk (blk_below (g := gb467) (o := .cells #[.bool a0_0, .int .u32 a0_1, .int .u8 a0_2, .int .u8 a0_3, .int .u8 a0_4, .int .u16 a0_5, .int .u16 a0_6] 27 (0, 0)) (by (with_reducible repeat (first | refine blk_drewN ?_ _ | refine blk_drew ?_ | refine blk_alloc ?_ _)); refine blk_far ?_ NB467_523.out _; (with_reducible repeat (first | refine blk_drewN ?_ _ | refine blk_drew ?_ | refine blk_alloc ?_ _)); refine blk_far ?_ NB467_523.out _; (with_reducible repeat (first | refine blk_drewN ?_ _ | refine blk_drew ?_ | refine blk_alloc ?_ _)); refine blk_far ?_ NB467_523.out _; (with_reducible repeat (first | refine blk_drewN ?_ _ | refine blk_drew ?_ | refine blk_alloc ?_ _)); refine blk_far ?_ NB467_523.out _; (with_reducible repeat (first | refine blk_drewN ?_ _ | refine blk_drew ?_ | refine blk_alloc ?_ _)); refine blk_far ?_ NB467_523.out _; (with_reducible repeat (first | refine blk_drewN ?_ _ | refine blk_drew ?_ | refine blk_alloc ?_ _)); refine blk_far ?_ NB467_523.out _; (with_reducible repeat (first | refine blk_drewN ?_ _ | refine blk_drew ?_ | refine blk_alloc ?_ _)); refine blk_far ?_ NB467_523.out _; (with_reducible repeat (first | refine blk_drewN ?_ _ | refine blk_drew ?_ | refine blk_alloc ?_ _)); exact BK467.out) hb); have n2_ := Aside0.mk (blk_below (g := gb523) (o := .cells #[.bool false, .int .u32 t517, .int .u8 t518, .int .u8 t519, .int .u8 t520, .int .u16 t521, .int .u16 t522] 27 (0, 0)) (by (with_reducible repeat (first | refine blk_drewN ?_ _ | refine blk_drew ?_ | refine blk_alloc ?_ _)); refine blk_put (cs := #[.bool false, .int .u32 t517, .int .u8 t518, .int .u8 t519, .int .u8 t520, .int .u16 t521, .int .u16 0]) ?_ 6 _ rfl; (with_reducible repeat (first | refine blk_drewN ?_ _ | refine blk_drew ?_ | refine blk_alloc ?_ _)); refine blk_put (cs := #[.bool false, .int .u32 t517, .int .u8 t518, .int .u8 t519, .int .u8 t520, .int .u16 0, .int .u16 0]) ?_ 5 _ rfl; (with_reducible repeat (first | refine blk_drewN ?_ _ | refine blk_drew ?_ | refine blk_alloc ?_ _)); refine blk_put (cs := #[.bool false, .int .u32 t517, .int .u8 t518, .int .u8 t519, .int .u8 0, .int .u16 0, .int .u16 0]) ?_ 4 _ rfl; (with_reducible repeat (first | refine blk_drewN ?_ _ | refine blk_drew ?_ | refine blk_alloc ?_ _)); refine blk_put (cs := #[.bool false, .int .u32 t517, .int .u8 t518, .int .u8 0, .int .u8 0, .int .u16 0, .int .u16 0]) ?_ 3 _ rfl; (with_reducible repeat (first | refine blk_drewN ?_ _ | refine blk_drew ?_ | refine blk_alloc ?_ _)); refine blk_put (cs := #[.bool false, .int .u32 t517, .int .u8 0, .int .u8 0, .int .u8 0, .int .u16 0, .int .u16 0]) ?_ 2 _ rfl; (with_reducible repeat (first | refine blk_drewN ?_ _ | refine blk_drew ?_ | refine blk_alloc ?_ _)); refine blk_put (cs := #[.bool false, .int .u32 0, .int .u8 0, .int .u8 0, .int .u8 0, .int .u16 0, .int .u16 0]) ?_ 1 _ rfl; (with_reducible repeat (first | refine blk_drewN ?_ _ | refine blk_drew ?_ | refine blk_alloc ?_ _)); refine blk_put (cs := #[.bool false, .int .u32 0, .int .u8 0, .int .u8 0, .int .u8 0, .int .u16 0, .int .u16 0]) ?_ 0 _ rfl; (with_reducible repeat (first | refine blk_drewN ?_ _ | refine blk_drew ?_ | refine blk_alloc ?_ _)); exact BK523.out) hb); have n3_ := Aside0.mk (below_step (by repeat (first | (with_reducible first | exact HB.out | apply below_alloc | apply pw_below_drewN | apply below_drew1 | refine below_set ?_ GE467.out | refine below_set ?_ GE523.out) | exact HB.out)) hb); clear HO_11; clear BK467; clear BK523; clear HB; have HO_11 := n0_; have BK467 := n1_; have BK523 := n2_; have HB := n3_; clear n0_ n1_ n2_ n3_; (try clear hb); (try clear hb2); (try clear hk); (try clear hi)))
          go_ret
          exact ⟨by first | rfl | (simp [errW_none, errW_some] <;> rfl) | (simp [*, errW_none, errW_some] <;> rfl), by repeat (first | (with_reducible first | exact HB.out | apply below_alloc | apply pw_below_drewN | apply below_drew1 | refine below_set ?_ GE467.out | refine below_set ?_ GE523.out) | exact HB.out)⟩

end Go.Proofs.Ytkfgloolpjlddaa.Q
