-- A walk, out of the kit's print program run by wip/ownprint.sh and turned by wip/qprune.py. Lean checks it.
import Derived.Test.YtkfgloolpjlddaaQ0
import Derived.Test.YtkfgloolpjlddaaQ1
import Derived.Test.YtkfgloolpjlddaaQ3
import Derived.Test.YtkfgloolpjlddaaQ10
import Derived.Test.YtkfgloolpjlddaaQ20
import Derived.Test.YtkfgloolpjlddaaQ23
import Derived.Test.YtkfgloolpjlddaaQ24
import Derived.Test.YtkfgloolpjlddaaQ25
import Derived.Test.YtkfgloolpjlddaaQ26
import Derived.Test.YtkfgloolpjlddaaQ27
namespace Go.Proofs.Ytkfgloolpjlddaa.Q
open Go.RowKit Go.Proofs.YtkfgloolpjlddaaW.PrintWords Go.Proofs.YtkfgloolpjlddaaW.PrintLast Go.Proofs.YtkfgloolpjlddaaW.PrintMore
attribute [local go_sem] max2_int min2_int max_two min_two max_three min_three max_four min_four   -- for this text's walks alone
set_option linter.unusedVariables false
set_option linter.unusedSimpArgs false

attribute [local go_sem high] eqA27
/-! ### bulwarklaw03_lives: function 21 -/
def bulwarklaw03_livesT.f (k : Nat)  : Option (Bool) := (capa_Root.f k 4096 8192 39).bind fun bt177 => ((capa_SetBounds.f k bt177.1 bt177.2.1 bt177.2.2.1 bt177.2.2.2.1 bt177.2.2.2.2.1 bt177.2.2.2.2.2.1 bt177.2.2.2.2.2.2.1 64).bind fun bt186 => ((capa_Seal.f bt177.1 bt177.2.1 bt177.2.2.1 bt177.2.2.2.1 bt177.2.2.2.2.1 bt177.2.2.2.2.2.1 bt177.2.2.2.2.2.2.1 4).bind fun bt194 => ((capa_Root.f k 1 513 1).bind fun bt202 => (if bt177.2.2.2.2.2.2.2 = 0 then (if bt177.1 = true then (if bt186.1 = true then ((capa_Top.f bt186.1 bt186.2.1 bt186.2.2.1 bt186.2.2.2.1 bt186.2.2.2.2.1 bt186.2.2.2.2.2.1 bt186.2.2.2.2.2.2).bind fun t211 => (if t211 = 4160 then (if bt194.2.2.2.1 = 4 then (if bt194.1 = true then ((capa_Unseal.f bt194.1 bt194.2.1 bt194.2.2.1 bt194.2.2.2.1 bt194.2.2.2.2.1 bt194.2.2.2.2.2.1 bt194.2.2.2.2.2.2).bind fun bt212 => (if (bt212.1 == bt177.1 && (bt212.2.1 == bt177.2.1 && (bt212.2.2.1 == bt177.2.2.1 && (bt212.2.2.2.1 == bt177.2.2.2.1 && ((bt212.2.2.2.2.1 == bt177.2.2.2.2.1 && (bt212.2.2.2.2.2.1 == bt177.2.2.2.2.2.1 && (bt212.2.2.2.2.2.2 == bt177.2.2.2.2.2.2.1)))))))) = true then (if bt202.2.2.2.2.2.2.2 = 5 then ((capa_May.f k bt177.1 bt177.2.1 bt177.2.2.1 bt177.2.2.2.1 bt177.2.2.2.2.1 bt177.2.2.2.2.2.1 bt177.2.2.2.2.2.2.1 8 4096 1).bind fun t219 => (if t219 = true then (some false) else ((capa_Null.f).bind fun bt220 => (if (!bt220.1 && (bt220.2.1 == 0 && (bt220.2.2.1 == 0 && (bt220.2.2.2.1 == 0 && ((bt220.2.2.2.2.1 == 0 && (bt220.2.2.2.2.2.1 == 0 && (bt220.2.2.2.2.2.2 == 0)))))))) = true then ((capa_Int.f 5).bind fun bt227 => (some (bt227.2.1 == 5))) else (some false))))) else (some false)) else (some false))) else (some false)) else (some false)) else (some false))) else (some false)) else (some false)) else (some false)))))
theorem bulwarklaw03_livesT.mono : ∀ k, LeO (bulwarklaw03_livesT.f k ) (bulwarklaw03_livesT.f (k + 1) ) := by
  intro  k
  unfold bulwarklaw03_livesT.f
  repeat' first
      | (with_reducible exact capa_May.mono _ _ _ _ _ _ _ _ _ _ _)
      | (with_reducible exact capa_Root.mono _ _ _ _)
      | (with_reducible exact capa_SetBounds.mono _ _ _ _ _ _ _ _ _)
      | (with_reducible exact LeO.refl _)
      | (with_reducible exact LeO.none _)
      | (with_reducible refine LeO.ite ?_ ?_)
      | (with_reducible refine LeO.bind ?_ (fun _ => ?_))
      | exact capa_May.mono _ _ _ _ _ _ _ _ _ _ _
      | exact capa_Root.mono _ _ _ _
      | exact capa_SetBounds.mono _ _ _ _ _ _ _ _ _
      | exact LeO.none _
      | refine LeO.ite ?_ ?_
      | refine LeO.bind ?_ (fun _ => ?_)
def bulwarklaw03_livesT.T5 : Bool × List (List Nat × List Nat) := (true, [([], []), ([0], [0]), ([1], [1]), ([2], [2]), ([3, 2], [2, 3]), ([2, 4], [2, 4]), ([5, 2], [5]), ([6], [6]), ([7, 6], [6, 7]), ([6, 8], [6, 8]), ([9, 6], [9]), ([10], [10]), ([11, 10, 10], [10, 11]), ([12, 10], [10, 12]), ([10, 13], [10, 13]), ([14, 12], [14]), ([15], [15]), ([16, 15], [15, 16]), ([17, 15], [15, 17]), ([15, 18], [15, 18]), ([19, 15], [19]), ([20], [20]), ([21, 20], [20, 21]), ([20, 22], [20, 22]), ([23, 20], [23]), ([24], [24]), ([25, 24, 24], [24, 25]), ([24], [24]), ([26, 27, 24], [24, 26, 27]), ([24, 28], [24, 28]), ([29, 26], [29]), ([30], [30]), ([31, 30], [30, 31]), ([30, 32], [30, 32]), ([33, 30], [33]), ([34], [34]), ([35, 34, 34], [34, 35]), ([36, 34], [34, 36]), ([34, 37], [34, 37]), ([38, 36], [38]), ([39, 39], [39]), ([39], [39]), ([40, 41, 39], [39, 40, 41]), ([39, 42], [39, 42]), ([43, 40], [43]), ([44, 44], [44]), ([45, 44], [44, 45]), ([46, 44], [44, 46]), ([44, 47], [44, 47]), ([48, 45, 0, 1, 2, 3, 4, 5, 6, 7, 8, 9, 10, 11, 12, 13, 14, 15, 16, 17, 18, 19, 20, 21, 22, 23, 24, 25, 26, 27, 28, 29, 30, 31, 32, 33, 34, 35, 36, 37, 38, 39, 40, 41, 42, 43, 44, 45, 46, 47, 48], [48])])
def bulwarklaw03_livesT.B5 : List Nat := [0, 1, 3, 7, 15, 31, 63, 127, 255, 511, 1023, 2047, 4095, 8191, 16383, 32767, 65535, 131071, 262143, 524287, 1048575, 2097151, 4194303, 8388607, 16777215, 33554431, 67108863, 33554431, 268435455, 536870911, 1073741823, 2147483647, 4294967295, 8589934591, 17179869183, 34359738367, 68719476735, 137438953471, 274877906943, 549755813887, 1099511627775, 1099511627775, 4398046511103, 8796093022207, 17592186044415, 35184372088831, 70368744177663, 140737488355327, 281474976710655, 562949953421311]
theorem bulwarklaw03_livesT.tab5 : rtab .any (opsOf Try.f21 5) = bulwarklaw03_livesT.T5 := by kernel_rfl
theorem bulwarklaw03_livesT.bits5 : waitsOk bulwarklaw03_livesT.T5.2 bulwarklaw03_livesT.B5 = true := by kernel_rfl
set_option maxHeartbeats 8000000 in
set_option maxRecDepth 100000 in
theorem bulwarklaw03_livesT.calls (k : Nat)  (r : Bool) (w : World) (h : bulwarklaw03_livesT.f k  = some r) (hr : r = true) :
    Calls Try.prog 21 #[] w fun e w' => e = .returned (.bool r) ∧ Below w.heap.size w w' := by
  have hr' := Aside0.mk hr
  clear hr
  have hu27 := Try.underlying27
  have HB := Aside0.mk (Below.refl w.heap.size w)
  have H : ((capa_Root.f k 4096 8192 39).bind fun bt177 => ((capa_SetBounds.f k bt177.1 bt177.2.1 bt177.2.2.1 bt177.2.2.2.1 bt177.2.2.2.2.1 bt177.2.2.2.2.2.1 bt177.2.2.2.2.2.2.1 64).bind fun bt186 => ((capa_Seal.f bt177.1 bt177.2.1 bt177.2.2.1 bt177.2.2.2.1 bt177.2.2.2.2.1 bt177.2.2.2.2.2.1 bt177.2.2.2.2.2.2.1 4).bind fun bt194 => ((capa_Root.f k 1 513 1).bind fun bt202 => (if bt177.2.2.2.2.2.2.2 = 0 then (if bt177.1 = true then (if bt186.1 = true then ((capa_Top.f bt186.1 bt186.2.1 bt186.2.2.1 bt186.2.2.2.1 bt186.2.2.2.2.1 bt186.2.2.2.2.2.1 bt186.2.2.2.2.2.2).bind fun t211 => (if t211 = 4160 then (if bt194.2.2.2.1 = 4 then (if bt194.1 = true then ((capa_Unseal.f bt194.1 bt194.2.1 bt194.2.2.1 bt194.2.2.2.1 bt194.2.2.2.2.1 bt194.2.2.2.2.2.1 bt194.2.2.2.2.2.2).bind fun bt212 => (if (bt212.1 == bt177.1 && (bt212.2.1 == bt177.2.1 && (bt212.2.2.1 == bt177.2.2.1 && (bt212.2.2.2.1 == bt177.2.2.2.1 && ((bt212.2.2.2.2.1 == bt177.2.2.2.2.1 && (bt212.2.2.2.2.2.1 == bt177.2.2.2.2.2.1 && (bt212.2.2.2.2.2.2 == bt177.2.2.2.2.2.2.1)))))))) = true then (if bt202.2.2.2.2.2.2.2 = 5 then ((capa_May.f k bt177.1 bt177.2.1 bt177.2.2.1 bt177.2.2.2.1 bt177.2.2.2.2.1 bt177.2.2.2.2.2.1 bt177.2.2.2.2.2.2.1 8 4096 1).bind fun t219 => (if t219 = true then (some false) else ((capa_Null.f).bind fun bt220 => (if (!bt220.1 && (bt220.2.1 == 0 && (bt220.2.2.1 == 0 && (bt220.2.2.2.1 == 0 && ((bt220.2.2.2.2.1 == 0 && (bt220.2.2.2.2.2.1 == 0 && (bt220.2.2.2.2.2.2 == 0)))))))) = true then ((capa_Int.f 5).bind fun bt227 => (some (bt227.2.1 == 5))) else (some false))))) else (some false)) else (some false))) else (some false)) else (some false)) else (some false))) else (some false)) else (some false)) else (some false)))))) = some r := h
  clear h
  replace H := Option.bind_eq_some_iff.mp H
  obtain ⟨⟨t177, t178, t179, t180, t181, t182, t183, t184⟩, A10, H⟩ := H
  replace H : ((capa_SetBounds.f k t177 t178 t179 t180 t181 t182 t183 64).bind fun bt186 => ((capa_Seal.f t177 t178 t179 t180 t181 t182 t183 4).bind fun bt194 => ((capa_Root.f k 1 513 1).bind fun bt202 => (if t184 = 0 then (if t177 = true then (if bt186.1 = true then ((capa_Top.f bt186.1 bt186.2.1 bt186.2.2.1 bt186.2.2.2.1 bt186.2.2.2.2.1 bt186.2.2.2.2.2.1 bt186.2.2.2.2.2.2).bind fun t211 => (if t211 = 4160 then (if bt194.2.2.2.1 = 4 then (if bt194.1 = true then ((capa_Unseal.f bt194.1 bt194.2.1 bt194.2.2.1 bt194.2.2.2.1 bt194.2.2.2.2.1 bt194.2.2.2.2.2.1 bt194.2.2.2.2.2.2).bind fun bt212 => (if (bt212.1 == t177 && (bt212.2.1 == t178 && (bt212.2.2.1 == t179 && (bt212.2.2.2.1 == t180 && ((bt212.2.2.2.2.1 == t181 && (bt212.2.2.2.2.2.1 == t182 && (bt212.2.2.2.2.2.2 == t183)))))))) = true then (if bt202.2.2.2.2.2.2.2 = 5 then ((capa_May.f k t177 t178 t179 t180 t181 t182 t183 8 4096 1).bind fun t219 => (if t219 = true then (some false) else ((capa_Null.f).bind fun bt220 => (if (!bt220.1 && (bt220.2.1 == 0 && (bt220.2.2.1 == 0 && (bt220.2.2.2.1 == 0 && ((bt220.2.2.2.2.1 == 0 && (bt220.2.2.2.2.2.1 == 0 && (bt220.2.2.2.2.2.2 == 0)))))))) = true then ((capa_Int.f 5).bind fun bt227 => (some (bt227.2.1 == 5))) else (some false))))) else (some false)) else (some false))) else (some false)) else (some false)) else (some false))) else (some false)) else (some false)) else (some false))))) = some r := H
  have A1 := Aside0.mk A10
  clear A10
  replace H := Option.bind_eq_some_iff.mp H
  obtain ⟨⟨t186, t187, t188, t189, t190, t191, t192⟩, A20, H⟩ := H
  replace H : ((capa_Seal.f t177 t178 t179 t180 t181 t182 t183 4).bind fun bt194 => ((capa_Root.f k 1 513 1).bind fun bt202 => (if t184 = 0 then (if t177 = true then (if t186 = true then ((capa_Top.f t186 t187 t188 t189 t190 t191 t192).bind fun t211 => (if t211 = 4160 then (if bt194.2.2.2.1 = 4 then (if bt194.1 = true then ((capa_Unseal.f bt194.1 bt194.2.1 bt194.2.2.1 bt194.2.2.2.1 bt194.2.2.2.2.1 bt194.2.2.2.2.2.1 bt194.2.2.2.2.2.2).bind fun bt212 => (if (bt212.1 == t177 && (bt212.2.1 == t178 && (bt212.2.2.1 == t179 && (bt212.2.2.2.1 == t180 && ((bt212.2.2.2.2.1 == t181 && (bt212.2.2.2.2.2.1 == t182 && (bt212.2.2.2.2.2.2 == t183)))))))) = true then (if bt202.2.2.2.2.2.2.2 = 5 then ((capa_May.f k t177 t178 t179 t180 t181 t182 t183 8 4096 1).bind fun t219 => (if t219 = true then (some false) else ((capa_Null.f).bind fun bt220 => (if (!bt220.1 && (bt220.2.1 == 0 && (bt220.2.2.1 == 0 && (bt220.2.2.2.1 == 0 && ((bt220.2.2.2.2.1 == 0 && (bt220.2.2.2.2.2.1 == 0 && (bt220.2.2.2.2.2.2 == 0)))))))) = true then ((capa_Int.f 5).bind fun bt227 => (some (bt227.2.1 == 5))) else (some false))))) else (some false)) else (some false))) else (some false)) else (some false)) else (some false))) else (some false)) else (some false)) else (some false)))) = some r := H
  have A2 := Aside0.mk A20
  clear A20
  replace H := Option.bind_eq_some_iff.mp H
  obtain ⟨⟨t194, t195, t196, t197, t198, t199, t200⟩, A30, H⟩ := H
  replace H : ((capa_Root.f k 1 513 1).bind fun bt202 => (if t184 = 0 then (if t177 = true then (if t186 = true then ((capa_Top.f t186 t187 t188 t189 t190 t191 t192).bind fun t211 => (if t211 = 4160 then (if t197 = 4 then (if t194 = true then ((capa_Unseal.f t194 t195 t196 t197 t198 t199 t200).bind fun bt212 => (if (bt212.1 == t177 && (bt212.2.1 == t178 && (bt212.2.2.1 == t179 && (bt212.2.2.2.1 == t180 && ((bt212.2.2.2.2.1 == t181 && (bt212.2.2.2.2.2.1 == t182 && (bt212.2.2.2.2.2.2 == t183)))))))) = true then (if bt202.2.2.2.2.2.2.2 = 5 then ((capa_May.f k t177 t178 t179 t180 t181 t182 t183 8 4096 1).bind fun t219 => (if t219 = true then (some false) else ((capa_Null.f).bind fun bt220 => (if (!bt220.1 && (bt220.2.1 == 0 && (bt220.2.2.1 == 0 && (bt220.2.2.2.1 == 0 && ((bt220.2.2.2.2.1 == 0 && (bt220.2.2.2.2.2.1 == 0 && (bt220.2.2.2.2.2.2 == 0)))))))) = true then ((capa_Int.f 5).bind fun bt227 => (some (bt227.2.1 == 5))) else (some false))))) else (some false)) else (some false))) else (some false)) else (some false)) else (some false))) else (some false)) else (some false)) else (some false))) = some r := H
  have A3 := Aside0.mk A30
  clear A30
  replace H := Option.bind_eq_some_iff.mp H
  obtain ⟨⟨t202, t203, t204, t205, t206, t207, t208, t209⟩, A40, H⟩ := H
  replace H : (if t184 = 0 then (if t177 = true then (if t186 = true then ((capa_Top.f t186 t187 t188 t189 t190 t191 t192).bind fun t211 => (if t211 = 4160 then (if t197 = 4 then (if t194 = true then ((capa_Unseal.f t194 t195 t196 t197 t198 t199 t200).bind fun bt212 => (if (bt212.1 == t177 && (bt212.2.1 == t178 && (bt212.2.2.1 == t179 && (bt212.2.2.2.1 == t180 && ((bt212.2.2.2.2.1 == t181 && (bt212.2.2.2.2.2.1 == t182 && (bt212.2.2.2.2.2.2 == t183)))))))) = true then (if t209 = 5 then ((capa_May.f k t177 t178 t179 t180 t181 t182 t183 8 4096 1).bind fun t219 => (if t219 = true then (some false) else ((capa_Null.f).bind fun bt220 => (if (!bt220.1 && (bt220.2.1 == 0 && (bt220.2.2.1 == 0 && (bt220.2.2.2.1 == 0 && ((bt220.2.2.2.2.1 == 0 && (bt220.2.2.2.2.2.1 == 0 && (bt220.2.2.2.2.2.2 == 0)))))))) = true then ((capa_Int.f 5).bind fun bt227 => (some (bt227.2.1 == 5))) else (some false))))) else (some false)) else (some false))) else (some false)) else (some false)) else (some false))) else (some false)) else (some false)) else (some false)) = some r := H
  have A4 := Aside0.mk A40
  clear A40
  by_cases c5 : t184 = 0
  · rw [if_pos c5] at H
    have c5b0 : (t184 == 0) = true := beq_iff_eq.mpr c5
    have c5b1 : (t184 != 0) = false := bne_eq_false_iff_eq.mpr c5
    clear c5
    by_cases c6 : t177 = true
    · subst c6
      have H1 : (if t186 = true then ((capa_Top.f t186 t187 t188 t189 t190 t191 t192).bind fun t211 => (if t211 = 4160 then (if t197 = 4 then (if t194 = true then ((capa_Unseal.f t194 t195 t196 t197 t198 t199 t200).bind fun bt212 => (if (bt212.1 == true && (bt212.2.1 == t178 && (bt212.2.2.1 == t179 && (bt212.2.2.2.1 == t180 && ((bt212.2.2.2.2.1 == t181 && (bt212.2.2.2.2.2.1 == t182 && (bt212.2.2.2.2.2.2 == t183)))))))) = true then (if t209 = 5 then ((capa_May.f k true t178 t179 t180 t181 t182 t183 8 4096 1).bind fun t219 => (if t219 = true then (some false) else ((capa_Null.f).bind fun bt220 => (if (!bt220.1 && (bt220.2.1 == 0 && (bt220.2.2.1 == 0 && (bt220.2.2.2.1 == 0 && ((bt220.2.2.2.2.1 == 0 && (bt220.2.2.2.2.2.1 == 0 && (bt220.2.2.2.2.2.2 == 0)))))))) = true then ((capa_Int.f 5).bind fun bt227 => (some (bt227.2.1 == 5))) else (some false))))) else (some false)) else (some false))) else (some false)) else (some false)) else (some false))) else (some false)) = some r := by rw [if_pos rfl] at H; exact H
      clear H
      have H := H1
      clear H1
      by_cases c7 : t186 = true
      · subst c7
        have H1 : ((capa_Top.f true t187 t188 t189 t190 t191 t192).bind fun t211 => (if t211 = 4160 then (if t197 = 4 then (if t194 = true then ((capa_Unseal.f t194 t195 t196 t197 t198 t199 t200).bind fun bt212 => (if (bt212.1 == true && (bt212.2.1 == t178 && (bt212.2.2.1 == t179 && (bt212.2.2.2.1 == t180 && ((bt212.2.2.2.2.1 == t181 && (bt212.2.2.2.2.2.1 == t182 && (bt212.2.2.2.2.2.2 == t183)))))))) = true then (if t209 = 5 then ((capa_May.f k true t178 t179 t180 t181 t182 t183 8 4096 1).bind fun t219 => (if t219 = true then (some false) else ((capa_Null.f).bind fun bt220 => (if (!bt220.1 && (bt220.2.1 == 0 && (bt220.2.2.1 == 0 && (bt220.2.2.2.1 == 0 && ((bt220.2.2.2.2.1 == 0 && (bt220.2.2.2.2.2.1 == 0 && (bt220.2.2.2.2.2.2 == 0)))))))) = true then ((capa_Int.f 5).bind fun bt227 => (some (bt227.2.1 == 5))) else (some false))))) else (some false)) else (some false))) else (some false)) else (some false)) else (some false))) = some r := by rw [if_pos rfl] at H; exact H
        clear H
        have H := H1
        clear H1
        replace H := Option.bind_eq_some_iff.mp H
        obtain ⟨t211, A80, H⟩ := H
        replace H : (if t211 = 4160 then (if t197 = 4 then (if t194 = true then ((capa_Unseal.f t194 t195 t196 t197 t198 t199 t200).bind fun bt212 => (if (bt212.1 == true && (bt212.2.1 == t178 && (bt212.2.2.1 == t179 && (bt212.2.2.2.1 == t180 && ((bt212.2.2.2.2.1 == t181 && (bt212.2.2.2.2.2.1 == t182 && (bt212.2.2.2.2.2.2 == t183)))))))) = true then (if t209 = 5 then ((capa_May.f k true t178 t179 t180 t181 t182 t183 8 4096 1).bind fun t219 => (if t219 = true then (some false) else ((capa_Null.f).bind fun bt220 => (if (!bt220.1 && (bt220.2.1 == 0 && (bt220.2.2.1 == 0 && (bt220.2.2.2.1 == 0 && ((bt220.2.2.2.2.1 == 0 && (bt220.2.2.2.2.2.1 == 0 && (bt220.2.2.2.2.2.2 == 0)))))))) = true then ((capa_Int.f 5).bind fun bt227 => (some (bt227.2.1 == 5))) else (some false))))) else (some false)) else (some false))) else (some false)) else (some false)) else (some false)) = some r := H
        have A8 := Aside0.mk A80
        clear A80
        by_cases c9 : t211 = 4160
        · rw [if_pos c9] at H
          have c9b0 : (t211 == 4160) = true := beq_iff_eq.mpr c9
          have c9b1 : (t211 != 4160) = false := bne_eq_false_iff_eq.mpr c9
          clear c9
          by_cases c10 : t197 = 4
          · rw [if_pos c10] at H
            have c10b0 : (t197 == 4) = true := beq_iff_eq.mpr c10
            have c10b1 : (t197 != 4) = false := bne_eq_false_iff_eq.mpr c10
            clear c10
            by_cases c11 : t194 = true
            · subst c11
              have H1 : ((capa_Unseal.f true t195 t196 t197 t198 t199 t200).bind fun bt212 => (if (bt212.1 == true && (bt212.2.1 == t178 && (bt212.2.2.1 == t179 && (bt212.2.2.2.1 == t180 && ((bt212.2.2.2.2.1 == t181 && (bt212.2.2.2.2.2.1 == t182 && (bt212.2.2.2.2.2.2 == t183)))))))) = true then (if t209 = 5 then ((capa_May.f k true t178 t179 t180 t181 t182 t183 8 4096 1).bind fun t219 => (if t219 = true then (some false) else ((capa_Null.f).bind fun bt220 => (if (!bt220.1 && (bt220.2.1 == 0 && (bt220.2.2.1 == 0 && (bt220.2.2.2.1 == 0 && ((bt220.2.2.2.2.1 == 0 && (bt220.2.2.2.2.2.1 == 0 && (bt220.2.2.2.2.2.2 == 0)))))))) = true then ((capa_Int.f 5).bind fun bt227 => (some (bt227.2.1 == 5))) else (some false))))) else (some false)) else (some false))) = some r := by rw [if_pos rfl] at H; exact H
              clear H
              have H := H1
              clear H1
              replace H := Option.bind_eq_some_iff.mp H
              obtain ⟨⟨t212, t213, t214, t215, t216, t217, t218⟩, A120, H⟩ := H
              replace H : (if (t212 == true && (t213 == t178 && (t214 == t179 && (t215 == t180 && ((t216 == t181 && (t217 == t182 && (t218 == t183)))))))) = true then (if t209 = 5 then ((capa_May.f k true t178 t179 t180 t181 t182 t183 8 4096 1).bind fun t219 => (if t219 = true then (some false) else ((capa_Null.f).bind fun bt220 => (if (!bt220.1 && (bt220.2.1 == 0 && (bt220.2.2.1 == 0 && (bt220.2.2.2.1 == 0 && ((bt220.2.2.2.2.1 == 0 && (bt220.2.2.2.2.2.1 == 0 && (bt220.2.2.2.2.2.2 == 0)))))))) = true then ((capa_Int.f 5).bind fun bt227 => (some (bt227.2.1 == 5))) else (some false))))) else (some false)) else (some false)) = some r := H
              have A12 := Aside0.mk A120
              clear A120
              by_cases c13 : (t212 == true && (t213 == t178 && (t214 == t179 && (t215 == t180 && ((t216 == t181 && (t217 == t182 && (t218 == t183)))))))) = true
              · rw [if_pos c13] at H
                have c13b0 : (t212 == true && (t213 == t178 && (t214 == t179 && (t215 == t180 && ((t216 == t181 && (t217 == t182 && (t218 == t183)))))))) = true := c13
                have c13b9 : (t212 && (t213 == t178 && (t214 == t179 && (t215 == t180 && ((t216 == t181 && (t217 == t182 && (t218 == t183)))))))) = true := by have h := c13b0; rw [show (t212 == true) = t212 from by cases t212 <;> rfl] at h; exact h
                (try (have c13b1 : decide (t212 = true && (t213 == t178 && (t214 == t179 && (t215 == t180 && ((t216 == t181 && (t217 == t182 && (t218 == t183)))))))) = true := by simpa using c13))
                (try (have c13b2 : (t212 == true && (t213 == t178 && (t214 == t179 && (t215 == t180 && ((t216 == t181 && (t217 == t182 && (t218 == t183)))))))) = true := by simpa using c13))
                clear c13
                by_cases c14 : t209 = 5
                · rw [if_pos c14] at H
                  have c14b0 : (t209 == 5) = true := beq_iff_eq.mpr c14
                  have c14b1 : (t209 != 5) = false := bne_eq_false_iff_eq.mpr c14
                  clear c14
                  replace H := Option.bind_eq_some_iff.mp H
                  obtain ⟨t219, A150, H⟩ := H
                  replace H : (if t219 = true then (some false) else ((capa_Null.f).bind fun bt220 => (if (!bt220.1 && (bt220.2.1 == 0 && (bt220.2.2.1 == 0 && (bt220.2.2.2.1 == 0 && ((bt220.2.2.2.2.1 == 0 && (bt220.2.2.2.2.2.1 == 0 && (bt220.2.2.2.2.2.2 == 0)))))))) = true then ((capa_Int.f 5).bind fun bt227 => (some (bt227.2.1 == 5))) else (some false)))) = some r := H
                  have A15 := Aside0.mk A150
                  clear A150
                  by_cases c16 : t219 = true
                  · subst c16
                    have H1 : (some false) = some r := by rw [if_pos rfl] at H; exact H
                    exact absurd ((Option.some.inj H1).trans hr'.out) (by decide)
                  · replace c16 := Bool.eq_false_iff.mpr c16
                    subst c16
                    have H1 : ((capa_Null.f).bind fun bt220 => (if (!bt220.1 && (bt220.2.1 == 0 && (bt220.2.2.1 == 0 && (bt220.2.2.2.1 == 0 && ((bt220.2.2.2.2.1 == 0 && (bt220.2.2.2.2.2.1 == 0 && (bt220.2.2.2.2.2.2 == 0)))))))) = true then ((capa_Int.f 5).bind fun bt227 => (some (bt227.2.1 == 5))) else (some false))) = some r := by rw [if_neg (show ¬ (false = true) by decide)] at H; exact H
                    clear H
                    have H := H1
                    clear H1
                    replace H := Option.bind_eq_some_iff.mp H
                    obtain ⟨⟨t220, t221, t222, t223, t224, t225, t226⟩, A410, H⟩ := H
                    replace H : (if (!t220 && (t221 == 0 && (t222 == 0 && (t223 == 0 && ((t224 == 0 && (t225 == 0 && (t226 == 0)))))))) = true then ((capa_Int.f 5).bind fun bt227 => (some (bt227.2.1 == 5))) else (some false)) = some r := H
                    have A41 := Aside0.mk A410
                    clear A410
                    by_cases c42 : (!t220 && (t221 == 0 && (t222 == 0 && (t223 == 0 && ((t224 == 0 && (t225 == 0 && (t226 == 0)))))))) = true
                    · rw [if_pos c42] at H
                      have c42b0 : (!t220 && (t221 == 0 && (t222 == 0 && (t223 == 0 && ((t224 == 0 && (t225 == 0 && (t226 == 0)))))))) = true := c42
                      clear c42
                      replace H := Option.bind_eq_some_iff.mp H
                      obtain ⟨⟨t227, t228, t229, t230, t231, t232, t233⟩, A430, H⟩ := H
                      replace H : (some (t228 == 5)) = some r := H
                      have A43 := Aside0.mk A430
                      clear A430
                      obtain rfl := Option.some.inj H
                      go_enter Try.func21, Try.ntmps21
                      try go_wp2_with (first | ((with_reducible refine gate_callee (f := 11) rfl ?_); refine goesL_ (some 8) rfl rfl Try.func11 (by kernel_rfl) rfl #[.int .u64 4096, .int .u64 8192, .int .u8 39] rfl (by (try simp only [List.map_toArray, List.map_cons, List.map_nil]); first | done | rfl | (simp only [List.length_drop, List.length_take]; rfl)) ?_; (with_reducible refine (capa_Root.calls k 4096 8192 39 true t178 t179 t180 t181 t182 t183 t184 _ A1.out).mono ?_); rintro e w44 ⟨rfl, hb⟩; refine ⟨_, rfl, ?_⟩; have n0_ := Aside0.mk (below_step (by repeat (first | (with_reducible first | exact HB.out | apply below_alloc | apply pw_below_drewN | apply below_drew1) | exact HB.out)) hb); clear HB; have HB := n0_; clear n0_; (try clear hb); (try clear hb2); (try clear hk); (try clear hi)) | ((with_reducible refine gate_dst (N := 1) rfl ?_); refine box_event ?hg (N := 1) ?hd (cs := #[.bool false, .int .u32 0, .int .u8 0, .int .u8 0, .int .u8 0, .int .u16 0, .int .u16 0]) (t := 27) ?hr ?_; (case hd => rfl); (case hg => rfl); (case hr => first | (go_simp; done) | (go_simp; rfl)); intro gb185 hg w45 hbox hb; have n0_ := Aside0.mk (below_step (by repeat (first | (with_reducible first | exact HB.out | apply below_alloc | apply pw_below_drewN | apply below_drew1) | exact HB.out)) hb); have n1_ := Aside0.mk (hbox); have n2_ := Aside0.mk ((by rw [hg]; exact (below_size (by repeat (first | (with_reducible first | exact HB.out | apply below_alloc | apply pw_below_drewN | apply below_drew1) | exact HB.out))) : w.heap.size ≤ gb185)); have n3_ := Aside0.mk ((by rw [hg]; exact (below_size (by repeat (first | (with_reducible first | exact HB.out | apply below_alloc | apply pw_below_drewN | apply below_drew1) | exact HB.out))) : w.heap.size ≤ gb185)); clear HB; have HB := n0_; have BK185 := n1_; have GW185 := n2_; have GE185 := n3_; clear n0_ n1_ n2_ n3_; clear hb hbox hg; have hcz46_0 : w45.cell? ⟨gb185, 0, none⟩ = some (.bool false) := (blk_cell BK185.out 0).trans rfl; have hcz46_1 : w45.cell? ⟨gb185, 1, none⟩ = some (.int .u32 0) := (blk_cell BK185.out 1).trans rfl; have hcz46_2 : w45.cell? ⟨gb185, 2, none⟩ = some (.int .u8 0) := (blk_cell BK185.out 2).trans rfl; have hcz46_3 : w45.cell? ⟨gb185, 3, none⟩ = some (.int .u8 0) := (blk_cell BK185.out 3).trans rfl; have hcz46_4 : w45.cell? ⟨gb185, 4, none⟩ = some (.int .u8 0) := (blk_cell BK185.out 4).trans rfl; have hcz46_5 : w45.cell? ⟨gb185, 5, none⟩ = some (.int .u16 0) := (blk_cell BK185.out 5).trans rfl; have hcz46_6 : w45.cell? ⟨gb185, 6, none⟩ = some (.int .u16 0) := (blk_cell BK185.out 6).trans rfl; have hfz46_0 := blk_frozen BK185.out 0; have hfz46_1 := blk_frozen BK185.out 1; have hfz46_2 := blk_frozen BK185.out 2; have hfz46_3 := blk_frozen BK185.out 3; have hfz46_4 := blk_frozen BK185.out 4; have hfz46_5 := blk_frozen BK185.out 5; have hfz46_6 := blk_frozen BK185.out 6) | ((with_reducible refine gate_callee (f := 30) rfl ?_); refine goesL_ (some 12) rfl rfl Try.func30 (by kernel_rfl) rfl #[.agg #[.bool true, .int .u32 t178, .int .u8 t179, .int .u8 t180, .int .u8 t181, .int .u16 t182, .int .u16 t183], .int .u32 64] rfl (by (try simp only [List.map_toArray, List.map_cons, List.map_nil]); first | done | rfl | (simp only [List.length_drop, List.length_take]; rfl)) ?_; (with_reducible refine (capa_SetBounds.calls k true t178 t179 t180 t181 t182 t183 64 true t187 t188 t189 t190 t191 t192 _ A2.out).mono ?_); rintro e w47 ⟨rfl, hb⟩; refine ⟨_, rfl, ?_⟩; have n0_ := Aside0.mk (blk_below (g := gb185) (o := .cells #[.bool true, .int .u32 t178, .int .u8 t179, .int .u8 t180, .int .u8 t181, .int .u16 t182, .int .u16 t183] 27 (0, 0)) (by (with_reducible repeat (first | refine blk_drewN ?_ _ | refine blk_drew ?_ | refine blk_alloc ?_ _)); refine blk_put (cs := #[.bool true, .int .u32 t178, .int .u8 t179, .int .u8 t180, .int .u8 t181, .int .u16 t182, .int .u16 0]) ?_ 6 _ rfl; (with_reducible repeat (first | refine blk_drewN ?_ _ | refine blk_drew ?_ | refine blk_alloc ?_ _)); refine blk_put (cs := #[.bool true, .int .u32 t178, .int .u8 t179, .int .u8 t180, .int .u8 t181, .int .u16 0, .int .u16 0]) ?_ 5 _ rfl; (with_reducible repeat (first | refine blk_drewN ?_ _ | refine blk_drew ?_ | refine blk_alloc ?_ _)); refine blk_put (cs := #[.bool true, .int .u32 t178, .int .u8 t179, .int .u8 t180, .int .u8 0, .int .u16 0, .int .u16 0]) ?_ 4 _ rfl; (with_reducible repeat (first | refine blk_drewN ?_ _ | refine blk_drew ?_ | refine blk_alloc ?_ _)); refine blk_put (cs := #[.bool true, .int .u32 t178, .int .u8 t179, .int .u8 0, .int .u8 0, .int .u16 0, .int .u16 0]) ?_ 3 _ rfl; (with_reducible repeat (first | refine blk_drewN ?_ _ | refine blk_drew ?_ | refine blk_alloc ?_ _)); refine blk_put (cs := #[.bool true, .int .u32 t178, .int .u8 0, .int .u8 0, .int .u8 0, .int .u16 0, .int .u16 0]) ?_ 2 _ rfl; (with_reducible repeat (first | refine blk_drewN ?_ _ | refine blk_drew ?_ | refine blk_alloc ?_ _)); refine blk_put (cs := #[.bool true, .int .u32 0, .int .u8 0, .int .u8 0, .int .u8 0, .int .u16 0, .int .u16 0]) ?_ 1 _ rfl; (with_reducible repeat (first | refine blk_drewN ?_ _ | refine blk_drew ?_ | refine blk_alloc ?_ _)); refine blk_put (cs := #[.bool false, .int .u32 0, .int .u8 0, .int .u8 0, .int .u8 0, .int .u16 0, .int .u16 0]) ?_ 0 _ rfl; (with_reducible repeat (first | refine blk_drewN ?_ _ | refine blk_drew ?_ | refine blk_alloc ?_ _)); exact BK185.out) hb); have n1_ := Aside0.mk (below_step (by repeat (first | (with_reducible first | exact HB.out | apply below_alloc | apply pw_below_drewN | apply below_drew1 | refine below_set ?_ GE185.out) | exact HB.out)) hb); clear BK185; clear HB; have BK185 := n0_; have HB := n1_; clear n0_ n1_; (try clear hb); (try clear hb2); (try clear hk); (try clear hi)) | ((with_reducible refine gate_dst (N := 3) rfl ?_); refine box_event ?hg (N := 3) ?hd (cs := #[.bool false, .int .u32 0, .int .u8 0, .int .u8 0, .int .u8 0, .int .u16 0, .int .u16 0]) (t := 27) ?hr ?_; (case hd => rfl); (case hg => rfl); (case hr => first | (go_simp; done) | (go_simp; rfl)); intro gb193 hg w48 hbox hb; have n0_ := Aside0.mk (blk_below (g := gb185) (o := .cells #[.bool true, .int .u32 t178, .int .u8 t179, .int .u8 t180, .int .u8 t181, .int .u16 t182, .int .u16 t183] 27 (0, 0)) (by (with_reducible repeat (first | refine blk_drewN ?_ _ | refine blk_drew ?_ | refine blk_alloc ?_ _)); exact BK185.out) hb); have n1_ := Aside0.mk (below_step (by repeat (first | (with_reducible first | exact HB.out | apply below_alloc | apply pw_below_drewN | apply below_drew1 | refine below_set ?_ GE185.out) | exact HB.out)) hb); have n2_ := Aside0.mk (hbox); have n3_ := Aside0.mk ((by rw [hg]; exact (below_size (by repeat (first | (with_reducible first | exact HB.out | apply below_alloc | apply pw_below_drewN | apply below_drew1 | refine below_set ?_ GE185.out) | exact HB.out))) : w.heap.size ≤ gb193)); have n4_ := Aside0.mk ((by rw [hg]; exact (below_size (by repeat (first | (with_reducible first | exact HB.out | apply below_alloc | apply pw_below_drewN | apply below_drew1 | refine below_set ?_ GE185.out) | exact HB.out))) : w.heap.size ≤ gb193)); have n5_ := Aside0.mk ((by rw [hg]; exact Nat.ne_of_lt (blk_lt (g := gb185) (o := .cells #[.bool true, .int .u32 t178, .int .u8 t179, .int .u8 t180, .int .u8 t181, .int .u16 t182, .int .u16 t183] 27 (0, 0)) (by (with_reducible repeat (first | refine blk_drewN ?_ _ | refine blk_drew ?_ | refine blk_alloc ?_ _)); exact BK185.out)) : gb185 ≠ gb193)); have n6_ := Aside0.mk ((by rw [hg]; exact Nat.ne_of_gt (blk_lt (g := gb185) (o := .cells #[.bool true, .int .u32 t178, .int .u8 t179, .int .u8 t180, .int .u8 t181, .int .u16 t182, .int .u16 t183] 27 (0, 0)) (by (with_reducible repeat (first | refine blk_drewN ?_ _ | refine blk_drew ?_ | refine blk_alloc ?_ _)); exact BK185.out)) : gb193 ≠ gb185)); clear BK185; clear HB; have BK185 := n0_; have HB := n1_; have BK193 := n2_; have GW193 := n3_; have GE193 := n4_; have NB185_193 := n5_; have NB193_185 := n6_; clear n0_ n1_ n2_ n3_ n4_ n5_ n6_; clear hb hbox hg; have hnb49 := NB193_185.out; have hnc49 := NB185_193.out; have hcz50_0 : w48.cell? ⟨gb193, 0, none⟩ = some (.bool false) := (blk_cell BK193.out 0).trans rfl; have hcz50_1 : w48.cell? ⟨gb193, 1, none⟩ = some (.int .u32 0) := (blk_cell BK193.out 1).trans rfl; have hcz50_2 : w48.cell? ⟨gb193, 2, none⟩ = some (.int .u8 0) := (blk_cell BK193.out 2).trans rfl; have hcz50_3 : w48.cell? ⟨gb193, 3, none⟩ = some (.int .u8 0) := (blk_cell BK193.out 3).trans rfl; have hcz50_4 : w48.cell? ⟨gb193, 4, none⟩ = some (.int .u8 0) := (blk_cell BK193.out 4).trans rfl; have hcz50_5 : w48.cell? ⟨gb193, 5, none⟩ = some (.int .u16 0) := (blk_cell BK193.out 5).trans rfl; have hcz50_6 : w48.cell? ⟨gb193, 6, none⟩ = some (.int .u16 0) := (blk_cell BK193.out 6).trans rfl; have hfz50_0 := blk_frozen BK193.out 0; have hfz50_1 := blk_frozen BK193.out 1; have hfz50_2 := blk_frozen BK193.out 2; have hfz50_3 := blk_frozen BK193.out 3; have hfz50_4 := blk_frozen BK193.out 4; have hfz50_5 := blk_frozen BK193.out 5; have hfz50_6 := blk_frozen BK193.out 6; have hcz51_0 : w48.cell? ⟨gb185, 0, none⟩ = some (.bool true) := (blk_cell BK185.out 0).trans rfl; have hcz51_1 : w48.cell? ⟨gb185, 1, none⟩ = some (.int .u32 t178) := (blk_cell BK185.out 1).trans rfl; have hcz51_2 : w48.cell? ⟨gb185, 2, none⟩ = some (.int .u8 t179) := (blk_cell BK185.out 2).trans rfl; have hcz51_3 : w48.cell? ⟨gb185, 3, none⟩ = some (.int .u8 t180) := (blk_cell BK185.out 3).trans rfl; have hcz51_4 : w48.cell? ⟨gb185, 4, none⟩ = some (.int .u8 t181) := (blk_cell BK185.out 4).trans rfl; have hcz51_5 : w48.cell? ⟨gb185, 5, none⟩ = some (.int .u16 t182) := (blk_cell BK185.out 5).trans rfl; have hcz51_6 : w48.cell? ⟨gb185, 6, none⟩ = some (.int .u16 t183) := (blk_cell BK185.out 6).trans rfl; have hfz51_0 := blk_frozen BK185.out 0; have hfz51_1 := blk_frozen BK185.out 1; have hfz51_2 := blk_frozen BK185.out 2; have hfz51_3 := blk_frozen BK185.out 3; have hfz51_4 := blk_frozen BK185.out 4; have hfz51_5 := blk_frozen BK185.out 5; have hfz51_6 := blk_frozen BK185.out 6) | ((with_reducible refine gate_callee (f := 25) rfl ?_); refine goesL_ (some 14) rfl rfl Try.func25 (by kernel_rfl) rfl #[.agg #[.bool true, .int .u32 t178, .int .u8 t179, .int .u8 t180, .int .u8 t181, .int .u16 t182, .int .u16 t183], .int .u32 4] rfl (by (try simp only [List.map_toArray, List.map_cons, List.map_nil]); first | done | rfl | (simp only [List.length_drop, List.length_take]; rfl)) ?_; (with_reducible refine (capa_Seal.calls true t178 t179 t180 t181 t182 t183 4 true t195 t196 t197 t198 t199 t200 _ A3.out).mono ?_); rintro e w52 ⟨rfl, hb⟩; refine ⟨_, rfl, ?_⟩; have n0_ := Aside0.mk (blk_below (g := gb185) (o := .cells #[.bool true, .int .u32 t178, .int .u8 t179, .int .u8 t180, .int .u8 t181, .int .u16 t182, .int .u16 t183] 27 (0, 0)) (by (with_reducible repeat (first | refine blk_drewN ?_ _ | refine blk_drew ?_ | refine blk_alloc ?_ _)); refine blk_far ?_ NB185_193.out _; (with_reducible repeat (first | refine blk_drewN ?_ _ | refine blk_drew ?_ | refine blk_alloc ?_ _)); refine blk_far ?_ NB185_193.out _; (with_reducible repeat (first | refine blk_drewN ?_ _ | refine blk_drew ?_ | refine blk_alloc ?_ _)); refine blk_far ?_ NB185_193.out _; (with_reducible repeat (first | refine blk_drewN ?_ _ | refine blk_drew ?_ | refine blk_alloc ?_ _)); refine blk_far ?_ NB185_193.out _; (with_reducible repeat (first | refine blk_drewN ?_ _ | refine blk_drew ?_ | refine blk_alloc ?_ _)); refine blk_far ?_ NB185_193.out _; (with_reducible repeat (first | refine blk_drewN ?_ _ | refine blk_drew ?_ | refine blk_alloc ?_ _)); refine blk_far ?_ NB185_193.out _; (with_reducible repeat (first | refine blk_drewN ?_ _ | refine blk_drew ?_ | refine blk_alloc ?_ _)); refine blk_far ?_ NB185_193.out _; (with_reducible repeat (first | refine blk_drewN ?_ _ | refine blk_drew ?_ | refine blk_alloc ?_ _)); exact BK185.out) hb); have n1_ := Aside0.mk (blk_below (g := gb193) (o := .cells #[.bool true, .int .u32 t187, .int .u8 t188, .int .u8 t189, .int .u8 t190, .int .u16 t191, .int .u16 t192] 27 (0, 0)) (by (with_reducible repeat (first | refine blk_drewN ?_ _ | refine blk_drew ?_ | refine blk_alloc ?_ _)); refine blk_put (cs := #[.bool true, .int .u32 t187, .int .u8 t188, .int .u8 t189, .int .u8 t190, .int .u16 t191, .int .u16 0]) ?_ 6 _ rfl; (with_reducible repeat (first | refine blk_drewN ?_ _ | refine blk_drew ?_ | refine blk_alloc ?_ _)); refine blk_put (cs := #[.bool true, .int .u32 t187, .int .u8 t188, .int .u8 t189, .int .u8 t190, .int .u16 0, .int .u16 0]) ?_ 5 _ rfl; (with_reducible repeat (first | refine blk_drewN ?_ _ | refine blk_drew ?_ | refine blk_alloc ?_ _)); refine blk_put (cs := #[.bool true, .int .u32 t187, .int .u8 t188, .int .u8 t189, .int .u8 0, .int .u16 0, .int .u16 0]) ?_ 4 _ rfl; (with_reducible repeat (first | refine blk_drewN ?_ _ | refine blk_drew ?_ | refine blk_alloc ?_ _)); refine blk_put (cs := #[.bool true, .int .u32 t187, .int .u8 t188, .int .u8 0, .int .u8 0, .int .u16 0, .int .u16 0]) ?_ 3 _ rfl; (with_reducible repeat (first | refine blk_drewN ?_ _ | refine blk_drew ?_ | refine blk_alloc ?_ _)); refine blk_put (cs := #[.bool true, .int .u32 t187, .int .u8 0, .int .u8 0, .int .u8 0, .int .u16 0, .int .u16 0]) ?_ 2 _ rfl; (with_reducible repeat (first | refine blk_drewN ?_ _ | refine blk_drew ?_ | refine blk_alloc ?_ _)); refine blk_put (cs := #[.bool true, .int .u32 0, .int .u8 0, .int .u8 0, .int .u8 0, .int .u16 0, .int .u16 0]) ?_ 1 _ rfl; (with_reducible repeat (first | refine blk_drewN ?_ _ | refine blk_drew ?_ | refine blk_alloc ?_ _)); refine blk_put (cs := #[.bool false, .int .u32 0, .int .u8 0, .int .u8 0, .int .u8 0, .int .u16 0, .int .u16 0]) ?_ 0 _ rfl; (with_reducible repeat (first | refine blk_drewN ?_ _ | refine blk_drew ?_ | refine blk_alloc ?_ _)); exact BK193.out) hb); have n2_ := Aside0.mk (below_step (by repeat (first | (with_reducible first | exact HB.out | apply below_alloc | apply pw_below_drewN | apply below_drew1 | refine below_set ?_ GE185.out | refine below_set ?_ GE193.out) | exact HB.out)) hb); clear BK185; clear BK193; clear HB; have BK185 := n0_; have BK193 := n1_; have HB := n2_; clear n0_ n1_ n2_; (try clear hb); (try clear hb2); (try clear hk); (try clear hi)) | ((with_reducible refine gate_dst (N := 4) rfl ?_); refine box_event ?hg (N := 4) ?hd (cs := #[.bool false, .int .u32 0, .int .u8 0, .int .u8 0, .int .u8 0, .int .u16 0, .int .u16 0]) (t := 27) ?hr ?_; (case hd => rfl); (case hg => rfl); (case hr => first | (go_simp; done) | (go_simp; rfl)); intro gb201 hg w53 hbox hb; have n0_ := Aside0.mk (blk_below (g := gb185) (o := .cells #[.bool true, .int .u32 t178, .int .u8 t179, .int .u8 t180, .int .u8 t181, .int .u16 t182, .int .u16 t183] 27 (0, 0)) (by (with_reducible repeat (first | refine blk_drewN ?_ _ | refine blk_drew ?_ | refine blk_alloc ?_ _)); exact BK185.out) hb); have n1_ := Aside0.mk (blk_below (g := gb193) (o := .cells #[.bool true, .int .u32 t187, .int .u8 t188, .int .u8 t189, .int .u8 t190, .int .u16 t191, .int .u16 t192] 27 (0, 0)) (by (with_reducible repeat (first | refine blk_drewN ?_ _ | refine blk_drew ?_ | refine blk_alloc ?_ _)); exact BK193.out) hb); have n2_ := Aside0.mk (below_step (by repeat (first | (with_reducible first | exact HB.out | apply below_alloc | apply pw_below_drewN | apply below_drew1 | refine below_set ?_ GE185.out | refine below_set ?_ GE193.out) | exact HB.out)) hb); have n3_ := Aside0.mk (hbox); have n4_ := Aside0.mk ((by rw [hg]; exact (below_size (by repeat (first | (with_reducible first | exact HB.out | apply below_alloc | apply pw_below_drewN | apply below_drew1 | refine below_set ?_ GE185.out | refine below_set ?_ GE193.out) | exact HB.out))) : w.heap.size ≤ gb201)); have n5_ := Aside0.mk ((by rw [hg]; exact (below_size (by repeat (first | (with_reducible first | exact HB.out | apply below_alloc | apply pw_below_drewN | apply below_drew1 | refine below_set ?_ GE185.out | refine below_set ?_ GE193.out) | exact HB.out))) : w.heap.size ≤ gb201)); have n6_ := Aside0.mk ((by rw [hg]; exact Nat.ne_of_lt (blk_lt (g := gb185) (o := .cells #[.bool true, .int .u32 t178, .int .u8 t179, .int .u8 t180, .int .u8 t181, .int .u16 t182, .int .u16 t183] 27 (0, 0)) (by (with_reducible repeat (first | refine blk_drewN ?_ _ | refine blk_drew ?_ | refine blk_alloc ?_ _)); exact BK185.out)) : gb185 ≠ gb201)); have n7_ := Aside0.mk ((by rw [hg]; exact Nat.ne_of_gt (blk_lt (g := gb185) (o := .cells #[.bool true, .int .u32 t178, .int .u8 t179, .int .u8 t180, .int .u8 t181, .int .u16 t182, .int .u16 t183] 27 (0, 0)) (by (with_reducible repeat (first | refine blk_drewN ?_ _ | refine blk_drew ?_ | refine blk_alloc ?_ _)); exact BK185.out)) : gb201 ≠ gb185)); have n8_ := Aside0.mk ((by rw [hg]; exact Nat.ne_of_lt (blk_lt (g := gb193) (o := .cells #[.bool true, .int .u32 t187, .int .u8 t188, .int .u8 t189, .int .u8 t190, .int .u16 t191, .int .u16 t192] 27 (0, 0)) (by (with_reducible repeat (first | refine blk_drewN ?_ _ | refine blk_drew ?_ | refine blk_alloc ?_ _)); exact BK193.out)) : gb193 ≠ gb201)); have n9_ := Aside0.mk ((by rw [hg]; exact Nat.ne_of_gt (blk_lt (g := gb193) (o := .cells #[.bool true, .int .u32 t187, .int .u8 t188, .int .u8 t189, .int .u8 t190, .int .u16 t191, .int .u16 t192] 27 (0, 0)) (by (with_reducible repeat (first | refine blk_drewN ?_ _ | refine blk_drew ?_ | refine blk_alloc ?_ _)); exact BK193.out)) : gb201 ≠ gb193)); clear BK185; clear BK193; clear HB; have BK185 := n0_; have BK193 := n1_; have HB := n2_; have BK201 := n3_; have GW201 := n4_; have GE201 := n5_; have NB185_201 := n6_; have NB201_185 := n7_; have NB193_201 := n8_; have NB201_193 := n9_; clear n0_ n1_ n2_ n3_ n4_ n5_ n6_ n7_ n8_ n9_; clear hb hbox hg; have hnb54 := NB201_185.out; have hnc54 := NB185_201.out; have hnb55 := NB201_193.out; have hnc55 := NB193_201.out; have hcz56_0 : w53.cell? ⟨gb201, 0, none⟩ = some (.bool false) := (blk_cell BK201.out 0).trans rfl; have hcz56_1 : w53.cell? ⟨gb201, 1, none⟩ = some (.int .u32 0) := (blk_cell BK201.out 1).trans rfl; have hcz56_2 : w53.cell? ⟨gb201, 2, none⟩ = some (.int .u8 0) := (blk_cell BK201.out 2).trans rfl; have hcz56_3 : w53.cell? ⟨gb201, 3, none⟩ = some (.int .u8 0) := (blk_cell BK201.out 3).trans rfl; have hcz56_4 : w53.cell? ⟨gb201, 4, none⟩ = some (.int .u8 0) := (blk_cell BK201.out 4).trans rfl; have hcz56_5 : w53.cell? ⟨gb201, 5, none⟩ = some (.int .u16 0) := (blk_cell BK201.out 5).trans rfl; have hcz56_6 : w53.cell? ⟨gb201, 6, none⟩ = some (.int .u16 0) := (blk_cell BK201.out 6).trans rfl; have hfz56_0 := blk_frozen BK201.out 0; have hfz56_1 := blk_frozen BK201.out 1; have hfz56_2 := blk_frozen BK201.out 2; have hfz56_3 := blk_frozen BK201.out 3; have hfz56_4 := blk_frozen BK201.out 4; have hfz56_5 := blk_frozen BK201.out 5; have hfz56_6 := blk_frozen BK201.out 6) | ((with_reducible refine gate_callee (f := 11) rfl ?_); refine goesL_ (some 16) rfl rfl Try.func11 (by kernel_rfl) rfl #[.int .u64 1, .int .u64 513, .int .u8 1] rfl (by (try simp only [List.map_toArray, List.map_cons, List.map_nil]); first | done | rfl | (simp only [List.length_drop, List.length_take]; rfl)) ?_; (with_reducible refine (capa_Root.calls k 1 513 1 t202 t203 t204 t205 t206 t207 t208 t209 _ A4.out).mono ?_); rintro e w57 ⟨rfl, hb⟩; refine ⟨_, rfl, ?_⟩; have n0_ := Aside0.mk (blk_below (g := gb185) (o := .cells #[.bool true, .int .u32 t178, .int .u8 t179, .int .u8 t180, .int .u8 t181, .int .u16 t182, .int .u16 t183] 27 (0, 0)) (by (with_reducible repeat (first | refine blk_drewN ?_ _ | refine blk_drew ?_ | refine blk_alloc ?_ _)); refine blk_far ?_ NB185_201.out _; (with_reducible repeat (first | refine blk_drewN ?_ _ | refine blk_drew ?_ | refine blk_alloc ?_ _)); refine blk_far ?_ NB185_201.out _; (with_reducible repeat (first | refine blk_drewN ?_ _ | refine blk_drew ?_ | refine blk_alloc ?_ _)); refine blk_far ?_ NB185_201.out _; (with_reducible repeat (first | refine blk_drewN ?_ _ | refine blk_drew ?_ | refine blk_alloc ?_ _)); refine blk_far ?_ NB185_201.out _; (with_reducible repeat (first | refine blk_drewN ?_ _ | refine blk_drew ?_ | refine blk_alloc ?_ _)); refine blk_far ?_ NB185_201.out _; (with_reducible repeat (first | refine blk_drewN ?_ _ | refine blk_drew ?_ | refine blk_alloc ?_ _)); refine blk_far ?_ NB185_201.out _; (with_reducible repeat (first | refine blk_drewN ?_ _ | refine blk_drew ?_ | refine blk_alloc ?_ _)); refine blk_far ?_ NB185_201.out _; (with_reducible repeat (first | refine blk_drewN ?_ _ | refine blk_drew ?_ | refine blk_alloc ?_ _)); exact BK185.out) hb); have n1_ := Aside0.mk (blk_below (g := gb193) (o := .cells #[.bool true, .int .u32 t187, .int .u8 t188, .int .u8 t189, .int .u8 t190, .int .u16 t191, .int .u16 t192] 27 (0, 0)) (by (with_reducible repeat (first | refine blk_drewN ?_ _ | refine blk_drew ?_ | refine blk_alloc ?_ _)); refine blk_far ?_ NB193_201.out _; (with_reducible repeat (first | refine blk_drewN ?_ _ | refine blk_drew ?_ | refine blk_alloc ?_ _)); refine blk_far ?_ NB193_201.out _; (with_reducible repeat (first | refine blk_drewN ?_ _ | refine blk_drew ?_ | refine blk_alloc ?_ _)); refine blk_far ?_ NB193_201.out _; (with_reducible repeat (first | refine blk_drewN ?_ _ | refine blk_drew ?_ | refine blk_alloc ?_ _)); refine blk_far ?_ NB193_201.out _; (with_reducible repeat (first | refine blk_drewN ?_ _ | refine blk_drew ?_ | refine blk_alloc ?_ _)); refine blk_far ?_ NB193_201.out _; (with_reducible repeat (first | refine blk_drewN ?_ _ | refine blk_drew ?_ | refine blk_alloc ?_ _)); refine blk_far ?_ NB193_201.out _; (with_reducible repeat (first | refine blk_drewN ?_ _ | refine blk_drew ?_ | refine blk_alloc ?_ _)); refine blk_far ?_ NB193_201.out _; (with_reducible repeat (first | refine blk_drewN ?_ _ | refine blk_drew ?_ | refine blk_alloc ?_ _)); exact BK193.out) hb); have n2_ := Aside0.mk (blk_below (g := gb201) (o := .cells #[.bool true, .int .u32 t195, .int .u8 t196, .int .u8 t197, .int .u8 t198, .int .u16 t199, .int .u16 t200] 27 (0, 0)) (by (with_reducible repeat (first | refine blk_drewN ?_ _ | refine blk_drew ?_ | refine blk_alloc ?_ _)); refine blk_put (cs := #[.bool true, .int .u32 t195, .int .u8 t196, .int .u8 t197, .int .u8 t198, .int .u16 t199, .int .u16 0]) ?_ 6 _ rfl; (with_reducible repeat (first | refine blk_drewN ?_ _ | refine blk_drew ?_ | refine blk_alloc ?_ _)); refine blk_put (cs := #[.bool true, .int .u32 t195, .int .u8 t196, .int .u8 t197, .int .u8 t198, .int .u16 0, .int .u16 0]) ?_ 5 _ rfl; (with_reducible repeat (first | refine blk_drewN ?_ _ | refine blk_drew ?_ | refine blk_alloc ?_ _)); refine blk_put (cs := #[.bool true, .int .u32 t195, .int .u8 t196, .int .u8 t197, .int .u8 0, .int .u16 0, .int .u16 0]) ?_ 4 _ rfl; (with_reducible repeat (first | refine blk_drewN ?_ _ | refine blk_drew ?_ | refine blk_alloc ?_ _)); refine blk_put (cs := #[.bool true, .int .u32 t195, .int .u8 t196, .int .u8 0, .int .u8 0, .int .u16 0, .int .u16 0]) ?_ 3 _ rfl; (with_reducible repeat (first | refine blk_drewN ?_ _ | refine blk_drew ?_ | refine blk_alloc ?_ _)); refine blk_put (cs := #[.bool true, .int .u32 t195, .int .u8 0, .int .u8 0, .int .u8 0, .int .u16 0, .int .u16 0]) ?_ 2 _ rfl; (with_reducible repeat (first | refine blk_drewN ?_ _ | refine blk_drew ?_ | refine blk_alloc ?_ _)); refine blk_put (cs := #[.bool true, .int .u32 0, .int .u8 0, .int .u8 0, .int .u8 0, .int .u16 0, .int .u16 0]) ?_ 1 _ rfl; (with_reducible repeat (first | refine blk_drewN ?_ _ | refine blk_drew ?_ | refine blk_alloc ?_ _)); refine blk_put (cs := #[.bool false, .int .u32 0, .int .u8 0, .int .u8 0, .int .u8 0, .int .u16 0, .int .u16 0]) ?_ 0 _ rfl; (with_reducible repeat (first | refine blk_drewN ?_ _ | refine blk_drew ?_ | refine blk_alloc ?_ _)); exact BK201.out) hb); have n3_ := Aside0.mk (below_step (by repeat (first | (with_reducible first | exact HB.out | apply below_alloc | apply pw_below_drewN | apply below_drew1 | refine below_set ?_ GE185.out | refine below_set ?_ GE193.out | refine below_set ?_ GE201.out) | exact HB.out)) hb); clear BK185; clear BK193; clear BK201; clear HB; have BK185 := n0_; have BK193 := n1_; have BK201 := n2_; have HB := n3_; clear n0_ n1_ n2_ n3_; (try clear hb); (try clear hb2); (try clear hk); (try clear hi)) | ((with_reducible refine gate_dst (N := 5) rfl ?_); refine box_event ?hg (N := 5) ?hd (cs := #[.bool false, .int .u32 0, .int .u8 0, .int .u8 0, .int .u8 0, .int .u16 0, .int .u16 0]) (t := 27) ?hr ?_; (case hd => rfl); (case hg => rfl); (case hr => first | (go_simp; done) | (go_simp; rfl)); intro gb210 hg w58 hbox hb; have n0_ := Aside0.mk (blk_below (g := gb185) (o := .cells #[.bool true, .int .u32 t178, .int .u8 t179, .int .u8 t180, .int .u8 t181, .int .u16 t182, .int .u16 t183] 27 (0, 0)) (by (with_reducible repeat (first | refine blk_drewN ?_ _ | refine blk_drew ?_ | refine blk_alloc ?_ _)); exact BK185.out) hb); have n1_ := Aside0.mk (blk_below (g := gb193) (o := .cells #[.bool true, .int .u32 t187, .int .u8 t188, .int .u8 t189, .int .u8 t190, .int .u16 t191, .int .u16 t192] 27 (0, 0)) (by (with_reducible repeat (first | refine blk_drewN ?_ _ | refine blk_drew ?_ | refine blk_alloc ?_ _)); exact BK193.out) hb); have n2_ := Aside0.mk (blk_below (g := gb201) (o := .cells #[.bool true, .int .u32 t195, .int .u8 t196, .int .u8 t197, .int .u8 t198, .int .u16 t199, .int .u16 t200] 27 (0, 0)) (by (with_reducible repeat (first | refine blk_drewN ?_ _ | refine blk_drew ?_ | refine blk_alloc ?_ _)); exact BK201.out) hb); have n3_ := Aside0.mk (below_step (by repeat (first | (with_reducible first | exact HB.out | apply below_alloc | apply pw_below_drewN | apply below_drew1 | refine below_set ?_ GE185.out | refine below_set ?_ GE193.out | refine below_set ?_ GE201.out) | exact HB.out)) hb); have n4_ := Aside0.mk (hbox); have n5_ := Aside0.mk ((by rw [hg]; exact (below_size (by repeat (first | (with_reducible first | exact HB.out | apply below_alloc | apply pw_below_drewN | apply below_drew1 | refine below_set ?_ GE185.out | refine below_set ?_ GE193.out | refine below_set ?_ GE201.out) | exact HB.out))) : w.heap.size ≤ gb210)); have n6_ := Aside0.mk ((by rw [hg]; exact (below_size (by repeat (first | (with_reducible first | exact HB.out | apply below_alloc | apply pw_below_drewN | apply below_drew1 | refine below_set ?_ GE185.out | refine below_set ?_ GE193.out | refine below_set ?_ GE201.out) | exact HB.out))) : w.heap.size ≤ gb210)); have n7_ := Aside0.mk ((by rw [hg]; exact Nat.ne_of_lt (blk_lt (g := gb185) (o := .cells #[.bool true, .int .u32 t178, .int .u8 t179, .int .u8 t180, .int .u8 t181, .int .u16 t182, .int .u16 t183] 27 (0, 0)) (by (with_reducible repeat (first | refine blk_drewN ?_ _ | refine blk_drew ?_ | refine blk_alloc ?_ _)); exact BK185.out)) : gb185 ≠ gb210)); have n8_ := Aside0.mk ((by rw [hg]; exact Nat.ne_of_gt (blk_lt (g := gb185) (o := .cells #[.bool true, .int .u32 t178, .int .u8 t179, .int .u8 t180, .int .u8 t181, .int .u16 t182, .int .u16 t183] 27 (0, 0)) (by (with_reducible repeat (first | refine blk_drewN ?_ _ | refine blk_drew ?_ | refine blk_alloc ?_ _)); exact BK185.out)) : gb210 ≠ gb185)); have n9_ := Aside0.mk ((by rw [hg]; exact Nat.ne_of_lt (blk_lt (g := gb193) (o := .cells #[.bool true, .int .u32 t187, .int .u8 t188, .int .u8 t189, .int .u8 t190, .int .u16 t191, .int .u16 t192] 27 (0, 0)) (by (with_reducible repeat (first | refine blk_drewN ?_ _ | refine blk_drew ?_ | refine blk_alloc ?_ _)); exact BK193.out)) : gb193 ≠ gb210)); have n10_ := Aside0.mk ((by rw [hg]; exact Nat.ne_of_gt (blk_lt (g := gb193) (o := .cells #[.bool true, .int .u32 t187, .int .u8 t188, .int .u8 t189, .int .u8 t190, .int .u16 t191, .int .u16 t192] 27 (0, 0)) (by (with_reducible repeat (first | refine blk_drewN ?_ _ | refine blk_drew ?_ | refine blk_alloc ?_ _)); exact BK193.out)) : gb210 ≠ gb193)); have n11_ := Aside0.mk ((by rw [hg]; exact Nat.ne_of_lt (blk_lt (g := gb201) (o := .cells #[.bool true, .int .u32 t195, .int .u8 t196, .int .u8 t197, .int .u8 t198, .int .u16 t199, .int .u16 t200] 27 (0, 0)) (by (with_reducible repeat (first | refine blk_drewN ?_ _ | refine blk_drew ?_ | refine blk_alloc ?_ _)); exact BK201.out)) : gb201 ≠ gb210)); have n12_ := Aside0.mk ((by rw [hg]; exact Nat.ne_of_gt (blk_lt (g := gb201) (o := .cells #[.bool true, .int .u32 t195, .int .u8 t196, .int .u8 t197, .int .u8 t198, .int .u16 t199, .int .u16 t200] 27 (0, 0)) (by (with_reducible repeat (first | refine blk_drewN ?_ _ | refine blk_drew ?_ | refine blk_alloc ?_ _)); exact BK201.out)) : gb210 ≠ gb201)); clear BK185; clear BK193; clear BK201; clear HB; have BK185 := n0_; have BK193 := n1_; have BK201 := n2_; have HB := n3_; have BK210 := n4_; have GW210 := n5_; have GE210 := n6_; have NB185_210 := n7_; have NB210_185 := n8_; have NB193_210 := n9_; have NB210_193 := n10_; have NB201_210 := n11_; have NB210_201 := n12_; clear n0_ n1_ n2_ n3_ n4_ n5_ n6_ n7_ n8_ n9_ n10_ n11_ n12_; clear hb hbox hg; have hnb59 := NB210_185.out; have hnc59 := NB185_210.out; have hnb60 := NB210_193.out; have hnc60 := NB193_210.out; have hnb61 := NB210_201.out; have hnc61 := NB201_210.out; have hcz62_0 : w58.cell? ⟨gb210, 0, none⟩ = some (.bool false) := (blk_cell BK210.out 0).trans rfl; have hcz62_1 : w58.cell? ⟨gb210, 1, none⟩ = some (.int .u32 0) := (blk_cell BK210.out 1).trans rfl; have hcz62_2 : w58.cell? ⟨gb210, 2, none⟩ = some (.int .u8 0) := (blk_cell BK210.out 2).trans rfl; have hcz62_3 : w58.cell? ⟨gb210, 3, none⟩ = some (.int .u8 0) := (blk_cell BK210.out 3).trans rfl; have hcz62_4 : w58.cell? ⟨gb210, 4, none⟩ = some (.int .u8 0) := (blk_cell BK210.out 4).trans rfl; have hcz62_5 : w58.cell? ⟨gb210, 5, none⟩ = some (.int .u16 0) := (blk_cell BK210.out 5).trans rfl; have hcz62_6 : w58.cell? ⟨gb210, 6, none⟩ = some (.int .u16 0) := (blk_cell BK210.out 6).trans rfl; have hfz62_0 := blk_frozen BK210.out 0; have hfz62_1 := blk_frozen BK210.out 1; have hfz62_2 := blk_frozen BK210.out 2; have hfz62_3 := blk_frozen BK210.out 3; have hfz62_4 := blk_frozen BK210.out 4; have hfz62_5 := blk_frozen BK210.out 5; have hfz62_6 := blk_frozen BK210.out 6))
                      have n0_ : Aside0 ((((((((w58.setCell ⟨gb210, 0, none⟩ (.bool t202)).setCell ⟨gb210, 1, none⟩ (.int .u32 t203)).setCell ⟨gb210, 2, none⟩ (.int .u8 t204)).setCell ⟨gb210, 3, none⟩ (.int .u8 t205)).setCell ⟨gb210, 4, none⟩ (.int .u8 t206)).setCell ⟨gb210, 5, none⟩ (.int .u16 t207)).setCell ⟨gb210, 6, none⟩ (.int .u16 t208)).heap[gb185]? = some (.cells #[.bool true, .int .u32 t178, .int .u8 t179, .int .u8 t180, .int .u8 t181, .int .u16 t182, .int .u16 t183] 27 (0, 0))) := ⟨by (with_reducible repeat (first | refine blk_drewN ?_ _ | refine blk_drew ?_ | refine blk_alloc ?_ _)); refine blk_far ?_ NB185_210.out _; (with_reducible repeat (first | refine blk_drewN ?_ _ | refine blk_drew ?_ | refine blk_alloc ?_ _)); refine blk_far ?_ NB185_210.out _; (with_reducible repeat (first | refine blk_drewN ?_ _ | refine blk_drew ?_ | refine blk_alloc ?_ _)); refine blk_far ?_ NB185_210.out _; (with_reducible repeat (first | refine blk_drewN ?_ _ | refine blk_drew ?_ | refine blk_alloc ?_ _)); refine blk_far ?_ NB185_210.out _; (with_reducible repeat (first | refine blk_drewN ?_ _ | refine blk_drew ?_ | refine blk_alloc ?_ _)); refine blk_far ?_ NB185_210.out _; (with_reducible repeat (first | refine blk_drewN ?_ _ | refine blk_drew ?_ | refine blk_alloc ?_ _)); refine blk_far ?_ NB185_210.out _; (with_reducible repeat (first | refine blk_drewN ?_ _ | refine blk_drew ?_ | refine blk_alloc ?_ _)); refine blk_far ?_ NB185_210.out _; (with_reducible repeat (first | refine blk_drewN ?_ _ | refine blk_drew ?_ | refine blk_alloc ?_ _)); exact BK185.out⟩
                      have n1_ : Aside0 ((((((((w58.setCell ⟨gb210, 0, none⟩ (.bool t202)).setCell ⟨gb210, 1, none⟩ (.int .u32 t203)).setCell ⟨gb210, 2, none⟩ (.int .u8 t204)).setCell ⟨gb210, 3, none⟩ (.int .u8 t205)).setCell ⟨gb210, 4, none⟩ (.int .u8 t206)).setCell ⟨gb210, 5, none⟩ (.int .u16 t207)).setCell ⟨gb210, 6, none⟩ (.int .u16 t208)).heap[gb193]? = some (.cells #[.bool true, .int .u32 t187, .int .u8 t188, .int .u8 t189, .int .u8 t190, .int .u16 t191, .int .u16 t192] 27 (0, 0))) := ⟨by (with_reducible repeat (first | refine blk_drewN ?_ _ | refine blk_drew ?_ | refine blk_alloc ?_ _)); refine blk_far ?_ NB193_210.out _; (with_reducible repeat (first | refine blk_drewN ?_ _ | refine blk_drew ?_ | refine blk_alloc ?_ _)); refine blk_far ?_ NB193_210.out _; (with_reducible repeat (first | refine blk_drewN ?_ _ | refine blk_drew ?_ | refine blk_alloc ?_ _)); refine blk_far ?_ NB193_210.out _; (with_reducible repeat (first | refine blk_drewN ?_ _ | refine blk_drew ?_ | refine blk_alloc ?_ _)); refine blk_far ?_ NB193_210.out _; (with_reducible repeat (first | refine blk_drewN ?_ _ | refine blk_drew ?_ | refine blk_alloc ?_ _)); refine blk_far ?_ NB193_210.out _; (with_reducible repeat (first | refine blk_drewN ?_ _ | refine blk_drew ?_ | refine blk_alloc ?_ _)); refine blk_far ?_ NB193_210.out _; (with_reducible repeat (first | refine blk_drewN ?_ _ | refine blk_drew ?_ | refine blk_alloc ?_ _)); refine blk_far ?_ NB193_210.out _; (with_reducible repeat (first | refine blk_drewN ?_ _ | refine blk_drew ?_ | refine blk_alloc ?_ _)); exact BK193.out⟩
                      have n2_ : Aside0 ((((((((w58.setCell ⟨gb210, 0, none⟩ (.bool t202)).setCell ⟨gb210, 1, none⟩ (.int .u32 t203)).setCell ⟨gb210, 2, none⟩ (.int .u8 t204)).setCell ⟨gb210, 3, none⟩ (.int .u8 t205)).setCell ⟨gb210, 4, none⟩ (.int .u8 t206)).setCell ⟨gb210, 5, none⟩ (.int .u16 t207)).setCell ⟨gb210, 6, none⟩ (.int .u16 t208)).heap[gb201]? = some (.cells #[.bool true, .int .u32 t195, .int .u8 t196, .int .u8 t197, .int .u8 t198, .int .u16 t199, .int .u16 t200] 27 (0, 0))) := ⟨by (with_reducible repeat (first | refine blk_drewN ?_ _ | refine blk_drew ?_ | refine blk_alloc ?_ _)); refine blk_far ?_ NB201_210.out _; (with_reducible repeat (first | refine blk_drewN ?_ _ | refine blk_drew ?_ | refine blk_alloc ?_ _)); refine blk_far ?_ NB201_210.out _; (with_reducible repeat (first | refine blk_drewN ?_ _ | refine blk_drew ?_ | refine blk_alloc ?_ _)); refine blk_far ?_ NB201_210.out _; (with_reducible repeat (first | refine blk_drewN ?_ _ | refine blk_drew ?_ | refine blk_alloc ?_ _)); refine blk_far ?_ NB201_210.out _; (with_reducible repeat (first | refine blk_drewN ?_ _ | refine blk_drew ?_ | refine blk_alloc ?_ _)); refine blk_far ?_ NB201_210.out _; (with_reducible repeat (first | refine blk_drewN ?_ _ | refine blk_drew ?_ | refine blk_alloc ?_ _)); refine blk_far ?_ NB201_210.out _; (with_reducible repeat (first | refine blk_drewN ?_ _ | refine blk_drew ?_ | refine blk_alloc ?_ _)); refine blk_far ?_ NB201_210.out _; (with_reducible repeat (first | refine blk_drewN ?_ _ | refine blk_drew ?_ | refine blk_alloc ?_ _)); exact BK201.out⟩
                      have n3_ : Aside0 ((((((((w58.setCell ⟨gb210, 0, none⟩ (.bool t202)).setCell ⟨gb210, 1, none⟩ (.int .u32 t203)).setCell ⟨gb210, 2, none⟩ (.int .u8 t204)).setCell ⟨gb210, 3, none⟩ (.int .u8 t205)).setCell ⟨gb210, 4, none⟩ (.int .u8 t206)).setCell ⟨gb210, 5, none⟩ (.int .u16 t207)).setCell ⟨gb210, 6, none⟩ (.int .u16 t208)).heap[gb210]? = some (.cells #[.bool t202, .int .u32 t203, .int .u8 t204, .int .u8 t205, .int .u8 t206, .int .u16 t207, .int .u16 t208] 27 (0, 0))) := ⟨by (with_reducible repeat (first | refine blk_drewN ?_ _ | refine blk_drew ?_ | refine blk_alloc ?_ _)); refine blk_put (cs := #[.bool t202, .int .u32 t203, .int .u8 t204, .int .u8 t205, .int .u8 t206, .int .u16 t207, .int .u16 0]) ?_ 6 _ rfl; (with_reducible repeat (first | refine blk_drewN ?_ _ | refine blk_drew ?_ | refine blk_alloc ?_ _)); refine blk_put (cs := #[.bool t202, .int .u32 t203, .int .u8 t204, .int .u8 t205, .int .u8 t206, .int .u16 0, .int .u16 0]) ?_ 5 _ rfl; (with_reducible repeat (first | refine blk_drewN ?_ _ | refine blk_drew ?_ | refine blk_alloc ?_ _)); refine blk_put (cs := #[.bool t202, .int .u32 t203, .int .u8 t204, .int .u8 t205, .int .u8 0, .int .u16 0, .int .u16 0]) ?_ 4 _ rfl; (with_reducible repeat (first | refine blk_drewN ?_ _ | refine blk_drew ?_ | refine blk_alloc ?_ _)); refine blk_put (cs := #[.bool t202, .int .u32 t203, .int .u8 t204, .int .u8 0, .int .u8 0, .int .u16 0, .int .u16 0]) ?_ 3 _ rfl; (with_reducible repeat (first | refine blk_drewN ?_ _ | refine blk_drew ?_ | refine blk_alloc ?_ _)); refine blk_put (cs := #[.bool t202, .int .u32 t203, .int .u8 0, .int .u8 0, .int .u8 0, .int .u16 0, .int .u16 0]) ?_ 2 _ rfl; (with_reducible repeat (first | refine blk_drewN ?_ _ | refine blk_drew ?_ | refine blk_alloc ?_ _)); refine blk_put (cs := #[.bool t202, .int .u32 0, .int .u8 0, .int .u8 0, .int .u8 0, .int .u16 0, .int .u16 0]) ?_ 1 _ rfl; (with_reducible repeat (first | refine blk_drewN ?_ _ | refine blk_drew ?_ | refine blk_alloc ?_ _)); refine blk_put (cs := #[.bool false, .int .u32 0, .int .u8 0, .int .u8 0, .int .u8 0, .int .u16 0, .int .u16 0]) ?_ 0 _ rfl; (with_reducible repeat (first | refine blk_drewN ?_ _ | refine blk_drew ?_ | refine blk_alloc ?_ _)); exact BK210.out⟩
                      have n4_ : Aside0 (Below w.heap.size w (((((((w58.setCell ⟨gb210, 0, none⟩ (.bool t202)).setCell ⟨gb210, 1, none⟩ (.int .u32 t203)).setCell ⟨gb210, 2, none⟩ (.int .u8 t204)).setCell ⟨gb210, 3, none⟩ (.int .u8 t205)).setCell ⟨gb210, 4, none⟩ (.int .u8 t206)).setCell ⟨gb210, 5, none⟩ (.int .u16 t207)).setCell ⟨gb210, 6, none⟩ (.int .u16 t208))) := ⟨by repeat (first | (with_reducible first | exact HB.out | apply below_alloc | apply pw_below_drewN | apply below_drew1 | refine below_set ?_ GE185.out | refine below_set ?_ GE193.out | refine below_set ?_ GE201.out | refine below_set ?_ GE210.out) | exact HB.out)⟩
                      (try clear BK185)
                      (try clear BK193)
                      (try clear BK201)
                      (try clear BK210)
                      (try clear HB)
                      generalize (((((((w58.setCell ⟨gb210, 0, none⟩ (.bool t202)).setCell ⟨gb210, 1, none⟩ (.int .u32 t203)).setCell ⟨gb210, 2, none⟩ (.int .u8 t204)).setCell ⟨gb210, 3, none⟩ (.int .u8 t205)).setCell ⟨gb210, 4, none⟩ (.int .u8 t206)).setCell ⟨gb210, 5, none⟩ (.int .u16 t207)).setCell ⟨gb210, 6, none⟩ (.int .u16 t208)) = w63 at n0_ n1_ n2_ n3_ n4_ ⊢
                      have BK185 := n0_
                      have BK193 := n1_
                      have BK201 := n2_
                      have BK210 := n3_
                      have HB := n4_
                      clear n0_ n1_ n2_ n3_ n4_
                      have n0_ := Aside0.mk (blk_drew BK185.out)
                      have n1_ := Aside0.mk (blk_drew BK193.out)
                      have n2_ := Aside0.mk (blk_drew BK201.out)
                      have n3_ := Aside0.mk (blk_drew BK210.out)
                      have n4_ := Aside0.mk (below_drew1 HB.out)
                      clear BK185
                      clear BK193
                      clear BK201
                      clear BK210
                      clear HB
                      have BK185 := n0_
                      have BK193 := n1_
                      have BK201 := n2_
                      have BK210 := n3_
                      have HB := n4_
                      clear n0_ n1_ n2_ n3_ n4_
                      refine start_ (n := 50) (S := fun w' => w'.cell? ⟨gb185, 0, none⟩ = some (.bool true) ∧ w'.cell? ⟨gb185, 1, none⟩ = some (.int .u32 t178) ∧ w'.cell? ⟨gb185, 2, none⟩ = some (.int .u8 t179) ∧ w'.cell? ⟨gb185, 3, none⟩ = some (.int .u8 t180) ∧ w'.cell? ⟨gb185, 4, none⟩ = some (.int .u8 t181) ∧ w'.cell? ⟨gb185, 5, none⟩ = some (.int .u16 t182) ∧ w'.cell? ⟨gb185, 6, none⟩ = some (.int .u16 t183) ∧ w'.cell? ⟨gb193, 0, none⟩ = some (.bool true) ∧ w'.cell? ⟨gb193, 1, none⟩ = some (.int .u32 t187) ∧ w'.cell? ⟨gb193, 2, none⟩ = some (.int .u8 t188) ∧ w'.cell? ⟨gb193, 3, none⟩ = some (.int .u8 t189) ∧ w'.cell? ⟨gb193, 4, none⟩ = some (.int .u8 t190) ∧ w'.cell? ⟨gb193, 5, none⟩ = some (.int .u16 t191) ∧ w'.cell? ⟨gb193, 6, none⟩ = some (.int .u16 t192) ∧ w'.cell? ⟨gb201, 0, none⟩ = some (.bool true) ∧ w'.cell? ⟨gb201, 1, none⟩ = some (.int .u32 t195) ∧ w'.cell? ⟨gb201, 2, none⟩ = some (.int .u8 t196) ∧ w'.cell? ⟨gb201, 3, none⟩ = some (.int .u8 t197) ∧ w'.cell? ⟨gb201, 4, none⟩ = some (.int .u8 t198) ∧ w'.cell? ⟨gb201, 5, none⟩ = some (.int .u16 t199) ∧ w'.cell? ⟨gb201, 6, none⟩ = some (.int .u16 t200)) (ds := []) #[false, false, false, false, false, false, false, false, false, false, false, false, false, false, false, false, false, false, false, false, false, false, false, false, false, false, false, false, false, false, false, false, false, false, false, false, false, false, false, false, false, false, false, false, false, false, false, false, false, false] (by kernel_rfl) rfl rfl ⟨(blk_cell BK185.out 0).trans rfl, (blk_cell BK185.out 1).trans rfl, (blk_cell BK185.out 2).trans rfl, (blk_cell BK185.out 3).trans rfl, (blk_cell BK185.out 4).trans rfl, (blk_cell BK185.out 5).trans rfl, (blk_cell BK185.out 6).trans rfl, (blk_cell BK193.out 0).trans rfl, (blk_cell BK193.out 1).trans rfl, (blk_cell BK193.out 2).trans rfl, (blk_cell BK193.out 3).trans rfl, (blk_cell BK193.out 4).trans rfl, (blk_cell BK193.out 5).trans rfl, (blk_cell BK193.out 6).trans rfl, (blk_cell BK201.out 0).trans rfl, (blk_cell BK201.out 1).trans rfl, (blk_cell BK201.out 2).trans rfl, (blk_cell BK201.out 3).trans rfl, (blk_cell BK201.out 4).trans rfl, (blk_cell BK201.out 5).trans rfl, (blk_cell BK201.out 6).trans rfl⟩ (fun hHeld => ?_); refine with_tabW bulwarklaw03_livesT.tab5 bulwarklaw03_livesT.bits5 (fun HT_ HW_ => ?_)
                      generalize w63.drew = w64 at BK185 BK193 BK201 BK210 HB hHeld ⊢
                      refine pure_ (i := 0) (N := some 19) (v := ?_) (a' := ?_) #[true, false, false, false, false, false, false, false, false, false, false, false, false, false, false, false, false, false, false, false, false, false, false, false, false, false, false, false, false, false, false, false, false, false, false, false, false, false, false, false, false, false, false, false, false, false, false, false, false, false] rfl rfl (any_of HT_.out (by kernel_rfl)) (fun _ _ _ h => h) (Or.inl ⟨by rfl, ?_⟩) ?_ ?_
                      rotate_left
                      · intro w'
                        go_simp
                        with_reducible rfl
                      rotate_left
                      · simp only [Act.put, List.setIfInBounds_toArray, List.set_cons_zero, List.set_cons_succ, i64_w, i32_w]
                        rfl
                      refine pure_ (i := 1) (N := some 20) (v := ?_) (a' := ?_) #[true, true, false, false, false, false, false, false, false, false, false, false, false, false, false, false, false, false, false, false, false, false, false, false, false, false, false, false, false, false, false, false, false, false, false, false, false, false, false, false, false, false, false, false, false, false, false, false, false, false] rfl rfl (any_of HT_.out (by kernel_rfl)) (fun _ _ _ h => h) (Or.inl ⟨by rfl, ?_⟩) ?_ ?_
                      rotate_left
                      · intro w'
                        go_simp
                        with_reducible rfl
                      rotate_left
                      · simp only [Act.put, List.setIfInBounds_toArray, List.set_cons_zero, List.set_cons_succ, i64_w, i32_w]
                        rfl
                      refine pure_ (i := 2) (N := some 21) (v := ?_) (a' := ?_) #[true, true, true, false, false, false, false, false, false, false, false, false, false, false, false, false, false, false, false, false, false, false, false, false, false, false, false, false, false, false, false, false, false, false, false, false, false, false, false, false, false, false, false, false, false, false, false, false, false, false] rfl rfl (any_of HT_.out (by kernel_rfl)) (fun _ _ _ h => h) (Or.inl ⟨by rfl, ?_⟩) ?_ ?_
                      rotate_left
                      · intro w'
                        go_simp
                        with_reducible rfl
                      rotate_left
                      · simp only [Act.put, List.setIfInBounds_toArray, List.set_cons_zero, List.set_cons_succ, i64_w, i32_w]
                        rfl
                      refine pure_ (i := 3) (N := some 22) (v := ?_) (a' := ?_) #[true, true, true, true, false, false, false, false, false, false, false, false, false, false, false, false, false, false, false, false, false, false, false, false, false, false, false, false, false, false, false, false, false, false, false, false, false, false, false, false, false, false, false, false, false, false, false, false, false, false] rfl rfl (any_of HT_.out (by kernel_rfl)) (fun _ _ _ h => h) (Or.inl ⟨by rfl, ?_⟩) ?_ ?_
                      rotate_left
                      · intro w'
                        go_simp
                        with_reducible rfl
                      rotate_left
                      · simp only [Act.put, List.setIfInBounds_toArray, List.set_cons_zero, List.set_cons_succ, i64_w, i32_w]
                        rfl
                      refine take_ (i := 4) (N := some 23) (v := ?_) (a' := ?_) #[true, true, true, true, true, false, false, false, false, false, false, false, false, false, false, false, false, false, false, false, false, false, false, false, false, false, false, false, false, false, false, false, false, false, false, false, false, false, false, false, false, false, false, false, false, false, false, false, false, false] rfl rfl (take_ofW HT_.out HW_.out (by kernel_rfl)) (fun _ _ _ h => h) (Or.inl ⟨by rfl, ?_⟩) hHeld ?_ ?_
                      rotate_left
                      · rintro w' ⟨s0, s1, s2, s3, s4, s5, s6, s7, s8, s9, s10, s11, s12, s13, s14, s15, s16, s17, s18, s19, s20⟩
                        go_simp
                        with_reducible rfl
                      rotate_left
                      · simp only [Act.put, List.setIfInBounds_toArray, List.set_cons_zero, List.set_cons_succ, i64_w, i32_w]
                        rfl
                      refine pure_ (i := 5) (N := some 24) (v := ?_) (a' := ?_) #[true, true, true, true, true, true, false, false, false, false, false, false, false, false, false, false, false, false, false, false, false, false, false, false, false, false, false, false, false, false, false, false, false, false, false, false, false, false, false, false, false, false, false, false, false, false, false, false, false, false] rfl rfl (any_of HT_.out (by kernel_rfl)) (fun _ _ _ h => h) (Or.inl ⟨by rfl, ?_⟩) ?_ ?_
                      rotate_left
                      · intro w'
                        go_simp
                        with_reducible rfl
                      rotate_left
                      · simp only [Act.put, List.setIfInBounds_toArray, List.set_cons_zero, List.set_cons_succ, i64_w, i32_w]
                        rfl
                      refine pure_ (i := 6) (N := some 25) (v := ?_) (a' := ?_) #[true, true, true, true, true, true, true, false, false, false, false, false, false, false, false, false, false, false, false, false, false, false, false, false, false, false, false, false, false, false, false, false, false, false, false, false, false, false, false, false, false, false, false, false, false, false, false, false, false, false] rfl rfl (any_of HT_.out (by kernel_rfl)) (fun _ _ _ h => h) (Or.inl ⟨by rfl, ?_⟩) ?_ ?_
                      rotate_left
                      · intro w'
                        go_simp
                        with_reducible rfl
                      rotate_left
                      · simp only [Act.put, List.setIfInBounds_toArray, List.set_cons_zero, List.set_cons_succ, i64_w, i32_w]
                        rfl
                      refine pure_ (i := 7) (N := some 26) (v := ?_) (a' := ?_) #[true, true, true, true, true, true, true, true, false, false, false, false, false, false, false, false, false, false, false, false, false, false, false, false, false, false, false, false, false, false, false, false, false, false, false, false, false, false, false, false, false, false, false, false, false, false, false, false, false, false] rfl rfl (any_of HT_.out (by kernel_rfl)) (fun _ _ _ h => h) (Or.inl ⟨by rfl, ?_⟩) ?_ ?_
                      rotate_left
                      · intro w'
                        go_simp
                        with_reducible rfl
                      rotate_left
                      · simp only [Act.put, List.setIfInBounds_toArray, List.set_cons_zero, List.set_cons_succ, i64_w, i32_w]
                        rfl
                      refine take_ (i := 8) (N := some 27) (v := ?_) (a' := ?_) #[true, true, true, true, true, true, true, true, true, false, false, false, false, false, false, false, false, false, false, false, false, false, false, false, false, false, false, false, false, false, false, false, false, false, false, false, false, false, false, false, false, false, false, false, false, false, false, false, false, false] rfl rfl (take_ofW HT_.out HW_.out (by kernel_rfl)) (fun _ _ _ h => h) (Or.inl ⟨by rfl, ?_⟩) hHeld ?_ ?_
                      rotate_left
                      · rintro w' ⟨s0, s1, s2, s3, s4, s5, s6, s7, s8, s9, s10, s11, s12, s13, s14, s15, s16, s17, s18, s19, s20⟩
                        go_simp
                        with_reducible rfl
                      rotate_left
                      · simp only [Act.put, List.setIfInBounds_toArray, List.set_cons_zero, List.set_cons_succ, i64_w, i32_w]
                        rfl
                      refine pure_ (i := 9) (N := some 28) (v := ?_) (a' := ?_) #[true, true, true, true, true, true, true, true, true, true, false, false, false, false, false, false, false, false, false, false, false, false, false, false, false, false, false, false, false, false, false, false, false, false, false, false, false, false, false, false, false, false, false, false, false, false, false, false, false, false] rfl rfl (any_of HT_.out (by kernel_rfl)) (fun _ _ _ h => h) (Or.inl ⟨by rfl, ?_⟩) ?_ ?_
                      rotate_left
                      · intro w'
                        go_simp
                        with_reducible rfl
                      rotate_left
                      · simp only [Act.put, List.setIfInBounds_toArray, List.set_cons_zero, List.set_cons_succ, i64_w, i32_w]
                        rfl
                      refine pure_ (i := 10) (N := some 29) (v := ?_) (a' := ?_) #[true, true, true, true, true, true, true, true, true, true, true, false, false, false, false, false, false, false, false, false, false, false, false, false, false, false, false, false, false, false, false, false, false, false, false, false, false, false, false, false, false, false, false, false, false, false, false, false, false, false] rfl rfl (any_of HT_.out (by kernel_rfl)) (fun _ _ _ h => h) (Or.inl ⟨by rfl, ?_⟩) ?_ ?_
                      rotate_left
                      · intro w'
                        go_simp
                        with_reducible rfl
                      rotate_left
                      · simp only [Act.put, List.setIfInBounds_toArray, List.set_cons_zero, List.set_cons_succ, i64_w, i32_w]
                        rfl
                      refine take_ (i := 11) (N := some 30) (v := ?_) (a' := ?_) #[true, true, true, true, true, true, true, true, true, true, true, true, false, false, false, false, false, false, false, false, false, false, false, false, false, false, false, false, false, false, false, false, false, false, false, false, false, false, false, false, false, false, false, false, false, false, false, false, false, false] rfl rfl (take_ofW HT_.out HW_.out (by kernel_rfl)) (fun _ _ _ h => h) (Or.inl ⟨by rfl, ?_⟩) hHeld ?_ ?_
                      rotate_left
                      · rintro w' ⟨s0, s1, s2, s3, s4, s5, s6, s7, s8, s9, s10, s11, s12, s13, s14, s15, s16, s17, s18, s19, s20⟩
                        go_simp
                        with_reducible rfl
                      rotate_left
                      · simp only [Act.put, List.setIfInBounds_toArray, List.set_cons_zero, List.set_cons_succ, i64_w, i32_w]
                        rfl
                      refine one_ (i := 12) (N := some 31) #[true, true, true, true, true, true, true, true, true, true, true, true, true, false, false, false, false, false, false, false, false, false, false, false, false, false, false, false, false, false, false, false, false, false, false, false, false, false, false, false, false, false, false, false, false, false, false, false, false, false] rfl rfl (one_of HT_.out (by kernel_rfl)) (by decide) (fun K hK => ?_)
                      refine goes_ Try.func19 (by kernel_rfl) rfl #[.agg #[.bool true, .int .u32 t187, .int .u8 t188, .int .u8 t189, .int .u8 t190, .int .u16 t191, .int .u16 t192]] (by rfl) rfl rfl (by (try simp only [List.map_toArray, List.map_cons, List.map_nil]); first | done | rfl | (simp only [List.length_drop, List.length_take]; rfl)) ?_
                      with_reducible refine (capa_Top.calls true t187 t188 t189 t190 t191 t192 t211 _ A8.out).mono ?_
                      rintro e w65 ⟨rfl, hb⟩
                      refine ⟨_, rfl, ?_⟩
                      have n0_ := Aside0.mk (blk_below (g := gb185) (o := .cells #[.bool true, .int .u32 t178, .int .u8 t179, .int .u8 t180, .int .u8 t181, .int .u16 t182, .int .u16 t183] 27 (0, 0)) (by (with_reducible repeat (first | refine blk_drewN ?_ _ | refine blk_drew ?_ | refine blk_alloc ?_ _)); exact BK185.out) hb)
                      have n1_ := Aside0.mk (blk_below (g := gb193) (o := .cells #[.bool true, .int .u32 t187, .int .u8 t188, .int .u8 t189, .int .u8 t190, .int .u16 t191, .int .u16 t192] 27 (0, 0)) (by (with_reducible repeat (first | refine blk_drewN ?_ _ | refine blk_drew ?_ | refine blk_alloc ?_ _)); exact BK193.out) hb)
                      have n2_ := Aside0.mk (blk_below (g := gb201) (o := .cells #[.bool true, .int .u32 t195, .int .u8 t196, .int .u8 t197, .int .u8 t198, .int .u16 t199, .int .u16 t200] 27 (0, 0)) (by (with_reducible repeat (first | refine blk_drewN ?_ _ | refine blk_drew ?_ | refine blk_alloc ?_ _)); exact BK201.out) hb)
                      have n3_ := Aside0.mk (blk_below (g := gb210) (o := .cells #[.bool t202, .int .u32 t203, .int .u8 t204, .int .u8 t205, .int .u8 t206, .int .u16 t207, .int .u16 t208] 27 (0, 0)) (by (with_reducible repeat (first | refine blk_drewN ?_ _ | refine blk_drew ?_ | refine blk_alloc ?_ _)); exact BK210.out) hb)
                      have n4_ := Aside0.mk (below_step (by repeat (first | (with_reducible first | exact HB.out | apply below_alloc | apply pw_below_drewN | apply below_drew1 | refine below_set ?_ GE185.out | refine below_set ?_ GE193.out | refine below_set ?_ GE201.out | refine below_set ?_ GE210.out) | exact HB.out)) hb)
                      clear BK185
                      clear BK193
                      clear BK201
                      clear BK210
                      clear HB
                      have BK185 := n0_
                      have BK193 := n1_
                      have BK201 := n2_
                      have BK210 := n3_
                      have HB := n4_
                      clear n0_ n1_ n2_ n3_ n4_
                      (try clear hb)
                      (try clear hb2)
                      (try clear hk)
                      (try clear hi)
                      refine hK.out _ _ ⟨(blk_cell BK185.out 0).trans rfl, (blk_cell BK185.out 1).trans rfl, (blk_cell BK185.out 2).trans rfl, (blk_cell BK185.out 3).trans rfl, (blk_cell BK185.out 4).trans rfl, (blk_cell BK185.out 5).trans rfl, (blk_cell BK185.out 6).trans rfl, (blk_cell BK193.out 0).trans rfl, (blk_cell BK193.out 1).trans rfl, (blk_cell BK193.out 2).trans rfl, (blk_cell BK193.out 3).trans rfl, (blk_cell BK193.out 4).trans rfl, (blk_cell BK193.out 5).trans rfl, (blk_cell BK193.out 6).trans rfl, (blk_cell BK201.out 0).trans rfl, (blk_cell BK201.out 1).trans rfl, (blk_cell BK201.out 2).trans rfl, (blk_cell BK201.out 3).trans rfl, (blk_cell BK201.out 4).trans rfl, (blk_cell BK201.out 5).trans rfl, (blk_cell BK201.out 6).trans rfl⟩ (fun hHeld => ?_)
                      clear hK K
                      refine norm_ (a' := ?_) ?_ ?_
                      rotate_left
                      · show Act.put _ (some 31) _ = _
                        simp only [Act.put, List.setIfInBounds_toArray, List.set_cons_zero, List.set_cons_succ, i64_w, i32_w]
                        rfl
                      refine pure_ (i := 13) (N := some 32) (v := ?_) (a' := ?_) #[true, true, true, true, true, true, true, true, true, true, true, true, true, true, false, false, false, false, false, false, false, false, false, false, false, false, false, false, false, false, false, false, false, false, false, false, false, false, false, false, false, false, false, false, false, false, false, false, false, false] rfl rfl (any_of HT_.out (by kernel_rfl)) (fun _ _ _ h => h) (Or.inl ⟨by rfl, ?_⟩) ?_ ?_
                      rotate_left
                      · intro w'
                        go_simp
                        with_reducible rfl
                      rotate_left
                      · simp only [Act.put, List.setIfInBounds_toArray, List.set_cons_zero, List.set_cons_succ, i64_w, i32_w]
                        rfl
                      refine pure_ (i := 14) (N := some 33) (v := ?_) (a' := ?_) #[true, true, true, true, true, true, true, true, true, true, true, true, true, true, true, false, false, false, false, false, false, false, false, false, false, false, false, false, false, false, false, false, false, false, false, false, false, false, false, false, false, false, false, false, false, false, false, false, false, false] rfl rfl (any_of HT_.out (by kernel_rfl)) (fun _ _ _ h => h) (Or.inl ⟨by rfl, ?_⟩) ?_ ?_
                      rotate_left
                      · intro w'
                        go_simp
                        with_reducible rfl
                      rotate_left
                      · simp only [Act.put, List.setIfInBounds_toArray, List.set_cons_zero, List.set_cons_succ, i64_w, i32_w]
                        rfl
                      refine pure_ (i := 15) (N := some 34) (v := ?_) (a' := ?_) #[true, true, true, true, true, true, true, true, true, true, true, true, true, true, true, true, false, false, false, false, false, false, false, false, false, false, false, false, false, false, false, false, false, false, false, false, false, false, false, false, false, false, false, false, false, false, false, false, false, false] rfl rfl (any_of HT_.out (by kernel_rfl)) (fun _ _ _ h => h) (Or.inl ⟨by rfl, ?_⟩) ?_ ?_
                      rotate_left
                      · intro w'
                        go_simp
                        with_reducible rfl
                      rotate_left
                      · simp only [Act.put, List.setIfInBounds_toArray, List.set_cons_zero, List.set_cons_succ, i64_w, i32_w]
                        rfl
                      refine pure_ (i := 16) (N := some 35) (v := ?_) (a' := ?_) #[true, true, true, true, true, true, true, true, true, true, true, true, true, true, true, true, true, false, false, false, false, false, false, false, false, false, false, false, false, false, false, false, false, false, false, false, false, false, false, false, false, false, false, false, false, false, false, false, false, false] rfl rfl (any_of HT_.out (by kernel_rfl)) (fun _ _ _ h => h) (Or.inl ⟨by rfl, ?_⟩) ?_ ?_
                      rotate_left
                      · intro w'
                        go_simp
                        with_reducible rfl
                      rotate_left
                      · simp only [Act.put, List.setIfInBounds_toArray, List.set_cons_zero, List.set_cons_succ, i64_w, i32_w]
                        rfl
                      refine take_ (i := 17) (N := some 36) (v := ?_) (a' := ?_) #[true, true, true, true, true, true, true, true, true, true, true, true, true, true, true, true, true, true, false, false, false, false, false, false, false, false, false, false, false, false, false, false, false, false, false, false, false, false, false, false, false, false, false, false, false, false, false, false, false, false] rfl rfl (take_ofW HT_.out HW_.out (by kernel_rfl)) (fun _ _ _ h => h) (Or.inl ⟨by rfl, ?_⟩) hHeld ?_ ?_
                      rotate_left
                      · rintro w' ⟨s0, s1, s2, s3, s4, s5, s6, s7, s8, s9, s10, s11, s12, s13, s14, s15, s16, s17, s18, s19, s20⟩
                        go_simp
                        with_reducible rfl
                      rotate_left
                      · simp only [Act.put, List.setIfInBounds_toArray, List.set_cons_zero, List.set_cons_succ, i64_w, i32_w]
                        rfl
                      refine pure_ (i := 18) (N := some 37) (v := ?_) (a' := ?_) #[true, true, true, true, true, true, true, true, true, true, true, true, true, true, true, true, true, true, true, false, false, false, false, false, false, false, false, false, false, false, false, false, false, false, false, false, false, false, false, false, false, false, false, false, false, false, false, false, false, false] rfl rfl (any_of HT_.out (by kernel_rfl)) (fun _ _ _ h => h) (Or.inl ⟨by rfl, ?_⟩) ?_ ?_
                      rotate_left
                      · intro w'
                        go_simp
                        with_reducible rfl
                      rotate_left
                      · simp only [Act.put, List.setIfInBounds_toArray, List.set_cons_zero, List.set_cons_succ, i64_w, i32_w]
                        rfl
                      refine pure_ (i := 19) (N := some 38) (v := ?_) (a' := ?_) #[true, true, true, true, true, true, true, true, true, true, true, true, true, true, true, true, true, true, true, true, false, false, false, false, false, false, false, false, false, false, false, false, false, false, false, false, false, false, false, false, false, false, false, false, false, false, false, false, false, false] rfl rfl (any_of HT_.out (by kernel_rfl)) (fun _ _ _ h => h) (Or.inl ⟨by rfl, ?_⟩) ?_ ?_
                      rotate_left
                      · intro w'
                        go_simp
                        with_reducible rfl
                      rotate_left
                      · simp only [Act.put, List.setIfInBounds_toArray, List.set_cons_zero, List.set_cons_succ, i64_w, i32_w]
                        rfl
                      refine pure_ (i := 20) (N := some 39) (v := ?_) (a' := ?_) #[true, true, true, true, true, true, true, true, true, true, true, true, true, true, true, true, true, true, true, true, true, false, false, false, false, false, false, false, false, false, false, false, false, false, false, false, false, false, false, false, false, false, false, false, false, false, false, false, false, false] rfl rfl (any_of HT_.out (by kernel_rfl)) (fun _ _ _ h => h) (Or.inl ⟨by rfl, ?_⟩) ?_ ?_
                      rotate_left
                      · intro w'
                        go_simp
                        with_reducible rfl
                      rotate_left
                      · simp only [Act.put, List.setIfInBounds_toArray, List.set_cons_zero, List.set_cons_succ, i64_w, i32_w]
                        rfl
                      refine pure_ (i := 21) (N := some 40) (v := ?_) (a' := ?_) #[true, true, true, true, true, true, true, true, true, true, true, true, true, true, true, true, true, true, true, true, true, true, false, false, false, false, false, false, false, false, false, false, false, false, false, false, false, false, false, false, false, false, false, false, false, false, false, false, false, false] rfl rfl (any_of HT_.out (by kernel_rfl)) (fun _ _ _ h => h) (Or.inl ⟨by rfl, ?_⟩) ?_ ?_
                      rotate_left
                      · intro w'
                        go_simp
                        with_reducible rfl
                      rotate_left
                      · simp only [Act.put, List.setIfInBounds_toArray, List.set_cons_zero, List.set_cons_succ, i64_w, i32_w]
                        rfl
                      refine take_ (i := 22) (N := some 41) (v := ?_) (a' := ?_) #[true, true, true, true, true, true, true, true, true, true, true, true, true, true, true, true, true, true, true, true, true, true, true, false, false, false, false, false, false, false, false, false, false, false, false, false, false, false, false, false, false, false, false, false, false, false, false, false, false, false] rfl rfl (take_ofW HT_.out HW_.out (by kernel_rfl)) (fun _ _ _ h => h) (Or.inl ⟨by rfl, ?_⟩) hHeld ?_ ?_
                      rotate_left
                      · rintro w' ⟨s0, s1, s2, s3, s4, s5, s6, s7, s8, s9, s10, s11, s12, s13, s14, s15, s16, s17, s18, s19, s20⟩
                        go_simp
                        with_reducible rfl
                      rotate_left
                      · simp only [Act.put, List.setIfInBounds_toArray, List.set_cons_zero, List.set_cons_succ, i64_w, i32_w]
                        rfl
                      refine pure_ (i := 23) (N := some 42) (v := ?_) (a' := ?_) #[true, true, true, true, true, true, true, true, true, true, true, true, true, true, true, true, true, true, true, true, true, true, true, true, false, false, false, false, false, false, false, false, false, false, false, false, false, false, false, false, false, false, false, false, false, false, false, false, false, false] rfl rfl (any_of HT_.out (by kernel_rfl)) (fun _ _ _ h => h) (Or.inl ⟨by rfl, ?_⟩) ?_ ?_
                      rotate_left
                      · intro w'
                        go_simp
                        with_reducible rfl
                      rotate_left
                      · simp only [Act.put, List.setIfInBounds_toArray, List.set_cons_zero, List.set_cons_succ, i64_w, i32_w]
                        rfl
                      refine pure_ (i := 24) (N := some 43) (v := ?_) (a' := ?_) #[true, true, true, true, true, true, true, true, true, true, true, true, true, true, true, true, true, true, true, true, true, true, true, true, true, false, false, false, false, false, false, false, false, false, false, false, false, false, false, false, false, false, false, false, false, false, false, false, false, false] rfl rfl (any_of HT_.out (by kernel_rfl)) (fun _ _ _ h => h) (Or.inl ⟨by rfl, ?_⟩) ?_ ?_
                      rotate_left
                      · intro w'
                        go_simp
                        with_reducible rfl
                      rotate_left
                      · simp only [Act.put, List.setIfInBounds_toArray, List.set_cons_zero, List.set_cons_succ, i64_w, i32_w]
                        rfl
                      refine take_ (i := 25) (N := some 44) (v := ?_) (a' := ?_) #[true, true, true, true, true, true, true, true, true, true, true, true, true, true, true, true, true, true, true, true, true, true, true, true, true, true, false, false, false, false, false, false, false, false, false, false, false, false, false, false, false, false, false, false, false, false, false, false, false, false] rfl rfl (take_ofW HT_.out HW_.out (by kernel_rfl)) (fun _ _ _ h => h) (Or.inl ⟨by rfl, ?_⟩) hHeld ?_ ?_
                      rotate_left
                      · rintro w' ⟨s0, s1, s2, s3, s4, s5, s6, s7, s8, s9, s10, s11, s12, s13, s14, s15, s16, s17, s18, s19, s20⟩
                        go_simp
                        with_reducible rfl
                      rotate_left
                      · simp only [Act.put, List.setIfInBounds_toArray, List.set_cons_zero, List.set_cons_succ, i64_w, i32_w]
                        rfl
                      refine take_ (i := 27) (N := some 46) (v := ?_) (a' := ?_) #[true, true, true, true, true, true, true, true, true, true, true, true, true, true, true, true, true, true, true, true, true, true, true, true, true, true, false, true, false, false, false, false, false, false, false, false, false, false, false, false, false, false, false, false, false, false, false, false, false, false] rfl rfl (take_ofW HT_.out HW_.out (by kernel_rfl)) (fun _ _ _ h => h) (Or.inl ⟨by rfl, ?_⟩) hHeld ?_ ?_
                      rotate_left
                      · rintro w' ⟨s0, s1, s2, s3, s4, s5, s6, s7, s8, s9, s10, s11, s12, s13, s14, s15, s16, s17, s18, s19, s20⟩
                        go_simp
                        with_reducible rfl
                      rotate_left
                      · simp only [Act.put, List.setIfInBounds_toArray, List.set_cons_zero, List.set_cons_succ, i64_w, i32_w]
                        rfl
                      refine one_ (i := 26) (N := some 45) #[true, true, true, true, true, true, true, true, true, true, true, true, true, true, true, true, true, true, true, true, true, true, true, true, true, true, true, true, false, false, false, false, false, false, false, false, false, false, false, false, false, false, false, false, false, false, false, false, false, false] rfl rfl (one_of HT_.out (by kernel_rfl)) (by decide) (fun K hK => ?_)
                      refine goes_ Try.func27 (by kernel_rfl) rfl #[.agg #[.bool true, .int .u32 t195, .int .u8 t196, .int .u8 t197, .int .u8 t198, .int .u16 t199, .int .u16 t200]] (by rfl) rfl rfl (by (try simp only [List.map_toArray, List.map_cons, List.map_nil]); first | done | rfl | (simp only [List.length_drop, List.length_take]; rfl)) ?_
                      with_reducible refine (capa_Unseal.calls true t195 t196 t197 t198 t199 t200 t212 t213 t214 t215 t216 t217 t218 _ A12.out).mono ?_
                      rintro e w66 ⟨rfl, hb⟩
                      refine ⟨_, rfl, ?_⟩
                      have n0_ := Aside0.mk (blk_below (g := gb185) (o := .cells #[.bool true, .int .u32 t178, .int .u8 t179, .int .u8 t180, .int .u8 t181, .int .u16 t182, .int .u16 t183] 27 (0, 0)) (by (with_reducible repeat (first | refine blk_drewN ?_ _ | refine blk_drew ?_ | refine blk_alloc ?_ _)); exact BK185.out) hb)
                      have n1_ := Aside0.mk (blk_below (g := gb193) (o := .cells #[.bool true, .int .u32 t187, .int .u8 t188, .int .u8 t189, .int .u8 t190, .int .u16 t191, .int .u16 t192] 27 (0, 0)) (by (with_reducible repeat (first | refine blk_drewN ?_ _ | refine blk_drew ?_ | refine blk_alloc ?_ _)); exact BK193.out) hb)
                      have n2_ := Aside0.mk (blk_below (g := gb201) (o := .cells #[.bool true, .int .u32 t195, .int .u8 t196, .int .u8 t197, .int .u8 t198, .int .u16 t199, .int .u16 t200] 27 (0, 0)) (by (with_reducible repeat (first | refine blk_drewN ?_ _ | refine blk_drew ?_ | refine blk_alloc ?_ _)); exact BK201.out) hb)
                      have n3_ := Aside0.mk (blk_below (g := gb210) (o := .cells #[.bool t202, .int .u32 t203, .int .u8 t204, .int .u8 t205, .int .u8 t206, .int .u16 t207, .int .u16 t208] 27 (0, 0)) (by (with_reducible repeat (first | refine blk_drewN ?_ _ | refine blk_drew ?_ | refine blk_alloc ?_ _)); exact BK210.out) hb)
                      have n4_ := Aside0.mk (below_step (by repeat (first | (with_reducible first | exact HB.out | apply below_alloc | apply pw_below_drewN | apply below_drew1 | refine below_set ?_ GE185.out | refine below_set ?_ GE193.out | refine below_set ?_ GE201.out | refine below_set ?_ GE210.out) | exact HB.out)) hb)
                      clear BK185
                      clear BK193
                      clear BK201
                      clear BK210
                      clear HB
                      have BK185 := n0_
                      have BK193 := n1_
                      have BK201 := n2_
                      have BK210 := n3_
                      have HB := n4_
                      clear n0_ n1_ n2_ n3_ n4_
                      (try clear hb)
                      (try clear hb2)
                      (try clear hk)
                      (try clear hi)
                      refine hK.out _ _ ⟨(blk_cell BK185.out 0).trans rfl, (blk_cell BK185.out 1).trans rfl, (blk_cell BK185.out 2).trans rfl, (blk_cell BK185.out 3).trans rfl, (blk_cell BK185.out 4).trans rfl, (blk_cell BK185.out 5).trans rfl, (blk_cell BK185.out 6).trans rfl, (blk_cell BK193.out 0).trans rfl, (blk_cell BK193.out 1).trans rfl, (blk_cell BK193.out 2).trans rfl, (blk_cell BK193.out 3).trans rfl, (blk_cell BK193.out 4).trans rfl, (blk_cell BK193.out 5).trans rfl, (blk_cell BK193.out 6).trans rfl, (blk_cell BK201.out 0).trans rfl, (blk_cell BK201.out 1).trans rfl, (blk_cell BK201.out 2).trans rfl, (blk_cell BK201.out 3).trans rfl, (blk_cell BK201.out 4).trans rfl, (blk_cell BK201.out 5).trans rfl, (blk_cell BK201.out 6).trans rfl⟩ (fun hHeld => ?_)
                      clear hK K
                      refine norm_ (a' := ?_) ?_ ?_
                      rotate_left
                      · show Act.put _ (some 45) _ = _
                        simp only [Act.put, List.setIfInBounds_toArray, List.set_cons_zero, List.set_cons_succ, i64_w, i32_w]
                        rfl
                      refine pure_ (i := 28) (N := some 47) (v := ?_) (a' := ?_) #[true, true, true, true, true, true, true, true, true, true, true, true, true, true, true, true, true, true, true, true, true, true, true, true, true, true, true, true, true, false, false, false, false, false, false, false, false, false, false, false, false, false, false, false, false, false, false, false, false, false] rfl rfl (any_of HT_.out (by kernel_rfl)) (fun _ _ _ h => h) (Or.inl ⟨by rfl, ?_⟩) ?_ ?_
                      rotate_left
                      · intro w'
                        go_simp
                        with_reducible rfl
                      rotate_left
                      · simp only [Act.put, List.setIfInBounds_toArray, List.set_cons_zero, List.set_cons_succ, i64_w, i32_w]
                        rfl
                      refine pure_ (i := 29) (N := some 48) (v := ?_) (a' := ?_) #[true, true, true, true, true, true, true, true, true, true, true, true, true, true, true, true, true, true, true, true, true, true, true, true, true, true, true, true, true, true, false, false, false, false, false, false, false, false, false, false, false, false, false, false, false, false, false, false, false, false] rfl rfl (any_of HT_.out (by kernel_rfl)) (fun _ _ _ h => h) (Or.inl ⟨by rfl, ?_⟩) ?_ ?_
                      rotate_left
                      · intro w'
                        go_simp
                        with_reducible rfl
                      rotate_left
                      · simp only [Act.put, List.setIfInBounds_toArray, List.set_cons_zero, List.set_cons_succ, i64_w, i32_w]
                        rfl
                      refine pure_ (i := 30) (N := some 49) (v := ?_) (a' := ?_) #[true, true, true, true, true, true, true, true, true, true, true, true, true, true, true, true, true, true, true, true, true, true, true, true, true, true, true, true, true, true, true, false, false, false, false, false, false, false, false, false, false, false, false, false, false, false, false, false, false, false] rfl rfl (any_of HT_.out (by kernel_rfl)) (fun _ _ _ h => h) (Or.inl ⟨by rfl, ?_⟩) ?_ ?_
                      rotate_left
                      · intro w'
                        go_simp
                        with_reducible rfl
                      rotate_left
                      · simp only [Act.put, List.setIfInBounds_toArray, List.set_cons_zero, List.set_cons_succ, i64_w, i32_w]
                        rfl
                      refine pure_ (i := 31) (N := some 50) (v := ?_) (a' := ?_) #[true, true, true, true, true, true, true, true, true, true, true, true, true, true, true, true, true, true, true, true, true, true, true, true, true, true, true, true, true, true, true, true, false, false, false, false, false, false, false, false, false, false, false, false, false, false, false, false, false, false] rfl rfl (any_of HT_.out (by kernel_rfl)) (fun _ _ _ h => h) (Or.inl ⟨by rfl, ?_⟩) ?_ ?_
                      rotate_left
                      · intro w'
                        go_simp
                        with_reducible rfl
                      rotate_left
                      · simp only [Act.put, List.setIfInBounds_toArray, List.set_cons_zero, List.set_cons_succ, i64_w, i32_w]
                        rfl
                      refine pure_ (i := 32) (N := some 51) (v := ?_) (a' := ?_) #[true, true, true, true, true, true, true, true, true, true, true, true, true, true, true, true, true, true, true, true, true, true, true, true, true, true, true, true, true, true, true, true, true, false, false, false, false, false, false, false, false, false, false, false, false, false, false, false, false, false] rfl rfl (any_of HT_.out (by kernel_rfl)) (fun _ _ _ h => h) (Or.inl ⟨by rfl, ?_⟩) ?_ ?_
                      rotate_left
                      · intro w'
                        go_simp
                        with_reducible rfl
                      rotate_left
                      · simp only [Act.put, List.setIfInBounds_toArray, List.set_cons_zero, List.set_cons_succ, i64_w, i32_w]
                        rfl
                      refine pure_ (i := 33) (N := some 52) (v := ?_) (a' := ?_) #[true, true, true, true, true, true, true, true, true, true, true, true, true, true, true, true, true, true, true, true, true, true, true, true, true, true, true, true, true, true, true, true, true, true, false, false, false, false, false, false, false, false, false, false, false, false, false, false, false, false] rfl rfl (any_of HT_.out (by kernel_rfl)) (fun _ _ _ h => h) (Or.inl ⟨by rfl, ?_⟩) ?_ ?_
                      rotate_left
                      · intro w'
                        go_simp
                        with_reducible rfl
                      rotate_left
                      · simp only [Act.put, List.setIfInBounds_toArray, List.set_cons_zero, List.set_cons_succ, i64_w, i32_w]
                        rfl
                      refine pure_ (i := 34) (N := some 53) (v := ?_) (a' := ?_) #[true, true, true, true, true, true, true, true, true, true, true, true, true, true, true, true, true, true, true, true, true, true, true, true, true, true, true, true, true, true, true, true, true, true, true, false, false, false, false, false, false, false, false, false, false, false, false, false, false, false] rfl rfl (any_of HT_.out (by kernel_rfl)) (fun _ _ _ h => h) (Or.inl ⟨by rfl, ?_⟩) ?_ ?_
                      rotate_left
                      · intro w'
                        go_simp
                        with_reducible rfl
                      rotate_left
                      · simp only [Act.put, List.setIfInBounds_toArray, List.set_cons_zero, List.set_cons_succ, i64_w, i32_w]
                        rfl
                      refine take_ (i := 35) (N := some 54) (v := ?_) (a' := ?_) #[true, true, true, true, true, true, true, true, true, true, true, true, true, true, true, true, true, true, true, true, true, true, true, true, true, true, true, true, true, true, true, true, true, true, true, true, false, false, false, false, false, false, false, false, false, false, false, false, false, false] rfl rfl (take_ofW HT_.out HW_.out (by kernel_rfl)) (fun _ _ _ h => h) (Or.inl ⟨by rfl, ?_⟩) hHeld ?_ ?_
                      rotate_left
                      · rintro w' ⟨s0, s1, s2, s3, s4, s5, s6, s7, s8, s9, s10, s11, s12, s13, s14, s15, s16, s17, s18, s19, s20⟩
                        go_simp
                        with_reducible rfl
                      rotate_left
                      · simp only [Act.put, List.setIfInBounds_toArray, List.set_cons_zero, List.set_cons_succ, i64_w, i32_w]
                        rfl
                      refine one_ (i := 36) (N := some 55) #[true, true, true, true, true, true, true, true, true, true, true, true, true, true, true, true, true, true, true, true, true, true, true, true, true, true, true, true, true, true, true, true, true, true, true, true, true, false, false, false, false, false, false, false, false, false, false, false, false, false] rfl rfl (one_of HT_.out (by kernel_rfl)) (by decide) (fun K hK => ?_)
                      refine goes_ Try.func15 (by kernel_rfl) rfl #[.agg #[.bool true, .int .u32 t178, .int .u8 t179, .int .u8 t180, .int .u8 t181, .int .u16 t182, .int .u16 t183], .int .u8 8, .int .u64 4096, .int .u64 1] (by rfl) rfl rfl (by (try simp only [List.map_toArray, List.map_cons, List.map_nil]); first | done | rfl | (simp only [List.length_drop, List.length_take]; rfl)) ?_
                      with_reducible refine (capa_May.calls k true t178 t179 t180 t181 t182 t183 8 4096 1 false _ A15.out).mono ?_
                      rintro e w67 ⟨rfl, hb⟩
                      refine ⟨_, rfl, ?_⟩
                      have n0_ := Aside0.mk (blk_below (g := gb185) (o := .cells #[.bool true, .int .u32 t178, .int .u8 t179, .int .u8 t180, .int .u8 t181, .int .u16 t182, .int .u16 t183] 27 (0, 0)) (by (with_reducible repeat (first | refine blk_drewN ?_ _ | refine blk_drew ?_ | refine blk_alloc ?_ _)); exact BK185.out) hb)
                      have n1_ := Aside0.mk (blk_below (g := gb193) (o := .cells #[.bool true, .int .u32 t187, .int .u8 t188, .int .u8 t189, .int .u8 t190, .int .u16 t191, .int .u16 t192] 27 (0, 0)) (by (with_reducible repeat (first | refine blk_drewN ?_ _ | refine blk_drew ?_ | refine blk_alloc ?_ _)); exact BK193.out) hb)
                      have n2_ := Aside0.mk (blk_below (g := gb201) (o := .cells #[.bool true, .int .u32 t195, .int .u8 t196, .int .u8 t197, .int .u8 t198, .int .u16 t199, .int .u16 t200] 27 (0, 0)) (by (with_reducible repeat (first | refine blk_drewN ?_ _ | refine blk_drew ?_ | refine blk_alloc ?_ _)); exact BK201.out) hb)
                      have n3_ := Aside0.mk (blk_below (g := gb210) (o := .cells #[.bool t202, .int .u32 t203, .int .u8 t204, .int .u8 t205, .int .u8 t206, .int .u16 t207, .int .u16 t208] 27 (0, 0)) (by (with_reducible repeat (first | refine blk_drewN ?_ _ | refine blk_drew ?_ | refine blk_alloc ?_ _)); exact BK210.out) hb)
                      have n4_ := Aside0.mk (below_step (by repeat (first | (with_reducible first | exact HB.out | apply below_alloc | apply pw_below_drewN | apply below_drew1 | refine below_set ?_ GE185.out | refine below_set ?_ GE193.out | refine below_set ?_ GE201.out | refine below_set ?_ GE210.out) | exact HB.out)) hb)
                      clear BK185
                      clear BK193
                      clear BK201
                      clear BK210
                      clear HB
                      have BK185 := n0_
                      have BK193 := n1_
                      have BK201 := n2_
                      have BK210 := n3_
                      have HB := n4_
                      clear n0_ n1_ n2_ n3_ n4_
                      (try clear hb)
                      (try clear hb2)
                      (try clear hk)
                      (try clear hi)
                      refine hK.out _ _ ⟨(blk_cell BK185.out 0).trans rfl, (blk_cell BK185.out 1).trans rfl, (blk_cell BK185.out 2).trans rfl, (blk_cell BK185.out 3).trans rfl, (blk_cell BK185.out 4).trans rfl, (blk_cell BK185.out 5).trans rfl, (blk_cell BK185.out 6).trans rfl, (blk_cell BK193.out 0).trans rfl, (blk_cell BK193.out 1).trans rfl, (blk_cell BK193.out 2).trans rfl, (blk_cell BK193.out 3).trans rfl, (blk_cell BK193.out 4).trans rfl, (blk_cell BK193.out 5).trans rfl, (blk_cell BK193.out 6).trans rfl, (blk_cell BK201.out 0).trans rfl, (blk_cell BK201.out 1).trans rfl, (blk_cell BK201.out 2).trans rfl, (blk_cell BK201.out 3).trans rfl, (blk_cell BK201.out 4).trans rfl, (blk_cell BK201.out 5).trans rfl, (blk_cell BK201.out 6).trans rfl⟩ (fun hHeld => ?_)
                      clear hK K
                      refine norm_ (a' := ?_) ?_ ?_
                      rotate_left
                      · show Act.put _ (some 55) _ = _
                        simp only [Act.put, List.setIfInBounds_toArray, List.set_cons_zero, List.set_cons_succ, i64_w, i32_w]
                        rfl
                      refine pure_ (i := 37) (N := some 56) (v := ?_) (a' := ?_) #[true, true, true, true, true, true, true, true, true, true, true, true, true, true, true, true, true, true, true, true, true, true, true, true, true, true, true, true, true, true, true, true, true, true, true, true, true, true, false, false, false, false, false, false, false, false, false, false, false, false] rfl rfl (any_of HT_.out (by kernel_rfl)) (fun _ _ _ h => h) (Or.inl ⟨by rfl, ?_⟩) ?_ ?_
                      rotate_left
                      · intro w'
                        go_simp
                        with_reducible rfl
                      rotate_left
                      · simp only [Act.put, List.setIfInBounds_toArray, List.set_cons_zero, List.set_cons_succ, i64_w, i32_w]
                        rfl
                      refine pure_ (i := 38) (N := some 57) (v := ?_) (a' := ?_) #[true, true, true, true, true, true, true, true, true, true, true, true, true, true, true, true, true, true, true, true, true, true, true, true, true, true, true, true, true, true, true, true, true, true, true, true, true, true, true, false, false, false, false, false, false, false, false, false, false, false] rfl rfl (any_of HT_.out (by kernel_rfl)) (fun _ _ _ h => h) (Or.inl ⟨by rfl, ?_⟩) ?_ ?_
                      rotate_left
                      · intro w'
                        go_simp
                        with_reducible rfl
                      rotate_left
                      · simp only [Act.put, List.setIfInBounds_toArray, List.set_cons_zero, List.set_cons_succ, i64_w, i32_w]
                        rfl
                      refine pure_ (i := 39) (N := some 58) (v := ?_) (a' := ?_) #[true, true, true, true, true, true, true, true, true, true, true, true, true, true, true, true, true, true, true, true, true, true, true, true, true, true, true, true, true, true, true, true, true, true, true, true, true, true, true, true, false, false, false, false, false, false, false, false, false, false] rfl rfl (any_of HT_.out (by kernel_rfl)) (fun _ _ _ h => h) (Or.inl ⟨by rfl, ?_⟩) ?_ ?_
                      rotate_left
                      · intro w'
                        go_simp
                        with_reducible rfl
                      rotate_left
                      · simp only [Act.put, List.setIfInBounds_toArray, List.set_cons_zero, List.set_cons_succ, i64_w, i32_w]
                        rfl
                      refine pure_ (i := 41) (N := some 60) (v := ?_) (a' := ?_) #[true, true, true, true, true, true, true, true, true, true, true, true, true, true, true, true, true, true, true, true, true, true, true, true, true, true, true, true, true, true, true, true, true, true, true, true, true, true, true, true, false, true, false, false, false, false, false, false, false, false] rfl rfl (any_of HT_.out (by kernel_rfl)) (fun _ _ _ h => h) (Or.inl ⟨by rfl, ?_⟩) ?_ ?_
                      rotate_left
                      · intro w'
                        go_simp
                        with_reducible rfl
                      rotate_left
                      · simp only [Act.put, List.setIfInBounds_toArray, List.set_cons_zero, List.set_cons_succ, i64_w, i32_w]
                        rfl
                      refine one_ (i := 40) (N := some 59) #[true, true, true, true, true, true, true, true, true, true, true, true, true, true, true, true, true, true, true, true, true, true, true, true, true, true, true, true, true, true, true, true, true, true, true, true, true, true, true, true, true, true, false, false, false, false, false, false, false, false] rfl rfl (one_of HT_.out (by kernel_rfl)) (by decide) (fun K hK => ?_)
                      refine goes_ Try.func53 (by kernel_rfl) rfl #[] (by rfl) rfl rfl (by (try simp only [List.map_toArray, List.map_cons, List.map_nil]); first | done | rfl | (simp only [List.length_drop, List.length_take]; rfl)) ?_
                      with_reducible refine (capa_Null.calls  t220 t221 t222 t223 t224 t225 t226 _ A41.out).mono ?_
                      rintro e w68 ⟨rfl, hb⟩
                      refine ⟨_, rfl, ?_⟩
                      have n0_ := Aside0.mk (blk_below (g := gb185) (o := .cells #[.bool true, .int .u32 t178, .int .u8 t179, .int .u8 t180, .int .u8 t181, .int .u16 t182, .int .u16 t183] 27 (0, 0)) (by (with_reducible repeat (first | refine blk_drewN ?_ _ | refine blk_drew ?_ | refine blk_alloc ?_ _)); exact BK185.out) hb)
                      have n1_ := Aside0.mk (blk_below (g := gb193) (o := .cells #[.bool true, .int .u32 t187, .int .u8 t188, .int .u8 t189, .int .u8 t190, .int .u16 t191, .int .u16 t192] 27 (0, 0)) (by (with_reducible repeat (first | refine blk_drewN ?_ _ | refine blk_drew ?_ | refine blk_alloc ?_ _)); exact BK193.out) hb)
                      have n2_ := Aside0.mk (blk_below (g := gb201) (o := .cells #[.bool true, .int .u32 t195, .int .u8 t196, .int .u8 t197, .int .u8 t198, .int .u16 t199, .int .u16 t200] 27 (0, 0)) (by (with_reducible repeat (first | refine blk_drewN ?_ _ | refine blk_drew ?_ | refine blk_alloc ?_ _)); exact BK201.out) hb)
                      have n3_ := Aside0.mk (blk_below (g := gb210) (o := .cells #[.bool t202, .int .u32 t203, .int .u8 t204, .int .u8 t205, .int .u8 t206, .int .u16 t207, .int .u16 t208] 27 (0, 0)) (by (with_reducible repeat (first | refine blk_drewN ?_ _ | refine blk_drew ?_ | refine blk_alloc ?_ _)); exact BK210.out) hb)
                      have n4_ := Aside0.mk (below_step (by repeat (first | (with_reducible first | exact HB.out | apply below_alloc | apply pw_below_drewN | apply below_drew1 | refine below_set ?_ GE185.out | refine below_set ?_ GE193.out | refine below_set ?_ GE201.out | refine below_set ?_ GE210.out) | exact HB.out)) hb)
                      clear BK185
                      clear BK193
                      clear BK201
                      clear BK210
                      clear HB
                      have BK185 := n0_
                      have BK193 := n1_
                      have BK201 := n2_
                      have BK210 := n3_
                      have HB := n4_
                      clear n0_ n1_ n2_ n3_ n4_
                      (try clear hb)
                      (try clear hb2)
                      (try clear hk)
                      (try clear hi)
                      refine hK.out _ _ ⟨(blk_cell BK185.out 0).trans rfl, (blk_cell BK185.out 1).trans rfl, (blk_cell BK185.out 2).trans rfl, (blk_cell BK185.out 3).trans rfl, (blk_cell BK185.out 4).trans rfl, (blk_cell BK185.out 5).trans rfl, (blk_cell BK185.out 6).trans rfl, (blk_cell BK193.out 0).trans rfl, (blk_cell BK193.out 1).trans rfl, (blk_cell BK193.out 2).trans rfl, (blk_cell BK193.out 3).trans rfl, (blk_cell BK193.out 4).trans rfl, (blk_cell BK193.out 5).trans rfl, (blk_cell BK193.out 6).trans rfl, (blk_cell BK201.out 0).trans rfl, (blk_cell BK201.out 1).trans rfl, (blk_cell BK201.out 2).trans rfl, (blk_cell BK201.out 3).trans rfl, (blk_cell BK201.out 4).trans rfl, (blk_cell BK201.out 5).trans rfl, (blk_cell BK201.out 6).trans rfl⟩ (fun hHeld => ?_)
                      clear hK K
                      refine norm_ (a' := ?_) ?_ ?_
                      rotate_left
                      · show Act.put _ (some 59) _ = _
                        simp only [Act.put, List.setIfInBounds_toArray, List.set_cons_zero, List.set_cons_succ, i64_w, i32_w]
                        rfl
                      refine pure_ (i := 42) (N := some 61) (v := ?_) (a' := ?_) #[true, true, true, true, true, true, true, true, true, true, true, true, true, true, true, true, true, true, true, true, true, true, true, true, true, true, true, true, true, true, true, true, true, true, true, true, true, true, true, true, true, true, true, false, false, false, false, false, false, false] rfl rfl (any_of HT_.out (by kernel_rfl)) (fun _ _ _ h => h) (Or.inl ⟨by rfl, ?_⟩) ?_ ?_
                      rotate_left
                      · intro w'
                        go_simp
                        with_reducible rfl
                      rotate_left
                      · simp only [Act.put, List.setIfInBounds_toArray, List.set_cons_zero, List.set_cons_succ, i64_w, i32_w]
                        rfl
                      refine pure_ (i := 43) (N := some 62) (v := ?_) (a' := ?_) #[true, true, true, true, true, true, true, true, true, true, true, true, true, true, true, true, true, true, true, true, true, true, true, true, true, true, true, true, true, true, true, true, true, true, true, true, true, true, true, true, true, true, true, true, false, false, false, false, false, false] rfl rfl (any_of HT_.out (by kernel_rfl)) (fun _ _ _ h => h) (Or.inl ⟨by rfl, ?_⟩) ?_ ?_
                      rotate_left
                      · intro w'
                        go_simp
                        with_reducible rfl
                      rotate_left
                      · simp only [Act.put, List.setIfInBounds_toArray, List.set_cons_zero, List.set_cons_succ, i64_w, i32_w]
                        rfl
                      refine pure_ (i := 44) (N := some 63) (v := ?_) (a' := ?_) #[true, true, true, true, true, true, true, true, true, true, true, true, true, true, true, true, true, true, true, true, true, true, true, true, true, true, true, true, true, true, true, true, true, true, true, true, true, true, true, true, true, true, true, true, true, false, false, false, false, false] rfl rfl (any_of HT_.out (by kernel_rfl)) (fun _ _ _ h => h) (Or.inl ⟨by rfl, ?_⟩) ?_ ?_
                      rotate_left
                      · intro w'
                        go_simp
                        with_reducible rfl
                      rotate_left
                      · simp only [Act.put, List.setIfInBounds_toArray, List.set_cons_zero, List.set_cons_succ, i64_w, i32_w]
                        rfl
                      refine one_ (i := 45) (N := some 64) #[true, true, true, true, true, true, true, true, true, true, true, true, true, true, true, true, true, true, true, true, true, true, true, true, true, true, true, true, true, true, true, true, true, true, true, true, true, true, true, true, true, true, true, true, true, true, false, false, false, false] rfl rfl (one_of HT_.out (by kernel_rfl)) (by decide) (fun K hK => ?_)
                      refine goes_ Try.func41 (by kernel_rfl) rfl #[.int .u32 5] (by rfl) rfl rfl (by (try simp only [List.map_toArray, List.map_cons, List.map_nil]); first | done | rfl | (simp only [List.length_drop, List.length_take]; rfl)) ?_
                      with_reducible refine (capa_Int.calls 5 t227 t228 t229 t230 t231 t232 t233 _ A43.out).mono ?_
                      rintro e w69 ⟨rfl, hb⟩
                      refine ⟨_, rfl, ?_⟩
                      have n0_ := Aside0.mk (blk_below (g := gb185) (o := .cells #[.bool true, .int .u32 t178, .int .u8 t179, .int .u8 t180, .int .u8 t181, .int .u16 t182, .int .u16 t183] 27 (0, 0)) (by (with_reducible repeat (first | refine blk_drewN ?_ _ | refine blk_drew ?_ | refine blk_alloc ?_ _)); exact BK185.out) hb)
                      have n1_ := Aside0.mk (blk_below (g := gb193) (o := .cells #[.bool true, .int .u32 t187, .int .u8 t188, .int .u8 t189, .int .u8 t190, .int .u16 t191, .int .u16 t192] 27 (0, 0)) (by (with_reducible repeat (first | refine blk_drewN ?_ _ | refine blk_drew ?_ | refine blk_alloc ?_ _)); exact BK193.out) hb)
                      have n2_ := Aside0.mk (blk_below (g := gb201) (o := .cells #[.bool true, .int .u32 t195, .int .u8 t196, .int .u8 t197, .int .u8 t198, .int .u16 t199, .int .u16 t200] 27 (0, 0)) (by (with_reducible repeat (first | refine blk_drewN ?_ _ | refine blk_drew ?_ | refine blk_alloc ?_ _)); exact BK201.out) hb)
                      have n3_ := Aside0.mk (blk_below (g := gb210) (o := .cells #[.bool t202, .int .u32 t203, .int .u8 t204, .int .u8 t205, .int .u8 t206, .int .u16 t207, .int .u16 t208] 27 (0, 0)) (by (with_reducible repeat (first | refine blk_drewN ?_ _ | refine blk_drew ?_ | refine blk_alloc ?_ _)); exact BK210.out) hb)
                      have n4_ := Aside0.mk (below_step (by repeat (first | (with_reducible first | exact HB.out | apply below_alloc | apply pw_below_drewN | apply below_drew1 | refine below_set ?_ GE185.out | refine below_set ?_ GE193.out | refine below_set ?_ GE201.out | refine below_set ?_ GE210.out) | exact HB.out)) hb)
                      clear BK185
                      clear BK193
                      clear BK201
                      clear BK210
                      clear HB
                      have BK185 := n0_
                      have BK193 := n1_
                      have BK201 := n2_
                      have BK210 := n3_
                      have HB := n4_
                      clear n0_ n1_ n2_ n3_ n4_
                      (try clear hb)
                      (try clear hb2)
                      (try clear hk)
                      (try clear hi)
                      refine hK.out _ _ ⟨(blk_cell BK185.out 0).trans rfl, (blk_cell BK185.out 1).trans rfl, (blk_cell BK185.out 2).trans rfl, (blk_cell BK185.out 3).trans rfl, (blk_cell BK185.out 4).trans rfl, (blk_cell BK185.out 5).trans rfl, (blk_cell BK185.out 6).trans rfl, (blk_cell BK193.out 0).trans rfl, (blk_cell BK193.out 1).trans rfl, (blk_cell BK193.out 2).trans rfl, (blk_cell BK193.out 3).trans rfl, (blk_cell BK193.out 4).trans rfl, (blk_cell BK193.out 5).trans rfl, (blk_cell BK193.out 6).trans rfl, (blk_cell BK201.out 0).trans rfl, (blk_cell BK201.out 1).trans rfl, (blk_cell BK201.out 2).trans rfl, (blk_cell BK201.out 3).trans rfl, (blk_cell BK201.out 4).trans rfl, (blk_cell BK201.out 5).trans rfl, (blk_cell BK201.out 6).trans rfl⟩ (fun hHeld => ?_)
                      clear hK K
                      refine norm_ (a' := ?_) ?_ ?_
                      rotate_left
                      · show Act.put _ (some 64) _ = _
                        simp only [Act.put, List.setIfInBounds_toArray, List.set_cons_zero, List.set_cons_succ, i64_w, i32_w]
                        rfl
                      refine pure_ (i := 46) (N := some 65) (v := ?_) (a' := ?_) #[true, true, true, true, true, true, true, true, true, true, true, true, true, true, true, true, true, true, true, true, true, true, true, true, true, true, true, true, true, true, true, true, true, true, true, true, true, true, true, true, true, true, true, true, true, true, true, false, false, false] rfl rfl (any_of HT_.out (by kernel_rfl)) (fun _ _ _ h => h) (Or.inl ⟨by rfl, ?_⟩) ?_ ?_
                      rotate_left
                      · intro w'
                        have hfld : (Instr.field 27 (.agg #[.bool t227, .int .u32 t228, .int .u8 t229, .int .u8 t230, .int .u8 t231, .int .u16 t232, .int .u16 t233]) 1).run Try.prog w' = .ok (.int .u32 t228) w' := by kernel_rfl
                        go_simp
                        with_reducible rfl
                      rotate_left
                      · simp only [Act.put, List.setIfInBounds_toArray, List.set_cons_zero, List.set_cons_succ, i64_w, i32_w]
                        rfl
                      refine pure_ (i := 47) (N := some 66) (v := ?_) (a' := ?_) #[true, true, true, true, true, true, true, true, true, true, true, true, true, true, true, true, true, true, true, true, true, true, true, true, true, true, true, true, true, true, true, true, true, true, true, true, true, true, true, true, true, true, true, true, true, true, true, true, false, false] rfl rfl (any_of HT_.out (by kernel_rfl)) (fun _ _ _ h => h) (Or.inl ⟨by rfl, ?_⟩) ?_ ?_
                      rotate_left
                      · intro w'
                        go_simp
                        with_reducible rfl
                      rotate_left
                      · simp only [Act.put, List.setIfInBounds_toArray, List.set_cons_zero, List.set_cons_succ, i64_w, i32_w]
                        rfl
                      refine pure_ (i := 48) (N := some 67) (v := ?_) (a' := ?_) #[true, true, true, true, true, true, true, true, true, true, true, true, true, true, true, true, true, true, true, true, true, true, true, true, true, true, true, true, true, true, true, true, true, true, true, true, true, true, true, true, true, true, true, true, true, true, true, true, true, false] rfl rfl (any_of HT_.out (by kernel_rfl)) (fun _ _ _ h => h) (Or.inl ⟨by rfl, ?_⟩) ?_ ?_
                      rotate_left
                      · intro w'
                        go_simp
                        with_reducible rfl
                      rotate_left
                      · simp only [Act.put, List.setIfInBounds_toArray, List.set_cons_zero, List.set_cons_succ, i64_w, i32_w]
                        rfl
                      refine pure_ (i := 49) (N := some 0) (v := ?_) (a' := ?_) #[true, true, true, true, true, true, true, true, true, true, true, true, true, true, true, true, true, true, true, true, true, true, true, true, true, true, true, true, true, true, true, true, true, true, true, true, true, true, true, true, true, true, true, true, true, true, true, true, true, true] rfl rfl (any_of HT_.out (by kernel_rfl)) (fun _ _ _ h => h) (Or.inl ⟨by rfl, ?_⟩) ?_ ?_
                      rotate_left
                      · intro w'
                        go_simp
                        with_reducible rfl
                      rotate_left
                      · simp only [Act.put, List.setIfInBounds_toArray, List.set_cons_zero, List.set_cons_succ, i64_w, i32_w]
                        rfl
                      refine done_ (done_of HT_.out (by kernel_rfl)) ?_
                      try go_wp2
                      go_ret
                      exact ⟨by first | rfl | (simp [errW_none, errW_some] <;> rfl) | (simp [*, errW_none, errW_some] <;> rfl), by repeat (first | (with_reducible first | exact HB.out | apply below_alloc | apply pw_below_drewN | apply below_drew1 | refine below_set ?_ GE185.out | refine below_set ?_ GE193.out | refine below_set ?_ GE201.out | refine below_set ?_ GE210.out) | exact HB.out)⟩
                    · rw [if_neg c42] at H
                      exact absurd ((Option.some.inj H).trans hr'.out) (by decide)
                · rw [if_neg c14] at H
                  exact absurd ((Option.some.inj H).trans hr'.out) (by decide)
              · rw [if_neg c13] at H
                exact absurd ((Option.some.inj H).trans hr'.out) (by decide)
            · replace c11 := Bool.eq_false_iff.mpr c11
              subst c11
              have H1 : (some false) = some r := by rw [if_neg (show ¬ (false = true) by decide)] at H; exact H
              exact absurd ((Option.some.inj H1).trans hr'.out) (by decide)
          · rw [if_neg c10] at H
            exact absurd ((Option.some.inj H).trans hr'.out) (by decide)
        · rw [if_neg c9] at H
          exact absurd ((Option.some.inj H).trans hr'.out) (by decide)
      · replace c7 := Bool.eq_false_iff.mpr c7
        subst c7
        have H1 : (some false) = some r := by rw [if_neg (show ¬ (false = true) by decide)] at H; exact H
        exact absurd ((Option.some.inj H1).trans hr'.out) (by decide)
    · replace c6 := Bool.eq_false_iff.mpr c6
      subst c6
      have H1 : (some false) = some r := by rw [if_neg (show ¬ (false = true) by decide)] at H; exact H
      exact absurd ((Option.some.inj H1).trans hr'.out) (by decide)
  · rw [if_neg c5] at H
    exact absurd ((Option.some.inj H).trans hr'.out) (by decide)
/-- The same, where it answers true; nothing else is told. -/
def bulwarklaw03_lives.f (k : Nat) : Option (Bool) := (bulwarklaw03_livesT.f k).bind fun r => if r = true then some true else none
theorem bulwarklaw03_lives.mono : ∀ k, LeO (bulwarklaw03_lives.f k) (bulwarklaw03_lives.f (k + 1)) := by
  intro k
  unfold bulwarklaw03_lives.f
  exact LeO.bind (bulwarklaw03_livesT.mono k) (fun _ => LeO.refl _)
theorem bulwarklaw03_lives.calls (k : Nat) (r : Bool) (w : World) (h : bulwarklaw03_lives.f k = some r) :
    Calls Try.prog 21 #[] w fun e w' => e = .returned (.bool r) ∧ Below w.heap.size w w' := by
  unfold bulwarklaw03_lives.f at h
  obtain ⟨q, hq, h⟩ := Option.bind_eq_some_iff.mp h
  by_cases g : q = true
  · subst g
    rw [if_pos rfl] at h
    obtain rfl := Option.some.inj h
    exact bulwarklaw03_livesT.calls k true w hq rfl
  · rw [if_neg g] at h
    cases h
end Go.Proofs.Ytkfgloolpjlddaa.Q
