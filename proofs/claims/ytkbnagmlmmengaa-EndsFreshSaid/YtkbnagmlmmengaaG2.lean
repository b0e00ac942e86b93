-- Left: what Wide made is as it was, the room too; by hand. Lean checks it.
import Derived.Test.YtkbnagmlmmengaaQ0
import Derived.Test.YtkbnagmlmmengaaQ5
import Derived.Test.YtkbnagmlmmengaaQ7
import Derived.Test.YtkbnagmlmmengaaQ8
import Derived.Test.YtkbnagmlmmengaaQ9
import Derived.Test.YtkbnagmlmmengaaQ10
import Derived.Test.YtkbnagmlmmengaaQ14
import Derived.Test.YtkbnagmlmmengaaG0
import Derived.Test.YtkbnagmlmmengaaG1
namespace Go.Proofs.Ytkbnagmlmmengaa.Q
open Go.RowKit Go.Proofs.YtkbnagmlmmengaaW.PrintWords Go.Proofs.YtkbnagmlmmengaaW.PrintLast Go.Proofs.YtkbnagmlmmengaaW.PrintMore
attribute [local go_sem] max2_int min2_int max_two min_two max_three min_three max_four min_four   -- for this text's walks alone
set_option linter.unusedVariables false
set_option linter.unusedSimpArgs false

theorem cut_all (t e : Nat) {i : TypeInfo} (ht : Try.prog.underlying t = some (.slice e)) (hi : Try.prog.info? e = some i) (hsz : i.size = 1) (A : Option Addr) (n c : Nat) (hi' : Int) (h1 : 0 ≤ hi') (h2 : hi' ≤ c) :
    ∀ W : World, (Instr.slice t (.slice A n c) none (some (.int .i64 hi')) (some (.int .i64 hi'))).run Try.prog W = .ok (.slice A hi'.toNat hi'.toNat) W := by
  intro W
  have hel : Try.prog.elem t = e := by simp [Program.elem, ht]
  have hu : Try.prog.underlying t = some (.slice (Try.prog.elem t)) := by rw [hel]; exact ht
  have eh : (hi'.toNat : Int) = hi' := Int.toNat_of_nonneg (by omega)
  rw [run_slice_any W t A n c hu, hel]
  simp only [Instr.sliceBounds, Sem.run_bind, Sem.run_pure, Result.andThen_ok, run_sliceBound W .i64 hi' c .slice3Acap (by omega) (by omega), if_true, run_sliceBound W .i64 hi' hi'.toNat .slice3B (by omega) (by omega), Option.isSome_some]
  cases A <;> simp [sizeOf, typeInfo, hi, hsz, sliced, Result.andThen, Addr.add]

set_option maxHeartbeats 8000000 in
set_option maxRecDepth 100000 in
theorem bulwarkref00_Left.calls (k : Nat) (A0 : Option Addr) (c0 : Nat) (l0 : List Int) (A1 : Option Addr) (c1 : Nat) (w : World) (hrF : Kd.C (Kd.int .u8) w A0 (l0.length + 3) (l0 ++ [7, 7, 7])) (hc0 : l0.length + 3 ≤ c0) (hr1 : Kd.C (Kd.int .u8) w A1 l0.length l0) (hc1 : l0.length ≤ c1) (h : bulwarkref00_Same.f k l0 l0 = some true) :
    Calls Try.prog 39 #[.slice A0 l0.length c0, .slice A1 l0.length c1] w fun e w' => e = .returned (.bool true) ∧ Drawn0 w w' := by
  have hr0 : Kd.C (Kd.int .u8) w A0 l0.length l0 := by
    have hF : Kd.C (Kd.int .u8) w A0 (l0 ++ [7, 7, 7]).length (l0 ++ [7, 7, 7]) := by simpa using hrF
    have := Kd.C_take (m := l0.length) hF (by simp)
    rwa [List.take_left' rfl] at this
  have h7 : ∀ x : Int, (l0.length : Int) ≤ x → x < (l0.length : Int) + 3 → rd (l0 ++ [7, 7, 7]) x = 7 := by
    intro x g1 g2
    have : x = (l0.length : Int) ∨ x = (l0.length : Int) + 1 ∨ x = (l0.length : Int) + 2 := by omega
    unfold rd
    rcases this with g | g | g <;> subst g
    · rw [show ((l0.length : Int)).toNat = l0.length by omega]; simp
    · rw [show ((l0.length : Int) + 1).toNat = l0.length + 1 by omega]; simp
    · rw [show ((l0.length : Int) + 2).toNat = l0.length + 2 by omega]; simp
  have hF : Kd.C (Kd.int .u8) w A0 (l0 ++ [7, 7, 7]).length (l0 ++ [7, 7, 7]) := by simpa using hrF
  have hFl : (l0 ++ [7, 7, 7]).length = l0.length + 3 := by simp
  have hlen : l0.length + 3 ≤ 9223372036854775807 := by have := hrF.2.1; simpa using this
  have HS := Aside0.mk h
  have HR0 := Aside0.mk hr0
  have HRF := Aside0.mk hF
  have HR1 := Aside0.mk hr1
  have HC0 := Aside0.mk hc0
  have HC1 := Aside0.mk hc1
  obtain ⟨i0, hi0, hz0⟩ := Option.map_eq_some_iff.1 info5
  simp only [Prod.mk.injEq] at hz0
  have hw : wrap64 ((l0.length : Int) + 3) = (l0.length : Int) + 3 := by unfold wrap64; omega
  have hcut := cut_all 41 5 Try.underlying41 hi0 hz0.2.1 A0 l0.length c0 ((l0.length : Int) + 3) (by omega) (by omega)
  have hcap : decide ((c0 : Int) < (l0.length : Int) + 3) = false := decide_eq_false (by omega)
  have hlen2 := Aside0.mk hlen
  clear hF hr0 hrF hr1 hc0 hc1 h hi0 hz0 i0 hlen
  go_enter Try.func39, Try.ntmps39
  go_wp2_with fail
  refine (bulwarkref00_Same.calls k A0 c0 l0 A1 c1 l0 true _ HR0.out (by have := HC0.out; omega) HR1.out HC1.out HS.out).mono ?_
  rintro e w1 ⟨rfl, ⟨nd, rfl⟩⟩
  go_wp2
  clear hw hcut hcap
  go_loopg [6] 4 (fun kq v6 w' => ∃ (x : Int), v6 = .int .i64 x ∧ Aside0 ((l0.length : Int) ≤ x ∧ x ≤ l0.length + 3 ∧ x + kq = l0.length + 4) ∧ Drawn0 w w')
  case atStart => exact ⟨_, rfl, ⟨by omega, by omega, by omega⟩, by repeat (first | exact Drawn0.refl _ | apply Drawn0.step)⟩
  case round =>
    obtain ⟨x, rfl, HX, ⟨m1, rfl⟩⟩ := hrel
    cases gk with
    | zero => exact absurd HX.out (by omega)
    | succ gk =>
      have hx := HX.out
      by_cases c : x < (l0.length : Int) + 3
      · have c1 : decide (x < ((l0.length + 3 : Nat) : Int)) = true := decide_eq_true (by omega)
        have c2 : decide (x < (l0.length : Int) + 3) = true := decide_eq_true c
        have HW1 : Aside0 (wrap64 (x + 1) = x + 1) := ⟨by have := hlen2.out; unfold wrap64; omega⟩
        have p1 : 0 ≤ x := by omega
        have q1 : x < ((l0 ++ [7, 7, 7]).length : Int) := by rw [hFl]; omega
        obtain ⟨ad, ea, hx0⟩ := Kd.at_int HRF.out x p1 q1
        rw [h7 x hx.1 c] at hx0
        cases ea
        rw [hFl] at q1
        have b1 : decide (0 ≤ x) = true := decide_eq_true p1
        clear hx
        replace p1 := eq_true p1
        have q2 : (x < (l0.length : Int) + 3) = True := eq_true c
        replace q1 := eq_true q1
        have CX := Aside0.mk c
        clear c
        go_wp2
        go_roundg gk
        case measure => omega
        case rel => exact ⟨_, rfl, ⟨by have := HX.out; have := HW1.out; omega, by have := HX.out; have := HW1.out; have := CX.out; omega, by have := HX.out; have := HW1.out; omega⟩, by repeat (first | exact Drawn0.refl _ | apply Drawn0.step)⟩
      · have c1 : decide (x < ((l0.length + 3 : Nat) : Int)) = false := decide_eq_false (by omega)
        have c2 : decide (x < (l0.length : Int) + 3) = false := decide_eq_false c
        clear hx c
        go_wp2
        go_ret
        exact ⟨rfl, by repeat (first | exact Drawn0.refl _ | apply Drawn0.step)⟩
end Go.Proofs.Ytkbnagmlmmengaa.Q
