-- A walk, out of the kit's print program run by wip/ownprint.sh and turned by wip/qprune.py. Lean checks it.
import Derived.Test.YtkfgloolpjlddaaQ0
namespace Go.Proofs.Ytkfgloolpjlddaa.Q
open Go.RowKit Go.Proofs.YtkfgloolpjlddaaW.PrintWords Go.Proofs.YtkfgloolpjlddaaW.PrintLast Go.Proofs.YtkfgloolpjlddaaW.PrintMore
attribute [local go_sem] max2_int min2_int max_two min_two max_three min_three max_four min_four   -- for this text's walks alone
set_option linter.unusedVariables false
set_option linter.unusedSimpArgs false

/-! ### bulwarkref03_has: function 45 -/
def bulwarkref03_has.l0 : Nat → Int → Int → Int → Option (Bool)
  | 0, _, _, _ => none
  | k + 1, x0, x1, x5 => if x5 = 0 then (some true) else (if (((Int.tdiv x1 x5) % 256) % 2) = 1 then (if (((Int.tdiv x0 x5) % 256) % 2) = 0 then (some false) else (bulwarkref03_has.l0 k x0 x1 ((x5 * 2) % 256))) else (bulwarkref03_has.l0 k x0 x1 ((x5 * 2) % 256)))
def bulwarkref03_has.f (k : Nat) (a0 : Int) (a1 : Int) : Option (Bool) := bulwarkref03_has.l0 k a0 a1 1
theorem bulwarkref03_has.mono_l : ∀ k, (∀ y0 y1 y2, LeO (bulwarkref03_has.l0 k y0 y1 y2) (bulwarkref03_has.l0 (k + 1) y0 y1 y2))
  | 0 => fun _ _ _ r h => by simp [bulwarkref03_has.l0] at h
  | k + 1 => by
    have ih0 := bulwarkref03_has.mono_l k
    · intro y0 y1 y2
      unfold bulwarkref03_has.l0
      repeat' first
      | (with_reducible exact ih0 _ _ _)
      | (with_reducible exact LeO.refl _)
      | (with_reducible exact LeO.none _)
      | (with_reducible refine LeO.ite ?_ ?_)
      | (with_reducible refine LeO.bind ?_ (fun _ => ?_))
      | exact ih0 _ _ _
      | exact LeO.none _
      | refine LeO.ite ?_ ?_
      | refine LeO.bind ?_ (fun _ => ?_)
theorem bulwarkref03_has.mono : ∀ a0 a1 k, LeO (bulwarkref03_has.f k a0 a1) (bulwarkref03_has.f (k + 1) a0 a1) := by
  intro a0 a1 k
  have ih0 := bulwarkref03_has.mono_l k
  unfold bulwarkref03_has.f
  repeat' first
      | (with_reducible exact ih0 _ _ _)
      | (with_reducible exact LeO.refl _)
      | (with_reducible exact LeO.none _)
      | (with_reducible refine LeO.ite ?_ ?_)
      | (with_reducible refine LeO.bind ?_ (fun _ => ?_))
      | exact ih0 _ _ _
      | exact LeO.none _
      | refine LeO.ite ?_ ?_
      | refine LeO.bind ?_ (fun _ => ?_)
set_option maxHeartbeats 8000000 in
set_option maxRecDepth 100000 in
theorem bulwarkref03_has.calls (k : Nat) (a0 : Int) (a1 : Int) (r : Bool) (w : World) (h : bulwarkref03_has.f k a0 a1 = some r) :
    Calls Try.prog 45 #[.int .u8 a0, .int .u8 a1] w fun e w' => e = .returned (.bool r) ∧ Drawn0 w w' := by
  have H : (bulwarkref03_has.l0 k a0 a1 1) = some r := h
  clear h
  have H' := Aside0.mk H
  clear H
  go_enter Try.func45, Try.ntmps45
  go_wp2
  go_loopg [5] k (fun kq v5 w' => ∃ (x5_1 : Int), v5 = .int .u8 x5_1 ∧ Aside0 (bulwarkref03_has.l0 kq a0 a1 x5_1 = some r) ∧ Aside0 (kq ≤ k) ∧ Drawn0 w w')
  case atStart => exact ⟨(1), (by first | rfl | (simp; done) | (simp [*]; done)), H', ⟨Nat.le_refl _⟩, by repeat (first | exact Drawn0.refl _ | apply Drawn0.step)⟩
  case round =>
    clear H'
    try clear p2
    obtain ⟨x5_1, rfl, HA, HK1, ⟨m1, rfl⟩⟩ := hrel
    cases gk with
    | zero => exact absurd HA.out (by simp [bulwarkref03_has.l0])
    | succ k1 =>
      have H := HA.out
      clear HA
      simp only [bulwarkref03_has.l0] at H
      by_cases c3 : x5_1 = 0
      · rw [if_pos c3] at H
        have c3b0 : (x5_1 == 0) = true := beq_iff_eq.mpr c3
        have c3b1 : (x5_1 != 0) = false := bne_eq_false_iff_eq.mpr c3
        clear c3
        obtain rfl := Option.some.inj H
        go_wp2
        go_ret
        exact ⟨by first | rfl | (simp; done) | (simp [*]; done), by repeat (first | exact Drawn0.refl _ | apply Drawn0.step)⟩
      · rw [if_neg c3] at H
        have c3b0 : (x5_1 == 0) = false := beq_eq_false_iff_ne.mpr c3
        have c3b1 : (x5_1 != 0) = true := bne_iff_ne.mpr c3
        by_cases c4 : (((Int.tdiv a1 x5_1) % 256) % 2) = 1
        · rw [if_pos c4] at H
          have c4b0 : ((((Int.tdiv a1 x5_1) % 256) % 2) == 1) = true := beq_iff_eq.mpr c4
          have c4b8 : (((Int.tdiv a1 x5_1) % 2) == 1) = true := by simpa only [Int.emod_emod_of_dvd _ (show (2 : Int) ∣ 256 by decide)] using c4b0
          have c4b1 : ((((Int.tdiv a1 x5_1) % 256) % 2) != 1) = false := bne_eq_false_iff_eq.mpr c4
          have c4b7 : (((Int.tdiv a1 x5_1) % 2) != 1) = false := by simpa only [Int.emod_emod_of_dvd _ (show (2 : Int) ∣ 256 by decide)] using c4b1
          clear c4
          by_cases c5 : (((Int.tdiv a0 x5_1) % 256) % 2) = 0
          · rw [if_pos c5] at H
            have c5b0 : ((((Int.tdiv a0 x5_1) % 256) % 2) == 0) = true := beq_iff_eq.mpr c5
            have c5b8 : (((Int.tdiv a0 x5_1) % 2) == 0) = true := by simpa only [Int.emod_emod_of_dvd _ (show (2 : Int) ∣ 256 by decide)] using c5b0
            have c5b1 : ((((Int.tdiv a0 x5_1) % 256) % 2) != 0) = false := bne_eq_false_iff_eq.mpr c5
            have c5b7 : (((Int.tdiv a0 x5_1) % 2) != 0) = false := by simpa only [Int.emod_emod_of_dvd _ (show (2 : Int) ∣ 256 by decide)] using c5b1
            clear c5
            obtain rfl := Option.some.inj H
            go_wp2
            go_ret
            exact ⟨by first | rfl | (simp; done) | (simp [*]; done), by repeat (first | exact Drawn0.refl _ | apply Drawn0.step)⟩
          · rw [if_neg c5] at H
            have c5b0 : ((((Int.tdiv a0 x5_1) % 256) % 2) == 0) = false := beq_eq_false_iff_ne.mpr c5
            have c5b8 : (((Int.tdiv a0 x5_1) % 2) == 0) = false := by simpa only [Int.emod_emod_of_dvd _ (show (2 : Int) ∣ 256 by decide)] using c5b0
            have c5b1 : ((((Int.tdiv a0 x5_1) % 256) % 2) != 0) = true := bne_iff_ne.mpr c5
            have c5b7 : (((Int.tdiv a0 x5_1) % 2) != 0) = true := by simpa only [Int.emod_emod_of_dvd _ (show (2 : Int) ∣ 256 by decide)] using c5b1
            have H' := Aside0.mk H
            clear H
            go_wp2
            go_roundg k1
            case measure => have := HK1.out; omega
            case rel => exact ⟨((x5_1 * 2) % 256), (by first | rfl | (simp; done) | (simp [*]; done)), H', ⟨by have := HK1.out; omega⟩, by repeat (first | exact Drawn0.refl _ | apply Drawn0.step)⟩
        · rw [if_neg c4] at H
          have c4b0 : ((((Int.tdiv a1 x5_1) % 256) % 2) == 1) = false := beq_eq_false_iff_ne.mpr c4
          have c4b8 : (((Int.tdiv a1 x5_1) % 2) == 1) = false := by simpa only [Int.emod_emod_of_dvd _ (show (2 : Int) ∣ 256 by decide)] using c4b0
          have c4b1 : ((((Int.tdiv a1 x5_1) % 256) % 2) != 1) = true := bne_iff_ne.mpr c4
          have c4b7 : (((Int.tdiv a1 x5_1) % 2) != 1) = true := by simpa only [Int.emod_emod_of_dvd _ (show (2 : Int) ∣ 256 by decide)] using c4b1
          have H' := Aside0.mk H
          clear H
          go_wp2
          go_roundg k1
          case measure => have := HK1.out; omega
          case rel => exact ⟨((x5_1 * 2) % 256), (by first | rfl | (simp; done) | (simp [*]; done)), H', ⟨by have := HK1.out; omega⟩, by repeat (first | exact Drawn0.refl _ | apply Drawn0.step)⟩

end Go.Proofs.Ytkfgloolpjlddaa.Q
