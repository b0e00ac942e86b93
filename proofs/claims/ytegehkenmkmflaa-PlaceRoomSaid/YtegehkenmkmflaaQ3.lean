-- A walk, out of the kit's print program run by wip/ownprint.sh and turned by wip/qprune.py. Lean checks it.
import Derived.Test.YtegehkenmkmflaaQ0
namespace Go.Proofs.Ytegehkenmkmflaa.Q
open Go.RowKit Go.Proofs.YtegehkenmkmflaaW.PrintWords Go.Proofs.YtegehkenmkmflaaW.PrintLast Go.Proofs.YtegehkenmkmflaaW.PrintMore
attribute [local go_sem] max2_int min2_int max_two min_two max_three min_three max_four min_four   -- for this text's walks alone
set_option linter.unusedVariables false
set_option linter.unusedSimpArgs false

/-! ### bulwarkref15_Room: function 18 -/
mutual
def bulwarkref15_Room.l0 : Nat → Int → Int → Option (Int × Int × Bool)
  | 0, _, _ => none
  | k + 1, x0, x5 => if x5 ≤ 8 then (bulwarkref15_Room.j1 k x0 x5 (decide (x0 ≥ 0))) else (bulwarkref15_Room.j1 k x0 x5 false)
def bulwarkref15_Room.j1 : Nat → Int → Int → Bool → Option (Int × Int × Bool)
  | 0, _, _, _ => none
  | k + 1, x0, x5, x13 => if x13 = true then (if 0 ≤ x5 then (if (shl .i64 1 x5) = 0 then (none) else (if (Int.tmod x0 (shl .i64 1 x5)) > 0 then (if (wrap64 ((wrap64 (Int.tdiv x0 (shl .i64 1 x5))) + 1)) ≤ 511 then (some ((x5) % 256, wrap64 ((wrap64 ((wrap64 (Int.tdiv x0 (shl .i64 1 x5))) + 1)) * (shl .i64 1 x5)), true)) else (bulwarkref15_Room.l0 k x0 (wrap64 (x5 + 1)))) else (if (wrap64 (Int.tdiv x0 (shl .i64 1 x5))) ≤ 511 then (some ((x5) % 256, wrap64 ((wrap64 (Int.tdiv x0 (shl .i64 1 x5))) * (shl .i64 1 x5)), true)) else (bulwarkref15_Room.l0 k x0 (wrap64 (x5 + 1)))))) else (none)) else (some (0, 0, false))
end
def bulwarkref15_Room.f (k : Nat) (a0 : Int) : Option (Int × Int × Bool) := bulwarkref15_Room.l0 k a0 3
theorem bulwarkref15_Room.mono_l : ∀ k, (∀ y0 y1, LeO (bulwarkref15_Room.l0 k y0 y1) (bulwarkref15_Room.l0 (k + 1) y0 y1)) ∧ (∀ y0 y1 y2, LeO (bulwarkref15_Room.j1 k y0 y1 y2) (bulwarkref15_Room.j1 (k + 1) y0 y1 y2))
  | 0 => ⟨fun _ _ r h => by simp [bulwarkref15_Room.l0] at h, fun _ _ _ r h => by simp [bulwarkref15_Room.j1] at h⟩
  | k + 1 => by
    obtain ⟨ih0, ih1⟩ := bulwarkref15_Room.mono_l k
    refine ⟨?_, ?_⟩
    · intro y0 y1
      unfold bulwarkref15_Room.l0
      repeat' first
      | (with_reducible exact ih0 _ _)
      | (with_reducible exact ih1 _ _ _)
      | (with_reducible exact LeO.refl _)
      | (with_reducible exact LeO.none _)
      | (with_reducible refine LeO.ite ?_ ?_)
      | (with_reducible refine LeO.bind ?_ (fun _ => ?_))
      | exact ih0 _ _
      | exact ih1 _ _ _
      | exact LeO.none _
      | refine LeO.ite ?_ ?_
      | refine LeO.bind ?_ (fun _ => ?_)
    · intro y0 y1 y2
      unfold bulwarkref15_Room.j1
      repeat' first
      | (with_reducible exact ih0 _ _)
      | (with_reducible exact ih1 _ _ _)
      | (with_reducible exact LeO.refl _)
      | (with_reducible exact LeO.none _)
      | (with_reducible refine LeO.ite ?_ ?_)
      | (with_reducible refine LeO.bind ?_ (fun _ => ?_))
      | exact ih0 _ _
      | exact ih1 _ _ _
      | exact LeO.none _
      | refine LeO.ite ?_ ?_
      | refine LeO.bind ?_ (fun _ => ?_)
theorem bulwarkref15_Room.mono : ∀ a0 k, LeO (bulwarkref15_Room.f k a0) (bulwarkref15_Room.f (k + 1) a0) := by
  intro a0 k
  obtain ⟨ih0, ih1⟩ := bulwarkref15_Room.mono_l k
  unfold bulwarkref15_Room.f
  repeat' first
      | (with_reducible exact ih0 _ _)
      | (with_reducible exact ih1 _ _ _)
      | (with_reducible exact LeO.refl _)
      | (with_reducible exact LeO.none _)
      | (with_reducible refine LeO.ite ?_ ?_)
      | (with_reducible refine LeO.bind ?_ (fun _ => ?_))
      | exact ih0 _ _
      | exact ih1 _ _ _
      | exact LeO.none _
      | refine LeO.ite ?_ ?_
      | refine LeO.bind ?_ (fun _ => ?_)
set_option maxHeartbeats 8000000 in
set_option maxRecDepth 100000 in
theorem bulwarkref15_Room.calls (k : Nat) (a0 : Int) (r1 : Int) (r2 : Int) (r3 : Bool) (w : World) (h : bulwarkref15_Room.f k a0 = some (r1, r2, r3)) :
    Calls Try.prog 18 #[.int .i64 a0] w fun e w' => e = .returned (.tuple #[.int .u8 r1, .int .i64 r2, .bool r3]) ∧ Drawn0 w w' := by
  have H : (bulwarkref15_Room.l0 k a0 3) = some (r1, r2, r3) := h
  clear h
  have H' := Aside0.mk H
  clear H
  go_enter Try.func18, Try.ntmps18
  go_wp2
  go_loopg [5] k (fun kq v5 w' => ∃ (x5_1 : Int), v5 = .int .i64 x5_1 ∧ Aside0 (bulwarkref15_Room.l0 kq a0 x5_1 = some (r1, r2, r3)) ∧ Aside0 (kq ≤ k) ∧ Drawn0 w w')
  case atStart => exact ⟨(3), (by first | rfl | (simp; done) | (simp [*]; done)), H', ⟨Nat.le_refl _⟩, by repeat (first | exact Drawn0.refl _ | apply Drawn0.step)⟩
  case round =>
    clear H'
    try clear c1
    obtain ⟨x5_1, rfl, HA, HK1, ⟨m1, rfl⟩⟩ := hrel
    cases gk with
    | zero => exact absurd HA.out (by simp [bulwarkref15_Room.l0])
    | succ k1 =>
      have H := HA.out
      clear HA
      simp only [bulwarkref15_Room.l0] at H
      have HC2 := Aside0.mk H
      clear H
      go_upto_region 2 with (fail)
      go_cut [13] (fun v13 wc => ∃ (kq : Nat) (x13_1 : Bool), v13 = .bool x13_1 ∧ Aside0 (bulwarkref15_Room.j1 kq a0 x5_1 x13_1 = some (r1, r2, r3)) ∧ Aside0 (kq ≤ k1) ∧ Drawn0 w wc)
      case first =>
        have H := HC2.out
        clear HC2
        by_cases c3 : x5_1 ≤ 8
        · rw [if_pos c3] at H
          have c3b0 : decide (x5_1 ≤ 8) = true := decide_eq_true c3
          clear c3
          (first | rw [c3b0] | (simp only [i64_w, i32_w]; rw [c3b0]) | skip)
          have H' := Aside0.mk H
          clear H
          go_wp2
          go_meet
          case rel => exact ⟨_, (decide (a0 ≥ 0)), (by first | rfl | (simp; done) | (simp [*]; done)), H', ⟨by have := HK1.out; first | omega | exact Nat.le_refl _⟩, by repeat (first | exact Drawn0.refl _ | apply Drawn0.step)⟩
        · rw [if_neg c3] at H
          have c3b0 : decide (x5_1 ≤ 8) = false := decide_eq_false c3
          clear c3
          (first | rw [c3b0] | (simp only [i64_w, i32_w]; rw [c3b0]) | skip)
          have H' := Aside0.mk H
          clear H
          go_wp2
          go_meet
          case rel => exact ⟨_, (false), (by first | rfl | (simp; done) | (simp [*]; done)), H', ⟨by have := HK1.out; first | omega | exact Nat.le_refl _⟩, by repeat (first | exact Drawn0.refl _ | apply Drawn0.step)⟩
      case rest =>
        clear HC2
        try clear c1
        try clear p2
        try clear c3
        try clear c3b0
        obtain ⟨kq, x13_1, rfl, HA, HJ1, ⟨mc1, rfl⟩⟩ := hcut
        cases kq with
        | zero => exact absurd HA.out (by simp [bulwarkref15_Room.j1])
        | succ kj1 =>
          have H := HA.out
          clear HA
          simp only [bulwarkref15_Room.j1] at H
          by_cases c4 : x13_1 = true
          · subst c4
            have H1 : (if 0 ≤ x5_1 then (if (shl .i64 1 x5_1) = 0 then (none) else (if (Int.tmod a0 (shl .i64 1 x5_1)) > 0 then (if (wrap64 ((wrap64 (Int.tdiv a0 (shl .i64 1 x5_1))) + 1)) ≤ 511 then (some ((x5_1) % 256, wrap64 ((wrap64 ((wrap64 (Int.tdiv a0 (shl .i64 1 x5_1))) + 1)) * (shl .i64 1 x5_1)), true)) else (bulwarkref15_Room.l0 kj1 a0 (wrap64 (x5_1 + 1)))) else (if (wrap64 (Int.tdiv a0 (shl .i64 1 x5_1))) ≤ 511 then (some ((x5_1) % 256, wrap64 ((wrap64 (Int.tdiv a0 (shl .i64 1 x5_1))) * (shl .i64 1 x5_1)), true)) else (bulwarkref15_Room.l0 kj1 a0 (wrap64 (x5_1 + 1)))))) else (none)) = some (r1, r2, r3) := by rw [if_pos rfl] at H; exact H
            clear H
            have H := H1
            clear H1
            by_cases c5 : 0 ≤ x5_1
            · rw [if_pos c5] at H
              have c5b0 := eq_true c5
              have c5b1 : decide (0 ≤ x5_1) = true := decide_eq_true c5
              clear c5
              obtain ⟨ji6, hji6⟩ : ∃ j_ : Int, (shl .i64 1 x5_1) = j_ := ⟨_, rfl⟩
              replace H : (if (ji6) = 0 then (none) else (if (Int.tmod a0 (ji6)) > 0 then (if (wrap64 ((wrap64 (Int.tdiv a0 (ji6))) + 1)) ≤ 511 then (some ((x5_1) % 256, wrap64 ((wrap64 ((wrap64 (Int.tdiv a0 (ji6))) + 1)) * (ji6)), true)) else (bulwarkref15_Room.l0 kj1 a0 (wrap64 (x5_1 + 1)))) else (if (wrap64 (Int.tdiv a0 (ji6))) ≤ 511 then (some ((x5_1) % 256, wrap64 ((wrap64 (Int.tdiv a0 (ji6))) * (ji6)), true)) else (bulwarkref15_Room.l0 kj1 a0 (wrap64 (x5_1 + 1)))))) = some (r1, r2, r3) := by first | (rw [hji6] at H; exact H) | (simp only [hji6] at H ⊢; exact H)
              have hji6_ : (IntKind.i64.wrap (1 * 2 ^ min x5_1.toNat 64)) = ji6 := hji6
              have hji6z : x5_1 ≤ 64 → (IntKind.i64.wrap (1 * 2 ^ x5_1.toNat)) = ji6 := shl_small hji6
              have hji6u : (IntKind.i64.wrap (2 ^ min x5_1.toNat 64)) = ji6 := by have h_ := hji6_; rw [Int.one_mul] at h_; exact h_
              have hji6v : x5_1 ≤ 64 → (IntKind.i64.wrap (2 ^ x5_1.toNat)) = ji6 := fun hle_ => by have h_ := hji6z hle_; rw [Int.one_mul] at h_; exact h_
              have hji6y : (wrap64 (1 * 2 ^ min x5_1.toNat 64)) = ji6 := (i64_w _).symm.trans hji6_
              have hji6x : x5_1 ≤ 64 → (wrap64 (1 * 2 ^ x5_1.toNat)) = ji6 := fun h_ => (i64_w _).symm.trans (hji6z h_)
              by_cases c7 : (ji6) = 0
              · rw [if_pos c7] at H
                exact absurd H (by simp)
              · rw [if_neg c7] at H
                have c7b0 : ((ji6) == 0) = false := beq_eq_false_iff_ne.mpr c7
                have c7b1 : ((ji6) != 0) = true := bne_iff_ne.mpr c7
                by_cases c8 : (Int.tmod a0 (ji6)) > 0
                · rw [if_pos c8] at H
                  have c8b0 : decide (0 < (Int.tmod a0 (ji6))) = true := decide_eq_true c8
                  clear c8
                  by_cases c9 : (wrap64 ((wrap64 (Int.tdiv a0 (ji6))) + 1)) ≤ 511
                  · rw [if_pos c9] at H
                    have c9b0 : decide ((wrap64 ((wrap64 (Int.tdiv a0 (ji6))) + 1)) ≤ 511) = true := decide_eq_true c9
                    clear c9
                    simp only [Option.some.injEq, Prod.mk.injEq] at H
                    obtain ⟨rfl, rfl, rfl⟩ := H
                    go_wp2
                    go_ret3
                    exact ⟨by first | rfl | (simp; done) | (simp only [← hji6] <;> (first | rfl | simp)) | (simp [*]; done), by repeat (first | exact Drawn0.refl _ | apply Drawn0.step)⟩
                  · rw [if_neg c9] at H
                    have c9b0 : decide ((wrap64 ((wrap64 (Int.tdiv a0 (ji6))) + 1)) ≤ 511) = false := decide_eq_false c9
                    clear c9
                    have H' := Aside0.mk H
                    clear H
                    go_wp2
                    go_roundg kj1
                    case measure => have := HK1.out; have := HJ1.out; omega
                    case rel => exact ⟨(wrap64 (x5_1 + 1)), (by first | rfl | (simp; done) | (simp [*]; done)), H', ⟨by have := HK1.out; have := HJ1.out; omega⟩, by repeat (first | exact Drawn0.refl _ | apply Drawn0.step)⟩
                · rw [if_neg c8] at H
                  have c8b0 : decide (0 < (Int.tmod a0 (ji6))) = false := decide_eq_false c8
                  clear c8
                  by_cases c10 : (wrap64 (Int.tdiv a0 (ji6))) ≤ 511
                  · rw [if_pos c10] at H
                    have c10b0 : decide ((wrap64 (Int.tdiv a0 (ji6))) ≤ 511) = true := decide_eq_true c10
                    clear c10
                    simp only [Option.some.injEq, Prod.mk.injEq] at H
                    obtain ⟨rfl, rfl, rfl⟩ := H
                    go_wp2
                    go_ret3
                    exact ⟨by first | rfl | (simp; done) | (simp only [← hji6] <;> (first | rfl | simp)) | (simp [*]; done), by repeat (first | exact Drawn0.refl _ | apply Drawn0.step)⟩
                  · rw [if_neg c10] at H
                    have c10b0 : decide ((wrap64 (Int.tdiv a0 (ji6))) ≤ 511) = false := decide_eq_false c10
                    clear c10
                    have H' := Aside0.mk H
                    clear H
                    go_wp2
                    go_roundg kj1
                    case measure => have := HK1.out; have := HJ1.out; omega
                    case rel => exact ⟨(wrap64 (x5_1 + 1)), (by first | rfl | (simp; done) | (simp [*]; done)), H', ⟨by have := HK1.out; have := HJ1.out; omega⟩, by repeat (first | exact Drawn0.refl _ | apply Drawn0.step)⟩
            · rw [if_neg c5] at H
              exact absurd H (by simp)
          · replace c4 := Bool.eq_false_iff.mpr c4
            subst c4
            have H1 : (some (0, 0, false)) = some (r1, r2, r3) := by rw [if_neg (show ¬ (false = true) by decide)] at H; exact H
            clear H
            have H := H1
            clear H1
            simp only [Option.some.injEq, Prod.mk.injEq] at H
            obtain ⟨rfl, rfl, rfl⟩ := H
            go_wp2
            go_ret3
            exact ⟨by first | rfl | (simp; done) | (simp [*]; done), by repeat (first | exact Drawn0.refl _ | apply Drawn0.step)⟩

end Go.Proofs.Ytegehkenmkmflaa.Q
