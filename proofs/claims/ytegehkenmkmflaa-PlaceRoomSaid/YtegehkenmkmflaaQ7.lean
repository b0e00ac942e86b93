-- A walk, out of the kit's print program run by wip/ownprint.sh and turned by wip/qprune.py. Lean checks it.
import Derived.Test.YtegehkenmkmflaaQ0
import Derived.Test.YtegehkenmkmflaaQ3
import Derived.Test.YtegehkenmkmflaaQ5
import Derived.Test.YtegehkenmkmflaaQ6
namespace Go.Proofs.Ytegehkenmkmflaa.Q
open Go.RowKit Go.Proofs.YtegehkenmkmflaaW.PrintWords Go.Proofs.YtegehkenmkmflaaW.PrintLast Go.Proofs.YtegehkenmkmflaaW.PrintMore
attribute [local go_sem] max2_int min2_int max_two min_two max_three min_three max_four min_four   -- for this text's walks alone
set_option linter.unusedVariables false
set_option linter.unusedSimpArgs false

/-! ### bulwarkref15_Next: function 20 -/
def bulwarkref15_Next.j0 : Nat → Int → Int → Int → Int → Bool → Option (Int × Int × Bool)
  | 0, _, _, _, _, _ => none
  | k + 1, x0, x2, x9, x10, x34 => if x34 = true then (some (0, 0, false)) else (if 0 ≤ x9 then (if x2 > (shl .i64 1 x9) then ((bulwarkref15_up.f x0 x2).bind fun t110 => (if (wrap64 (t110 + x10)) > 65280 then (some (0, 0, false)) else (some (t110, x10, true)))) else ((bulwarkref15_up.f x0 (shl .i64 1 x9)).bind fun t111 => (if (wrap64 (t111 + x10)) > 65280 then (some (0, 0, false)) else (some (t111, x10, true))))) else (none))
def bulwarkref15_Next.f (k : Nat) (a0 : Int) (a1 : Int) (a2 : Int) : Option (Int × Int × Bool) := (bulwarkref15_Room.f k a1).bind fun bt106 => (if bt106.2.2 = true then (if a0 < 0 then (bulwarkref15_Next.j0 k a0 a2 bt106.1 bt106.2.1 true) else (if a0 > 65280 then (bulwarkref15_Next.j0 k a0 a2 bt106.1 bt106.2.1 true) else ((bulwarkref15_power.f k a2).bind fun t109 => (bulwarkref15_Next.j0 k a0 a2 bt106.1 bt106.2.1 (!t109))))) else (bulwarkref15_Next.j0 k a0 a2 bt106.1 bt106.2.1 true))
theorem bulwarkref15_Next.mono_l : ∀ k, (∀ y0 y1 y2 y3 y4, LeO (bulwarkref15_Next.j0 k y0 y1 y2 y3 y4) (bulwarkref15_Next.j0 (k + 1) y0 y1 y2 y3 y4))
  | 0 => fun _ _ _ _ _ r h => by simp [bulwarkref15_Next.j0] at h
  | k + 1 => by
    have ih0 := bulwarkref15_Next.mono_l k
    · intro y0 y1 y2 y3 y4
      unfold bulwarkref15_Next.j0
      repeat' first
      | (with_reducible exact ih0 _ _ _ _ _)
      | (with_reducible exact bulwarkref15_Room.mono _ _)
      | (with_reducible exact bulwarkref15_power.mono _ _)
      | (with_reducible exact LeO.refl _)
      | (with_reducible exact LeO.none _)
      | (with_reducible refine LeO.ite ?_ ?_)
      | (with_reducible refine LeO.bind ?_ (fun _ => ?_))
      | exact ih0 _ _ _ _ _
      | exact bulwarkref15_Room.mono _ _
      | exact bulwarkref15_power.mono _ _
      | exact LeO.none _
      | refine LeO.ite ?_ ?_
      | refine LeO.bind ?_ (fun _ => ?_)
theorem bulwarkref15_Next.mono : ∀ a0 a1 a2 k, LeO (bulwarkref15_Next.f k a0 a1 a2) (bulwarkref15_Next.f (k + 1) a0 a1 a2) := by
  intro a0 a1 a2 k
  have ih0 := bulwarkref15_Next.mono_l k
  unfold bulwarkref15_Next.f
  repeat' first
      | (with_reducible exact ih0 _ _ _ _ _)
      | (with_reducible exact bulwarkref15_Room.mono _ _)
      | (with_reducible exact bulwarkref15_power.mono _ _)
      | (with_reducible exact LeO.refl _)
      | (with_reducible exact LeO.none _)
      | (with_reducible refine LeO.ite ?_ ?_)
      | (with_reducible refine LeO.bind ?_ (fun _ => ?_))
      | exact ih0 _ _ _ _ _
      | exact bulwarkref15_Room.mono _ _
      | exact bulwarkref15_power.mono _ _
      | exact LeO.none _
      | refine LeO.ite ?_ ?_
      | refine LeO.bind ?_ (fun _ => ?_)
set_option maxHeartbeats 8000000 in
set_option maxRecDepth 100000 in
theorem bulwarkref15_Next.calls (k : Nat) (a0 : Int) (a1 : Int) (a2 : Int) (r1 : Int) (r2 : Int) (r3 : Bool) (w : World) (h : bulwarkref15_Next.f k a0 a1 a2 = some (r1, r2, r3)) :
    Calls Try.prog 20 #[.int .i64 a0, .int .i64 a1, .int .i64 a2] w fun e w' => e = .returned (.tuple #[.int .i64 r1, .int .i64 r2, .bool r3]) ∧ Drawn0 w w' := by
  have H : ((bulwarkref15_Room.f k a1).bind fun bt106 => (if bt106.2.2 = true then (if a0 < 0 then (bulwarkref15_Next.j0 k a0 a2 bt106.1 bt106.2.1 true) else (if a0 > 65280 then (bulwarkref15_Next.j0 k a0 a2 bt106.1 bt106.2.1 true) else ((bulwarkref15_power.f k a2).bind fun t109 => (bulwarkref15_Next.j0 k a0 a2 bt106.1 bt106.2.1 (!t109))))) else (bulwarkref15_Next.j0 k a0 a2 bt106.1 bt106.2.1 true))) = some (r1, r2, r3) := h
  clear h
  replace H := Option.bind_eq_some_iff.mp H
  obtain ⟨⟨t106, t107, t108⟩, A40, H⟩ := H
  replace H : (if t108 = true then (if a0 < 0 then (bulwarkref15_Next.j0 k a0 a2 t106 t107 true) else (if a0 > 65280 then (bulwarkref15_Next.j0 k a0 a2 t106 t107 true) else ((bulwarkref15_power.f k a2).bind fun t109 => (bulwarkref15_Next.j0 k a0 a2 t106 t107 (!t109))))) else (bulwarkref15_Next.j0 k a0 a2 t106 t107 true)) = some (r1, r2, r3) := H
  have A4 := Aside0.mk A40
  clear A40
  have HC5 := Aside0.mk H
  clear H
  go_enter Try.func20, Try.ntmps20
  go_upto_region 2 with (first | ((with_reducible refine gate_callee (f := 18) rfl ?_); refine goesL_ (some 16) rfl rfl Try.func18 (by kernel_rfl) rfl #[.int .i64 a1] rfl (by (try simp only [List.map_toArray, List.map_cons, List.map_nil]); first | done | rfl | (simp only [List.length_drop, List.length_take]; rfl)) ?_; (with_reducible refine (bulwarkref15_Room.calls k a1 t106 t107 t108 _ A4.out).mono ?_); rintro e w' ⟨rfl, ⟨nd, rfl⟩⟩; refine ⟨_, rfl, ?_⟩))
  (try simp only [Act.put, List.setIfInBounds_toArray, List.set_cons_zero, List.set_cons_succ])
  go_cut [34] (fun v34 wc => ∃ (kq : Nat) (x34_4 : Bool), v34 = .bool x34_4 ∧ Aside0 (bulwarkref15_Next.j0 kq a0 a2 t106 t107 x34_4 = some (r1, r2, r3)) ∧ Aside0 (kq ≤ k) ∧ Drawn0 w wc)
  case first =>
    have H := HC5.out
    clear HC5
    by_cases c6 : t108 = true
    · subst c6
      have H1 : (if a0 < 0 then (bulwarkref15_Next.j0 k a0 a2 t106 t107 true) else (if a0 > 65280 then (bulwarkref15_Next.j0 k a0 a2 t106 t107 true) else ((bulwarkref15_power.f k a2).bind fun t109 => (bulwarkref15_Next.j0 k a0 a2 t106 t107 (!t109))))) = some (r1, r2, r3) := by rw [if_pos rfl] at H; exact H
      clear H
      have H := H1
      clear H1
      by_cases c7 : a0 < 0
      · rw [if_pos c7] at H
        have c7b0 : decide (a0 < 0) = true := decide_eq_true c7
        clear c7
        (first | rw [c7b0] | (simp only [i64_w, i32_w]; rw [c7b0]) | skip)
        have H' := Aside0.mk H
        clear H
        go_wp2
        go_meet
        case rel => exact ⟨_, (true), (by first | rfl | (simp; done) | (simp [*]; done)), H', ⟨by first | omega | exact Nat.le_refl _⟩, by repeat (first | exact Drawn0.refl _ | apply Drawn0.step)⟩
      · rw [if_neg c7] at H
        have c7b0 : decide (a0 < 0) = false := decide_eq_false c7
        clear c7
        (first | rw [c7b0] | (simp only [i64_w, i32_w]; rw [c7b0]) | skip)
        by_cases c8 : a0 > 65280
        · rw [if_pos c8] at H
          have c8b0 : decide (65280 < a0) = true := decide_eq_true c8
          clear c8
          have H' := Aside0.mk H
          clear H
          go_wp2
          go_meet
          case rel => exact ⟨_, (true), (by first | rfl | (simp; done) | (simp [*]; done)), H', ⟨by first | omega | exact Nat.le_refl _⟩, by repeat (first | exact Drawn0.refl _ | apply Drawn0.step)⟩
        · rw [if_neg c8] at H
          have c8b0 : decide (65280 < a0) = false := decide_eq_false c8
          clear c8
          replace H := Option.bind_eq_some_iff.mp H
          obtain ⟨t109, A90, H⟩ := H
          replace H : (bulwarkref15_Next.j0 k a0 a2 t106 t107 (!t109)) = some (r1, r2, r3) := H
          have A9 := Aside0.mk A90
          clear A90
          have H' := Aside0.mk H
          clear H
          go_wp2_with (first | (go_at_call 35; (with_reducible refine (bulwarkref15_power.calls k a2 t109 _ A9.out).mono ?_); rintro e w' ⟨rfl, ⟨nd, rfl⟩⟩))
          go_meet
          case rel => exact ⟨_, (!t109), (by first | rfl | (simp; done) | (simp [*]; done)), H', ⟨by first | omega | exact Nat.le_refl _⟩, by repeat (first | exact Drawn0.refl _ | apply Drawn0.step)⟩
    · replace c6 := Bool.eq_false_iff.mpr c6
      subst c6
      have H1 : (bulwarkref15_Next.j0 k a0 a2 t106 t107 true) = some (r1, r2, r3) := by rw [if_neg (show ¬ (false = true) by decide)] at H; exact H
      clear H
      have H := H1
      clear H1
      have H' := Aside0.mk H
      clear H
      go_wp2
      go_meet
      case rel => exact ⟨_, (true), (by first | rfl | (simp; done) | (simp [*]; done)), H', ⟨by first | omega | exact Nat.le_refl _⟩, by repeat (first | exact Drawn0.refl _ | apply Drawn0.step)⟩
  case rest =>
    clear HC5
    try clear c1
    try clear c2
    try clear p2
    try clear c6
    try clear c7
    try clear c7b0
    try clear c8
    try clear c8b0
    obtain ⟨kq, x34_4, rfl, HA, HJ4, ⟨mc4, rfl⟩⟩ := hcut
    cases kq with
    | zero => exact absurd HA.out (by simp [bulwarkref15_Next.j0])
    | succ kj4 =>
      have H := HA.out
      clear HA
      simp only [bulwarkref15_Next.j0] at H
      by_cases c10 : x34_4 = true
      · subst c10
        have H1 : (some (0, 0, false)) = some (r1, r2, r3) := by rw [if_pos rfl] at H; exact H
        clear H
        have H := H1
        clear H1
        simp only [Option.some.injEq, Prod.mk.injEq] at H
        obtain ⟨rfl, rfl, rfl⟩ := H
        go_wp2
        go_ret3
        exact ⟨by first | rfl | (simp; done) | (simp [*]; done), by repeat (first | exact Drawn0.refl _ | apply Drawn0.step)⟩
      · replace c10 := Bool.eq_false_iff.mpr c10
        subst c10
        have H1 : (if 0 ≤ t106 then (if a2 > (shl .i64 1 t106) then ((bulwarkref15_up.f a0 a2).bind fun t110 => (if (wrap64 (t110 + t107)) > 65280 then (some (0, 0, false)) else (some (t110, t107, true)))) else ((bulwarkref15_up.f a0 (shl .i64 1 t106)).bind fun t111 => (if (wrap64 (t111 + t107)) > 65280 then (some (0, 0, false)) else (some (t111, t107, true))))) else (none)) = some (r1, r2, r3) := by rw [if_neg (show ¬ (false = true) by decide)] at H; exact H
        clear H
        have H := H1
        clear H1
        by_cases c11 : 0 ≤ t106
        · rw [if_pos c11] at H
          have c11b0 := eq_true c11
          have c11b1 : decide (0 ≤ t106) = true := decide_eq_true c11
          clear c11
          obtain ⟨ji12, hji12⟩ : ∃ j_ : Int, (shl .i64 1 t106) = j_ := ⟨_, rfl⟩
          replace H : (if a2 > (ji12) then ((bulwarkref15_up.f a0 a2).bind fun t110 => (if (wrap64 (t110 + t107)) > 65280 then (some (0, 0, false)) else (some (t110, t107, true)))) else ((bulwarkref15_up.f a0 (ji12)).bind fun t111 => (if (wrap64 (t111 + t107)) > 65280 then (some (0, 0, false)) else (some (t111, t107, true))))) = some (r1, r2, r3) := by first | (rw [hji12] at H; exact H) | (simp only [hji12] at H ⊢; exact H)
          have hji12_ : (IntKind.i64.wrap (1 * 2 ^ min t106.toNat 64)) = ji12 := hji12
          have hji12z : t106 ≤ 64 → (IntKind.i64.wrap (1 * 2 ^ t106.toNat)) = ji12 := shl_small hji12
          have hji12u : (IntKind.i64.wrap (2 ^ min t106.toNat 64)) = ji12 := by have h_ := hji12_; rw [Int.one_mul] at h_; exact h_
          have hji12v : t106 ≤ 64 → (IntKind.i64.wrap (2 ^ t106.toNat)) = ji12 := fun hle_ => by have h_ := hji12z hle_; rw [Int.one_mul] at h_; exact h_
          have hji12y : (wrap64 (1 * 2 ^ min t106.toNat 64)) = ji12 := (i64_w _).symm.trans hji12_
          have hji12x : t106 ≤ 64 → (wrap64 (1 * 2 ^ t106.toNat)) = ji12 := fun h_ => (i64_w _).symm.trans (hji12z h_)
          by_cases c13 : a2 > (ji12)
          · rw [if_pos c13] at H
            have c13b0 : decide ((ji12) < a2) = true := decide_eq_true c13
            clear c13
            replace H := Option.bind_eq_some_iff.mp H
            obtain ⟨t110, A140, H⟩ := H
            replace H : (if (wrap64 (t110 + t107)) > 65280 then (some (0, 0, false)) else (some (t110, t107, true))) = some (r1, r2, r3) := H
            have A14 := Aside0.mk A140
            clear A140
            by_cases c15 : (wrap64 (t110 + t107)) > 65280
            · rw [if_pos c15] at H
              have c15b0 : decide (65280 < (wrap64 (t110 + t107))) = true := decide_eq_true c15
              clear c15
              simp only [Option.some.injEq, Prod.mk.injEq] at H
              obtain ⟨rfl, rfl, rfl⟩ := H
              go_wp2_with (first | ((with_reducible refine gate_callee (f := 36) rfl ?_); refine goesL_ (some 43) rfl rfl Try.func36 (by kernel_rfl) rfl #[.int .i64 a0, .int .i64 a2] rfl (by (try simp only [List.map_toArray, List.map_cons, List.map_nil]); first | done | rfl | (simp only [List.length_drop, List.length_take]; rfl)) ?_; (with_reducible refine (bulwarkref15_up.calls a0 a2 t110 _ A14.out).mono ?_); rintro e w' ⟨rfl, ⟨nd, rfl⟩⟩; refine ⟨_, rfl, ?_⟩))
              go_ret3
              exact ⟨by first | rfl | (simp; done) | (simp only [← hji12] <;> (first | rfl | simp)) | (simp [*]; done), by repeat (first | exact Drawn0.refl _ | apply Drawn0.step)⟩
            · rw [if_neg c15] at H
              have c15b0 : decide (65280 < (wrap64 (t110 + t107))) = false := decide_eq_false c15
              clear c15
              simp only [Option.some.injEq, Prod.mk.injEq] at H
              obtain ⟨rfl, rfl, rfl⟩ := H
              go_wp2_with (first | ((with_reducible refine gate_callee (f := 36) rfl ?_); refine goesL_ (some 43) rfl rfl Try.func36 (by kernel_rfl) rfl #[.int .i64 a0, .int .i64 a2] rfl (by (try simp only [List.map_toArray, List.map_cons, List.map_nil]); first | done | rfl | (simp only [List.length_drop, List.length_take]; rfl)) ?_; (with_reducible refine (bulwarkref15_up.calls a0 a2 t110 _ A14.out).mono ?_); rintro e w' ⟨rfl, ⟨nd, rfl⟩⟩; refine ⟨_, rfl, ?_⟩))
              go_ret3
              exact ⟨by first | rfl | (simp; done) | (simp only [← hji12] <;> (first | rfl | simp)) | (simp [*]; done), by repeat (first | exact Drawn0.refl _ | apply Drawn0.step)⟩
          · rw [if_neg c13] at H
            have c13b0 : decide ((ji12) < a2) = false := decide_eq_false c13
            clear c13
            replace H := Option.bind_eq_some_iff.mp H
            obtain ⟨t111, A160, H⟩ := H
            replace H : (if (wrap64 (t111 + t107)) > 65280 then (some (0, 0, false)) else (some (t111, t107, true))) = some (r1, r2, r3) := H
            have A16 := Aside0.mk A160
            clear A160
            by_cases c17 : (wrap64 (t111 + t107)) > 65280
            · rw [if_pos c17] at H
              have c17b0 : decide (65280 < (wrap64 (t111 + t107))) = true := decide_eq_true c17
              clear c17
              simp only [Option.some.injEq, Prod.mk.injEq] at H
              obtain ⟨rfl, rfl, rfl⟩ := H
              go_wp2_with (first | ((with_reducible refine gate_callee (f := 36) rfl ?_); refine goesL_ (some 43) rfl rfl Try.func36 (by kernel_rfl) rfl #[.int .i64 a0, .int .i64 ji12] rfl (by (try simp only [List.map_toArray, List.map_cons, List.map_nil]); first | done | (simp only [hji12]; rfl) | rfl | (simp only [List.length_drop, List.length_take]; rfl)) ?_; (with_reducible refine (bulwarkref15_up.calls a0 ji12 t111 _ A16.out).mono ?_); rintro e w' ⟨rfl, ⟨nd, rfl⟩⟩; refine ⟨_, rfl, ?_⟩))
              go_ret3
              exact ⟨by first | rfl | (simp; done) | (simp only [← hji12] <;> (first | rfl | simp)) | (simp [*]; done), by repeat (first | exact Drawn0.refl _ | apply Drawn0.step)⟩
            · rw [if_neg c17] at H
              have c17b0 : decide (65280 < (wrap64 (t111 + t107))) = false := decide_eq_false c17
              clear c17
              simp only [Option.some.injEq, Prod.mk.injEq] at H
              obtain ⟨rfl, rfl, rfl⟩ := H
              go_wp2_with (first | ((with_reducible refine gate_callee (f := 36) rfl ?_); refine goesL_ (some 43) rfl rfl Try.func36 (by kernel_rfl) rfl #[.int .i64 a0, .int .i64 ji12] rfl (by (try simp only [List.map_toArray, List.map_cons, List.map_nil]); first | done | (simp only [hji12]; rfl) | rfl | (simp only [List.length_drop, List.length_take]; rfl)) ?_; (with_reducible refine (bulwarkref15_up.calls a0 ji12 t111 _ A16.out).mono ?_); rintro e w' ⟨rfl, ⟨nd, rfl⟩⟩; refine ⟨_, rfl, ?_⟩))
              go_ret3
              exact ⟨by first | rfl | (simp; done) | (simp only [← hji12] <;> (first | rfl | simp)) | (simp [*]; done), by repeat (first | exact Drawn0.refl _ | apply Drawn0.step)⟩
        · rw [if_neg c11] at H
          exact absurd H (by simp)

end Go.Proofs.Ytegehkenmkmflaa.Q
