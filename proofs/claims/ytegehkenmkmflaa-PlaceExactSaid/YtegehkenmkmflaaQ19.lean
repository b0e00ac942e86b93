-- A walk, out of the kit's print program run by wip/ownprint.sh and turned by wip/qprune.py. Lean checks it.
import Derived.Test.YtegehkenmkmflaaQ0
import Derived.Test.YtegehkenmkmflaaQ2
import Derived.Test.YtegehkenmkmflaaQ4
import Derived.Test.YtegehkenmkmflaaQ15
import Derived.Test.YtegehkenmkmflaaQ18
namespace Go.Proofs.Ytegehkenmkmflaa.Q
open Go.RowKit Go.Proofs.YtegehkenmkmflaaW.PrintWords Go.Proofs.YtegehkenmkmflaaW.PrintLast Go.Proofs.YtegehkenmkmflaaW.PrintMore
attribute [local go_sem] max2_int min2_int max_two min_two max_three min_three max_four min_four   -- for this text's walks alone
set_option linter.unusedVariables false
set_option linter.unusedSimpArgs false

/-! ### bulwarklaw15_PlaceExact: function 6 -/
mutual
def bulwarklaw15_PlaceExact.j0 : Nat → Int → Int → Int → Bool → Option (Bool)
  | 0, _, _, _, _ => none
  | k + 1, x0, x1, x7, x34 => if x34 = true then ((bulwarklaw15_works.f).bind fun t156 => (some t156)) else ((place_Next.f k x1 x0 x7).bind fun bt157 => ((place_Room.f k x0).bind fun bt160 => (if 0 ≤ bt160.1 then (if (shl .i64 1 bt160.1) < x7 then (bulwarklaw15_PlaceExact.j1 k x0 x1 bt157.1 bt157.2.1 bt157.2.2 bt160.2.1 x7) else (bulwarklaw15_PlaceExact.j1 k x0 x1 bt157.1 bt157.2.1 bt157.2.2 bt160.2.1 (shl .i64 1 bt160.1))) else (none))))
def bulwarklaw15_PlaceExact.j1 : Nat → Int → Int → Int → Int → Bool → Int → Int → Option (Bool)
  | 0, _, _, _, _, _, _, _ => none
  | k + 1, x0, x1, x8, x9, x10, x12, x14 => bulwarklaw15_PlaceExact.l0 k x0 x8 x9 x10 x12 x14 x1
def bulwarklaw15_PlaceExact.l0 : Nat → Int → Int → Int → Bool → Int → Int → Int → Option (Bool)
  | 0, _, _, _, _, _, _, _ => none
  | k + 1, x0, x8, x9, x10, x12, x14, x15 => if x15 ≤ (wrap64 (65280 - x12)) then (if x14 = 0 then (none) else (if (Int.tmod x15 x14) = 0 then ((bulwarkref02_Exact.f k (IntKind.u64.wrap (x15)) (IntKind.u64.wrap (wrap64 (x15 + x12)))).bind fun bt164 => (if x10 = true then (if x8 = x15 then (if x9 = x12 then (if x9 ≥ x0 then (if bt164.2.2.2 = 0 then ((bulwarklaw15_works.f).bind fun t169 => (some t169)) else (some false)) else (some false)) else (some false)) else (some false)) else (some false))) else (bulwarklaw15_PlaceExact.l0 k x0 x8 x9 x10 x12 x14 (wrap64 (x15 + 1))))) else (if x10 = true then (some false) else ((bulwarklaw15_works.f).bind fun t163 => (some t163)))
end
def bulwarklaw15_PlaceExact.f (k : Nat) (a0 : Int) (a1 : Int) (a2 : Int) : Option (Bool) := if 0 ≤ (Int.tmod a2 9) then (if a1 < 0 then (bulwarklaw15_PlaceExact.j0 k a0 a1 (shl .i64 1 (Int.tmod a2 9)) true) else (if a1 > 65280 then (bulwarklaw15_PlaceExact.j0 k a0 a1 (shl .i64 1 (Int.tmod a2 9)) true) else (if a0 < 0 then (bulwarklaw15_PlaceExact.j0 k a0 a1 (shl .i64 1 (Int.tmod a2 9)) true) else (bulwarklaw15_PlaceExact.j0 k a0 a1 (shl .i64 1 (Int.tmod a2 9)) (decide (a0 > 70000)))))) else (none)
theorem bulwarklaw15_PlaceExact.mono_l : ∀ k, (∀ y0 y1 y2 y3, LeO (bulwarklaw15_PlaceExact.j0 k y0 y1 y2 y3) (bulwarklaw15_PlaceExact.j0 (k + 1) y0 y1 y2 y3)) ∧ (∀ y0 y1 y2 y3 y4 y5 y6, LeO (bulwarklaw15_PlaceExact.j1 k y0 y1 y2 y3 y4 y5 y6) (bulwarklaw15_PlaceExact.j1 (k + 1) y0 y1 y2 y3 y4 y5 y6)) ∧ (∀ y0 y1 y2 y3 y4 y5 y6, LeO (bulwarklaw15_PlaceExact.l0 k y0 y1 y2 y3 y4 y5 y6) (bulwarklaw15_PlaceExact.l0 (k + 1) y0 y1 y2 y3 y4 y5 y6))
  | 0 => ⟨fun _ _ _ _ r h => by simp [bulwarklaw15_PlaceExact.j0] at h, fun _ _ _ _ _ _ _ r h => by simp [bulwarklaw15_PlaceExact.j1] at h, fun _ _ _ _ _ _ _ r h => by simp [bulwarklaw15_PlaceExact.l0] at h⟩
  | k + 1 => by
    obtain ⟨ih0, ih1, ih2⟩ := bulwarklaw15_PlaceExact.mono_l k
    refine ⟨?_, ?_, ?_⟩
    · intro y0 y1 y2 y3
      unfold bulwarklaw15_PlaceExact.j0
      repeat' first
      | (with_reducible exact ih0 _ _ _ _)
      | (with_reducible exact ih1 _ _ _ _ _ _ _)
      | (with_reducible exact ih2 _ _ _ _ _ _ _)
      | (with_reducible exact bulwarkref02_Exact.mono _ _ _)
      | (with_reducible exact place_Next.mono _ _ _ _)
      | (with_reducible exact place_Room.mono _ _)
      | (with_reducible exact LeO.refl _)
      | (with_reducible exact LeO.none _)
      | (with_reducible refine LeO.ite ?_ ?_)
      | (with_reducible refine LeO.bind ?_ (fun _ => ?_))
      | exact ih0 _ _ _ _
      | exact ih1 _ _ _ _ _ _ _
      | exact ih2 _ _ _ _ _ _ _
      | exact bulwarkref02_Exact.mono _ _ _
      | exact place_Next.mono _ _ _ _
      | exact place_Room.mono _ _
      | exact LeO.none _
      | refine LeO.ite ?_ ?_
      | refine LeO.bind ?_ (fun _ => ?_)
    · intro y0 y1 y2 y3 y4 y5 y6
      unfold bulwarklaw15_PlaceExact.j1
      repeat' first
      | (with_reducible exact ih0 _ _ _ _)
      | (with_reducible exact ih1 _ _ _ _ _ _ _)
      | (with_reducible exact ih2 _ _ _ _ _ _ _)
      | (with_reducible exact bulwarkref02_Exact.mono _ _ _)
      | (with_reducible exact place_Next.mono _ _ _ _)
      | (with_reducible exact place_Room.mono _ _)
      | (with_reducible exact LeO.refl _)
      | (with_reducible exact LeO.none _)
      | (with_reducible refine LeO.ite ?_ ?_)
      | (with_reducible refine LeO.bind ?_ (fun _ => ?_))
      | exact ih0 _ _ _ _
      | exact ih1 _ _ _ _ _ _ _
      | exact ih2 _ _ _ _ _ _ _
      | exact bulwarkref02_Exact.mono _ _ _
      | exact place_Next.mono _ _ _ _
      | exact place_Room.mono _ _
      | exact LeO.none _
      | refine LeO.ite ?_ ?_
      | refine LeO.bind ?_ (fun _ => ?_)
    · intro y0 y1 y2 y3 y4 y5 y6
      unfold bulwarklaw15_PlaceExact.l0
      repeat' first
      | (with_reducible exact ih0 _ _ _ _)
      | (with_reducible exact ih1 _ _ _ _ _ _ _)
      | (with_reducible exact ih2 _ _ _ _ _ _ _)
      | (with_reducible exact bulwarkref02_Exact.mono _ _ _)
      | (with_reducible exact place_Next.mono _ _ _ _)
      | (with_reducible exact place_Room.mono _ _)
      | (with_reducible exact LeO.refl _)
      | (with_reducible exact LeO.none _)
      | (with_reducible refine LeO.ite ?_ ?_)
      | (with_reducible refine LeO.bind ?_ (fun _ => ?_))
      | exact ih0 _ _ _ _
      | exact ih1 _ _ _ _ _ _ _
      | exact ih2 _ _ _ _ _ _ _
      | exact bulwarkref02_Exact.mono _ _ _
      | exact place_Next.mono _ _ _ _
      | exact place_Room.mono _ _
      | exact LeO.none _
      | refine LeO.ite ?_ ?_
      | refine LeO.bind ?_ (fun _ => ?_)
theorem bulwarklaw15_PlaceExact.mono : ∀ a0 a1 a2 k, LeO (bulwarklaw15_PlaceExact.f k a0 a1 a2) (bulwarklaw15_PlaceExact.f (k + 1) a0 a1 a2) := by
  intro a0 a1 a2 k
  obtain ⟨ih0, ih1, ih2⟩ := bulwarklaw15_PlaceExact.mono_l k
  unfold bulwarklaw15_PlaceExact.f
  repeat' first
      | (with_reducible exact ih0 _ _ _ _)
      | (with_reducible exact ih1 _ _ _ _ _ _ _)
      | (with_reducible exact ih2 _ _ _ _ _ _ _)
      | (with_reducible exact bulwarkref02_Exact.mono _ _ _)
      | (with_reducible exact place_Next.mono _ _ _ _)
      | (with_reducible exact place_Room.mono _ _)
      | (with_reducible exact LeO.refl _)
      | (with_reducible exact LeO.none _)
      | (with_reducible refine LeO.ite ?_ ?_)
      | (with_reducible refine LeO.bind ?_ (fun _ => ?_))
      | exact ih0 _ _ _ _
      | exact ih1 _ _ _ _ _ _ _
      | exact ih2 _ _ _ _ _ _ _
      | exact bulwarkref02_Exact.mono _ _ _
      | exact place_Next.mono _ _ _ _
      | exact place_Room.mono _ _
      | exact LeO.none _
      | refine LeO.ite ?_ ?_
      | refine LeO.bind ?_ (fun _ => ?_)
set_option maxHeartbeats 8000000 in
set_option maxRecDepth 100000 in
theorem bulwarklaw15_PlaceExact.calls (k : Nat) (a0 : Int) (a1 : Int) (a2 : Int) (r : Bool) (w : World) (h : bulwarklaw15_PlaceExact.f k a0 a1 a2 = some r) (hr : r = true) :
    Calls Try.prog 6 #[.int .i64 a0, .int .i64 a1, .int .u8 a2] w fun e w' => e = .returned (.bool r) ∧ Below w.heap.size w w' := by
  have hr' := Aside0.mk hr
  clear hr
  have hu32 := Try.underlying32
  have HB := Aside0.mk (Below.refl w.heap.size w)
  have H : (if 0 ≤ (Int.tmod a2 9) then (if a1 < 0 then (bulwarklaw15_PlaceExact.j0 k a0 a1 (shl .i64 1 (Int.tmod a2 9)) true) else (if a1 > 65280 then (bulwarklaw15_PlaceExact.j0 k a0 a1 (shl .i64 1 (Int.tmod a2 9)) true) else (if a0 < 0 then (bulwarklaw15_PlaceExact.j0 k a0 a1 (shl .i64 1 (Int.tmod a2 9)) true) else (bulwarklaw15_PlaceExact.j0 k a0 a1 (shl .i64 1 (Int.tmod a2 9)) (decide (a0 > 70000)))))) else (none)) = some r := h
  clear h
  obtain ⟨ji4, hji4⟩ : ∃ j_ : Int, (Int.tmod a2 9) = j_ := ⟨_, rfl⟩
  replace H : (if 0 ≤ (ji4) then (if a1 < 0 then (bulwarklaw15_PlaceExact.j0 k a0 a1 (shl .i64 1 (ji4)) true) else (if a1 > 65280 then (bulwarklaw15_PlaceExact.j0 k a0 a1 (shl .i64 1 (ji4)) true) else (if a0 < 0 then (bulwarklaw15_PlaceExact.j0 k a0 a1 (shl .i64 1 (ji4)) true) else (bulwarklaw15_PlaceExact.j0 k a0 a1 (shl .i64 1 (ji4)) (decide (a0 > 70000)))))) else (none)) = some r := by first | (rw [hji4] at H; exact H) | (simp only [hji4] at H ⊢; exact H)
  by_cases c5 : 0 ≤ (ji4)
  · rw [if_pos c5] at H
    have c5b0 := eq_true c5
    have c5b1 : decide (0 ≤ (ji4)) = true := decide_eq_true c5
    clear c5
    obtain ⟨ji6, hji6⟩ : ∃ j_ : Int, (shl .i64 1 (ji4)) = j_ := ⟨_, rfl⟩
    replace H : (if a1 < 0 then (bulwarklaw15_PlaceExact.j0 k a0 a1 ji6 true) else (if a1 > 65280 then (bulwarklaw15_PlaceExact.j0 k a0 a1 ji6 true) else (if a0 < 0 then (bulwarklaw15_PlaceExact.j0 k a0 a1 ji6 true) else (bulwarklaw15_PlaceExact.j0 k a0 a1 ji6 (decide (a0 > 70000)))))) = some r := by first | (rw [hji6] at H; exact H) | (simp only [hji6] at H ⊢; exact H)
    have hji6_ : (IntKind.i64.wrap (1 * 2 ^ min (ji4).toNat 64)) = ji6 := hji6
    have hji6z : (ji4) ≤ 64 → (IntKind.i64.wrap (1 * 2 ^ (ji4).toNat)) = ji6 := shl_small hji6
    have hji6u : (IntKind.i64.wrap (2 ^ min (ji4).toNat 64)) = ji6 := by have h_ := hji6_; rw [Int.one_mul] at h_; exact h_
    have hji6v : (ji4) ≤ 64 → (IntKind.i64.wrap (2 ^ (ji4).toNat)) = ji6 := fun hle_ => by have h_ := hji6z hle_; rw [Int.one_mul] at h_; exact h_
    have hji6y : (wrap64 (1 * 2 ^ min (ji4).toNat 64)) = ji6 := (i64_w _).symm.trans hji6_
    have hji6x : (ji4) ≤ 64 → (wrap64 (1 * 2 ^ (ji4).toNat)) = ji6 := fun h_ => (i64_w _).symm.trans (hji6z h_)
    have HC7 := Aside0.mk H
    clear H
    go_enter Try.func6, Try.ntmps6
    go_upto_region 2 with (fail)
    go_cut [34] (fun v34 wc => ∃ (kq : Nat) (x34_6 : Bool), v34 = .bool x34_6 ∧ Aside0 (bulwarklaw15_PlaceExact.j0 kq a0 a1 ji6 x34_6 = some r) ∧ Aside0 (kq ≤ k) ∧ Aside0 (Below w.heap.size w wc))
    case first =>
      have H := HC7.out
      clear HC7
      by_cases c8 : a1 < 0
      · rw [if_pos c8] at H
        have c8b0 : decide (a1 < 0) = true := decide_eq_true c8
        clear c8
        (first | rw [c8b0] | (simp only [i64_w, i32_w]; rw [c8b0]) | skip)
        have H' := Aside0.mk H
        clear H
        go_wp2
        go_meet
        case rel => exact ⟨_, (true), (by first | rfl | (simp; done) | (simp [*]; done)), H', ⟨by first | omega | exact Nat.le_refl _⟩, ⟨by repeat (first | (with_reducible first | exact HB.out | apply below_alloc | apply pw_below_drewN | apply below_drew1) | exact HB.out)⟩⟩
      · rw [if_neg c8] at H
        have c8b0 : decide (a1 < 0) = false := decide_eq_false c8
        clear c8
        (first | rw [c8b0] | (simp only [i64_w, i32_w]; rw [c8b0]) | skip)
        by_cases c9 : a1 > 65280
        · rw [if_pos c9] at H
          have c9b0 : decide (65280 < a1) = true := decide_eq_true c9
          clear c9
          have H' := Aside0.mk H
          clear H
          go_wp2
          go_meet
          case rel => exact ⟨_, (true), (by first | rfl | (simp; done) | (simp [*]; done)), H', ⟨by first | omega | exact Nat.le_refl _⟩, ⟨by repeat (first | (with_reducible first | exact HB.out | apply below_alloc | apply pw_below_drewN | apply below_drew1) | exact HB.out)⟩⟩
        · rw [if_neg c9] at H
          have c9b0 : decide (65280 < a1) = false := decide_eq_false c9
          clear c9
          by_cases c10 : a0 < 0
          · rw [if_pos c10] at H
            have c10b0 : decide (a0 < 0) = true := decide_eq_true c10
            clear c10
            have H' := Aside0.mk H
            clear H
            go_wp2
            go_meet
            case rel => exact ⟨_, (true), (by first | rfl | (simp; done) | (simp [*]; done)), H', ⟨by first | omega | exact Nat.le_refl _⟩, ⟨by repeat (first | (with_reducible first | exact HB.out | apply below_alloc | apply pw_below_drewN | apply below_drew1) | exact HB.out)⟩⟩
          · rw [if_neg c10] at H
            have c10b0 : decide (a0 < 0) = false := decide_eq_false c10
            clear c10
            have H' := Aside0.mk H
            clear H
            go_wp2
            go_meet
            case rel => exact ⟨_, (decide (a0 > 70000)), (by first | rfl | (simp; done) | (simp [*]; done)), H', ⟨by first | omega | exact Nat.le_refl _⟩, ⟨by repeat (first | (with_reducible first | exact HB.out | apply below_alloc | apply pw_below_drewN | apply below_drew1) | exact HB.out)⟩⟩
    case rest =>
      clear HC7
      try clear c1
      try clear p2
      try clear c5
      try clear c5b0
      try clear c5b1
      try clear c6
      try clear p6
      try clear c8
      try clear c8b0
      try clear c9
      try clear c9b0
      try clear c10
      try clear c10b0
      obtain ⟨kq, x34_6, rfl, HA, HJ6, HB⟩ := hcut
      cases kq with
      | zero => exact absurd HA.out (by simp [bulwarklaw15_PlaceExact.j0])
      | succ kj6 =>
        have H := HA.out
        clear HA
        simp only [bulwarklaw15_PlaceExact.j0] at H
        by_cases c11 : x34_6 = true
        · subst c11
          have H1 : ((bulwarklaw15_works.f).bind fun t156 => (some t156)) = some r := by rw [if_pos rfl] at H; exact H
          clear H
          have H := H1
          clear H1
          replace H := Option.bind_eq_some_iff.mp H
          obtain ⟨t156, A120, H⟩ := H
          replace H : (some t156) = some r := H
          have A12 := Aside0.mk A120
          clear A120
          obtain rfl := Option.some.inj H
          go_wp2_with (first | ((with_reducible refine gate_callee (f := 21) rfl ?_); refine goesL_ (some 35) rfl rfl Try.func21 (by kernel_rfl) rfl #[] rfl (by (try simp only [List.map_toArray, List.map_cons, List.map_nil]); first | done | rfl | (simp only [List.length_drop, List.length_take]; rfl)) ?_; (with_reducible refine (bulwarklaw15_works.calls  t156 _ A12.out).mono ?_); rintro e w13 ⟨rfl, hb⟩; refine ⟨_, rfl, ?_⟩; have n0_ := Aside0.mk (below_step (by repeat (first | (with_reducible first | exact HB.out | apply below_alloc | apply pw_below_drewN | apply below_drew1) | exact HB.out)) hb); clear HB; have HB := n0_; clear n0_; (try clear hb); (try clear hb2); (try clear hk); (try clear hi)))
          go_ret
          exact ⟨by first | rfl | (simp [errW_none, errW_some] <;> rfl) | (simp only [← hji4, ← hji6]; first | rfl | (simp [errW_none, errW_some] <;> rfl)) | (simp [*, errW_none, errW_some] <;> rfl), by repeat (first | (with_reducible first | exact HB.out | apply below_alloc | apply pw_below_drewN | apply below_drew1) | exact HB.out)⟩
        · replace c11 := Bool.eq_false_iff.mpr c11
          subst c11
          have H1 : ((place_Next.f kj6 a1 a0 ji6).bind fun bt157 => ((place_Room.f kj6 a0).bind fun bt160 => (if 0 ≤ bt160.1 then (if (shl .i64 1 bt160.1) < ji6 then (bulwarklaw15_PlaceExact.j1 kj6 a0 a1 bt157.1 bt157.2.1 bt157.2.2 bt160.2.1 ji6) else (bulwarklaw15_PlaceExact.j1 kj6 a0 a1 bt157.1 bt157.2.1 bt157.2.2 bt160.2.1 (shl .i64 1 bt160.1))) else (none)))) = some r := by rw [if_neg (show ¬ (false = true) by decide)] at H; exact H
          clear H
          have H := H1
          clear H1
          replace H := Option.bind_eq_some_iff.mp H
          obtain ⟨⟨t157, t158, t159⟩, A140, H⟩ := H
          replace H : ((place_Room.f kj6 a0).bind fun bt160 => (if 0 ≤ bt160.1 then (if (shl .i64 1 bt160.1) < ji6 then (bulwarklaw15_PlaceExact.j1 kj6 a0 a1 t157 t158 t159 bt160.2.1 ji6) else (bulwarklaw15_PlaceExact.j1 kj6 a0 a1 t157 t158 t159 bt160.2.1 (shl .i64 1 bt160.1))) else (none))) = some r := H
          have A14 := Aside0.mk A140
          clear A140
          replace H := Option.bind_eq_some_iff.mp H
          obtain ⟨⟨t160, t161, t162⟩, A150, H⟩ := H
          replace H : (if 0 ≤ t160 then (if (shl .i64 1 t160) < ji6 then (bulwarklaw15_PlaceExact.j1 kj6 a0 a1 t157 t158 t159 t161 ji6) else (bulwarklaw15_PlaceExact.j1 kj6 a0 a1 t157 t158 t159 t161 (shl .i64 1 t160))) else (none)) = some r := H
          have A15 := Aside0.mk A150
          clear A150
          by_cases c16 : 0 ≤ t160
          · rw [if_pos c16] at H
            have c16b0 := eq_true c16
            have c16b1 : decide (0 ≤ t160) = true := decide_eq_true c16
            clear c16
            obtain ⟨ji17, hji17⟩ : ∃ j_ : Int, (shl .i64 1 t160) = j_ := ⟨_, rfl⟩
            replace H : (if (ji17) < ji6 then (bulwarklaw15_PlaceExact.j1 kj6 a0 a1 t157 t158 t159 t161 ji6) else (bulwarklaw15_PlaceExact.j1 kj6 a0 a1 t157 t158 t159 t161 ji17)) = some r := by first | (rw [hji17] at H; exact H) | (simp only [hji17] at H ⊢; exact H)
            (try rw [hji17] at A14)
            (try rw [hji17] at A15)
            have hji17_ : (IntKind.i64.wrap (1 * 2 ^ min t160.toNat 64)) = ji17 := hji17
            have hji17z : t160 ≤ 64 → (IntKind.i64.wrap (1 * 2 ^ t160.toNat)) = ji17 := shl_small hji17
            have hji17u : (IntKind.i64.wrap (2 ^ min t160.toNat 64)) = ji17 := by have h_ := hji17_; rw [Int.one_mul] at h_; exact h_
            have hji17v : t160 ≤ 64 → (IntKind.i64.wrap (2 ^ t160.toNat)) = ji17 := fun hle_ => by have h_ := hji17z hle_; rw [Int.one_mul] at h_; exact h_
            have hji17y : (wrap64 (1 * 2 ^ min t160.toNat 64)) = ji17 := (i64_w _).symm.trans hji17_
            have hji17x : t160 ≤ 64 → (wrap64 (1 * 2 ^ t160.toNat)) = ji17 := fun h_ => (i64_w _).symm.trans (hji17z h_)
            have HC18 := Aside0.mk H
            clear H
            go_upto_if 54 with (first | ((with_reducible refine gate_callee (f := 19) rfl ?_); refine goesL_ (some 40) rfl rfl Try.func19 (by kernel_rfl) rfl #[.int .i64 a1, .int .i64 a0, .int .i64 ji6] rfl (by (try simp only [List.map_toArray, List.map_cons, List.map_nil]); first | done | (simp only [hji6]; rfl) | rfl | (simp only [List.length_drop, List.length_take]; rfl)) ?_; (with_reducible refine (place_Next.calls kj6 a1 a0 ji6 t157 t158 t159 _ A14.out).mono ?_); rintro e w19 ⟨rfl, hb⟩; refine ⟨_, rfl, ?_⟩; have n0_ := Aside0.mk (below_step (by repeat (first | (with_reducible first | exact HB.out | apply below_alloc | apply pw_below_drewN | apply below_drew1) | exact HB.out)) hb); clear HB; have HB := n0_; clear n0_; (try clear hb); (try clear hb2); (try clear hk); (try clear hi)) | ((with_reducible refine gate_callee (f := 17) rfl ?_); refine goesL_ (some 46) rfl rfl Try.func17 (by kernel_rfl) rfl #[.int .i64 a0] rfl (by (try simp only [List.map_toArray, List.map_cons, List.map_nil]); first | done | rfl | (simp only [List.length_drop, List.length_take]; rfl)) ?_; (with_reducible refine (place_Room.calls kj6 a0 t160 t161 t162 _ A15.out).mono ?_); rintro e w' ⟨rfl, ⟨nd, rfl⟩⟩; refine ⟨_, rfl, ?_⟩))
            (try simp only [Act.put, List.setIfInBounds_toArray, List.set_cons_zero, List.set_cons_succ])
            go_cut [14] (fun v14 wc => ∃ (kq : Nat) (x14_17 : Int), v14 = .int .i64 x14_17 ∧ Aside0 (bulwarklaw15_PlaceExact.j1 kq a0 a1 t157 t158 t159 t161 x14_17 = some r) ∧ Aside0 (kq ≤ kj6) ∧ Aside0 (Below w.heap.size w wc))
            case first =>
              have H := HC18.out
              clear HC18
              by_cases c20 : (ji17) < ji6
              · rw [if_pos c20] at H
                have c20b0 : decide ((ji17) < ji6) = true := decide_eq_true c20
                clear c20
                (first | rw [c20b0] | (simp only [i64_w, i32_w]; rw [c20b0]) | skip)
                have H' := Aside0.mk H
                clear H
                go_wp2
                go_meet
                case rel => exact ⟨_, (ji6), (by first | rfl | (simp; done) | (simp only [← hji6] <;> (first | rfl | simp)) | (simp [*]; done)), H', ⟨by have := HJ6.out; first | omega | exact Nat.le_refl _⟩, ⟨by repeat (first | (with_reducible first | exact HB.out | apply below_alloc | apply pw_below_drewN | apply below_drew1) | exact HB.out)⟩⟩
              · rw [if_neg c20] at H
                have c20b0 : decide ((ji17) < ji6) = false := decide_eq_false c20
                clear c20
                (first | rw [c20b0] | (simp only [i64_w, i32_w]; rw [c20b0]) | skip)
                have H' := Aside0.mk H
                clear H
                go_wp2
                go_meet
                case rel => exact ⟨_, (ji17), (by first | rfl | (simp; done) | (simp only [← hji17] <;> (first | rfl | simp)) | (simp [*]; done)), H', ⟨by have := HJ6.out; first | omega | exact Nat.le_refl _⟩, ⟨by repeat (first | (with_reducible first | exact HB.out | apply below_alloc | apply pw_below_drewN | apply below_drew1) | exact HB.out)⟩⟩
            case rest =>
              clear HC18
              try clear c1
              try clear c2
              try clear p2
              try clear c5
              try clear c5b0
              try clear c5b1
              try clear c6
              try clear p6
              try clear c8
              try clear c8b0
              try clear c9
              try clear c9b0
              try clear c10
              try clear c10b0
              try clear c11
              try clear c16
              try clear c16b0
              try clear c16b1
              try clear c17
              try clear c19
              try clear c20
              try clear c20b0
              try clear p2
              try clear p6
              obtain ⟨kq, x14_17, rfl, HA, HJ17, HB⟩ := hcut
              cases kq with
              | zero => exact absurd HA.out (by simp [bulwarklaw15_PlaceExact.j1])
              | succ kj17 =>
                have H := HA.out
                clear HA
                simp only [bulwarklaw15_PlaceExact.j1] at H
                have H' := Aside0.mk H
                clear H
                go_wp2
                go_loopg [15] kj17 (fun kq v15 w' => ∃ (x15_3 : Int), v15 = .int .i64 x15_3 ∧ Aside0 (bulwarklaw15_PlaceExact.l0 kq a0 t157 t158 t159 t161 x14_17 x15_3 = some r) ∧ Aside0 (kq ≤ kj17) ∧ Aside0 (Below w.heap.size w w'))
                case atStart => exact ⟨(a1), (by first | rfl | (simp; done) | (simp [*]; done)), H', ⟨Nat.le_refl _⟩, ⟨by repeat (first | (with_reducible first | exact HB.out | apply below_alloc | apply pw_below_drewN | apply below_drew1) | exact HB.out)⟩⟩
                case round =>
                  clear H'
                  try clear c1
                  try clear c2
                  try clear p2
                  try clear c5
                  try clear c5b0
                  try clear c5b1
                  try clear c6
                  try clear p6
                  try clear c8
                  try clear c8b0
                  try clear c9
                  try clear c9b0
                  try clear c10
                  try clear c10b0
                  try clear c11
                  try clear c16
                  try clear c16b0
                  try clear c16b1
                  try clear c17
                  try clear c19
                  try clear c20
                  try clear c20b0
                  try clear p2
                  try clear p6
                  obtain ⟨x15_3, rfl, HA, HK3, HB⟩ := hrel
                  cases gk with
                  | zero => exact absurd HA.out (by simp [bulwarklaw15_PlaceExact.l0])
                  | succ k3 =>
                    have H := HA.out
                    clear HA
                    simp only [bulwarklaw15_PlaceExact.l0] at H
                    by_cases c21 : x15_3 ≤ (wrap64 (65280 - t161))
                    · rw [if_pos c21] at H
                      have c21b0 : decide (x15_3 ≤ (wrap64 (65280 - t161))) = true := decide_eq_true c21
                      clear c21
                      by_cases c22 : x14_17 = 0
                      · rw [if_pos c22] at H
                        exact absurd H (by simp)
                      · rw [if_neg c22] at H
                        have c22b0 : (x14_17 == 0) = false := beq_eq_false_iff_ne.mpr c22
                        have c22b1 : (x14_17 != 0) = true := bne_iff_ne.mpr c22
                        by_cases c23 : (Int.tmod x15_3 x14_17) = 0
                        · rw [if_pos c23] at H
                          have c23b0 : ((Int.tmod x15_3 x14_17) == 0) = true := beq_iff_eq.mpr c23
                          have c23b1 : ((Int.tmod x15_3 x14_17) != 0) = false := bne_eq_false_iff_eq.mpr c23
                          clear c23
                          replace H := Option.bind_eq_some_iff.mp H
                          obtain ⟨⟨t164, t165, t166, t167⟩, A240, H⟩ := H
                          replace H : (if t159 = true then (if t157 = x15_3 then (if t158 = t161 then (if t158 ≥ a0 then (if t167 = 0 then ((bulwarklaw15_works.f).bind fun t169 => (some t169)) else (some false)) else (some false)) else (some false)) else (some false)) else (some false)) = some r := H
                          have A24 := Aside0.mk A240
                          clear A240
                          by_cases c25 : t159 = true
                          · subst c25
                            have H1 : (if t157 = x15_3 then (if t158 = t161 then (if t158 ≥ a0 then (if t167 = 0 then ((bulwarklaw15_works.f).bind fun t169 => (some t169)) else (some false)) else (some false)) else (some false)) else (some false)) = some r := by rw [if_pos rfl] at H; exact H
                            clear H
                            have H := H1
                            clear H1
                            by_cases c26 : t157 = x15_3
                            · rw [if_pos c26] at H
                              have c26b0 : (t157 == x15_3) = true := beq_iff_eq.mpr c26
                              have c26b1 : (t157 != x15_3) = false := bne_eq_false_iff_eq.mpr c26
                              clear c26
                              by_cases c27 : t158 = t161
                              · rw [if_pos c27] at H
                                have c27b0 : (t158 == t161) = true := beq_iff_eq.mpr c27
                                have c27b1 : (t158 != t161) = false := bne_eq_false_iff_eq.mpr c27
                                clear c27
                                by_cases c28 : t158 ≥ a0
                                · rw [if_pos c28] at H
                                  have c28b0 : decide (a0 ≤ t158) = true := decide_eq_true c28
                                  clear c28
                                  by_cases c29 : t167 = 0
                                  · rw [if_pos c29] at H
                                    have c29b0 : (t167 == 0) = true := beq_iff_eq.mpr c29
                                    have c29b1 : (t167 != 0) = false := bne_eq_false_iff_eq.mpr c29
                                    clear c29
                                    replace H := Option.bind_eq_some_iff.mp H
                                    obtain ⟨t169, A300, H⟩ := H
                                    replace H : (some t169) = some r := H
                                    have A30 := Aside0.mk A300
                                    clear A300
                                    obtain rfl := Option.some.inj H
                                    go_wp2_with (first | ((with_reducible refine gate_callee (f := 22) rfl ?_); refine goesL_ (some 74) rfl rfl Try.func22 (by kernel_rfl) rfl #[.int .u64 (IntKind.u64.wrap (x15_3)), .int .u64 (IntKind.u64.wrap (wrap64 (x15_3 + t161)))] rfl (by (try simp only [List.map_toArray, List.map_cons, List.map_nil]); first | done | rfl | (simp only [List.length_drop, List.length_take]; rfl)) ?_; (with_reducible refine (bulwarkref02_Exact.calls k3 (IntKind.u64.wrap (x15_3)) (IntKind.u64.wrap (wrap64 (x15_3 + t161))) t164 t165 t166 t167 _ A24.out).mono ?_); rintro e w31 ⟨rfl, hb⟩; refine ⟨_, rfl, ?_⟩; have n0_ := Aside0.mk (below_step (by repeat (first | (with_reducible first | exact HB.out | apply below_alloc | apply pw_below_drewN | apply below_drew1) | exact HB.out)) hb); clear HB; have HB := n0_; clear n0_; (try clear hb); (try clear hb2); (try clear hk); (try clear hi)) | ((with_reducible refine gate_dst (N := 16) rfl ?_); refine box_event ?hg (N := 16) ?hd (cs := #[.int .u8 0, .int .u16 0, .int .u16 0]) (t := 32) ?hr ?_; (case hd => rfl); (case hg => rfl); (case hr => first | (go_simp; done) | (go_simp; rfl)); intro gb168 hg w32 hbox hb; have n0_ := Aside0.mk (below_step (by repeat (first | (with_reducible first | exact HB.out | apply below_alloc | apply pw_below_drewN | apply below_drew1) | exact HB.out)) hb); have n1_ := Aside0.mk (hbox); have n2_ := Aside0.mk ((by rw [hg]; exact (below_size (by repeat (first | (with_reducible first | exact HB.out | apply below_alloc | apply pw_below_drewN | apply below_drew1) | exact HB.out))) : w.heap.size ≤ gb168)); have n3_ := Aside0.mk ((by rw [hg]; exact (below_size (by repeat (first | (with_reducible first | exact HB.out | apply below_alloc | apply pw_below_drewN | apply below_drew1) | exact HB.out))) : w.heap.size ≤ gb168)); clear HB; have HB := n0_; have BK168 := n1_; have GW168 := n2_; have GE168 := n3_; clear n0_ n1_ n2_ n3_; clear hb hbox hg; have hcz33_0 : w32.cell? ⟨gb168, 0, none⟩ = some (.int .u8 0) := (blk_cell BK168.out 0).trans rfl; have hcz33_1 : w32.cell? ⟨gb168, 1, none⟩ = some (.int .u16 0) := (blk_cell BK168.out 1).trans rfl; have hcz33_2 : w32.cell? ⟨gb168, 2, none⟩ = some (.int .u16 0) := (blk_cell BK168.out 2).trans rfl; have hfz33_0 := blk_frozen BK168.out 0; have hfz33_1 := blk_frozen BK168.out 1; have hfz33_2 := blk_frozen BK168.out 2) | (go_at_call 21; (with_reducible refine (bulwarklaw15_works.calls  t169 _ A30.out).mono ?_); rintro e w34 ⟨rfl, hb⟩; have n0_ := Aside0.mk (blk_below (g := gb168) (o := .cells #[.int .u8 t164, .int .u16 t165, .int .u16 t166] 32 (0, 0)) (by (with_reducible repeat (first | refine blk_drewN ?_ _ | refine blk_drew ?_ | refine blk_alloc ?_ _)); refine blk_put (cs := #[.int .u8 t164, .int .u16 t165, .int .u16 0]) ?_ 2 _ rfl; (with_reducible repeat (first | refine blk_drewN ?_ _ | refine blk_drew ?_ | refine blk_alloc ?_ _)); refine blk_put (cs := #[.int .u8 t164, .int .u16 0, .int .u16 0]) ?_ 1 _ rfl; (with_reducible repeat (first | refine blk_drewN ?_ _ | refine blk_drew ?_ | refine blk_alloc ?_ _)); refine blk_put (cs := #[.int .u8 0, .int .u16 0, .int .u16 0]) ?_ 0 _ rfl; (with_reducible repeat (first | refine blk_drewN ?_ _ | refine blk_drew ?_ | refine blk_alloc ?_ _)); exact BK168.out) hb); have n1_ := Aside0.mk (below_step (by repeat (first | (with_reducible first | exact HB.out | apply below_alloc | apply pw_below_drewN | apply below_drew1 | refine below_set ?_ GE168.out) | exact HB.out)) hb); clear BK168; clear HB; have BK168 := n0_; have HB := n1_; clear n0_ n1_; (try clear hb); (try clear hb2); (try clear hk); (try clear hi)))
                                    go_ret
                                    exact ⟨by first | rfl | (simp [errW_none, errW_some] <;> rfl) | (simp only [← hji4, ← hji6, ← hji17]; first | rfl | (simp [errW_none, errW_some] <;> rfl)) | (simp [*, errW_none, errW_some] <;> rfl), by repeat (first | (with_reducible first | exact HB.out | apply below_alloc | apply pw_below_drewN | apply below_drew1 | refine below_set ?_ GE168.out) | exact HB.out)⟩
                                  · rw [if_neg c29] at H
                                    exact absurd ((Option.some.inj H).trans hr'.out) (by decide)
                                · rw [if_neg c28] at H
                                  exact absurd ((Option.some.inj H).trans hr'.out) (by decide)
                              · rw [if_neg c27] at H
                                exact absurd ((Option.some.inj H).trans hr'.out) (by decide)
                            · rw [if_neg c26] at H
                              exact absurd ((Option.some.inj H).trans hr'.out) (by decide)
                          · replace c25 := Bool.eq_false_iff.mpr c25
                            subst c25
                            have H1 : (some false) = some r := by rw [if_neg (show ¬ (false = true) by decide)] at H; exact H
                            exact absurd ((Option.some.inj H1).trans hr'.out) (by decide)
                        · rw [if_neg c23] at H
                          have c23b0 : ((Int.tmod x15_3 x14_17) == 0) = false := beq_eq_false_iff_ne.mpr c23
                          have c23b1 : ((Int.tmod x15_3 x14_17) != 0) = true := bne_iff_ne.mpr c23
                          have H' := Aside0.mk H
                          clear H
                          go_wp2
                          go_roundg k3
                          case measure => have := HJ6.out; have := HJ17.out; have := HK3.out; omega
                          case rel => exact ⟨(wrap64 (x15_3 + 1)), (by first | rfl | (simp; done) | (simp [*]; done)), H', ⟨by have := HJ6.out; have := HJ17.out; have := HK3.out; omega⟩, ⟨by repeat (first | (with_reducible first | exact HB.out | apply below_alloc | apply pw_below_drewN | apply below_drew1) | exact HB.out)⟩⟩
                    · rw [if_neg c21] at H
                      have c21b0 : decide (x15_3 ≤ (wrap64 (65280 - t161))) = false := decide_eq_false c21
                      clear c21
                      by_cases c50 : t159 = true
                      · subst c50
                        have H1 : (some false) = some r := by rw [if_pos rfl] at H; exact H
                        exact absurd ((Option.some.inj H1).trans hr'.out) (by decide)
                      · replace c50 := Bool.eq_false_iff.mpr c50
                        subst c50
                        have H1 : ((bulwarklaw15_works.f).bind fun t163 => (some t163)) = some r := by rw [if_neg (show ¬ (false = true) by decide)] at H; exact H
                        clear H
                        have H := H1
                        clear H1
                        replace H := Option.bind_eq_some_iff.mp H
                        obtain ⟨t163, A510, H⟩ := H
                        replace H : (some t163) = some r := H
                        have A51 := Aside0.mk A510
                        clear A510
                        obtain rfl := Option.some.inj H
                        go_wp2_with (first | (go_at_call 21; (with_reducible refine (bulwarklaw15_works.calls  t163 _ A51.out).mono ?_); rintro e w52 ⟨rfl, hb⟩; have n0_ := Aside0.mk (below_step (by repeat (first | (with_reducible first | exact HB.out | apply below_alloc | apply pw_below_drewN | apply below_drew1) | exact HB.out)) hb); clear HB; have HB := n0_; clear n0_; (try clear hb); (try clear hb2); (try clear hk); (try clear hi)))
                        go_ret
                        exact ⟨by first | rfl | (simp [errW_none, errW_some] <;> rfl) | (simp only [← hji4, ← hji6, ← hji17]; first | rfl | (simp [errW_none, errW_some] <;> rfl)) | (simp [*, errW_none, errW_some] <;> rfl), by repeat (first | (with_reducible first | exact HB.out | apply below_alloc | apply pw_below_drewN | apply below_drew1) | exact HB.out)⟩
          · rw [if_neg c16] at H
            exact absurd H (by simp)
  · rw [if_neg c5] at H
    exact absurd H (by simp)

/-- THE ONE PURE STATEMENT of bulwarklaw15_PlaceExact: yours. -/
def bulwarklaw15_PlaceExact.Pure : Prop := ∀ (a0 : Int) (a1 : Int) (a2 : Int), (Lit.int .i64 a0).wf = true → (Lit.int .i64 a1).wf = true → (Lit.int .u8 a2).wf = true → ∃ k, bulwarklaw15_PlaceExact.f k a0 a1 a2 = some true
theorem bulwarklaw15_PlaceExact.walk (P : bulwarklaw15_PlaceExact.Pure) (a0 : Int) (a1 : Int) (a2 : Int) (w : World) (w0 : (Lit.int .i64 a0).wf = true) (w1 : (Lit.int .i64 a1).wf = true) (w2 : (Lit.int .u8 a2).wf = true) :
    Calls Try.prog 6 #[.int .i64 a0, .int .i64 a1, .int .u8 a2] w fun e w' => e = .returned (.bool true) ∧ Below w.heap.size w w' := by
  obtain ⟨k, h⟩ := P a0 a1 a2 w0 w1 w2
  refine (bulwarklaw15_PlaceExact.calls k a0 a1 a2 true w h rfl).mono ?_
  rintro e w' ⟨rfl, hd⟩
  exact ⟨rfl, hd⟩

end Go.Proofs.Ytegehkenmkmflaa.Q
