-- A walk, out of the kit's print program run by wip/ownprint.sh and turned by wip/qprune.py. Lean checks it.
import Derived.Test.YtegehkenmkmflaaQ0
import Derived.Test.YtegehkenmkmflaaQ2
import Derived.Test.YtegehkenmkmflaaQ3
import Derived.Test.YtegehkenmkmflaaQ4
import Derived.Test.YtegehkenmkmflaaQ7
import Derived.Test.YtegehkenmkmflaaQ15
namespace Go.Proofs.Ytegehkenmkmflaa.Q
open Go.RowKit Go.Proofs.YtegehkenmkmflaaW.PrintWords Go.Proofs.YtegehkenmkmflaaW.PrintLast Go.Proofs.YtegehkenmkmflaaW.PrintMore
attribute [local go_sem] max2_int min2_int max_two min_two max_three min_three max_four min_four   -- for this text's walks alone
set_option linter.unusedVariables false
set_option linter.unusedSimpArgs false

/-! ### bulwarklaw15_PlaceRoom: function 5 -/
def bulwarklaw15_PlaceRoom.f (k : Nat) (a0 : Int) (a1 : Int) (a2 : Int) : Option (Bool) := (place_Room.f k a0).bind fun bt141 => ((bulwarkref15_Room.f k a0).bind fun bt144 => ((place_Next.f k a1 a0 a2).bind fun bt147 => ((bulwarkref15_Next.f k a1 a0 a2).bind fun bt150 => (if bt141.1 = bt144.1 then (if bt141.2.1 = bt144.2.1 then (if (bt141.2.2 == bt144.2.2) = true then (if bt147.1 = bt150.1 then (if bt147.2.1 = bt150.2.1 then (if (bt147.2.2 == bt150.2.2) = true then ((bulwarklaw15_works.f).bind fun t153 => (some t153)) else (some false)) else (some false)) else (some false)) else (some false)) else (some false)) else (some false)))))
theorem bulwarklaw15_PlaceRoom.mono : ∀ a0 a1 a2 k, LeO (bulwarklaw15_PlaceRoom.f k a0 a1 a2) (bulwarklaw15_PlaceRoom.f (k + 1) a0 a1 a2) := by
  intro a0 a1 a2 k
  unfold bulwarklaw15_PlaceRoom.f
  repeat' first
      | (with_reducible exact bulwarkref15_Next.mono _ _ _ _)
      | (with_reducible exact bulwarkref15_Room.mono _ _)
      | (with_reducible exact place_Next.mono _ _ _ _)
      | (with_reducible exact place_Room.mono _ _)
      | (with_reducible exact LeO.refl _)
      | (with_reducible exact LeO.none _)
      | (with_reducible refine LeO.ite ?_ ?_)
      | (with_reducible refine LeO.bind ?_ (fun _ => ?_))
      | exact bulwarkref15_Next.mono _ _ _ _
      | exact bulwarkref15_Room.mono _ _
      | exact place_Next.mono _ _ _ _
      | exact place_Room.mono _ _
      | exact LeO.none _
      | refine LeO.ite ?_ ?_
      | refine LeO.bind ?_ (fun _ => ?_)
set_option maxHeartbeats 8000000 in
set_option maxRecDepth 100000 in
theorem bulwarklaw15_PlaceRoom.calls (k : Nat) (a0 : Int) (a1 : Int) (a2 : Int) (r : Bool) (w : World) (h : bulwarklaw15_PlaceRoom.f k a0 a1 a2 = some r) (hr : r = true) :
    Calls Try.prog 5 #[.int .i64 a0, .int .i64 a1, .int .i64 a2] w fun e w' => e = .returned (.bool r) ∧ Below w.heap.size w w' := by
  have hr' := Aside0.mk hr
  clear hr
  have HB := Aside0.mk (Below.refl w.heap.size w)
  have H : ((place_Room.f k a0).bind fun bt141 => ((bulwarkref15_Room.f k a0).bind fun bt144 => ((place_Next.f k a1 a0 a2).bind fun bt147 => ((bulwarkref15_Next.f k a1 a0 a2).bind fun bt150 => (if bt141.1 = bt144.1 then (if bt141.2.1 = bt144.2.1 then (if (bt141.2.2 == bt144.2.2) = true then (if bt147.1 = bt150.1 then (if bt147.2.1 = bt150.2.1 then (if (bt147.2.2 == bt150.2.2) = true then ((bulwarklaw15_works.f).bind fun t153 => (some t153)) else (some false)) else (some false)) else (some false)) else (some false)) else (some false)) else (some false)))))) = some r := h
  clear h
  replace H := Option.bind_eq_some_iff.mp H
  obtain ⟨⟨t141, t142, t143⟩, A40, H⟩ := H
  replace H : ((bulwarkref15_Room.f k a0).bind fun bt144 => ((place_Next.f k a1 a0 a2).bind fun bt147 => ((bulwarkref15_Next.f k a1 a0 a2).bind fun bt150 => (if t141 = bt144.1 then (if t142 = bt144.2.1 then (if (t143 == bt144.2.2) = true then (if bt147.1 = bt150.1 then (if bt147.2.1 = bt150.2.1 then (if (bt147.2.2 == bt150.2.2) = true then ((bulwarklaw15_works.f).bind fun t153 => (some t153)) else (some false)) else (some false)) else (some false)) else (some false)) else (some false)) else (some false))))) = some r := H
  have A4 := Aside0.mk A40
  clear A40
  replace H := Option.bind_eq_some_iff.mp H
  obtain ⟨⟨t144, t145, t146⟩, A50, H⟩ := H
  replace H : ((place_Next.f k a1 a0 a2).bind fun bt147 => ((bulwarkref15_Next.f k a1 a0 a2).bind fun bt150 => (if t141 = t144 then (if t142 = t145 then (if (t143 == t146) = true then (if bt147.1 = bt150.1 then (if bt147.2.1 = bt150.2.1 then (if (bt147.2.2 == bt150.2.2) = true then ((bulwarklaw15_works.f).bind fun t153 => (some t153)) else (some false)) else (some false)) else (some false)) else (some false)) else (some false)) else (some false)))) = some r := H
  have A5 := Aside0.mk A50
  clear A50
  replace H := Option.bind_eq_some_iff.mp H
  obtain ⟨⟨t147, t148, t149⟩, A60, H⟩ := H
  replace H : ((bulwarkref15_Next.f k a1 a0 a2).bind fun bt150 => (if t141 = t144 then (if t142 = t145 then (if (t143 == t146) = true then (if t147 = bt150.1 then (if t148 = bt150.2.1 then (if (t149 == bt150.2.2) = true then ((bulwarklaw15_works.f).bind fun t153 => (some t153)) else (some false)) else (some false)) else (some false)) else (some false)) else (some false)) else (some false))) = some r := H
  have A6 := Aside0.mk A60
  clear A60
  replace H := Option.bind_eq_some_iff.mp H
  obtain ⟨⟨t150, t151, t152⟩, A70, H⟩ := H
  replace H : (if t141 = t144 then (if t142 = t145 then (if (t143 == t146) = true then (if t147 = t150 then (if t148 = t151 then (if (t149 == t152) = true then ((bulwarklaw15_works.f).bind fun t153 => (some t153)) else (some false)) else (some false)) else (some false)) else (some false)) else (some false)) else (some false)) = some r := H
  have A7 := Aside0.mk A70
  clear A70
  by_cases c8 : t141 = t144
  · rw [if_pos c8] at H
    have c8b0 : (t141 == t144) = true := beq_iff_eq.mpr c8
    have c8b1 : (t141 != t144) = false := bne_eq_false_iff_eq.mpr c8
    clear c8
    by_cases c9 : t142 = t145
    · rw [if_pos c9] at H
      have c9b0 : (t142 == t145) = true := beq_iff_eq.mpr c9
      have c9b1 : (t142 != t145) = false := bne_eq_false_iff_eq.mpr c9
      clear c9
      by_cases c10 : (t143 == t146) = true
      · rw [if_pos c10] at H
        have c10b0 : (t143 == t146) = true := c10
        (try (have c10b1 : decide (t143 = t146) = true := by simpa using c10))
        (try (have c10b2 : (t143 == t146) = true := by simpa using c10))
        clear c10
        by_cases c11 : t147 = t150
        · rw [if_pos c11] at H
          have c11b0 : (t147 == t150) = true := beq_iff_eq.mpr c11
          have c11b1 : (t147 != t150) = false := bne_eq_false_iff_eq.mpr c11
          clear c11
          by_cases c12 : t148 = t151
          · rw [if_pos c12] at H
            have c12b0 : (t148 == t151) = true := beq_iff_eq.mpr c12
            have c12b1 : (t148 != t151) = false := bne_eq_false_iff_eq.mpr c12
            clear c12
            by_cases c13 : (t149 == t152) = true
            · rw [if_pos c13] at H
              have c13b0 : (t149 == t152) = true := c13
              (try (have c13b1 : decide (t149 = t152) = true := by simpa using c13))
              (try (have c13b2 : (t149 == t152) = true := by simpa using c13))
              clear c13
              replace H := Option.bind_eq_some_iff.mp H
              obtain ⟨t153, A140, H⟩ := H
              replace H : (some t153) = some r := H
              have A14 := Aside0.mk A140
              clear A140
              obtain rfl := Option.some.inj H
              go_enter Try.func5, Try.ntmps5
              go_wp2_with (first | ((with_reducible refine gate_callee (f := 17) rfl ?_); refine goesL_ (some 21) rfl rfl Try.func17 (by kernel_rfl) rfl #[.int .i64 a0] rfl (by (try simp only [List.map_toArray, List.map_cons, List.map_nil]); first | done | rfl | (simp only [List.length_drop, List.length_take]; rfl)) ?_; (with_reducible refine (place_Room.calls k a0 t141 t142 t143 _ A4.out).mono ?_); rintro e w' ⟨rfl, ⟨nd, rfl⟩⟩; refine ⟨_, rfl, ?_⟩) | ((with_reducible refine gate_callee (f := 18) rfl ?_); refine goesL_ (some 27) rfl rfl Try.func18 (by kernel_rfl) rfl #[.int .i64 a0] rfl (by (try simp only [List.map_toArray, List.map_cons, List.map_nil]); first | done | rfl | (simp only [List.length_drop, List.length_take]; rfl)) ?_; (with_reducible refine (bulwarkref15_Room.calls k a0 t144 t145 t146 _ A5.out).mono ?_); rintro e w' ⟨rfl, ⟨nd, rfl⟩⟩; refine ⟨_, rfl, ?_⟩) | ((with_reducible refine gate_callee (f := 19) rfl ?_); refine goesL_ (some 35) rfl rfl Try.func19 (by kernel_rfl) rfl #[.int .i64 a1, .int .i64 a0, .int .i64 a2] rfl (by (try simp only [List.map_toArray, List.map_cons, List.map_nil]); first | done | rfl | (simp only [List.length_drop, List.length_take]; rfl)) ?_; (with_reducible refine (place_Next.calls k a1 a0 a2 t147 t148 t149 _ A6.out).mono ?_); rintro e w15 ⟨rfl, hb⟩; refine ⟨_, rfl, ?_⟩; have n0_ := Aside0.mk (below_step (by repeat (first | (with_reducible first | exact HB.out | apply below_alloc | apply pw_below_drewN | apply below_drew1) | exact HB.out)) hb); clear HB; have HB := n0_; clear n0_; (try clear hb); (try clear hb2); (try clear hk); (try clear hi)) | ((with_reducible refine gate_callee (f := 20) rfl ?_); refine goesL_ (some 43) rfl rfl Try.func20 (by kernel_rfl) rfl #[.int .i64 a1, .int .i64 a0, .int .i64 a2] rfl (by (try simp only [List.map_toArray, List.map_cons, List.map_nil]); first | done | rfl | (simp only [List.length_drop, List.length_take]; rfl)) ?_; (with_reducible refine (bulwarkref15_Next.calls k a1 a0 a2 t150 t151 t152 _ A7.out).mono ?_); rintro e w' ⟨rfl, ⟨nd, rfl⟩⟩; refine ⟨_, rfl, ?_⟩) | (go_at_call 21; (with_reducible refine (bulwarklaw15_works.calls  t153 _ A14.out).mono ?_); rintro e w16 ⟨rfl, hb⟩; have n0_ := Aside0.mk (below_step (by repeat (first | (with_reducible first | exact HB.out | apply below_alloc | apply pw_below_drewN | apply below_drew1) | exact HB.out)) hb); clear HB; have HB := n0_; clear n0_; (try clear hb); (try clear hb2); (try clear hk); (try clear hi)))
              go_ret
              exact ⟨by first | rfl | (simp [errW_none, errW_some] <;> rfl) | (simp [*, errW_none, errW_some] <;> rfl), by repeat (first | (with_reducible first | exact HB.out | apply below_alloc | apply pw_below_drewN | apply below_drew1) | exact HB.out)⟩
            · rw [if_neg c13] at H
              exact absurd ((Option.some.inj H).trans hr'.out) (by decide)
          · rw [if_neg c12] at H
            exact absurd ((Option.some.inj H).trans hr'.out) (by decide)
        · rw [if_neg c11] at H
          exact absurd ((Option.some.inj H).trans hr'.out) (by decide)
      · rw [if_neg c10] at H
        exact absurd ((Option.some.inj H).trans hr'.out) (by decide)
    · rw [if_neg c9] at H
      exact absurd ((Option.some.inj H).trans hr'.out) (by decide)
  · rw [if_neg c8] at H
    exact absurd ((Option.some.inj H).trans hr'.out) (by decide)
/-- THE ONE PURE STATEMENT of bulwarklaw15_PlaceRoom: yours. -/
def bulwarklaw15_PlaceRoom.Pure : Prop := ∀ (a0 : Int) (a1 : Int) (a2 : Int), (Lit.int .i64 a0).wf = true → (Lit.int .i64 a1).wf = true → (Lit.int .i64 a2).wf = true → ∃ k, bulwarklaw15_PlaceRoom.f k a0 a1 a2 = some true
theorem bulwarklaw15_PlaceRoom.walk (P : bulwarklaw15_PlaceRoom.Pure) (a0 : Int) (a1 : Int) (a2 : Int) (w : World) (w0 : (Lit.int .i64 a0).wf = true) (w1 : (Lit.int .i64 a1).wf = true) (w2 : (Lit.int .i64 a2).wf = true) :
    Calls Try.prog 5 #[.int .i64 a0, .int .i64 a1, .int .i64 a2] w fun e w' => e = .returned (.bool true) ∧ Below w.heap.size w w' := by
  obtain ⟨k, h⟩ := P a0 a1 a2 w0 w1 w2
  refine (bulwarklaw15_PlaceRoom.calls k a0 a1 a2 true w h rfl).mono ?_
  rintro e w' ⟨rfl, hd⟩
  exact ⟨rfl, hd⟩

end Go.Proofs.Ytegehkenmkmflaa.Q
