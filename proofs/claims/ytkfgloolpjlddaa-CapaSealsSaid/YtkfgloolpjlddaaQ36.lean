-- A walk, out of the kit's print program run by wip/ownprint.sh and turned by wip/qprune.py. Lean checks it.
import Derived.Test.YtkfgloolpjlddaaQ0
import Derived.Test.YtkfgloolpjlddaaQ1
import Derived.Test.YtkfgloolpjlddaaQ23
import Derived.Test.YtkfgloolpjlddaaQ24
import Derived.Test.YtkfgloolpjlddaaQ28
import Derived.Test.YtkfgloolpjlddaaQ32
import Derived.Test.YtkfgloolpjlddaaQ33
import Derived.Test.YtkfgloolpjlddaaQ34
import Derived.Test.YtkfgloolpjlddaaQ35
namespace Go.Proofs.Ytkfgloolpjlddaa.Q
open Go.RowKit Go.Proofs.YtkfgloolpjlddaaW.PrintWords Go.Proofs.YtkfgloolpjlddaaW.PrintLast Go.Proofs.YtkfgloolpjlddaaW.PrintMore
attribute [local go_sem] max2_int min2_int max_two min_two max_three min_three max_four min_four   -- for this text's walks alone
set_option linter.unusedVariables false
set_option linter.unusedSimpArgs false

attribute [local go_sem high] eqA27
/-! ### bulwarklaw03_CapaSeals: function 5 -/
def bulwarklaw03_CapaSeals.f (k : Nat) (a0_0 : Bool) (a0_1 : Int) (a0_2 : Int) (a0_3 : Int) (a0_4 : Int) (a0_5 : Int) (a0_6 : Int) (a1 : Int) : Option (Bool) := (capa_Sentry.f a0_0 a0_1 a0_2 a0_3 a0_4 a0_5 a0_6).bind fun bt287 => ((bulwarkref03_Sentry.f a0_0 a0_1 a0_2 a0_3 a0_4 a0_5 a0_6).bind fun bt294 => (if (bt287.1 == bt294.1 && (bt287.2.1 == bt294.2.1 && (bt287.2.2.1 == bt294.2.2.1 && (bt287.2.2.2.1 == bt294.2.2.2.1 && ((bt287.2.2.2.2.1 == bt294.2.2.2.2.1 && (bt287.2.2.2.2.2.1 == bt294.2.2.2.2.2.1 && (bt287.2.2.2.2.2.2 == bt294.2.2.2.2.2.2)))))))) = true then ((capa_Seal.f a0_0 a0_1 a0_2 a0_3 a0_4 a0_5 a0_6 a1).bind fun bt301 => ((bulwarkref03_Seal.f a0_0 a0_1 a0_2 a0_3 a0_4 a0_5 a0_6 a1).bind fun bt308 => (if (bt301.1 == bt308.1 && (bt301.2.1 == bt308.2.1 && (bt301.2.2.1 == bt308.2.2.1 && (bt301.2.2.2.1 == bt308.2.2.2.1 && ((bt301.2.2.2.2.1 == bt308.2.2.2.2.1 && (bt301.2.2.2.2.2.1 == bt308.2.2.2.2.2.1 && (bt301.2.2.2.2.2.2 == bt308.2.2.2.2.2.2)))))))) = true then ((capa_Unseal.f a0_0 a0_1 a0_2 a0_3 a0_4 a0_5 a0_6).bind fun bt315 => ((bulwarkref03_Unseal.f a0_0 a0_1 a0_2 a0_3 a0_4 a0_5 a0_6).bind fun bt322 => (if (bt315.1 == bt322.1 && (bt315.2.1 == bt322.2.1 && (bt315.2.2.1 == bt322.2.2.1 && (bt315.2.2.2.1 == bt322.2.2.2.1 && ((bt315.2.2.2.2.1 == bt322.2.2.2.2.1 && (bt315.2.2.2.2.2.1 == bt322.2.2.2.2.2.1 && (bt315.2.2.2.2.2.2 == bt322.2.2.2.2.2.2)))))))) = true then ((bulwarklaw03_lives.f k).bind fun t329 => (some t329)) else (some false)))) else (some false)))) else (some false)))
theorem bulwarklaw03_CapaSeals.mono : ∀ a0 a1 a2 a3 a4 a5 a6 a7 k, LeO (bulwarklaw03_CapaSeals.f k a0 a1 a2 a3 a4 a5 a6 a7) (bulwarklaw03_CapaSeals.f (k + 1) a0 a1 a2 a3 a4 a5 a6 a7) := by
  intro a0 a1 a2 a3 a4 a5 a6 a7 k
  unfold bulwarklaw03_CapaSeals.f
  repeat' first
      | (with_reducible exact bulwarklaw03_lives.mono _)
      | (with_reducible exact LeO.refl _)
      | (with_reducible exact LeO.none _)
      | (with_reducible refine LeO.ite ?_ ?_)
      | (with_reducible refine LeO.bind ?_ (fun _ => ?_))
      | exact bulwarklaw03_lives.mono _
      | exact LeO.none _
      | refine LeO.ite ?_ ?_
      | refine LeO.bind ?_ (fun _ => ?_)
def bulwarklaw03_CapaSeals.T1 : Bool × List (List Nat × List Nat) := (true, [([], []), ([0], [0]), ([], []), ([2, 1], [2]), ([1, 3], [1, 3]), ([4, 3], [4]), ([5], [5]), ([5], [5]), ([6, 7, 5, 5], [5, 6, 7]), ([5], [5]), ([5], [5]), ([9, 10, 8, 5], [5, 9, 10]), ([8, 11, 5], [5, 8, 11]), ([5, 12], [5, 12]), ([13, 11], [13]), ([14], [14]), ([15, 14, 14], [14, 15]), ([14], [14]), ([17, 16, 14], [14, 17]), ([16, 18, 14], [14, 16, 18]), ([14, 19], [14, 19]), ([20, 18], [20]), ([21, 21], [21]), ([21, 22], [21, 22]), ([23, 22, 0, 1, 2, 3, 4, 5, 6, 7, 8, 9, 10, 11, 12, 13, 14, 15, 16, 17, 18, 19, 20, 21, 22, 23], [23])])
def bulwarklaw03_CapaSeals.B1 : List Nat := [0, 1, 0, 7, 15, 31, 63, 63, 255, 63, 63, 2047, 4095, 8191, 16383, 32767, 65535, 32767, 262143, 524287, 1048575, 2097151, 4194303, 8388607, 16777215]
theorem bulwarklaw03_CapaSeals.tab1 : rtab .any (opsOf Try.f5 1) = bulwarklaw03_CapaSeals.T1 := by kernel_rfl
theorem bulwarklaw03_CapaSeals.bits1 : waitsOk bulwarklaw03_CapaSeals.T1.2 bulwarklaw03_CapaSeals.B1 = true := by kernel_rfl
set_option maxHeartbeats 8000000 in
set_option maxRecDepth 100000 in
theorem bulwarklaw03_CapaSeals.calls (k : Nat) (a0_0 : Bool) (a0_1 : Int) (a0_2 : Int) (a0_3 : Int) (a0_4 : Int) (a0_5 : Int) (a0_6 : Int) (a1 : Int) (r : Bool) (w : World) (h : bulwarklaw03_CapaSeals.f k a0_0 a0_1 a0_2 a0_3 a0_4 a0_5 a0_6 a1 = some r) (hr : r = true) :
    Calls Try.prog 5 #[.agg #[.bool a0_0, .int .u32 a0_1, .int .u8 a0_2, .int .u8 a0_3, .int .u8 a0_4, .int .u16 a0_5, .int .u16 a0_6], .int .u32 a1] w fun e w' => e = .returned (.bool r) ∧ Below w.heap.size w w' := by
  have hr' := Aside0.mk hr
  clear hr
  have hu27 := Try.underlying27
  have HB := Aside0.mk (Below.refl w.heap.size w)
  have H : ((capa_Sentry.f a0_0 a0_1 a0_2 a0_3 a0_4 a0_5 a0_6).bind fun bt287 => ((bulwarkref03_Sentry.f a0_0 a0_1 a0_2 a0_3 a0_4 a0_5 a0_6).bind fun bt294 => (if (bt287.1 == bt294.1 && (bt287.2.1 == bt294.2.1 && (bt287.2.2.1 == bt294.2.2.1 && (bt287.2.2.2.1 == bt294.2.2.2.1 && ((bt287.2.2.2.2.1 == bt294.2.2.2.2.1 && (bt287.2.2.2.2.2.1 == bt294.2.2.2.2.2.1 && (bt287.2.2.2.2.2.2 == bt294.2.2.2.2.2.2)))))))) = true then ((capa_Seal.f a0_0 a0_1 a0_2 a0_3 a0_4 a0_5 a0_6 a1).bind fun bt301 => ((bulwarkref03_Seal.f a0_0 a0_1 a0_2 a0_3 a0_4 a0_5 a0_6 a1).bind fun bt308 => (if (bt301.1 == bt308.1 && (bt301.2.1 == bt308.2.1 && (bt301.2.2.1 == bt308.2.2.1 && (bt301.2.2.2.1 == bt308.2.2.2.1 && ((bt301.2.2.2.2.1 == bt308.2.2.2.2.1 && (bt301.2.2.2.2.2.1 == bt308.2.2.2.2.2.1 && (bt301.2.2.2.2.2.2 == bt308.2.2.2.2.2.2)))))))) = true then ((capa_Unseal.f a0_0 a0_1 a0_2 a0_3 a0_4 a0_5 a0_6).bind fun bt315 => ((bulwarkref03_Unseal.f a0_0 a0_1 a0_2 a0_3 a0_4 a0_5 a0_6).bind fun bt322 => (if (bt315.1 == bt322.1 && (bt315.2.1 == bt322.2.1 && (bt315.2.2.1 == bt322.2.2.1 && (bt315.2.2.2.1 == bt322.2.2.2.1 && ((bt315.2.2.2.2.1 == bt322.2.2.2.2.1 && (bt315.2.2.2.2.2.1 == bt322.2.2.2.2.2.1 && (bt315.2.2.2.2.2.2 == bt322.2.2.2.2.2.2)))))))) = true then ((bulwarklaw03_lives.f k).bind fun t329 => (some t329)) else (some false)))) else (some false)))) else (some false)))) = some r := h
  clear h
  replace H := Option.bind_eq_some_iff.mp H
  obtain ⟨⟨t287, t288, t289, t290, t291, t292, t293⟩, A30, H⟩ := H
  replace H : ((bulwarkref03_Sentry.f a0_0 a0_1 a0_2 a0_3 a0_4 a0_5 a0_6).bind fun bt294 => (if (t287 == bt294.1 && (t288 == bt294.2.1 && (t289 == bt294.2.2.1 && (t290 == bt294.2.2.2.1 && ((t291 == bt294.2.2.2.2.1 && (t292 == bt294.2.2.2.2.2.1 && (t293 == bt294.2.2.2.2.2.2)))))))) = true then ((capa_Seal.f a0_0 a0_1 a0_2 a0_3 a0_4 a0_5 a0_6 a1).bind fun bt301 => ((bulwarkref03_Seal.f a0_0 a0_1 a0_2 a0_3 a0_4 a0_5 a0_6 a1).bind fun bt308 => (if (bt301.1 == bt308.1 && (bt301.2.1 == bt308.2.1 && (bt301.2.2.1 == bt308.2.2.1 && (bt301.2.2.2.1 == bt308.2.2.2.1 && ((bt301.2.2.2.2.1 == bt308.2.2.2.2.1 && (bt301.2.2.2.2.2.1 == bt308.2.2.2.2.2.1 && (bt301.2.2.2.2.2.2 == bt308.2.2.2.2.2.2)))))))) = true then ((capa_Unseal.f a0_0 a0_1 a0_2 a0_3 a0_4 a0_5 a0_6).bind fun bt315 => ((bulwarkref03_Unseal.f a0_0 a0_1 a0_2 a0_3 a0_4 a0_5 a0_6).bind fun bt322 => (if (bt315.1 == bt322.1 && (bt315.2.1 == bt322.2.1 && (bt315.2.2.1 == bt322.2.2.1 && (bt315.2.2.2.1 == bt322.2.2.2.1 && ((bt315.2.2.2.2.1 == bt322.2.2.2.2.1 && (bt315.2.2.2.2.2.1 == bt322.2.2.2.2.2.1 && (bt315.2.2.2.2.2.2 == bt322.2.2.2.2.2.2)))))))) = true then ((bulwarklaw03_lives.f k).bind fun t329 => (some t329)) else (some false)))) else (some false)))) else (some false))) = some r := H
  have A3 := Aside0.mk A30
  clear A30
  replace H := Option.bind_eq_some_iff.mp H
  obtain ⟨⟨t294, t295, t296, t297, t298, t299, t300⟩, A40, H⟩ := H
  replace H : (if (t287 == t294 && (t288 == t295 && (t289 == t296 && (t290 == t297 && ((t291 == t298 && (t292 == t299 && (t293 == t300)))))))) = true then ((capa_Seal.f a0_0 a0_1 a0_2 a0_3 a0_4 a0_5 a0_6 a1).bind fun bt301 => ((bulwarkref03_Seal.f a0_0 a0_1 a0_2 a0_3 a0_4 a0_5 a0_6 a1).bind fun bt308 => (if (bt301.1 == bt308.1 && (bt301.2.1 == bt308.2.1 && (bt301.2.2.1 == bt308.2.2.1 && (bt301.2.2.2.1 == bt308.2.2.2.1 && ((bt301.2.2.2.2.1 == bt308.2.2.2.2.1 && (bt301.2.2.2.2.2.1 == bt308.2.2.2.2.2.1 && (bt301.2.2.2.2.2.2 == bt308.2.2.2.2.2.2)))))))) = true then ((capa_Unseal.f a0_0 a0_1 a0_2 a0_3 a0_4 a0_5 a0_6).bind fun bt315 => ((bulwarkref03_Unseal.f a0_0 a0_1 a0_2 a0_3 a0_4 a0_5 a0_6).bind fun bt322 => (if (bt315.1 == bt322.1 && (bt315.2.1 == bt322.2.1 && (bt315.2.2.1 == bt322.2.2.1 && (bt315.2.2.2.1 == bt322.2.2.2.1 && ((bt315.2.2.2.2.1 == bt322.2.2.2.2.1 && (bt315.2.2.2.2.2.1 == bt322.2.2.2.2.2.1 && (bt315.2.2.2.2.2.2 == bt322.2.2.2.2.2.2)))))))) = true then ((bulwarklaw03_lives.f k).bind fun t329 => (some t329)) else (some false)))) else (some false)))) else (some false)) = some r := H
  have A4 := Aside0.mk A40
  clear A40
  by_cases c5 : (t287 == t294 && (t288 == t295 && (t289 == t296 && (t290 == t297 && ((t291 == t298 && (t292 == t299 && (t293 == t300)))))))) = true
  · rw [if_pos c5] at H
    have c5b0 : (t287 == t294 && (t288 == t295 && (t289 == t296 && (t290 == t297 && ((t291 == t298 && (t292 == t299 && (t293 == t300)))))))) = true := c5
    (try (have c5b1 : decide (t287 = t294 && (t288 == t295 && (t289 == t296 && (t290 == t297 && ((t291 == t298 && (t292 == t299 && (t293 == t300)))))))) = true := by simpa using c5))
    (try (have c5b2 : (t287 == t294 && (t288 == t295 && (t289 == t296 && (t290 == t297 && ((t291 == t298 && (t292 == t299 && (t293 == t300)))))))) = true := by simpa using c5))
    clear c5
    replace H := Option.bind_eq_some_iff.mp H
    obtain ⟨⟨t301, t302, t303, t304, t305, t306, t307⟩, A60, H⟩ := H
    replace H : ((bulwarkref03_Seal.f a0_0 a0_1 a0_2 a0_3 a0_4 a0_5 a0_6 a1).bind fun bt308 => (if (t301 == bt308.1 && (t302 == bt308.2.1 && (t303 == bt308.2.2.1 && (t304 == bt308.2.2.2.1 && ((t305 == bt308.2.2.2.2.1 && (t306 == bt308.2.2.2.2.2.1 && (t307 == bt308.2.2.2.2.2.2)))))))) = true then ((capa_Unseal.f a0_0 a0_1 a0_2 a0_3 a0_4 a0_5 a0_6).bind fun bt315 => ((bulwarkref03_Unseal.f a0_0 a0_1 a0_2 a0_3 a0_4 a0_5 a0_6).bind fun bt322 => (if (bt315.1 == bt322.1 && (bt315.2.1 == bt322.2.1 && (bt315.2.2.1 == bt322.2.2.1 && (bt315.2.2.2.1 == bt322.2.2.2.1 && ((bt315.2.2.2.2.1 == bt322.2.2.2.2.1 && (bt315.2.2.2.2.2.1 == bt322.2.2.2.2.2.1 && (bt315.2.2.2.2.2.2 == bt322.2.2.2.2.2.2)))))))) = true then ((bulwarklaw03_lives.f k).bind fun t329 => (some t329)) else (some false)))) else (some false))) = some r := H
    have A6 := Aside0.mk A60
    clear A60
    replace H := Option.bind_eq_some_iff.mp H
    obtain ⟨⟨t308, t309, t310, t311, t312, t313, t314⟩, A70, H⟩ := H
    replace H : (if (t301 == t308 && (t302 == t309 && (t303 == t310 && (t304 == t311 && ((t305 == t312 && (t306 == t313 && (t307 == t314)))))))) = true then ((capa_Unseal.f a0_0 a0_1 a0_2 a0_3 a0_4 a0_5 a0_6).bind fun bt315 => ((bulwarkref03_Unseal.f a0_0 a0_1 a0_2 a0_3 a0_4 a0_5 a0_6).bind fun bt322 => (if (bt315.1 == bt322.1 && (bt315.2.1 == bt322.2.1 && (bt315.2.2.1 == bt322.2.2.1 && (bt315.2.2.2.1 == bt322.2.2.2.1 && ((bt315.2.2.2.2.1 == bt322.2.2.2.2.1 && (bt315.2.2.2.2.2.1 == bt322.2.2.2.2.2.1 && (bt315.2.2.2.2.2.2 == bt322.2.2.2.2.2.2)))))))) = true then ((bulwarklaw03_lives.f k).bind fun t329 => (some t329)) else (some false)))) else (some false)) = some r := H
    have A7 := Aside0.mk A70
    clear A70
    by_cases c8 : (t301 == t308 && (t302 == t309 && (t303 == t310 && (t304 == t311 && ((t305 == t312 && (t306 == t313 && (t307 == t314)))))))) = true
    · rw [if_pos c8] at H
      have c8b0 : (t301 == t308 && (t302 == t309 && (t303 == t310 && (t304 == t311 && ((t305 == t312 && (t306 == t313 && (t307 == t314)))))))) = true := c8
      (try (have c8b1 : decide (t301 = t308 && (t302 == t309 && (t303 == t310 && (t304 == t311 && ((t305 == t312 && (t306 == t313 && (t307 == t314)))))))) = true := by simpa using c8))
      (try (have c8b2 : (t301 == t308 && (t302 == t309 && (t303 == t310 && (t304 == t311 && ((t305 == t312 && (t306 == t313 && (t307 == t314)))))))) = true := by simpa using c8))
      clear c8
      replace H := Option.bind_eq_some_iff.mp H
      obtain ⟨⟨t315, t316, t317, t318, t319, t320, t321⟩, A90, H⟩ := H
      replace H : ((bulwarkref03_Unseal.f a0_0 a0_1 a0_2 a0_3 a0_4 a0_5 a0_6).bind fun bt322 => (if (t315 == bt322.1 && (t316 == bt322.2.1 && (t317 == bt322.2.2.1 && (t318 == bt322.2.2.2.1 && ((t319 == bt322.2.2.2.2.1 && (t320 == bt322.2.2.2.2.2.1 && (t321 == bt322.2.2.2.2.2.2)))))))) = true then ((bulwarklaw03_lives.f k).bind fun t329 => (some t329)) else (some false))) = some r := H
      have A9 := Aside0.mk A90
      clear A90
      replace H := Option.bind_eq_some_iff.mp H
      obtain ⟨⟨t322, t323, t324, t325, t326, t327, t328⟩, A100, H⟩ := H
      replace H : (if (t315 == t322 && (t316 == t323 && (t317 == t324 && (t318 == t325 && ((t319 == t326 && (t320 == t327 && (t321 == t328)))))))) = true then ((bulwarklaw03_lives.f k).bind fun t329 => (some t329)) else (some false)) = some r := H
      have A10 := Aside0.mk A100
      clear A100
      by_cases c11 : (t315 == t322 && (t316 == t323 && (t317 == t324 && (t318 == t325 && ((t319 == t326 && (t320 == t327 && (t321 == t328)))))))) = true
      · rw [if_pos c11] at H
        have c11b0 : (t315 == t322 && (t316 == t323 && (t317 == t324 && (t318 == t325 && ((t319 == t326 && (t320 == t327 && (t321 == t328)))))))) = true := c11
        (try (have c11b1 : decide (t315 = t322 && (t316 == t323 && (t317 == t324 && (t318 == t325 && ((t319 == t326 && (t320 == t327 && (t321 == t328)))))))) = true := by simpa using c11))
        (try (have c11b2 : (t315 == t322 && (t316 == t323 && (t317 == t324 && (t318 == t325 && ((t319 == t326 && (t320 == t327 && (t321 == t328)))))))) = true := by simpa using c11))
        clear c11
        replace H := Option.bind_eq_some_iff.mp H
        obtain ⟨t329, A120, H⟩ := H
        replace H : (some t329) = some r := H
        have A12 := Aside0.mk A120
        clear A120
        obtain rfl := Option.some.inj H
        go_enter Try.func5, Try.ntmps5
        try go_wp2_with (first | ((with_reducible refine gate_dst (N := 2) rfl ?_); refine box_event ?hg (N := 2) ?hd (cs := #[.bool a0_0, .int .u32 a0_1, .int .u8 a0_2, .int .u8 a0_3, .int .u8 a0_4, .int .u16 a0_5, .int .u16 a0_6]) (t := 27) ?hr ?_; (case hd => rfl); (case hg => rfl); (case hr => first | (go_simp; done) | (go_simp; rfl)); intro gb286 hg w13 hbox hb; have n0_ := Aside0.mk (below_step (by repeat (first | (with_reducible first | exact HB.out | apply below_alloc | apply pw_below_drewN | apply below_drew1) | exact HB.out)) hb); have n1_ := Aside0.mk (hbox); have n2_ := Aside0.mk ((by rw [hg]; exact (below_size (by repeat (first | (with_reducible first | exact HB.out | apply below_alloc | apply pw_below_drewN | apply below_drew1) | exact HB.out))) : w.heap.size ≤ gb286)); have n3_ := Aside0.mk ((by rw [hg]; exact (below_size (by repeat (first | (with_reducible first | exact HB.out | apply below_alloc | apply pw_below_drewN | apply below_drew1) | exact HB.out))) : w.heap.size ≤ gb286)); clear HB; have HB := n0_; have BK286 := n1_; have GW286 := n2_; have GE286 := n3_; clear n0_ n1_ n2_ n3_; clear hb hbox hg))
        have n0_ := Aside0.mk (blk_drew BK286.out)
        have n1_ := Aside0.mk (below_drew1 HB.out)
        clear BK286
        clear HB
        have BK286 := n0_
        have HB := n1_
        clear n0_ n1_
        refine start_ (n := 25) (S := fun w' => w'.cell? ⟨gb286, 0, none⟩ = some (.bool a0_0) ∧ w'.cell? ⟨gb286, 1, none⟩ = some (.int .u32 a0_1) ∧ w'.cell? ⟨gb286, 2, none⟩ = some (.int .u8 a0_2) ∧ w'.cell? ⟨gb286, 3, none⟩ = some (.int .u8 a0_3) ∧ w'.cell? ⟨gb286, 4, none⟩ = some (.int .u8 a0_4) ∧ w'.cell? ⟨gb286, 5, none⟩ = some (.int .u16 a0_5) ∧ w'.cell? ⟨gb286, 6, none⟩ = some (.int .u16 a0_6)) (ds := []) #[false, false, false, false, false, false, false, false, false, false, false, false, false, false, false, false, false, false, false, false, false, false, false, false, false] (by kernel_rfl) rfl rfl ⟨(blk_cell BK286.out 0).trans rfl, (blk_cell BK286.out 1).trans rfl, (blk_cell BK286.out 2).trans rfl, (blk_cell BK286.out 3).trans rfl, (blk_cell BK286.out 4).trans rfl, (blk_cell BK286.out 5).trans rfl, (blk_cell BK286.out 6).trans rfl⟩ (fun hHeld => ?_); refine with_tabW bulwarklaw03_CapaSeals.tab1 bulwarklaw03_CapaSeals.bits1 (fun HT_ HW_ => ?_)
        generalize w13.drew = w14 at BK286 HB hHeld ⊢
        refine take_ (i := 0) (N := some 5) (v := ?_) (a' := ?_) #[true, false, false, false, false, false, false, false, false, false, false, false, false, false, false, false, false, false, false, false, false, false, false, false, false] rfl rfl (take_ofW HT_.out HW_.out (by kernel_rfl)) (fun _ _ _ h => h) (Or.inl ⟨by rfl, ?_⟩) hHeld ?_ ?_
        rotate_left
        · rintro w' ⟨s0, s1, s2, s3, s4, s5, s6⟩
          go_simp
          with_reducible rfl
        rotate_left
        · simp only [Act.put, List.setIfInBounds_toArray, List.set_cons_zero, List.set_cons_succ, i64_w, i32_w]
          rfl
        refine take_ (i := 2) (N := some 7) (v := ?_) (a' := ?_) #[true, false, true, false, false, false, false, false, false, false, false, false, false, false, false, false, false, false, false, false, false, false, false, false, false] rfl rfl (take_ofW HT_.out HW_.out (by kernel_rfl)) (fun _ _ _ h => h) (Or.inl ⟨by rfl, ?_⟩) hHeld ?_ ?_
        rotate_left
        · rintro w' ⟨s0, s1, s2, s3, s4, s5, s6⟩
          go_simp
          with_reducible rfl
        rotate_left
        · simp only [Act.put, List.setIfInBounds_toArray, List.set_cons_zero, List.set_cons_succ, i64_w, i32_w]
          rfl
        refine one_ (i := 1) (N := some 6) #[true, true, true, false, false, false, false, false, false, false, false, false, false, false, false, false, false, false, false, false, false, false, false, false, false] rfl rfl (one_of HT_.out (by kernel_rfl)) (by decide) (fun K hK => ?_)
        refine goes_ Try.func23 (by kernel_rfl) rfl #[.agg #[.bool a0_0, .int .u32 a0_1, .int .u8 a0_2, .int .u8 a0_3, .int .u8 a0_4, .int .u16 a0_5, .int .u16 a0_6]] (by rfl) rfl rfl (by (try simp only [List.map_toArray, List.map_cons, List.map_nil]); first | done | rfl | (simp only [List.length_drop, List.length_take]; rfl)) ?_
        with_reducible refine (capa_Sentry.calls a0_0 a0_1 a0_2 a0_3 a0_4 a0_5 a0_6 t287 t288 t289 t290 t291 t292 t293 _ A3.out).mono ?_
        rintro e w15 ⟨rfl, hb⟩
        refine ⟨_, rfl, ?_⟩
        have n0_ := Aside0.mk (blk_below (g := gb286) (o := .cells #[.bool a0_0, .int .u32 a0_1, .int .u8 a0_2, .int .u8 a0_3, .int .u8 a0_4, .int .u16 a0_5, .int .u16 a0_6] 27 (0, 0)) (by (with_reducible repeat (first | refine blk_drewN ?_ _ | refine blk_drew ?_ | refine blk_alloc ?_ _)); exact BK286.out) hb)
        have n1_ := Aside0.mk (below_step (by repeat (first | (with_reducible first | exact HB.out | apply below_alloc | apply pw_below_drewN | apply below_drew1 | refine below_set ?_ GE286.out) | exact HB.out)) hb)
        clear BK286
        clear HB
        have BK286 := n0_
        have HB := n1_
        clear n0_ n1_
        (try clear hb)
        (try clear hb2)
        (try clear hk)
        (try clear hi)
        refine hK.out _ _ ⟨(blk_cell BK286.out 0).trans rfl, (blk_cell BK286.out 1).trans rfl, (blk_cell BK286.out 2).trans rfl, (blk_cell BK286.out 3).trans rfl, (blk_cell BK286.out 4).trans rfl, (blk_cell BK286.out 5).trans rfl, (blk_cell BK286.out 6).trans rfl⟩ (fun hHeld => ?_)
        clear hK K
        refine norm_ (a' := ?_) ?_ ?_
        rotate_left
        · show Act.put _ (some 6) _ = _
          simp only [Act.put, List.setIfInBounds_toArray, List.set_cons_zero, List.set_cons_succ, i64_w, i32_w]
          rfl
        refine one_ (i := 3) (N := some 8) #[true, true, true, true, false, false, false, false, false, false, false, false, false, false, false, false, false, false, false, false, false, false, false, false, false] rfl rfl (one_of HT_.out (by kernel_rfl)) (by decide) (fun K hK => ?_)
        refine goes_ Try.func24 (by kernel_rfl) rfl #[.agg #[.bool a0_0, .int .u32 a0_1, .int .u8 a0_2, .int .u8 a0_3, .int .u8 a0_4, .int .u16 a0_5, .int .u16 a0_6]] (by rfl) rfl rfl (by (try simp only [List.map_toArray, List.map_cons, List.map_nil]); first | done | rfl | (simp only [List.length_drop, List.length_take]; rfl)) ?_
        with_reducible refine (bulwarkref03_Sentry.calls a0_0 a0_1 a0_2 a0_3 a0_4 a0_5 a0_6 t294 t295 t296 t297 t298 t299 t300 _ A4.out).mono ?_
        rintro e w16 ⟨rfl, hb⟩
        refine ⟨_, rfl, ?_⟩
        have n0_ := Aside0.mk (blk_below (g := gb286) (o := .cells #[.bool a0_0, .int .u32 a0_1, .int .u8 a0_2, .int .u8 a0_3, .int .u8 a0_4, .int .u16 a0_5, .int .u16 a0_6] 27 (0, 0)) (by (with_reducible repeat (first | refine blk_drewN ?_ _ | refine blk_drew ?_ | refine blk_alloc ?_ _)); exact BK286.out) hb)
        have n1_ := Aside0.mk (below_step (by repeat (first | (with_reducible first | exact HB.out | apply below_alloc | apply pw_below_drewN | apply below_drew1 | refine below_set ?_ GE286.out) | exact HB.out)) hb)
        clear BK286
        clear HB
        have BK286 := n0_
        have HB := n1_
        clear n0_ n1_
        (try clear hb)
        (try clear hb2)
        (try clear hk)
        (try clear hi)
        refine hK.out _ _ ⟨(blk_cell BK286.out 0).trans rfl, (blk_cell BK286.out 1).trans rfl, (blk_cell BK286.out 2).trans rfl, (blk_cell BK286.out 3).trans rfl, (blk_cell BK286.out 4).trans rfl, (blk_cell BK286.out 5).trans rfl, (blk_cell BK286.out 6).trans rfl⟩ (fun hHeld => ?_)
        clear hK K
        refine norm_ (a' := ?_) ?_ ?_
        rotate_left
        · show Act.put _ (some 8) _ = _
          simp only [Act.put, List.setIfInBounds_toArray, List.set_cons_zero, List.set_cons_succ, i64_w, i32_w]
          rfl
        refine pure_ (i := 4) (N := some 9) (v := ?_) (a' := ?_) #[true, true, true, true, true, false, false, false, false, false, false, false, false, false, false, false, false, false, false, false, false, false, false, false, false] rfl rfl (any_of HT_.out (by kernel_rfl)) (fun _ _ _ h => h) (Or.inl ⟨by rfl, ?_⟩) ?_ ?_
        rotate_left
        · intro w'
          go_simp
          with_reducible rfl
        rotate_left
        · simp only [Act.put, List.setIfInBounds_toArray, List.set_cons_zero, List.set_cons_succ, i64_w, i32_w]
          rfl
        refine pure_ (i := 5) (N := some 10) (v := ?_) (a' := ?_) #[true, true, true, true, true, true, false, false, false, false, false, false, false, false, false, false, false, false, false, false, false, false, false, false, false] rfl rfl (any_of HT_.out (by kernel_rfl)) (fun _ _ _ h => h) (Or.inl ⟨by rfl, ?_⟩) ?_ ?_
        rotate_left
        · intro w'
          go_simp
          with_reducible rfl
        rotate_left
        · simp only [Act.put, List.setIfInBounds_toArray, List.set_cons_zero, List.set_cons_succ, i64_w, i32_w]
          rfl
        refine pure_ (i := 7) (N := some 12) (v := ?_) (a' := ?_) #[true, true, true, true, true, true, false, true, false, false, false, false, false, false, false, false, false, false, false, false, false, false, false, false, false] rfl rfl (any_of HT_.out (by kernel_rfl)) (fun _ _ _ h => h) (Or.inl ⟨by rfl, ?_⟩) ?_ ?_
        rotate_left
        · intro w'
          go_simp
          with_reducible rfl
        rotate_left
        · simp only [Act.put, List.setIfInBounds_toArray, List.set_cons_zero, List.set_cons_succ, i64_w, i32_w]
          rfl
        refine pure_ (i := 10) (N := some 15) (v := ?_) (a' := ?_) #[true, true, true, true, true, true, false, true, false, false, true, false, false, false, false, false, false, false, false, false, false, false, false, false, false] rfl rfl (any_of HT_.out (by kernel_rfl)) (fun _ _ _ h => h) (Or.inl ⟨by rfl, ?_⟩) ?_ ?_
        rotate_left
        · intro w'
          go_simp
          with_reducible rfl
        rotate_left
        · simp only [Act.put, List.setIfInBounds_toArray, List.set_cons_zero, List.set_cons_succ, i64_w, i32_w]
          rfl
        refine take_ (i := 6) (N := some 11) (v := ?_) (a' := ?_) #[true, true, true, true, true, true, true, true, false, false, true, false, false, false, false, false, false, false, false, false, false, false, false, false, false] rfl rfl (take_ofW HT_.out HW_.out (by kernel_rfl)) (fun _ _ _ h => h) (Or.inl ⟨by rfl, ?_⟩) hHeld ?_ ?_
        rotate_left
        · rintro w' ⟨s0, s1, s2, s3, s4, s5, s6⟩
          go_simp
          with_reducible rfl
        rotate_left
        · simp only [Act.put, List.setIfInBounds_toArray, List.set_cons_zero, List.set_cons_succ, i64_w, i32_w]
          rfl
        refine take_ (i := 9) (N := some 14) (v := ?_) (a' := ?_) #[true, true, true, true, true, true, true, true, false, true, true, false, false, false, false, false, false, false, false, false, false, false, false, false, false] rfl rfl (take_ofW HT_.out HW_.out (by kernel_rfl)) (fun _ _ _ h => h) (Or.inl ⟨by rfl, ?_⟩) hHeld ?_ ?_
        rotate_left
        · rintro w' ⟨s0, s1, s2, s3, s4, s5, s6⟩
          go_simp
          with_reducible rfl
        rotate_left
        · simp only [Act.put, List.setIfInBounds_toArray, List.set_cons_zero, List.set_cons_succ, i64_w, i32_w]
          rfl
        refine one_ (i := 8) (N := some 13) #[true, true, true, true, true, true, true, true, true, true, true, false, false, false, false, false, false, false, false, false, false, false, false, false, false] rfl rfl (one_of HT_.out (by kernel_rfl)) (by decide) (fun K hK => ?_)
        refine goes_ Try.func25 (by kernel_rfl) rfl #[.agg #[.bool a0_0, .int .u32 a0_1, .int .u8 a0_2, .int .u8 a0_3, .int .u8 a0_4, .int .u16 a0_5, .int .u16 a0_6], .int .u32 a1] (by rfl) rfl rfl (by (try simp only [List.map_toArray, List.map_cons, List.map_nil]); first | done | rfl | (simp only [List.length_drop, List.length_take]; rfl)) ?_
        with_reducible refine (capa_Seal.calls a0_0 a0_1 a0_2 a0_3 a0_4 a0_5 a0_6 a1 t301 t302 t303 t304 t305 t306 t307 _ A6.out).mono ?_
        rintro e w17 ⟨rfl, hb⟩
        refine ⟨_, rfl, ?_⟩
        have n0_ := Aside0.mk (blk_below (g := gb286) (o := .cells #[.bool a0_0, .int .u32 a0_1, .int .u8 a0_2, .int .u8 a0_3, .int .u8 a0_4, .int .u16 a0_5, .int .u16 a0_6] 27 (0, 0)) (by (with_reducible repeat (first | refine blk_drewN ?_ _ | refine blk_drew ?_ | refine blk_alloc ?_ _)); exact BK286.out) hb)
        have n1_ := Aside0.mk (below_step (by repeat (first | (with_reducible first | exact HB.out | apply below_alloc | apply pw_below_drewN | apply below_drew1 | refine below_set ?_ GE286.out) | exact HB.out)) hb)
        clear BK286
        clear HB
        have BK286 := n0_
        have HB := n1_
        clear n0_ n1_
        (try clear hb)
        (try clear hb2)
        (try clear hk)
        (try clear hi)
        refine hK.out _ _ ⟨(blk_cell BK286.out 0).trans rfl, (blk_cell BK286.out 1).trans rfl, (blk_cell BK286.out 2).trans rfl, (blk_cell BK286.out 3).trans rfl, (blk_cell BK286.out 4).trans rfl, (blk_cell BK286.out 5).trans rfl, (blk_cell BK286.out 6).trans rfl⟩ (fun hHeld => ?_)
        clear hK K
        refine norm_ (a' := ?_) ?_ ?_
        rotate_left
        · show Act.put _ (some 13) _ = _
          simp only [Act.put, List.setIfInBounds_toArray, List.set_cons_zero, List.set_cons_succ, i64_w, i32_w]
          rfl
        refine one_ (i := 11) (N := some 16) #[true, true, true, true, true, true, true, true, true, true, true, true, false, false, false, false, false, false, false, false, false, false, false, false, false] rfl rfl (one_of HT_.out (by kernel_rfl)) (by decide) (fun K hK => ?_)
        refine goes_ Try.func26 (by kernel_rfl) rfl #[.agg #[.bool a0_0, .int .u32 a0_1, .int .u8 a0_2, .int .u8 a0_3, .int .u8 a0_4, .int .u16 a0_5, .int .u16 a0_6], .int .u32 a1] (by rfl) rfl rfl (by (try simp only [List.map_toArray, List.map_cons, List.map_nil]); first | done | rfl | (simp only [List.length_drop, List.length_take]; rfl)) ?_
        with_reducible refine (bulwarkref03_Seal.calls a0_0 a0_1 a0_2 a0_3 a0_4 a0_5 a0_6 a1 t308 t309 t310 t311 t312 t313 t314 _ A7.out).mono ?_
        rintro e w18 ⟨rfl, hb⟩
        refine ⟨_, rfl, ?_⟩
        have n0_ := Aside0.mk (blk_below (g := gb286) (o := .cells #[.bool a0_0, .int .u32 a0_1, .int .u8 a0_2, .int .u8 a0_3, .int .u8 a0_4, .int .u16 a0_5, .int .u16 a0_6] 27 (0, 0)) (by (with_reducible repeat (first | refine blk_drewN ?_ _ | refine blk_drew ?_ | refine blk_alloc ?_ _)); exact BK286.out) hb)
        have n1_ := Aside0.mk (below_step (by repeat (first | (with_reducible first | exact HB.out | apply below_alloc | apply pw_below_drewN | apply below_drew1 | refine below_set ?_ GE286.out) | exact HB.out)) hb)
        clear BK286
        clear HB
        have BK286 := n0_
        have HB := n1_
        clear n0_ n1_
        (try clear hb)
        (try clear hb2)
        (try clear hk)
        (try clear hi)
        refine hK.out _ _ ⟨(blk_cell BK286.out 0).trans rfl, (blk_cell BK286.out 1).trans rfl, (blk_cell BK286.out 2).trans rfl, (blk_cell BK286.out 3).trans rfl, (blk_cell BK286.out 4).trans rfl, (blk_cell BK286.out 5).trans rfl, (blk_cell BK286.out 6).trans rfl⟩ (fun hHeld => ?_)
        clear hK K
        refine norm_ (a' := ?_) ?_ ?_
        rotate_left
        · show Act.put _ (some 16) _ = _
          simp only [Act.put, List.setIfInBounds_toArray, List.set_cons_zero, List.set_cons_succ, i64_w, i32_w]
          rfl
        refine pure_ (i := 12) (N := some 17) (v := ?_) (a' := ?_) #[true, true, true, true, true, true, true, true, true, true, true, true, true, false, false, false, false, false, false, false, false, false, false, false, false] rfl rfl (any_of HT_.out (by kernel_rfl)) (fun _ _ _ h => h) (Or.inl ⟨by rfl, ?_⟩) ?_ ?_
        rotate_left
        · intro w'
          go_simp
          with_reducible rfl
        rotate_left
        · simp only [Act.put, List.setIfInBounds_toArray, List.set_cons_zero, List.set_cons_succ, i64_w, i32_w]
          rfl
        refine pure_ (i := 13) (N := some 18) (v := ?_) (a' := ?_) #[true, true, true, true, true, true, true, true, true, true, true, true, true, true, false, false, false, false, false, false, false, false, false, false, false] rfl rfl (any_of HT_.out (by kernel_rfl)) (fun _ _ _ h => h) (Or.inl ⟨by rfl, ?_⟩) ?_ ?_
        rotate_left
        · intro w'
          go_simp
          with_reducible rfl
        rotate_left
        · simp only [Act.put, List.setIfInBounds_toArray, List.set_cons_zero, List.set_cons_succ, i64_w, i32_w]
          rfl
        refine pure_ (i := 14) (N := some 19) (v := ?_) (a' := ?_) #[true, true, true, true, true, true, true, true, true, true, true, true, true, true, true, false, false, false, false, false, false, false, false, false, false] rfl rfl (any_of HT_.out (by kernel_rfl)) (fun _ _ _ h => h) (Or.inl ⟨by rfl, ?_⟩) ?_ ?_
        rotate_left
        · intro w'
          go_simp
          with_reducible rfl
        rotate_left
        · simp only [Act.put, List.setIfInBounds_toArray, List.set_cons_zero, List.set_cons_succ, i64_w, i32_w]
          rfl
        refine take_ (i := 15) (N := some 20) (v := ?_) (a' := ?_) #[true, true, true, true, true, true, true, true, true, true, true, true, true, true, true, true, false, false, false, false, false, false, false, false, false] rfl rfl (take_ofW HT_.out HW_.out (by kernel_rfl)) (fun _ _ _ h => h) (Or.inl ⟨by rfl, ?_⟩) hHeld ?_ ?_
        rotate_left
        · rintro w' ⟨s0, s1, s2, s3, s4, s5, s6⟩
          go_simp
          with_reducible rfl
        rotate_left
        · simp only [Act.put, List.setIfInBounds_toArray, List.set_cons_zero, List.set_cons_succ, i64_w, i32_w]
          rfl
        refine take_ (i := 17) (N := some 22) (v := ?_) (a' := ?_) #[true, true, true, true, true, true, true, true, true, true, true, true, true, true, true, true, false, true, false, false, false, false, false, false, false] rfl rfl (take_ofW HT_.out HW_.out (by kernel_rfl)) (fun _ _ _ h => h) (Or.inl ⟨by rfl, ?_⟩) hHeld ?_ ?_
        rotate_left
        · rintro w' ⟨s0, s1, s2, s3, s4, s5, s6⟩
          go_simp
          with_reducible rfl
        rotate_left
        · simp only [Act.put, List.setIfInBounds_toArray, List.set_cons_zero, List.set_cons_succ, i64_w, i32_w]
          rfl
        refine one_ (i := 16) (N := some 21) #[true, true, true, true, true, true, true, true, true, true, true, true, true, true, true, true, true, true, false, false, false, false, false, false, false] rfl rfl (one_of HT_.out (by kernel_rfl)) (by decide) (fun K hK => ?_)
        refine goes_ Try.func27 (by kernel_rfl) rfl #[.agg #[.bool a0_0, .int .u32 a0_1, .int .u8 a0_2, .int .u8 a0_3, .int .u8 a0_4, .int .u16 a0_5, .int .u16 a0_6]] (by rfl) rfl rfl (by (try simp only [List.map_toArray, List.map_cons, List.map_nil]); first | done | rfl | (simp only [List.length_drop, List.length_take]; rfl)) ?_
        with_reducible refine (capa_Unseal.calls a0_0 a0_1 a0_2 a0_3 a0_4 a0_5 a0_6 t315 t316 t317 t318 t319 t320 t321 _ A9.out).mono ?_
        rintro e w19 ⟨rfl, hb⟩
        refine ⟨_, rfl, ?_⟩
        have n0_ := Aside0.mk (blk_below (g := gb286) (o := .cells #[.bool a0_0, .int .u32 a0_1, .int .u8 a0_2, .int .u8 a0_3, .int .u8 a0_4, .int .u16 a0_5, .int .u16 a0_6] 27 (0, 0)) (by (with_reducible repeat (first | refine blk_drewN ?_ _ | refine blk_drew ?_ | refine blk_alloc ?_ _)); exact BK286.out) hb)
        have n1_ := Aside0.mk (below_step (by repeat (first | (with_reducible first | exact HB.out | apply below_alloc | apply pw_below_drewN | apply below_drew1 | refine below_set ?_ GE286.out) | exact HB.out)) hb)
        clear BK286
        clear HB
        have BK286 := n0_
        have HB := n1_
        clear n0_ n1_
        (try clear hb)
        (try clear hb2)
        (try clear hk)
        (try clear hi)
        refine hK.out _ _ ⟨(blk_cell BK286.out 0).trans rfl, (blk_cell BK286.out 1).trans rfl, (blk_cell BK286.out 2).trans rfl, (blk_cell BK286.out 3).trans rfl, (blk_cell BK286.out 4).trans rfl, (blk_cell BK286.out 5).trans rfl, (blk_cell BK286.out 6).trans rfl⟩ (fun hHeld => ?_)
        clear hK K
        refine norm_ (a' := ?_) ?_ ?_
        rotate_left
        · show Act.put _ (some 21) _ = _
          simp only [Act.put, List.setIfInBounds_toArray, List.set_cons_zero, List.set_cons_succ, i64_w, i32_w]
          rfl
        refine one_ (i := 18) (N := some 23) #[true, true, true, true, true, true, true, true, true, true, true, true, true, true, true, true, true, true, true, false, false, false, false, false, false] rfl rfl (one_of HT_.out (by kernel_rfl)) (by decide) (fun K hK => ?_)
        refine goes_ Try.func28 (by kernel_rfl) rfl #[.agg #[.bool a0_0, .int .u32 a0_1, .int .u8 a0_2, .int .u8 a0_3, .int .u8 a0_4, .int .u16 a0_5, .int .u16 a0_6]] (by rfl) rfl rfl (by (try simp only [List.map_toArray, List.map_cons, List.map_nil]); first | done | rfl | (simp only [List.length_drop, List.length_take]; rfl)) ?_
        with_reducible refine (bulwarkref03_Unseal.calls a0_0 a0_1 a0_2 a0_3 a0_4 a0_5 a0_6 t322 t323 t324 t325 t326 t327 t328 _ A10.out).mono ?_
        rintro e w20 ⟨rfl, hb⟩
        refine ⟨_, rfl, ?_⟩
        have n0_ := Aside0.mk (blk_below (g := gb286) (o := .cells #[.bool a0_0, .int .u32 a0_1, .int .u8 a0_2, .int .u8 a0_3, .int .u8 a0_4, .int .u16 a0_5, .int .u16 a0_6] 27 (0, 0)) (by (with_reducible repeat (first | refine blk_drewN ?_ _ | refine blk_drew ?_ | refine blk_alloc ?_ _)); exact BK286.out) hb)
        have n1_ := Aside0.mk (below_step (by repeat (first | (with_reducible first | exact HB.out | apply below_alloc | apply pw_below_drewN | apply below_drew1 | refine below_set ?_ GE286.out) | exact HB.out)) hb)
        clear BK286
        clear HB
        have BK286 := n0_
        have HB := n1_
        clear n0_ n1_
        (try clear hb)
        (try clear hb2)
        (try clear hk)
        (try clear hi)
        refine hK.out _ _ ⟨(blk_cell BK286.out 0).trans rfl, (blk_cell BK286.out 1).trans rfl, (blk_cell BK286.out 2).trans rfl, (blk_cell BK286.out 3).trans rfl, (blk_cell BK286.out 4).trans rfl, (blk_cell BK286.out 5).trans rfl, (blk_cell BK286.out 6).trans rfl⟩ (fun hHeld => ?_)
        clear hK K
        refine norm_ (a' := ?_) ?_ ?_
        rotate_left
        · show Act.put _ (some 23) _ = _
          simp only [Act.put, List.setIfInBounds_toArray, List.set_cons_zero, List.set_cons_succ, i64_w, i32_w]
          rfl
        refine pure_ (i := 19) (N := some 24) (v := ?_) (a' := ?_) #[true, true, true, true, true, true, true, true, true, true, true, true, true, true, true, true, true, true, true, true, false, false, false, false, false] rfl rfl (any_of HT_.out (by kernel_rfl)) (fun _ _ _ h => h) (Or.inl ⟨by rfl, ?_⟩) ?_ ?_
        rotate_left
        · intro w'
          go_simp
          with_reducible rfl
        rotate_left
        · simp only [Act.put, List.setIfInBounds_toArray, List.set_cons_zero, List.set_cons_succ, i64_w, i32_w]
          rfl
        refine pure_ (i := 20) (N := some 25) (v := ?_) (a' := ?_) #[true, true, true, true, true, true, true, true, true, true, true, true, true, true, true, true, true, true, true, true, true, false, false, false, false] rfl rfl (any_of HT_.out (by kernel_rfl)) (fun _ _ _ h => h) (Or.inl ⟨by rfl, ?_⟩) ?_ ?_
        rotate_left
        · intro w'
          go_simp
          with_reducible rfl
        rotate_left
        · simp only [Act.put, List.setIfInBounds_toArray, List.set_cons_zero, List.set_cons_succ, i64_w, i32_w]
          rfl
        refine pure_ (i := 21) (N := some 26) (v := ?_) (a' := ?_) #[true, true, true, true, true, true, true, true, true, true, true, true, true, true, true, true, true, true, true, true, true, true, false, false, false] rfl rfl (any_of HT_.out (by kernel_rfl)) (fun _ _ _ h => h) (Or.inl ⟨by rfl, ?_⟩) ?_ ?_
        rotate_left
        · intro w'
          go_simp
          with_reducible rfl
        rotate_left
        · simp only [Act.put, List.setIfInBounds_toArray, List.set_cons_zero, List.set_cons_succ, i64_w, i32_w]
          rfl
        refine one_ (i := 22) (N := some 27) #[true, true, true, true, true, true, true, true, true, true, true, true, true, true, true, true, true, true, true, true, true, true, true, false, false] rfl rfl (one_of HT_.out (by kernel_rfl)) (by decide) (fun K hK => ?_)
        refine goes_ Try.func21 (by kernel_rfl) rfl #[] (by rfl) rfl rfl (by (try simp only [List.map_toArray, List.map_cons, List.map_nil]); first | done | rfl | (simp only [List.length_drop, List.length_take]; rfl)) ?_
        with_reducible refine (bulwarklaw03_lives.calls k  t329 _ A12.out).mono ?_
        rintro e w21 ⟨rfl, hb⟩
        refine ⟨_, rfl, ?_⟩
        have n0_ := Aside0.mk (blk_below (g := gb286) (o := .cells #[.bool a0_0, .int .u32 a0_1, .int .u8 a0_2, .int .u8 a0_3, .int .u8 a0_4, .int .u16 a0_5, .int .u16 a0_6] 27 (0, 0)) (by (with_reducible repeat (first | refine blk_drewN ?_ _ | refine blk_drew ?_ | refine blk_alloc ?_ _)); exact BK286.out) hb)
        have n1_ := Aside0.mk (below_step (by repeat (first | (with_reducible first | exact HB.out | apply below_alloc | apply pw_below_drewN | apply below_drew1 | refine below_set ?_ GE286.out) | exact HB.out)) hb)
        clear BK286
        clear HB
        have BK286 := n0_
        have HB := n1_
        clear n0_ n1_
        (try clear hb)
        (try clear hb2)
        (try clear hk)
        (try clear hi)
        refine hK.out _ _ ⟨(blk_cell BK286.out 0).trans rfl, (blk_cell BK286.out 1).trans rfl, (blk_cell BK286.out 2).trans rfl, (blk_cell BK286.out 3).trans rfl, (blk_cell BK286.out 4).trans rfl, (blk_cell BK286.out 5).trans rfl, (blk_cell BK286.out 6).trans rfl⟩ (fun hHeld => ?_)
        clear hK K
        refine norm_ (a' := ?_) ?_ ?_
        rotate_left
        · show Act.put _ (some 27) _ = _
          simp only [Act.put, List.setIfInBounds_toArray, List.set_cons_zero, List.set_cons_succ, i64_w, i32_w]
          rfl
        refine pure_ (i := 23) (N := some 28) (v := ?_) (a' := ?_) #[true, true, true, true, true, true, true, true, true, true, true, true, true, true, true, true, true, true, true, true, true, true, true, true, false] rfl rfl (any_of HT_.out (by kernel_rfl)) (fun _ _ _ h => h) (Or.inl ⟨by rfl, ?_⟩) ?_ ?_
        rotate_left
        · intro w'
          go_simp
          with_reducible rfl
        rotate_left
        · simp only [Act.put, List.setIfInBounds_toArray, List.set_cons_zero, List.set_cons_succ, i64_w, i32_w]
          rfl
        refine pure_ (i := 24) (N := some 4) (v := ?_) (a' := ?_) #[true, true, true, true, true, true, true, true, true, true, true, true, true, true, true, true, true, true, true, true, true, true, true, true, true] rfl rfl (any_of HT_.out (by kernel_rfl)) (fun _ _ _ h => h) (Or.inl ⟨by rfl, ?_⟩) ?_ ?_
        rotate_left
        · intro w'
          go_simp
          with_reducible rfl
        rotate_left
        · simp only [Act.put, List.setIfInBounds_toArray, List.set_cons_zero, List.set_cons_succ, i64_w, i32_w]
          rfl
        refine done_ (done_of HT_.out (by kernel_rfl)) ?_
        try go_wp2
        go_ret
        exact ⟨by first | rfl | (simp [errW_none, errW_some] <;> rfl) | (simp [*, errW_none, errW_some] <;> rfl), by repeat (first | (with_reducible first | exact HB.out | apply below_alloc | apply pw_below_drewN | apply below_drew1 | refine below_set ?_ GE286.out) | exact HB.out)⟩
      · rw [if_neg c11] at H
        exact absurd ((Option.some.inj H).trans hr'.out) (by decide)
    · rw [if_neg c8] at H
      exact absurd ((Option.some.inj H).trans hr'.out) (by decide)
  · rw [if_neg c5] at H
    exact absurd ((Option.some.inj H).trans hr'.out) (by decide)
end Go.Proofs.Ytkfgloolpjlddaa.Q
