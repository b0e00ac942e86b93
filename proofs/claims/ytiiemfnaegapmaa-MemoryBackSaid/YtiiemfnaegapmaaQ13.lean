-- A walk, out of the kit's print program run by wip/ownprint.sh and turned by wip/qprune.py. Lean checks it.
import Derived.Test.YtiiemfnaegapmaaQ0
import Derived.Test.YtiiemfnaegapmaaQ12
namespace Go.Proofs.Ytiiemfnaegapmaa.Q
open Go.RowKit Go.Proofs.YtiiemfnaegapmaaW.PrintWords Go.Proofs.YtiiemfnaegapmaaW.PrintLast Go.Proofs.YtiiemfnaegapmaaW.PrintMore
attribute [local go_sem] max2_int min2_int max_two min_two max_three min_three max_four min_four   -- for this text's walks alone
set_option linter.unusedVariables false
set_option linter.unusedSimpArgs false

/-! ### ends_Part: function 40 -/
-- by hand: making
def ends_Part.f (l0 : List Int) (a1 : Int) (a2 : Int) : Option (List Int × Int) :=
  if a1 < 0 then some ([], 2) else if a1 > (l0.length : Int) then some ([], 2) else if a2 < 0 then some ([], 2) else if (l0.length : Int) - a1 < a2 then some ([], 4)
  else (bytes_Clone.f ((l0.take (a1 + a2).toNat).drop a1.toNat)).bind fun r => some (r, 0)
theorem cut_three (t e : Nat) {i : TypeInfo} (ht : Try.prog.underlying t = some (.slice e)) (hi : Try.prog.info? e = some i) (hsz : i.size = 1) (A : Option Addr) (n c : Nat) (lo hi' : Int) (h0 : 0 ≤ lo) (h1 : lo ≤ hi') (h2 : hi' ≤ c) :
    ∀ W : World, (Instr.slice t (.slice A n c) (some (.int .i64 lo)) (some (.int .i64 hi')) (some (.int .i64 hi'))).run Try.prog W = .ok (.slice (if hi'.toNat = lo.toNat then A else A.map (·.add (lo.toNat * 1))) (hi'.toNat - lo.toNat) (hi'.toNat - lo.toNat)) W := by
  intro W
  have hel : Try.prog.elem t = e := by simp [Program.elem, ht]
  have hu : Try.prog.underlying t = some (.slice (Try.prog.elem t)) := by rw [hel]; exact ht
  have eh : (hi'.toNat : Int) = hi' := Int.toNat_of_nonneg (by omega)
  rw [run_slice_any W t A n c hu, hel]
  simp only [Instr.sliceBounds, Sem.run_bind, Sem.run_pure, Result.andThen_ok, run_sliceBound W .i64 hi' c .slice3Acap (by omega) (by omega), if_true, run_sliceBound W .i64 hi' hi'.toNat .slice3B (by omega) (by omega), Option.isSome_some, run_sliceBound W .i64 lo hi'.toNat .slice3C h0 (by omega)]
  simp [sizeOf, typeInfo, hi, hsz, sliced, Result.andThen]
set_option maxHeartbeats 8000000 in
set_option maxRecDepth 100000 in
theorem ends_Part.calls (A0 : Option Addr) (c0 : Nat) (l0 : List Int) (a1 : Int) (a2 : Int) (r1 : List Int) (r2 : Int) (w : World) (hr0 : Kd.C (Kd.int .u8) w A0 l0.length l0) (hc0 : l0.length ≤ c0) (h : ends_Part.f l0 a1 a2 = some (r1, r2)) :
    Calls Try.prog 40 #[.slice A0 l0.length c0, .int .i64 a1, .int .i64 a2] w fun e w' => ∃ v0_ : Value, e = .returned (.tuple #[v0_, .int .i64 r2]) ∧ Kd.R (Kd.int .u8) 5 w' w.heap.size (fun _ => True) v0_ r1 ∧ Below w.heap.size w w' := by
  have HR0 := Aside0.mk hr0
  have HC0 := Aside0.mk hc0
  clear hr0 hc0
  have HB := Aside0.mk (Below.refl w.heap.size w)
  unfold ends_Part.f at h
  by_cases c1 : a1 < 0
  · rw [if_pos c1] at h
    simp only [Option.some.injEq, Prod.mk.injEq] at h
    obtain ⟨rfl, rfl⟩ := h
    have c1b : decide (a1 < 0) = true := decide_eq_true c1
    clear c1
    go_enter Try.func40, Try.ntmps40
    go_wp2
    go_ret2
    exact ⟨_, rfl, Kd.R_nil _ _ _ _ _, HB.out⟩
  rw [if_neg c1] at h
  have c1b : decide (a1 < 0) = false := decide_eq_false c1
  by_cases c2 : a1 > (l0.length : Int)
  · rw [if_pos c2] at h
    simp only [Option.some.injEq, Prod.mk.injEq] at h
    obtain ⟨rfl, rfl⟩ := h
    have c2b : decide ((l0.length : Int) < a1) = true := decide_eq_true c2
    clear c1 c2
    go_enter Try.func40, Try.ntmps40
    go_wp2
    go_ret2
    exact ⟨_, rfl, Kd.R_nil _ _ _ _ _, HB.out⟩
  rw [if_neg c2] at h
  have c2b : decide ((l0.length : Int) < a1) = false := decide_eq_false c2
  by_cases c3 : a2 < 0
  · rw [if_pos c3] at h
    simp only [Option.some.injEq, Prod.mk.injEq] at h
    obtain ⟨rfl, rfl⟩ := h
    have c3b : decide (a2 < 0) = true := decide_eq_true c3
    clear c1 c2 c3
    go_enter Try.func40, Try.ntmps40
    go_wp2
    go_ret2
    exact ⟨_, rfl, Kd.R_nil _ _ _ _ _, HB.out⟩
  rw [if_neg c3] at h
  have c3b : decide (a2 < 0) = false := decide_eq_false c3
  have hl : l0.length ≤ 9223372036854775807 := HR0.out.2.1
  have hw : wrap64 ((l0.length : Int) - a1) = (l0.length : Int) - a1 := by unfold wrap64; omega
  by_cases c4 : (l0.length : Int) - a1 < a2
  · rw [if_pos c4] at h
    simp only [Option.some.injEq, Prod.mk.injEq] at h
    obtain ⟨rfl, rfl⟩ := h
    have c4b : decide ((l0.length : Int) - a1 < a2) = true := decide_eq_true c4
    clear c1 c2 c3 c4 hl
    go_enter Try.func40, Try.ntmps40
    go_wp2
    go_ret2
    exact ⟨_, rfl, Kd.R_nil _ _ _ _ _, HB.out⟩
  rw [if_neg c4] at h
  have c4b : decide ((l0.length : Int) - a1 < a2) = false := decide_eq_false c4
  obtain ⟨q, hq, h⟩ := Option.bind_eq_some_iff.mp h
  simp only [Option.some.injEq, Prod.mk.injEq] at h
  obtain ⟨rfl, rfl⟩ := h
  obtain ⟨i0, hi0, hz0⟩ := Option.map_eq_some_iff.1 info5
  simp only [Prod.mk.injEq] at hz0
  have HQ := Aside0.mk hq
  clear hq
  have hw2 : wrap64 (a1 + a2) = a1 + a2 := by unfold wrap64; omega
  have hcut := cut_three 36 5 Try.underlying36 hi0 hz0.2.1 A0 l0.length c0 a1 (a1 + a2) (by omega) (by omega) (by have := HC0.out; omega)
  have hlen : ((l0.take (a1 + a2).toNat).drop a1.toNat).length = (a1 + a2).toNat - a1.toNat := by rw [List.length_drop, List.length_take]; omega
  have HC := Aside0.mk (Kd.C_drop (k := Kd.int .u8) (w := w) (A := A0) (xs := l0.take (a1 + a2).toNat) (m := a1.toNat) (c := (a1 + a2).toNat) (Kd.C_take HR0.out (by omega)) (by rw [List.length_take]; omega) (by rw [List.length_take]; omega))
  rw [← hlen] at hcut
  have HC2 := HC.out
  clear HC
  have e1 : (Kd.int IntKind.u8).sz = 1 := rfl
  rw [e1] at HC2
  generalize (l0.take (a1 + a2).toNat).drop a1.toNat = L at hcut HC2 HQ
  generalize (if (a1 + a2).toNat = a1.toNat then A0 else Option.map (fun x => x.add (a1.toNat * 1)) A0) = A2 at hcut HC2
  have HC := Aside0.mk HC2
  clear HC2 c1 c2 c3 c4 hl hz0 hi0 i0 hlen h e1
  go_enter Try.func40, Try.ntmps40
  go_wp2_with fail
  refine (bytes_Clone.calls A2 L.length L q _ HC.out (Nat.le_refl _) HQ.out).mono ?_
  rintro e w1 ⟨v, rfl, hR, hB⟩
  have HR1 := Aside0.mk hR
  have HB1 := Aside0.mk hB
  clear hR hB
  go_wp2
  go_ret2
  exact ⟨_, rfl, HR1.out, HB1.out⟩

end Go.Proofs.Ytiiemfnaegapmaa.Q
