-- A walk, out of the kit's print program run by wip/ownprint.sh and turned by wip/qprune.py. Lean checks it.
import Derived.Test.YtkbnagmlmmengaaQ0
import Derived.Test.YtkbnagmlmmengaaQ6
namespace Go.Proofs.Ytkbnagmlmmengaa.Q
open Go.RowKit Go.Proofs.YtkbnagmlmmengaaW.PrintWords Go.Proofs.YtkbnagmlmmengaaW.PrintLast Go.Proofs.YtkbnagmlmmengaaW.PrintMore
attribute [local go_sem] max2_int min2_int max_two min_two max_three min_three max_four min_four   -- for this text's walks alone
set_option linter.unusedVariables false
set_option linter.unusedSimpArgs false

/-! ### ends_Pad: function 35 -/
-- by hand: making
def ends_Pad.f (l0 : List Int) : Option (List Int) := if l0.length + 8 < 140737488355328 then some (l0 ++ List.replicate ((8 - l0.length % 8) % 8) 0) else none
set_option maxHeartbeats 8000000 in
set_option maxRecDepth 100000 in
theorem ends_Pad.calls (A0 : Option Addr) (c0 : Nat) (l0 : List Int) (r : List Int) (w : World) (hr0 : Kd.C (Kd.int .u8) w A0 l0.length l0) (hc0 : l0.length ≤ c0) (h : ends_Pad.f l0 = some r) :
    Calls Try.prog 35 #[.slice A0 l0.length c0] w fun e w' => ∃ v0_ : Value, e = .returned (v0_) ∧ Kd.R (Kd.int .u8) 5 w' w.heap.size (fun _ => True) v0_ r ∧ Below w.heap.size w w' := by
  have HR0 := Aside0.mk hr0
  have HC0 := Aside0.mk hc0
  clear hr0 hc0
  unfold ends_Pad.f at h
  have c2 : l0.length + 8 < 140737488355328 := by
    rcases Nat.lt_or_ge (l0.length + 8) 140737488355328 with g | g
    · exact g
    · rw [if_neg (by omega)] at h; cases h
  rw [if_pos c2] at h
  obtain rfl := Option.some.inj h
  have LM := Aside0.mk c2
  have HQ := Aside0.mk (show bytes_Clone.f l0 = some l0 by unfold bytes_Clone.f; rw [if_pos (by omega)])
  have e1 : Int.tmod (l0.length : Int) 8 = ((l0.length % 8 : Nat) : Int) := by rw [Int.tmod_eq_emod_of_nonneg (by omega)]; omega
  have hm : l0.length % 8 < 8 := Nat.mod_lt _ (by decide)
  obtain ⟨m, hme⟩ : ∃ m, m = l0.length % 8 := ⟨_, rfl⟩
  rw [← hme] at hm e1 ⊢
  have HM := Aside0.mk hme
  clear hme h c2
  have e2 : wrap64 (8 - (m : Int)) = 8 - (m : Int) := by unfold wrap64; omega
  have e3 : Int.tmod (8 - (m : Int)) 8 = (((8 - m) % 8 : Nat) : Int) := by rw [Int.tmod_eq_emod_of_nonneg (by omega)]; omega
  have HB := Aside0.mk (Below.refl w.heap.size w)
  go_enter Try.func35, Try.ntmps35
  go_wp2_with fail
  refine (bytes_Clone.calls A0 c0 l0 l0 _ HR0.out HC0.out HQ.out).mono ?_
  rintro e w1 ⟨v, rfl, hR, hB⟩
  have HR1 := Aside0.mk hR
  have HB1 := Aside0.mk hB
  clear hR hB
  have HQ8 := Aside0.mk (show (8 - m) % 8 < 8 from Nat.mod_lt _ (by decide))
  go_wp2_with (first | ((with_reducible refine gate_builtin (b := .append) (xs := #[.tmp 4, .tmp 9]) rfl ?_); at_builtin; go_loud (refine Kd.R_append_zeros (Kd.int .u8) (w0 := w) w.heap.size rfl (.tmp 4) (.tmp 9) 41 3 5 (.int .u8 0) 1 rfl Try.underlying41 Try.underlying3 info5 rfl (by decide) (by omega) v l0 0 (((8 - m) % 8 : Nat) : Int) (fun _ => True) rfl rfl rfl ?aF ?aO ?aN ?aB ?aS ?aL ?_); (case aN => omega); (case aB => exact HB1.out); (case aF => exact (fun _ _ => trivial)); (case aO => exact HR1.out); (case aS => exact below_size HB1.out); (case aL => have := LM.out; have := HQ8.out; simp only [Int.toNat_natCast]; omega); intro v2 w2 ho hb hg hat; have n0_ := Aside0.mk (hb); have n1_ := Aside0.mk (ho); clear HB; have HB := n0_; have HO := n1_; clear n0_ n1_; clear ho hb hg hat))
  go_ret
  exact ⟨_, rfl, by have h := HO.out; rw [Int.toNat_natCast] at h; exact h, HB.out⟩

end Go.Proofs.Ytkbnagmlmmengaa.Q
