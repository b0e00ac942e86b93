-- A walk, out of the kit's print program run by wip/ownprint.sh and turned by wip/qprune.py. Lean checks it.
import Derived.Test.YtegehkenmkmflaaQ0
namespace Go.Proofs.Ytegehkenmkmflaa.Q
open Go.RowKit Go.Proofs.YtegehkenmkmflaaW.PrintWords Go.Proofs.YtegehkenmkmflaaW.PrintLast Go.Proofs.YtegehkenmkmflaaW.PrintMore
attribute [local go_sem] max2_int min2_int max_two min_two max_three min_three max_four min_four   -- for this text's walks alone
set_option linter.unusedVariables false
set_option linter.unusedSimpArgs false

/-! ### bounds_Base: function 49 -/
def bounds_Base.f (a0_0 : Int) (a0_1 : Int) (a0_2 : Int) (a1 : Int) : Option (Int) := if 0 ≤ (IntKind.u64.wrap (Int.tmod a0_0 16)) then (if 0 ≤ (IntKind.u64.wrap ((IntKind.u64.wrap (Int.tmod a0_0 16)) + 9)) then (if (Int.tmod (shr .u64 (IntKind.u64.wrap (a1)) (IntKind.u64.wrap (Int.tmod a0_0 16))) 512) < (IntKind.u64.wrap (Int.tmod a0_1 512)) then (if 0 ≤ (IntKind.u64.wrap ((IntKind.u64.wrap (32 - (IntKind.u64.wrap (Int.tmod a0_0 16)))) - 9)) then (some (IntKind.u64.wrap ((shl .u64 (Go.bits .and .u64 (IntKind.u64.wrap ((shr .u64 (IntKind.u64.wrap (a1)) (IntKind.u64.wrap ((IntKind.u64.wrap (Int.tmod a0_0 16)) + 9))) - 1)) (IntKind.u64.wrap ((shl .u64 1 (IntKind.u64.wrap ((IntKind.u64.wrap (32 - (IntKind.u64.wrap (Int.tmod a0_0 16)))) - 9))) - 1))) (IntKind.u64.wrap ((IntKind.u64.wrap (Int.tmod a0_0 16)) + 9))) + (shl .u64 (IntKind.u64.wrap (Int.tmod a0_1 512)) (IntKind.u64.wrap (Int.tmod a0_0 16)))))) else (none)) else (some (IntKind.u64.wrap ((shl .u64 (shr .u64 (IntKind.u64.wrap (a1)) (IntKind.u64.wrap ((IntKind.u64.wrap (Int.tmod a0_0 16)) + 9))) (IntKind.u64.wrap ((IntKind.u64.wrap (Int.tmod a0_0 16)) + 9))) + (shl .u64 (IntKind.u64.wrap (Int.tmod a0_1 512)) (IntKind.u64.wrap (Int.tmod a0_0 16))))))) else (none)) else (none)
set_option maxHeartbeats 8000000 in
set_option maxRecDepth 100000 in
theorem bounds_Base.calls (a0_0 : Int) (a0_1 : Int) (a0_2 : Int) (a1 : Int) (r : Int) (w : World) (h : bounds_Base.f a0_0 a0_1 a0_2 a1 = some r) :
    Calls Try.prog 49 #[.agg #[.int .u8 a0_0, .int .u16 a0_1, .int .u16 a0_2], .int .u32 a1] w fun e w' => e = .returned (.int .u64 r) ∧ Below w.heap.size w w' := by
  have hu32 := Try.underlying32
  have HB := Aside0.mk (Below.refl w.heap.size w)
  have H : (if 0 ≤ (IntKind.u64.wrap (Int.tmod a0_0 16)) then (if 0 ≤ (IntKind.u64.wrap ((IntKind.u64.wrap (Int.tmod a0_0 16)) + 9)) then (if (Int.tmod (shr .u64 (IntKind.u64.wrap (a1)) (IntKind.u64.wrap (Int.tmod a0_0 16))) 512) < (IntKind.u64.wrap (Int.tmod a0_1 512)) then (if 0 ≤ (IntKind.u64.wrap ((IntKind.u64.wrap (32 - (IntKind.u64.wrap (Int.tmod a0_0 16)))) - 9)) then (some (IntKind.u64.wrap ((shl .u64 (Go.bits .and .u64 (IntKind.u64.wrap ((shr .u64 (IntKind.u64.wrap (a1)) (IntKind.u64.wrap ((IntKind.u64.wrap (Int.tmod a0_0 16)) + 9))) - 1)) (IntKind.u64.wrap ((shl .u64 1 (IntKind.u64.wrap ((IntKind.u64.wrap (32 - (IntKind.u64.wrap (Int.tmod a0_0 16)))) - 9))) - 1))) (IntKind.u64.wrap ((IntKind.u64.wrap (Int.tmod a0_0 16)) + 9))) + (shl .u64 (IntKind.u64.wrap (Int.tmod a0_1 512)) (IntKind.u64.wrap (Int.tmod a0_0 16)))))) else (none)) else (some (IntKind.u64.wrap ((shl .u64 (shr .u64 (IntKind.u64.wrap (a1)) (IntKind.u64.wrap ((IntKind.u64.wrap (Int.tmod a0_0 16)) + 9))) (IntKind.u64.wrap ((IntKind.u64.wrap (Int.tmod a0_0 16)) + 9))) + (shl .u64 (IntKind.u64.wrap (Int.tmod a0_1 512)) (IntKind.u64.wrap (Int.tmod a0_0 16))))))) else (none)) else (none)) = some r := h
  clear h
  obtain ⟨ji3, hji3⟩ : ∃ j_ : Int, (IntKind.u64.wrap (Int.tmod a0_0 16)) = j_ := ⟨_, rfl⟩
  replace H : (if 0 ≤ (ji3) then (if 0 ≤ (IntKind.u64.wrap ((ji3) + 9)) then (if (Int.tmod (shr .u64 (IntKind.u64.wrap (a1)) (ji3)) 512) < (IntKind.u64.wrap (Int.tmod a0_1 512)) then (if 0 ≤ (IntKind.u64.wrap ((IntKind.u64.wrap (32 - (ji3))) - 9)) then (some (IntKind.u64.wrap ((shl .u64 (Go.bits .and .u64 (IntKind.u64.wrap ((shr .u64 (IntKind.u64.wrap (a1)) (IntKind.u64.wrap ((ji3) + 9))) - 1)) (IntKind.u64.wrap ((shl .u64 1 (IntKind.u64.wrap ((IntKind.u64.wrap (32 - (ji3))) - 9))) - 1))) (IntKind.u64.wrap ((ji3) + 9))) + (shl .u64 (IntKind.u64.wrap (Int.tmod a0_1 512)) (ji3))))) else (none)) else (some (IntKind.u64.wrap ((shl .u64 (shr .u64 (IntKind.u64.wrap (a1)) (IntKind.u64.wrap ((ji3) + 9))) (IntKind.u64.wrap ((ji3) + 9))) + (shl .u64 (IntKind.u64.wrap (Int.tmod a0_1 512)) (ji3)))))) else (none)) else (none)) = some r := by first | (rw [hji3] at H; exact H) | (simp only [hji3] at H ⊢; exact H)
  by_cases c4 : 0 ≤ (ji3)
  · rw [if_pos c4] at H
    have c4b0 := eq_true c4
    have c4b1 : decide (0 ≤ (ji3)) = true := decide_eq_true c4
    clear c4
    obtain ⟨ji5, hji5⟩ : ∃ j_ : Int, (shr .u64 (IntKind.u64.wrap (a1)) (ji3)) = j_ := ⟨_, rfl⟩
    replace H : (if 0 ≤ (IntKind.u64.wrap ((ji3) + 9)) then (if (Int.tmod (ji5) 512) < (IntKind.u64.wrap (Int.tmod a0_1 512)) then (if 0 ≤ (IntKind.u64.wrap ((IntKind.u64.wrap (32 - (ji3))) - 9)) then (some (IntKind.u64.wrap ((shl .u64 (Go.bits .and .u64 (IntKind.u64.wrap ((shr .u64 (IntKind.u64.wrap (a1)) (IntKind.u64.wrap ((ji3) + 9))) - 1)) (IntKind.u64.wrap ((shl .u64 1 (IntKind.u64.wrap ((IntKind.u64.wrap (32 - (ji3))) - 9))) - 1))) (IntKind.u64.wrap ((ji3) + 9))) + (shl .u64 (IntKind.u64.wrap (Int.tmod a0_1 512)) (ji3))))) else (none)) else (some (IntKind.u64.wrap ((shl .u64 (shr .u64 (IntKind.u64.wrap (a1)) (IntKind.u64.wrap ((ji3) + 9))) (IntKind.u64.wrap ((ji3) + 9))) + (shl .u64 (IntKind.u64.wrap (Int.tmod a0_1 512)) (ji3)))))) else (none)) = some r := by first | (rw [hji5] at H; exact H) | (simp only [hji5] at H ⊢; exact H)
    have hji5_ : ((IntKind.u64.wrap (a1)) / 2 ^ min (ji3).toNat 64) = ji5 := hji5
    have hji5z : (ji3) ≤ 64 → ((IntKind.u64.wrap (a1)) / 2 ^ (ji3).toNat) = ji5 := shr_small hji5
    obtain ⟨ji6, hji6⟩ : ∃ j_ : Int, (IntKind.u64.wrap ((ji3) + 9)) = j_ := ⟨_, rfl⟩
    replace H : (if 0 ≤ (ji6) then (if (Int.tmod (ji5) 512) < (IntKind.u64.wrap (Int.tmod a0_1 512)) then (if 0 ≤ (IntKind.u64.wrap ((IntKind.u64.wrap (32 - (ji3))) - 9)) then (some (IntKind.u64.wrap ((shl .u64 (Go.bits .and .u64 (IntKind.u64.wrap ((shr .u64 (IntKind.u64.wrap (a1)) (ji6)) - 1)) (IntKind.u64.wrap ((shl .u64 1 (IntKind.u64.wrap ((IntKind.u64.wrap (32 - (ji3))) - 9))) - 1))) (ji6)) + (shl .u64 (IntKind.u64.wrap (Int.tmod a0_1 512)) (ji3))))) else (none)) else (some (IntKind.u64.wrap ((shl .u64 (shr .u64 (IntKind.u64.wrap (a1)) (ji6)) (ji6)) + (shl .u64 (IntKind.u64.wrap (Int.tmod a0_1 512)) (ji3)))))) else (none)) = some r := by first | (rw [hji6] at H; exact H) | (simp only [hji6] at H ⊢; exact H)
    by_cases c7 : 0 ≤ (ji6)
    · rw [if_pos c7] at H
      have c7b0 := eq_true c7
      have c7b1 : decide (0 ≤ (ji6)) = true := decide_eq_true c7
      clear c7
      obtain ⟨ji8, hji8⟩ : ∃ j_ : Int, (shr .u64 (IntKind.u64.wrap (a1)) (ji6)) = j_ := ⟨_, rfl⟩
      replace H : (if (Int.tmod (ji5) 512) < (IntKind.u64.wrap (Int.tmod a0_1 512)) then (if 0 ≤ (IntKind.u64.wrap ((IntKind.u64.wrap (32 - (ji3))) - 9)) then (some (IntKind.u64.wrap ((shl .u64 (Go.bits .and .u64 (IntKind.u64.wrap ((ji8) - 1)) (IntKind.u64.wrap ((shl .u64 1 (IntKind.u64.wrap ((IntKind.u64.wrap (32 - (ji3))) - 9))) - 1))) (ji6)) + (shl .u64 (IntKind.u64.wrap (Int.tmod a0_1 512)) (ji3))))) else (none)) else (some (IntKind.u64.wrap ((shl .u64 (ji8) (ji6)) + (shl .u64 (IntKind.u64.wrap (Int.tmod a0_1 512)) (ji3)))))) = some r := by first | (rw [hji8] at H; exact H) | (simp only [hji8] at H ⊢; exact H)
      have hji8_ : ((IntKind.u64.wrap (a1)) / 2 ^ min (ji6).toNat 64) = ji8 := hji8
      have hji8z : (ji6) ≤ 64 → ((IntKind.u64.wrap (a1)) / 2 ^ (ji6).toNat) = ji8 := shr_small hji8
      by_cases c9 : (Int.tmod (ji5) 512) < (IntKind.u64.wrap (Int.tmod a0_1 512))
      · rw [if_pos c9] at H
        have c9b0 : decide ((Int.tmod (ji5) 512) < (IntKind.u64.wrap (Int.tmod a0_1 512))) = true := decide_eq_true c9
        clear c9
        obtain ⟨ji10, hji10⟩ : ∃ j_ : Int, (IntKind.u64.wrap ((IntKind.u64.wrap (32 - (ji3))) - 9)) = j_ := ⟨_, rfl⟩
        replace H : (if 0 ≤ (ji10) then (some (IntKind.u64.wrap ((shl .u64 (Go.bits .and .u64 (IntKind.u64.wrap ((ji8) - 1)) (IntKind.u64.wrap ((shl .u64 1 (ji10)) - 1))) (ji6)) + (shl .u64 (IntKind.u64.wrap (Int.tmod a0_1 512)) (ji3))))) else (none)) = some r := by first | (rw [hji10] at H; exact H) | (simp only [hji10] at H ⊢; exact H)
        by_cases c11 : 0 ≤ (ji10)
        · rw [if_pos c11] at H
          have c11b0 := eq_true c11
          have c11b1 : decide (0 ≤ (ji10)) = true := decide_eq_true c11
          clear c11
          obtain ⟨ji12, hji12⟩ : ∃ j_ : Int, (shl .u64 1 (ji10)) = j_ := ⟨_, rfl⟩
          replace H : (some (IntKind.u64.wrap ((shl .u64 (Go.bits .and .u64 (IntKind.u64.wrap ((ji8) - 1)) (IntKind.u64.wrap ((ji12) - 1))) (ji6)) + (shl .u64 (IntKind.u64.wrap (Int.tmod a0_1 512)) (ji3))))) = some r := by first | (rw [hji12] at H; exact H) | (simp only [hji12] at H ⊢; exact H)
          have hji12_ : (IntKind.u64.wrap (1 * 2 ^ min (ji10).toNat 64)) = ji12 := hji12
          have hji12z : (ji10) ≤ 64 → (IntKind.u64.wrap (1 * 2 ^ (ji10).toNat)) = ji12 := shl_small hji12
          have hji12u : (IntKind.u64.wrap (2 ^ min (ji10).toNat 64)) = ji12 := by have h_ := hji12_; rw [Int.one_mul] at h_; exact h_
          have hji12v : (ji10) ≤ 64 → (IntKind.u64.wrap (2 ^ (ji10).toNat)) = ji12 := fun hle_ => by have h_ := hji12z hle_; rw [Int.one_mul] at h_; exact h_
          have c13b0 := eq_true (of_decide_eq_true (by first | (with_reducible assumption) | assumption) : 0 ≤ (ji6))
          obtain ⟨ji14, hji14⟩ : ∃ j_ : Int, (shl .u64 (Go.bits .and .u64 (IntKind.u64.wrap ((ji8) - 1)) (IntKind.u64.wrap ((ji12) - 1))) (ji6)) = j_ := ⟨_, rfl⟩
          replace H : (some (IntKind.u64.wrap ((ji14) + (shl .u64 (IntKind.u64.wrap (Int.tmod a0_1 512)) (ji3))))) = some r := by first | (rw [hji14] at H; exact H) | (simp only [hji14] at H ⊢; exact H)
          have hji14_ : (IntKind.u64.wrap ((Go.bits .and .u64 (IntKind.u64.wrap ((ji8) - 1)) (IntKind.u64.wrap ((ji12) - 1))) * 2 ^ min (ji6).toNat 64)) = ji14 := hji14
          have hji14z : (ji6) ≤ 64 → (IntKind.u64.wrap ((Go.bits .and .u64 (IntKind.u64.wrap ((ji8) - 1)) (IntKind.u64.wrap ((ji12) - 1))) * 2 ^ (ji6).toNat)) = ji14 := shl_small hji14
          have c15b0 := eq_true (of_decide_eq_true (by first | (with_reducible assumption) | assumption) : 0 ≤ (ji3))
          obtain ⟨ji16, hji16⟩ : ∃ j_ : Int, (shl .u64 (IntKind.u64.wrap (Int.tmod a0_1 512)) (ji3)) = j_ := ⟨_, rfl⟩
          replace H : (some (IntKind.u64.wrap ((ji14) + (ji16)))) = some r := by first | (rw [hji16] at H; exact H) | (simp only [hji16] at H ⊢; exact H)
          have hji16_ : (IntKind.u64.wrap ((IntKind.u64.wrap (Int.tmod a0_1 512)) * 2 ^ min (ji3).toNat 64)) = ji16 := hji16
          have hji16z : (ji3) ≤ 64 → (IntKind.u64.wrap ((IntKind.u64.wrap (Int.tmod a0_1 512)) * 2 ^ (ji3).toNat)) = ji16 := shl_small hji16
          obtain rfl := Option.some.inj H
          go_enter Try.func49, Try.ntmps49
          go_wp2_with (first | ((with_reducible refine gate_dst (N := 2) rfl ?_); refine box_event ?hg (N := 2) ?hd (cs := #[.int .u8 a0_0, .int .u16 a0_1, .int .u16 a0_2]) (t := 32) ?hr ?_; (case hd => rfl); (case hg => rfl); (case hr => first | (go_simp; done) | (go_simp; rfl)); intro gb109 hg w17 hbox hb; have n0_ := Aside0.mk (below_step (by repeat (first | (with_reducible first | exact HB.out | apply below_alloc | apply pw_below_drewN | apply below_drew1) | exact HB.out)) hb); have n1_ := Aside0.mk (hbox); have n2_ := Aside0.mk ((by rw [hg]; exact (below_size (by repeat (first | (with_reducible first | exact HB.out | apply below_alloc | apply pw_below_drewN | apply below_drew1) | exact HB.out))) : w.heap.size ≤ gb109)); have n3_ := Aside0.mk ((by rw [hg]; exact (below_size (by repeat (first | (with_reducible first | exact HB.out | apply below_alloc | apply pw_below_drewN | apply below_drew1) | exact HB.out))) : w.heap.size ≤ gb109)); clear HB; have HB := n0_; have BK109 := n1_; have GW109 := n2_; have GE109 := n3_; clear n0_ n1_ n2_ n3_; clear hb hbox hg; have hcz18_0 : w17.cell? ⟨gb109, 0, none⟩ = some (.int .u8 a0_0) := (blk_cell BK109.out 0).trans rfl; have hcz18_1 : w17.cell? ⟨gb109, 1, none⟩ = some (.int .u16 a0_1) := (blk_cell BK109.out 1).trans rfl; have hcz18_2 : w17.cell? ⟨gb109, 2, none⟩ = some (.int .u16 a0_2) := (blk_cell BK109.out 2).trans rfl; have hfz18_0 := blk_frozen BK109.out 0; have hfz18_1 := blk_frozen BK109.out 1; have hfz18_2 := blk_frozen BK109.out 2))
          go_ret
          exact ⟨by first | rfl | (simp [errW_none, errW_some] <;> rfl) | (simp only [← hji3, ← hji5, ← hji6, ← hji8, ← hji10, ← hji12, ← hji14, ← hji16]; first | rfl | (simp [errW_none, errW_some] <;> rfl)) | (simp [*, errW_none, errW_some] <;> rfl), by repeat (first | (with_reducible first | exact HB.out | apply below_alloc | apply pw_below_drewN | apply below_drew1 | refine below_set ?_ GE109.out) | exact HB.out)⟩
        · rw [if_neg c11] at H
          exact absurd H (by simp)
      · rw [if_neg c9] at H
        have c9b0 : decide ((Int.tmod (ji5) 512) < (IntKind.u64.wrap (Int.tmod a0_1 512))) = false := decide_eq_false c9
        clear c9
        have c19b0 := eq_true (of_decide_eq_true (by first | (with_reducible assumption) | assumption) : 0 ≤ (ji6))
        obtain ⟨ji20, hji20⟩ : ∃ j_ : Int, (shl .u64 (ji8) (ji6)) = j_ := ⟨_, rfl⟩
        replace H : (some (IntKind.u64.wrap ((ji20) + (shl .u64 (IntKind.u64.wrap (Int.tmod a0_1 512)) (ji3))))) = some r := by first | (rw [hji20] at H; exact H) | (simp only [hji20] at H ⊢; exact H)
        have hji20_ : (IntKind.u64.wrap ((ji8) * 2 ^ min (ji6).toNat 64)) = ji20 := hji20
        have hji20z : (ji6) ≤ 64 → (IntKind.u64.wrap ((ji8) * 2 ^ (ji6).toNat)) = ji20 := shl_small hji20
        have c21b0 := eq_true (of_decide_eq_true (by first | (with_reducible assumption) | assumption) : 0 ≤ (ji3))
        obtain ⟨ji22, hji22⟩ : ∃ j_ : Int, (shl .u64 (IntKind.u64.wrap (Int.tmod a0_1 512)) (ji3)) = j_ := ⟨_, rfl⟩
        replace H : (some (IntKind.u64.wrap ((ji20) + (ji22)))) = some r := by first | (rw [hji22] at H; exact H) | (simp only [hji22] at H ⊢; exact H)
        have hji22_ : (IntKind.u64.wrap ((IntKind.u64.wrap (Int.tmod a0_1 512)) * 2 ^ min (ji3).toNat 64)) = ji22 := hji22
        have hji22z : (ji3) ≤ 64 → (IntKind.u64.wrap ((IntKind.u64.wrap (Int.tmod a0_1 512)) * 2 ^ (ji3).toNat)) = ji22 := shl_small hji22
        obtain rfl := Option.some.inj H
        go_enter Try.func49, Try.ntmps49
        go_wp2_with (first | ((with_reducible refine gate_dst (N := 2) rfl ?_); refine box_event ?hg (N := 2) ?hd (cs := #[.int .u8 a0_0, .int .u16 a0_1, .int .u16 a0_2]) (t := 32) ?hr ?_; (case hd => rfl); (case hg => rfl); (case hr => first | (go_simp; done) | (go_simp; rfl)); intro gb109 hg w23 hbox hb; have n0_ := Aside0.mk (below_step (by repeat (first | (with_reducible first | exact HB.out | apply below_alloc | apply pw_below_drewN | apply below_drew1) | exact HB.out)) hb); have n1_ := Aside0.mk (hbox); have n2_ := Aside0.mk ((by rw [hg]; exact (below_size (by repeat (first | (with_reducible first | exact HB.out | apply below_alloc | apply pw_below_drewN | apply below_drew1) | exact HB.out))) : w.heap.size ≤ gb109)); have n3_ := Aside0.mk ((by rw [hg]; exact (below_size (by repeat (first | (with_reducible first | exact HB.out | apply below_alloc | apply pw_below_drewN | apply below_drew1) | exact HB.out))) : w.heap.size ≤ gb109)); clear HB; have HB := n0_; have BK109 := n1_; have GW109 := n2_; have GE109 := n3_; clear n0_ n1_ n2_ n3_; clear hb hbox hg; have hcz24_0 : w23.cell? ⟨gb109, 0, none⟩ = some (.int .u8 a0_0) := (blk_cell BK109.out 0).trans rfl; have hcz24_1 : w23.cell? ⟨gb109, 1, none⟩ = some (.int .u16 a0_1) := (blk_cell BK109.out 1).trans rfl; have hcz24_2 : w23.cell? ⟨gb109, 2, none⟩ = some (.int .u16 a0_2) := (blk_cell BK109.out 2).trans rfl; have hfz24_0 := blk_frozen BK109.out 0; have hfz24_1 := blk_frozen BK109.out 1; have hfz24_2 := blk_frozen BK109.out 2))
        go_ret
        exact ⟨by first | rfl | (simp [errW_none, errW_some] <;> rfl) | (simp only [← hji3, ← hji5, ← hji6, ← hji8, ← hji20, ← hji22]; first | rfl | (simp [errW_none, errW_some] <;> rfl)) | (simp [*, errW_none, errW_some] <;> rfl), by repeat (first | (with_reducible first | exact HB.out | apply below_alloc | apply pw_below_drewN | apply below_drew1 | refine below_set ?_ GE109.out) | exact HB.out)⟩
    · rw [if_neg c7] at H
      exact absurd H (by simp)
  · rw [if_neg c4] at H
    exact absurd H (by simp)

end Go.Proofs.Ytegehkenmkmflaa.Q
