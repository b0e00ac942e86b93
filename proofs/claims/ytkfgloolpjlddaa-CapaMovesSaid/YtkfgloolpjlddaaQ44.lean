-- A walk, out of the kit's print program run by wip/ownprint.sh and turned by wip/qprune.py. Lean checks it.
import Derived.Test.YtkfgloolpjlddaaQ0
namespace Go.Proofs.Ytkfgloolpjlddaa.Q
open Go.RowKit Go.Proofs.YtkfgloolpjlddaaW.PrintWords Go.Proofs.YtkfgloolpjlddaaW.PrintLast Go.Proofs.YtkfgloolpjlddaaW.PrintMore
attribute [local go_sem] max2_int min2_int max_two min_two max_three min_three max_four min_four   -- for this text's walks alone
set_option linter.unusedVariables false
set_option linter.unusedSimpArgs false

/-! ### bulwarkref03_AndPerms: function 34 -/
mutual
def bulwarkref03_AndPerms.j0 : Nat → Int → Bool → Int → Int → Int → Int → Int → Int → Option (Bool × Int × Int × Int × Int × Int × Int)
  | 0, _, _, _, _, _, _, _, _ => none
  | k + 1, x1, x404000, x404001, x404002, x404003, x404004, x404005, x404006 => bulwarkref03_AndPerms.l0 k x1 0 1 x404000 x404001 x404002 x404003 x404004 x404005 x404006
def bulwarkref03_AndPerms.l0 : Nat → Int → Int → Int → Bool → Int → Int → Int → Int → Int → Int → Option (Bool × Int × Int × Int × Int × Int × Int)
  | 0, _, _, _, _, _, _, _, _, _, _ => none
  | k + 1, x1, x5, x6, x404000, x404001, x404002, x404003, x404004, x404005, x404006 => if x6 = 0 then (some (x404000, x404001, x5, x404003, x404004, x404005, x404006)) else (if (((Int.tdiv x404002 x6) % 256) % 2) = 1 then (if (((((Int.tmod x1 256) % 256) / x6) % 256) % 2) = 1 then (bulwarkref03_AndPerms.l0 k x1 ((x5 + x6) % 256) ((x6 * 2) % 256) x404000 x404001 x404002 x404003 x404004 x404005 x404006) else (bulwarkref03_AndPerms.l0 k x1 x5 ((x6 * 2) % 256) x404000 x404001 x404002 x404003 x404004 x404005 x404006)) else (bulwarkref03_AndPerms.l0 k x1 x5 ((x6 * 2) % 256) x404000 x404001 x404002 x404003 x404004 x404005 x404006))
end
def bulwarkref03_AndPerms.f (k : Nat) (a0_0 : Bool) (a0_1 : Int) (a0_2 : Int) (a0_3 : Int) (a0_4 : Int) (a0_5 : Int) (a0_6 : Int) (a1 : Int) : Option (Bool × Int × Int × Int × Int × Int × Int) := if a0_3 = 0 then (bulwarkref03_AndPerms.j0 k a1 a0_0 a0_1 a0_2 a0_3 a0_4 a0_5 a0_6) else (bulwarkref03_AndPerms.j0 k a1 false a0_1 a0_2 a0_3 a0_4 a0_5 a0_6)
theorem bulwarkref03_AndPerms.mono_l : ∀ k, (∀ y0 y1 y2 y3 y4 y5 y6 y7, LeO (bulwarkref03_AndPerms.j0 k y0 y1 y2 y3 y4 y5 y6 y7) (bulwarkref03_AndPerms.j0 (k + 1) y0 y1 y2 y3 y4 y5 y6 y7)) ∧ (∀ y0 y1 y2 y3 y4 y5 y6 y7 y8 y9, LeO (bulwarkref03_AndPerms.l0 k y0 y1 y2 y3 y4 y5 y6 y7 y8 y9) (bulwarkref03_AndPerms.l0 (k + 1) y0 y1 y2 y3 y4 y5 y6 y7 y8 y9))
  | 0 => ⟨fun _ _ _ _ _ _ _ _ r h => by simp [bulwarkref03_AndPerms.j0] at h, fun _ _ _ _ _ _ _ _ _ _ r h => by simp [bulwarkref03_AndPerms.l0] at h⟩
  | k + 1 => by
    obtain ⟨ih0, ih1⟩ := bulwarkref03_AndPerms.mono_l k
    refine ⟨?_, ?_⟩
    · intro y0 y1 y2 y3 y4 y5 y6 y7
      unfold bulwarkref03_AndPerms.j0
      repeat' first
      | (with_reducible exact ih0 _ _ _ _ _ _ _ _)
      | (with_reducible exact ih1 _ _ _ _ _ _ _ _ _ _)
      | (with_reducible exact LeO.refl _)
      | (with_reducible exact LeO.none _)
      | (with_reducible refine LeO.ite ?_ ?_)
      | (with_reducible refine LeO.bind ?_ (fun _ => ?_))
      | exact ih0 _ _ _ _ _ _ _ _
      | exact ih1 _ _ _ _ _ _ _ _ _ _
      | exact LeO.none _
      | refine LeO.ite ?_ ?_
      | refine LeO.bind ?_ (fun _ => ?_)
    · intro y0 y1 y2 y3 y4 y5 y6 y7 y8 y9
      unfold bulwarkref03_AndPerms.l0
      repeat' first
      | (with_reducible exact ih0 _ _ _ _ _ _ _ _)
      | (with_reducible exact ih1 _ _ _ _ _ _ _ _ _ _)
      | (with_reducible exact LeO.refl _)
      | (with_reducible exact LeO.none _)
      | (with_reducible refine LeO.ite ?_ ?_)
      | (with_reducible refine LeO.bind ?_ (fun _ => ?_))
      | exact ih0 _ _ _ _ _ _ _ _
      | exact ih1 _ _ _ _ _ _ _ _ _ _
      | exact LeO.none _
      | refine LeO.ite ?_ ?_
      | refine LeO.bind ?_ (fun _ => ?_)
theorem bulwarkref03_AndPerms.mono : ∀ a0 a1 a2 a3 a4 a5 a6 a7 k, LeO (bulwarkref03_AndPerms.f k a0 a1 a2 a3 a4 a5 a6 a7) (bulwarkref03_AndPerms.f (k + 1) a0 a1 a2 a3 a4 a5 a6 a7) := by
  intro a0 a1 a2 a3 a4 a5 a6 a7 k
  obtain ⟨ih0, ih1⟩ := bulwarkref03_AndPerms.mono_l k
  unfold bulwarkref03_AndPerms.f
  repeat' first
      | (with_reducible exact ih0 _ _ _ _ _ _ _ _)
      | (with_reducible exact ih1 _ _ _ _ _ _ _ _ _ _)
      | (with_reducible exact LeO.refl _)
      | (with_reducible exact LeO.none _)
      | (with_reducible refine LeO.ite ?_ ?_)
      | (with_reducible refine LeO.bind ?_ (fun _ => ?_))
      | exact ih0 _ _ _ _ _ _ _ _
      | exact ih1 _ _ _ _ _ _ _ _ _ _
      | exact LeO.none _
      | refine LeO.ite ?_ ?_
      | refine LeO.bind ?_ (fun _ => ?_)
set_option maxHeartbeats 8000000 in
set_option maxRecDepth 100000 in
theorem bulwarkref03_AndPerms.calls (k : Nat) (a0_0 : Bool) (a0_1 : Int) (a0_2 : Int) (a0_3 : Int) (a0_4 : Int) (a0_5 : Int) (a0_6 : Int) (a1 : Int) (r1 : Bool) (r2 : Int) (r3 : Int) (r4 : Int) (r5 : Int) (r6 : Int) (r7 : Int) (w : World) (h : bulwarkref03_AndPerms.f k a0_0 a0_1 a0_2 a0_3 a0_4 a0_5 a0_6 a1 = some (r1, r2, r3, r4, r5, r6, r7)) :
    Calls Try.prog 34 #[.agg #[.bool a0_0, .int .u32 a0_1, .int .u8 a0_2, .int .u8 a0_3, .int .u8 a0_4, .int .u16 a0_5, .int .u16 a0_6], .int .u32 a1] w fun e w' => e = .returned (.agg #[.bool r1, .int .u32 r2, .int .u8 r3, .int .u8 r4, .int .u8 r5, .int .u16 r6, .int .u16 r7]) ∧ Below w.heap.size w w' := by
  have hu27 := Try.underlying27
  have HB := Aside0.mk (Below.refl w.heap.size w)
  have H : (if a0_3 = 0 then (bulwarkref03_AndPerms.j0 k a1 a0_0 a0_1 a0_2 a0_3 a0_4 a0_5 a0_6) else (bulwarkref03_AndPerms.j0 k a1 false a0_1 a0_2 a0_3 a0_4 a0_5 a0_6)) = some (r1, r2, r3, r4, r5, r6, r7) := h
  clear h
  have HC3 := Aside0.mk H
  clear H
  go_enter Try.func34, Try.ntmps34
  go_upto_if 9 with (first | ((with_reducible refine gate_dst (N := 2) rfl ?_); refine box_event ?hg (N := 2) ?hd (cs := #[.bool a0_0, .int .u32 a0_1, .int .u8 a0_2, .int .u8 a0_3, .int .u8 a0_4, .int .u16 a0_5, .int .u16 a0_6]) (t := 27) ?hr ?_; (case hd => rfl); (case hg => rfl); (case hr => first | (go_simp; done) | (go_simp; rfl)); intro gb403 hg w4 hbox hb; have n0_ := Aside0.mk (below_step (by repeat (first | (with_reducible first | exact HB.out | apply below_alloc | apply pw_below_drewN | apply below_drew1) | exact HB.out)) hb); have n1_ := Aside0.mk (hbox); have n2_ := Aside0.mk ((by rw [hg]; exact (below_size (by repeat (first | (with_reducible first | exact HB.out | apply below_alloc | apply pw_below_drewN | apply below_drew1) | exact HB.out))) : w.heap.size ≤ gb403)); have n3_ := Aside0.mk ((by rw [hg]; exact (below_size (by repeat (first | (with_reducible first | exact HB.out | apply below_alloc | apply pw_below_drewN | apply below_drew1) | exact HB.out))) : w.heap.size ≤ gb403)); clear HB; have HB := n0_; have BK403 := n1_; have GW403 := n2_; have GE403 := n3_; clear n0_ n1_ n2_ n3_; clear hb hbox hg) | ((with_reducible refine gate_dst (N := 4) rfl ?_); refine box_event ?hg (N := 4) ?hd (cs := #[.bool false, .int .u32 0, .int .u8 0, .int .u8 0, .int .u8 0, .int .u16 0, .int .u16 0]) (t := 27) ?hr ?_; (case hd => rfl); (case hg => rfl); (case hr => first | (go_simp; done) | (go_simp; rfl)); intro gb404 hg w5 hbox hb; have n0_ := Aside0.mk (blk_below (g := gb403) (o := .cells #[.bool a0_0, .int .u32 a0_1, .int .u8 a0_2, .int .u8 a0_3, .int .u8 a0_4, .int .u16 a0_5, .int .u16 a0_6] 27 (0, 0)) (by (with_reducible repeat (first | refine blk_drewN ?_ _ | refine blk_drew ?_ | refine blk_alloc ?_ _)); exact BK403.out) hb); have n1_ := Aside0.mk (below_step (by repeat (first | (with_reducible first | exact HB.out | apply below_alloc | apply pw_below_drewN | apply below_drew1 | refine below_set ?_ GE403.out) | exact HB.out)) hb); have n2_ := Aside0.mk (hbox); have n3_ := Aside0.mk ((by rw [hg]; exact (below_size (by repeat (first | (with_reducible first | exact HB.out | apply below_alloc | apply pw_below_drewN | apply below_drew1 | refine below_set ?_ GE403.out) | exact HB.out))) : w.heap.size ≤ gb404)); have n4_ := Aside0.mk ((by rw [hg]; exact (below_size (by repeat (first | (with_reducible first | exact HB.out | apply below_alloc | apply pw_below_drewN | apply below_drew1 | refine below_set ?_ GE403.out) | exact HB.out))) : w.heap.size ≤ gb404)); have n5_ := Aside0.mk ((by rw [hg]; exact Nat.ne_of_lt (blk_lt (g := gb403) (o := .cells #[.bool a0_0, .int .u32 a0_1, .int .u8 a0_2, .int .u8 a0_3, .int .u8 a0_4, .int .u16 a0_5, .int .u16 a0_6] 27 (0, 0)) (by (with_reducible repeat (first | refine blk_drewN ?_ _ | refine blk_drew ?_ | refine blk_alloc ?_ _)); exact BK403.out)) : gb403 ≠ gb404)); have n6_ := Aside0.mk ((by rw [hg]; exact Nat.ne_of_gt (blk_lt (g := gb403) (o := .cells #[.bool a0_0, .int .u32 a0_1, .int .u8 a0_2, .int .u8 a0_3, .int .u8 a0_4, .int .u16 a0_5, .int .u16 a0_6] 27 (0, 0)) (by (with_reducible repeat (first | refine blk_drewN ?_ _ | refine blk_drew ?_ | refine blk_alloc ?_ _)); exact BK403.out)) : gb404 ≠ gb403)); clear BK403; clear HB; have BK403 := n0_; have HB := n1_; have BK404 := n2_; have GW404 := n3_; have GE404 := n4_; have NB403_404 := n5_; have NB404_403 := n6_; clear n0_ n1_ n2_ n3_ n4_ n5_ n6_; clear hb hbox hg; have hnb6 := NB403_404.out; have hnc6 := NB404_403.out; have hcz7_0 : w5.cell? ⟨gb403, 0, none⟩ = some (.bool a0_0) := (blk_cell BK403.out 0).trans rfl; have hcz7_1 : w5.cell? ⟨gb403, 1, none⟩ = some (.int .u32 a0_1) := (blk_cell BK403.out 1).trans rfl; have hcz7_2 : w5.cell? ⟨gb403, 2, none⟩ = some (.int .u8 a0_2) := (blk_cell BK403.out 2).trans rfl; have hcz7_3 : w5.cell? ⟨gb403, 3, none⟩ = some (.int .u8 a0_3) := (blk_cell BK403.out 3).trans rfl; have hcz7_4 : w5.cell? ⟨gb403, 4, none⟩ = some (.int .u8 a0_4) := (blk_cell BK403.out 4).trans rfl; have hcz7_5 : w5.cell? ⟨gb403, 5, none⟩ = some (.int .u16 a0_5) := (blk_cell BK403.out 5).trans rfl; have hcz7_6 : w5.cell? ⟨gb403, 6, none⟩ = some (.int .u16 a0_6) := (blk_cell BK403.out 6).trans rfl; have hfz7_0 := blk_frozen BK403.out 0; have hfz7_1 := blk_frozen BK403.out 1; have hfz7_2 := blk_frozen BK403.out 2; have hfz7_3 := blk_frozen BK403.out 3; have hfz7_4 := blk_frozen BK403.out 4; have hfz7_5 := blk_frozen BK403.out 5; have hfz7_6 := blk_frozen BK403.out 6))
  (try simp only [Act.put, List.setIfInBounds_toArray, List.set_cons_zero, List.set_cons_succ])
  go_cut [] (fun wc => ∃ (kq : Nat) (x404000_2 : Bool), Aside0 (bulwarkref03_AndPerms.j0 kq a1 x404000_2 a0_1 a0_2 a0_3 a0_4 a0_5 a0_6 = some (r1, r2, r3, r4, r5, r6, r7)) ∧ Aside0 (kq ≤ k) ∧ Aside0 (wc.heap[gb403]? = some (.cells #[.bool x404000_2, .int .u32 a0_1, .int .u8 a0_2, .int .u8 a0_3, .int .u8 a0_4, .int .u16 a0_5, .int .u16 a0_6] 27 (0, 0))) ∧ Aside0 (wc.heap[gb404]? = some (.cells #[.bool false, .int .u32 0, .int .u8 0, .int .u8 0, .int .u8 0, .int .u16 0, .int .u16 0] 27 (0, 0))) ∧ Aside0 (Below w.heap.size w wc))
  case first =>
    have H := HC3.out
    clear HC3
    by_cases c8 : a0_3 = 0
    · rw [if_pos c8] at H
      have c8b0 : (a0_3 == 0) = true := beq_iff_eq.mpr c8
      have c8b1 : (a0_3 != 0) = false := bne_eq_false_iff_eq.mpr c8
      clear c8
      (first | rw [c8b0] | (simp only [i64_w, i32_w]; rw [c8b0]) | skip)
      have H' := Aside0.mk H
      clear H
      go_wp2
      go_meet
      case rel => exact ⟨_, (a0_0), H', ⟨by first | omega | exact Nat.le_refl _⟩, ⟨by (with_reducible repeat (first | refine blk_drewN ?_ _ | refine blk_drew ?_ | refine blk_alloc ?_ _)); exact BK403.out⟩, ⟨by (with_reducible repeat (first | refine blk_drewN ?_ _ | refine blk_drew ?_ | refine blk_alloc ?_ _)); exact BK404.out⟩, ⟨by repeat (first | (with_reducible first | exact HB.out | apply below_alloc | apply pw_below_drewN | apply below_drew1 | refine below_set ?_ GE403.out | refine below_set ?_ GE404.out) | exact HB.out)⟩⟩
    · rw [if_neg c8] at H
      have c8b0 : (a0_3 == 0) = false := beq_eq_false_iff_ne.mpr c8
      have c8b1 : (a0_3 != 0) = true := bne_iff_ne.mpr c8
      (first | rw [c8b0] | (simp only [i64_w, i32_w]; rw [c8b0]) | skip)
      have H' := Aside0.mk H
      clear H
      have hnb9 := NB403_404.out
      have hnc9 := NB404_403.out
      have hcz10_0 : w5.cell? ⟨gb403, 0, none⟩ = some (.bool a0_0) := (blk_cell BK403.out 0).trans rfl
      have hcz10_1 : w5.cell? ⟨gb403, 1, none⟩ = some (.int .u32 a0_1) := (blk_cell BK403.out 1).trans rfl
      have hcz10_2 : w5.cell? ⟨gb403, 2, none⟩ = some (.int .u8 a0_2) := (blk_cell BK403.out 2).trans rfl
      have hcz10_3 : w5.cell? ⟨gb403, 3, none⟩ = some (.int .u8 a0_3) := (blk_cell BK403.out 3).trans rfl
      have hcz10_4 : w5.cell? ⟨gb403, 4, none⟩ = some (.int .u8 a0_4) := (blk_cell BK403.out 4).trans rfl
      have hcz10_5 : w5.cell? ⟨gb403, 5, none⟩ = some (.int .u16 a0_5) := (blk_cell BK403.out 5).trans rfl
      have hcz10_6 : w5.cell? ⟨gb403, 6, none⟩ = some (.int .u16 a0_6) := (blk_cell BK403.out 6).trans rfl
      have hfz10_0 := blk_frozen BK403.out 0
      have hfz10_1 := blk_frozen BK403.out 1
      have hfz10_2 := blk_frozen BK403.out 2
      have hfz10_3 := blk_frozen BK403.out 3
      have hfz10_4 := blk_frozen BK403.out 4
      have hfz10_5 := blk_frozen BK403.out 5
      have hfz10_6 := blk_frozen BK403.out 6
      go_wp2
      go_meet
      case rel => exact ⟨_, (false), H', ⟨by first | omega | exact Nat.le_refl _⟩, ⟨by (with_reducible repeat (first | refine blk_drewN ?_ _ | refine blk_drew ?_ | refine blk_alloc ?_ _)); refine blk_put (cs := #[.bool a0_0, .int .u32 a0_1, .int .u8 a0_2, .int .u8 a0_3, .int .u8 a0_4, .int .u16 a0_5, .int .u16 a0_6]) ?_ 0 _ rfl; (with_reducible repeat (first | refine blk_drewN ?_ _ | refine blk_drew ?_ | refine blk_alloc ?_ _)); exact BK403.out⟩, ⟨by (with_reducible repeat (first | refine blk_drewN ?_ _ | refine blk_drew ?_ | refine blk_alloc ?_ _)); refine blk_far ?_ NB404_403.out _; (with_reducible repeat (first | refine blk_drewN ?_ _ | refine blk_drew ?_ | refine blk_alloc ?_ _)); exact BK404.out⟩, ⟨by repeat (first | (with_reducible first | exact HB.out | apply below_alloc | apply pw_below_drewN | apply below_drew1 | refine below_set ?_ GE403.out | refine below_set ?_ GE404.out) | exact HB.out)⟩⟩
  case rest =>
    clear HC3
    try clear p2
    try clear c3
    try clear c6
    try clear c8
    try clear c8b0
    try clear c8b1
    try clear c9
    try clear hcz10_0
    try clear hcz10_1
    try clear hcz10_2
    try clear hcz10_3
    try clear hcz10_4
    try clear hcz10_5
    try clear hcz10_6
    try clear hcz7_0
    try clear hcz7_1
    try clear hcz7_2
    try clear hcz7_3
    try clear hcz7_4
    try clear hcz7_5
    try clear hcz7_6
    try clear hfz10_0
    try clear hfz10_1
    try clear hfz10_2
    try clear hfz10_3
    try clear hfz10_4
    try clear hfz10_5
    try clear hfz10_6
    try clear hfz7_0
    try clear hfz7_1
    try clear hfz7_2
    try clear hfz7_3
    try clear hfz7_4
    try clear hfz7_5
    try clear hfz7_6
    obtain ⟨kq, x404000_2, HA, HJ2, BK403, BK404, HB⟩ := hcut
    cases kq with
    | zero => exact absurd HA.out (by simp [bulwarkref03_AndPerms.j0])
    | succ kj2 =>
      have H := HA.out
      clear HA
      simp only [bulwarkref03_AndPerms.j0] at H
      have H' := Aside0.mk H
      clear H
      go_wp2
      go_loopg [5, 6] kj2 (fun kq v5 v6 w' => ∃ (x5_2 : Int) (x6_2 : Int), v5 = .int .u8 x5_2 ∧ v6 = .int .u8 x6_2 ∧ Aside0 (bulwarkref03_AndPerms.l0 kq a1 x5_2 x6_2 x404000_2 a0_1 a0_2 a0_3 a0_4 a0_5 a0_6 = some (r1, r2, r3, r4, r5, r6, r7)) ∧ Aside0 (kq ≤ kj2) ∧ Aside0 (w'.heap[gb403]? = some (.cells #[.bool x404000_2, .int .u32 a0_1, .int .u8 a0_2, .int .u8 a0_3, .int .u8 a0_4, .int .u16 a0_5, .int .u16 a0_6] 27 (0, 0))) ∧ Aside0 (w'.heap[gb404]? = some (.cells #[.bool false, .int .u32 0, .int .u8 0, .int .u8 0, .int .u8 0, .int .u16 0, .int .u16 0] 27 (0, 0))) ∧ Aside0 (Below w.heap.size w w'))
      case atStart => exact ⟨(0), (1), (by first | rfl | (simp; done) | (simp [*]; done)), (by first | rfl | (simp; done) | (simp [*]; done)), H', ⟨Nat.le_refl _⟩, ⟨by (with_reducible repeat (first | refine blk_drewN ?_ _ | refine blk_drew ?_ | refine blk_alloc ?_ _)); exact BK403.out⟩, ⟨by (with_reducible repeat (first | refine blk_drewN ?_ _ | refine blk_drew ?_ | refine blk_alloc ?_ _)); exact BK404.out⟩, ⟨by repeat (first | (with_reducible first | exact HB.out | apply below_alloc | apply pw_below_drewN | apply below_drew1 | refine below_set ?_ GE403.out | refine below_set ?_ GE404.out) | exact HB.out)⟩⟩
      case round =>
        clear H'
        try clear p2
        try clear c3
        try clear c6
        try clear c8
        try clear c8b0
        try clear c8b1
        try clear c9
        try clear hcz10_0
        try clear hcz10_1
        try clear hcz10_2
        try clear hcz10_3
        try clear hcz10_4
        try clear hcz10_5
        try clear hcz10_6
        try clear hcz7_0
        try clear hcz7_1
        try clear hcz7_2
        try clear hcz7_3
        try clear hcz7_4
        try clear hcz7_5
        try clear hcz7_6
        try clear hfz10_0
        try clear hfz10_1
        try clear hfz10_2
        try clear hfz10_3
        try clear hfz10_4
        try clear hfz10_5
        try clear hfz10_6
        try clear hfz7_0
        try clear hfz7_1
        try clear hfz7_2
        try clear hfz7_3
        try clear hfz7_4
        try clear hfz7_5
        try clear hfz7_6
        try clear p2
        obtain ⟨x5_2, x6_2, rfl, rfl, HA, HK2, BK403, BK404, HB⟩ := hrel
        cases gk with
        | zero => exact absurd HA.out (by simp [bulwarkref03_AndPerms.l0])
        | succ k2 =>
          have H := HA.out
          clear HA
          simp only [bulwarkref03_AndPerms.l0] at H
          by_cases c11 : x6_2 = 0
          · rw [if_pos c11] at H
            have c11b0 : (x6_2 == 0) = true := beq_iff_eq.mpr c11
            have c11b1 : (x6_2 != 0) = false := bne_eq_false_iff_eq.mpr c11
            clear c11
            simp only [Option.some.injEq, Prod.mk.injEq] at H
            obtain ⟨rfl, rfl, rfl, rfl, rfl, rfl, rfl⟩ := H
            have hnb12 := NB403_404.out
            have hnc12 := NB404_403.out
            have hcz13_0 : wr.cell? ⟨gb403, 0, none⟩ = some (.bool x404000_2) := (blk_cell BK403.out 0).trans rfl
            have hcz13_1 : wr.cell? ⟨gb403, 1, none⟩ = some (.int .u32 a0_1) := (blk_cell BK403.out 1).trans rfl
            have hcz13_2 : wr.cell? ⟨gb403, 2, none⟩ = some (.int .u8 a0_2) := (blk_cell BK403.out 2).trans rfl
            have hcz13_3 : wr.cell? ⟨gb403, 3, none⟩ = some (.int .u8 a0_3) := (blk_cell BK403.out 3).trans rfl
            have hcz13_4 : wr.cell? ⟨gb403, 4, none⟩ = some (.int .u8 a0_4) := (blk_cell BK403.out 4).trans rfl
            have hcz13_5 : wr.cell? ⟨gb403, 5, none⟩ = some (.int .u16 a0_5) := (blk_cell BK403.out 5).trans rfl
            have hcz13_6 : wr.cell? ⟨gb403, 6, none⟩ = some (.int .u16 a0_6) := (blk_cell BK403.out 6).trans rfl
            have hfz13_0 := blk_frozen BK403.out 0
            have hfz13_1 := blk_frozen BK403.out 1
            have hfz13_2 := blk_frozen BK403.out 2
            have hfz13_3 := blk_frozen BK403.out 3
            have hfz13_4 := blk_frozen BK403.out 4
            have hfz13_5 := blk_frozen BK403.out 5
            have hfz13_6 := blk_frozen BK403.out 6
            have hcz14_0 : wr.cell? ⟨gb404, 0, none⟩ = some (.bool false) := (blk_cell BK404.out 0).trans rfl
            have hcz14_1 : wr.cell? ⟨gb404, 1, none⟩ = some (.int .u32 0) := (blk_cell BK404.out 1).trans rfl
            have hcz14_2 : wr.cell? ⟨gb404, 2, none⟩ = some (.int .u8 0) := (blk_cell BK404.out 2).trans rfl
            have hcz14_3 : wr.cell? ⟨gb404, 3, none⟩ = some (.int .u8 0) := (blk_cell BK404.out 3).trans rfl
            have hcz14_4 : wr.cell? ⟨gb404, 4, none⟩ = some (.int .u8 0) := (blk_cell BK404.out 4).trans rfl
            have hcz14_5 : wr.cell? ⟨gb404, 5, none⟩ = some (.int .u16 0) := (blk_cell BK404.out 5).trans rfl
            have hcz14_6 : wr.cell? ⟨gb404, 6, none⟩ = some (.int .u16 0) := (blk_cell BK404.out 6).trans rfl
            have hfz14_0 := blk_frozen BK404.out 0
            have hfz14_1 := blk_frozen BK404.out 1
            have hfz14_2 := blk_frozen BK404.out 2
            have hfz14_3 := blk_frozen BK404.out 3
            have hfz14_4 := blk_frozen BK404.out 4
            have hfz14_5 := blk_frozen BK404.out 5
            have hfz14_6 := blk_frozen BK404.out 6
            go_wp2
            refine bodyPost_ret (results_cell_row rfl _ _ gb404 27 #[.bool x404000_2, .int .u32 a0_1, .int .u8 x5_2, .int .u8 a0_3, .int .u8 a0_4, .int .u16 a0_5, .int .u16 a0_6] (0, 0) _ rfl (by (with_reducible repeat (first | refine blk_drewN ?_ _ | refine blk_drew ?_ | refine blk_alloc ?_ _)); refine blk_put (cs := #[.bool x404000_2, .int .u32 a0_1, .int .u8 x5_2, .int .u8 a0_3, .int .u8 a0_4, .int .u16 a0_5, .int .u16 0]) ?_ 6 _ rfl; (with_reducible repeat (first | refine blk_drewN ?_ _ | refine blk_drew ?_ | refine blk_alloc ?_ _)); refine blk_put (cs := #[.bool x404000_2, .int .u32 a0_1, .int .u8 x5_2, .int .u8 a0_3, .int .u8 a0_4, .int .u16 0, .int .u16 0]) ?_ 5 _ rfl; (with_reducible repeat (first | refine blk_drewN ?_ _ | refine blk_drew ?_ | refine blk_alloc ?_ _)); refine blk_put (cs := #[.bool x404000_2, .int .u32 a0_1, .int .u8 x5_2, .int .u8 a0_3, .int .u8 0, .int .u16 0, .int .u16 0]) ?_ 4 _ rfl; (with_reducible repeat (first | refine blk_drewN ?_ _ | refine blk_drew ?_ | refine blk_alloc ?_ _)); refine blk_put (cs := #[.bool x404000_2, .int .u32 a0_1, .int .u8 x5_2, .int .u8 0, .int .u8 0, .int .u16 0, .int .u16 0]) ?_ 3 _ rfl; (with_reducible repeat (first | refine blk_drewN ?_ _ | refine blk_drew ?_ | refine blk_alloc ?_ _)); refine blk_put (cs := #[.bool x404000_2, .int .u32 a0_1, .int .u8 0, .int .u8 0, .int .u8 0, .int .u16 0, .int .u16 0]) ?_ 2 _ rfl; (with_reducible repeat (first | refine blk_drewN ?_ _ | refine blk_drew ?_ | refine blk_alloc ?_ _)); refine blk_put (cs := #[.bool x404000_2, .int .u32 0, .int .u8 0, .int .u8 0, .int .u8 0, .int .u16 0, .int .u16 0]) ?_ 1 _ rfl; (with_reducible repeat (first | refine blk_drewN ?_ _ | refine blk_drew ?_ | refine blk_alloc ?_ _)); refine blk_put (cs := #[.bool false, .int .u32 0, .int .u8 0, .int .u8 0, .int .u8 0, .int .u16 0, .int .u16 0]) ?_ 0 _ rfl; (with_reducible repeat (first | refine blk_drewN ?_ _ | refine blk_drew ?_ | refine blk_alloc ?_ _)); refine blk_far ?_ NB404_403.out _; (with_reducible repeat (first | refine blk_drewN ?_ _ | refine blk_drew ?_ | refine blk_alloc ?_ _)); exact BK404.out) Try.underlying27 rfl (by kernel_rfl)) rfl ?_
            exact ⟨by first | rfl | (simp [errW_none, errW_some] <;> rfl) | (simp [*, errW_none, errW_some] <;> rfl), by repeat (first | (with_reducible first | exact HB.out | apply below_alloc | apply pw_below_drewN | apply below_drew1 | refine below_set ?_ GE403.out | refine below_set ?_ GE404.out) | exact HB.out)⟩
          · rw [if_neg c11] at H
            have c11b0 : (x6_2 == 0) = false := beq_eq_false_iff_ne.mpr c11
            have c11b1 : (x6_2 != 0) = true := bne_iff_ne.mpr c11
            by_cases c15 : (((Int.tdiv a0_2 x6_2) % 256) % 2) = 1
            · rw [if_pos c15] at H
              have c15b0 : ((((Int.tdiv a0_2 x6_2) % 256) % 2) == 1) = true := beq_iff_eq.mpr c15
              have c15b8 : (((Int.tdiv a0_2 x6_2) % 2) == 1) = true := by simpa only [Int.emod_emod_of_dvd _ (show (2 : Int) ∣ 256 by decide)] using c15b0
              have c15b1 : ((((Int.tdiv a0_2 x6_2) % 256) % 2) != 1) = false := bne_eq_false_iff_eq.mpr c15
              have c15b7 : (((Int.tdiv a0_2 x6_2) % 2) != 1) = false := by simpa only [Int.emod_emod_of_dvd _ (show (2 : Int) ∣ 256 by decide)] using c15b1
              clear c15
              by_cases c16 : (((((Int.tmod a1 256) % 256) / x6_2) % 256) % 2) = 1
              · rw [if_pos c16] at H
                have c16b0 : ((((((Int.tmod a1 256) % 256) / x6_2) % 256) % 2) == 1) = true := beq_iff_eq.mpr c16
                have c16b8 : (((((Int.tmod a1 256) % 256) / x6_2) % 2) == 1) = true := by simpa only [Int.emod_emod_of_dvd _ (show (2 : Int) ∣ 256 by decide)] using c16b0
                have c16b6 : (((Int.tdiv ((Int.tmod a1 256) % 256) x6_2) % 2) == 1) = true := by rw [Int.tdiv_eq_ediv_of_nonneg (Int.emod_nonneg _ (by decide))]; exact c16b8
                have c16b1 : ((((((Int.tmod a1 256) % 256) / x6_2) % 256) % 2) != 1) = false := bne_eq_false_iff_eq.mpr c16
                have c16b7 : (((((Int.tmod a1 256) % 256) / x6_2) % 2) != 1) = false := by simpa only [Int.emod_emod_of_dvd _ (show (2 : Int) ∣ 256 by decide)] using c16b1
                have c16b5 : (((Int.tdiv ((Int.tmod a1 256) % 256) x6_2) % 2) != 1) = false := by rw [Int.tdiv_eq_ediv_of_nonneg (Int.emod_nonneg _ (by decide))]; exact c16b7
                clear c16
                have H' := Aside0.mk H
                clear H
                have hnb17 := NB403_404.out
                have hnc17 := NB404_403.out
                have hcz18_0 : wr.cell? ⟨gb403, 0, none⟩ = some (.bool x404000_2) := (blk_cell BK403.out 0).trans rfl
                have hcz18_1 : wr.cell? ⟨gb403, 1, none⟩ = some (.int .u32 a0_1) := (blk_cell BK403.out 1).trans rfl
                have hcz18_2 : wr.cell? ⟨gb403, 2, none⟩ = some (.int .u8 a0_2) := (blk_cell BK403.out 2).trans rfl
                have hcz18_3 : wr.cell? ⟨gb403, 3, none⟩ = some (.int .u8 a0_3) := (blk_cell BK403.out 3).trans rfl
                have hcz18_4 : wr.cell? ⟨gb403, 4, none⟩ = some (.int .u8 a0_4) := (blk_cell BK403.out 4).trans rfl
                have hcz18_5 : wr.cell? ⟨gb403, 5, none⟩ = some (.int .u16 a0_5) := (blk_cell BK403.out 5).trans rfl
                have hcz18_6 : wr.cell? ⟨gb403, 6, none⟩ = some (.int .u16 a0_6) := (blk_cell BK403.out 6).trans rfl
                have hfz18_0 := blk_frozen BK403.out 0
                have hfz18_1 := blk_frozen BK403.out 1
                have hfz18_2 := blk_frozen BK403.out 2
                have hfz18_3 := blk_frozen BK403.out 3
                have hfz18_4 := blk_frozen BK403.out 4
                have hfz18_5 := blk_frozen BK403.out 5
                have hfz18_6 := blk_frozen BK403.out 6
                go_wp2
                go_roundg k2
                case measure => have := HJ2.out; have := HK2.out; omega
                case rel => exact ⟨((x5_2 + x6_2) % 256), ((x6_2 * 2) % 256), (by first | rfl | (simp; done) | (simp [*]; done)), (by first | rfl | (simp; done) | (simp [*]; done)), H', ⟨by have := HJ2.out; have := HK2.out; omega⟩, ⟨by (with_reducible repeat (first | refine blk_drewN ?_ _ | refine blk_drew ?_ | refine blk_alloc ?_ _)); exact BK403.out⟩, ⟨by (with_reducible repeat (first | refine blk_drewN ?_ _ | refine blk_drew ?_ | refine blk_alloc ?_ _)); exact BK404.out⟩, ⟨by repeat (first | (with_reducible first | exact HB.out | apply below_alloc | apply pw_below_drewN | apply below_drew1 | refine below_set ?_ GE403.out | refine below_set ?_ GE404.out) | exact HB.out)⟩⟩
              · rw [if_neg c16] at H
                have c16b0 : ((((((Int.tmod a1 256) % 256) / x6_2) % 256) % 2) == 1) = false := beq_eq_false_iff_ne.mpr c16
                have c16b8 : (((((Int.tmod a1 256) % 256) / x6_2) % 2) == 1) = false := by simpa only [Int.emod_emod_of_dvd _ (show (2 : Int) ∣ 256 by decide)] using c16b0
                have c16b6 : (((Int.tdiv ((Int.tmod a1 256) % 256) x6_2) % 2) == 1) = false := by rw [Int.tdiv_eq_ediv_of_nonneg (Int.emod_nonneg _ (by decide))]; exact c16b8
                have c16b1 : ((((((Int.tmod a1 256) % 256) / x6_2) % 256) % 2) != 1) = true := bne_iff_ne.mpr c16
                have c16b7 : (((((Int.tmod a1 256) % 256) / x6_2) % 2) != 1) = true := by simpa only [Int.emod_emod_of_dvd _ (show (2 : Int) ∣ 256 by decide)] using c16b1
                have c16b5 : (((Int.tdiv ((Int.tmod a1 256) % 256) x6_2) % 2) != 1) = true := by rw [Int.tdiv_eq_ediv_of_nonneg (Int.emod_nonneg _ (by decide))]; exact c16b7
                have H' := Aside0.mk H
                clear H
                have hnb19 := NB403_404.out
                have hnc19 := NB404_403.out
                have hcz20_0 : wr.cell? ⟨gb403, 0, none⟩ = some (.bool x404000_2) := (blk_cell BK403.out 0).trans rfl
                have hcz20_1 : wr.cell? ⟨gb403, 1, none⟩ = some (.int .u32 a0_1) := (blk_cell BK403.out 1).trans rfl
                have hcz20_2 : wr.cell? ⟨gb403, 2, none⟩ = some (.int .u8 a0_2) := (blk_cell BK403.out 2).trans rfl
                have hcz20_3 : wr.cell? ⟨gb403, 3, none⟩ = some (.int .u8 a0_3) := (blk_cell BK403.out 3).trans rfl
                have hcz20_4 : wr.cell? ⟨gb403, 4, none⟩ = some (.int .u8 a0_4) := (blk_cell BK403.out 4).trans rfl
                have hcz20_5 : wr.cell? ⟨gb403, 5, none⟩ = some (.int .u16 a0_5) := (blk_cell BK403.out 5).trans rfl
                have hcz20_6 : wr.cell? ⟨gb403, 6, none⟩ = some (.int .u16 a0_6) := (blk_cell BK403.out 6).trans rfl
                have hfz20_0 := blk_frozen BK403.out 0
                have hfz20_1 := blk_frozen BK403.out 1
                have hfz20_2 := blk_frozen BK403.out 2
                have hfz20_3 := blk_frozen BK403.out 3
                have hfz20_4 := blk_frozen BK403.out 4
                have hfz20_5 := blk_frozen BK403.out 5
                have hfz20_6 := blk_frozen BK403.out 6
                go_wp2
                go_roundg k2
                case measure => have := HJ2.out; have := HK2.out; omega
                case rel => exact ⟨(x5_2), ((x6_2 * 2) % 256), (by first | rfl | (simp; done) | (simp [*]; done)), (by first | rfl | (simp; done) | (simp [*]; done)), H', ⟨by have := HJ2.out; have := HK2.out; omega⟩, ⟨by (with_reducible repeat (first | refine blk_drewN ?_ _ | refine blk_drew ?_ | refine blk_alloc ?_ _)); exact BK403.out⟩, ⟨by (with_reducible repeat (first | refine blk_drewN ?_ _ | refine blk_drew ?_ | refine blk_alloc ?_ _)); exact BK404.out⟩, ⟨by repeat (first | (with_reducible first | exact HB.out | apply below_alloc | apply pw_below_drewN | apply below_drew1 | refine below_set ?_ GE403.out | refine below_set ?_ GE404.out) | exact HB.out)⟩⟩
            · rw [if_neg c15] at H
              have c15b0 : ((((Int.tdiv a0_2 x6_2) % 256) % 2) == 1) = false := beq_eq_false_iff_ne.mpr c15
              have c15b8 : (((Int.tdiv a0_2 x6_2) % 2) == 1) = false := by simpa only [Int.emod_emod_of_dvd _ (show (2 : Int) ∣ 256 by decide)] using c15b0
              have c15b1 : ((((Int.tdiv a0_2 x6_2) % 256) % 2) != 1) = true := bne_iff_ne.mpr c15
              have c15b7 : (((Int.tdiv a0_2 x6_2) % 2) != 1) = true := by simpa only [Int.emod_emod_of_dvd _ (show (2 : Int) ∣ 256 by decide)] using c15b1
              have H' := Aside0.mk H
              clear H
              have hnb21 := NB403_404.out
              have hnc21 := NB404_403.out
              have hcz22_0 : wr.cell? ⟨gb403, 0, none⟩ = some (.bool x404000_2) := (blk_cell BK403.out 0).trans rfl
              have hcz22_1 : wr.cell? ⟨gb403, 1, none⟩ = some (.int .u32 a0_1) := (blk_cell BK403.out 1).trans rfl
              have hcz22_2 : wr.cell? ⟨gb403, 2, none⟩ = some (.int .u8 a0_2) := (blk_cell BK403.out 2).trans rfl
              have hcz22_3 : wr.cell? ⟨gb403, 3, none⟩ = some (.int .u8 a0_3) := (blk_cell BK403.out 3).trans rfl
              have hcz22_4 : wr.cell? ⟨gb403, 4, none⟩ = some (.int .u8 a0_4) := (blk_cell BK403.out 4).trans rfl
              have hcz22_5 : wr.cell? ⟨gb403, 5, none⟩ = some (.int .u16 a0_5) := (blk_cell BK403.out 5).trans rfl
              have hcz22_6 : wr.cell? ⟨gb403, 6, none⟩ = some (.int .u16 a0_6) := (blk_cell BK403.out 6).trans rfl
              have hfz22_0 := blk_frozen BK403.out 0
              have hfz22_1 := blk_frozen BK403.out 1
              have hfz22_2 := blk_frozen BK403.out 2
              have hfz22_3 := blk_frozen BK403.out 3
              have hfz22_4 := blk_frozen BK403.out 4
              have hfz22_5 := blk_frozen BK403.out 5
              have hfz22_6 := blk_frozen BK403.out 6
              go_wp2
              go_roundg k2
              case measure => have := HJ2.out; have := HK2.out; omega
              case rel => exact ⟨(x5_2), ((x6_2 * 2) % 256), (by first | rfl | (simp; done) | (simp [*]; done)), (by first | rfl | (simp; done) | (simp [*]; done)), H', ⟨by have := HJ2.out; have := HK2.out; omega⟩, ⟨by (with_reducible repeat (first | refine blk_drewN ?_ _ | refine blk_drew ?_ | refine blk_alloc ?_ _)); exact BK403.out⟩, ⟨by (with_reducible repeat (first | refine blk_drewN ?_ _ | refine blk_drew ?_ | refine blk_alloc ?_ _)); exact BK404.out⟩, ⟨by repeat (first | (with_reducible first | exact HB.out | apply below_alloc | apply pw_below_drewN | apply below_drew1 | refine below_set ?_ GE403.out | refine below_set ?_ GE404.out) | exact HB.out)⟩⟩

end Go.Proofs.Ytkfgloolpjlddaa.Q
