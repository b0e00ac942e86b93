-- A walk, out of the kit's print program run by wip/ownprint.sh and turned by wip/qprune.py. Lean checks it.
import Derived.Test.YtkfgloolpjlddaaQ0
import Derived.Test.YtkfgloolpjlddaaQ11
import Derived.Test.YtkfgloolpjlddaaQ20
import Derived.Test.YtkfgloolpjlddaaQ28
import Derived.Test.YtkfgloolpjlddaaQ30
namespace Go.Proofs.Ytkfgloolpjlddaa.Q
open Go.RowKit Go.Proofs.YtkfgloolpjlddaaW.PrintWords Go.Proofs.YtkfgloolpjlddaaW.PrintLast Go.Proofs.YtkfgloolpjlddaaW.PrintMore
attribute [local go_sem] max2_int min2_int max_two min_two max_three min_three max_four min_four   -- for this text's walks alone
set_option linter.unusedVariables false
set_option linter.unusedSimpArgs false

/-! ### bulwarklaw03_CapaOrder: function 4 -/
mutual
def bulwarklaw03_CapaOrder.j0 : Nat → Int → Int → Int → Bool → Bool → Int → Int → Int → Int → Int → Int → Bool → Int → Int → Int → Int → Int → Int → Option (Bool)
  | 0, _, _, _, _, _, _, _, _, _, _, _, _, _, _, _, _, _, _ => none
  | k + 1, x3, x4, x5, x32, x266000, x266001, x266002, x266003, x266004, x266005, x266006, x267000, x267001, x267002, x267003, x267004, x267005, x267006 => if x32 = true then (some false) else ((capa_Subset.f x266000 x266001 x266002 x266003 x266004 x266005 x266006 x267000 x267001 x267002 x267003 x267004 x267005 x267006).bind fun t272 => (if t272 = true then (if x267003 = 0 then ((capa_May.f k x266000 x266001 x266002 x266003 x266004 x266005 x266006 x3 x4 x5).bind fun t273 => (if t273 = true then ((capa_May.f k x267000 x267001 x267002 x267003 x267004 x267005 x267006 x3 x4 x5).bind fun t274 => (bulwarklaw03_CapaOrder.j1 k (!t274))) else (bulwarklaw03_CapaOrder.j1 k false))) else (bulwarklaw03_CapaOrder.j1 k false)) else (bulwarklaw03_CapaOrder.j1 k false)))
def bulwarklaw03_CapaOrder.j1 : Nat → Bool → Option (Bool)
  | 0, _ => none
  | k + 1, x55 => if x55 = true then (some false) else ((bulwarkref00_Same.f k ([] : List Int) ([] : List Int)).bind fun t275 => (if t275 = true then ((bulwarklaw03_lives.f k).bind fun t276 => (some t276)) else (some false)))
end
def bulwarklaw03_CapaOrder.f (k : Nat) (a0_0 : Bool) (a0_1 : Int) (a0_2 : Int) (a0_3 : Int) (a0_4 : Int) (a0_5 : Int) (a0_6 : Int) (a1_0 : Bool) (a1_1 : Int) (a1_2 : Int) (a1_3 : Int) (a1_4 : Int) (a1_5 : Int) (a1_6 : Int) (a2_0 : Bool) (a2_1 : Int) (a2_2 : Int) (a2_3 : Int) (a2_4 : Int) (a2_5 : Int) (a2_6 : Int) (a3 : Int) (a4 : Int) (a5 : Int) : Option (Bool) := (capa_Subset.f a0_0 a0_1 a0_2 a0_3 a0_4 a0_5 a0_6 a0_0 a0_1 a0_2 a0_3 a0_4 a0_5 a0_6).bind fun t268 => (if t268 = true then ((capa_Subset.f a0_0 a0_1 a0_2 a0_3 a0_4 a0_5 a0_6 a1_0 a1_1 a1_2 a1_3 a1_4 a1_5 a1_6).bind fun t269 => (if t269 = true then ((capa_Subset.f a1_0 a1_1 a1_2 a1_3 a1_4 a1_5 a1_6 a2_0 a2_1 a2_2 a2_3 a2_4 a2_5 a2_6).bind fun t270 => (if t270 = true then ((capa_Subset.f a0_0 a0_1 a0_2 a0_3 a0_4 a0_5 a0_6 a2_0 a2_1 a2_2 a2_3 a2_4 a2_5 a2_6).bind fun t271 => (bulwarklaw03_CapaOrder.j0 k a3 a4 a5 (!t271) a0_0 a0_1 a0_2 a0_3 a0_4 a0_5 a0_6 a1_0 a1_1 a1_2 a1_3 a1_4 a1_5 a1_6)) else (bulwarklaw03_CapaOrder.j0 k a3 a4 a5 false a0_0 a0_1 a0_2 a0_3 a0_4 a0_5 a0_6 a1_0 a1_1 a1_2 a1_3 a1_4 a1_5 a1_6))) else (bulwarklaw03_CapaOrder.j0 k a3 a4 a5 false a0_0 a0_1 a0_2 a0_3 a0_4 a0_5 a0_6 a1_0 a1_1 a1_2 a1_3 a1_4 a1_5 a1_6))) else (bulwarklaw03_CapaOrder.j0 k a3 a4 a5 true a0_0 a0_1 a0_2 a0_3 a0_4 a0_5 a0_6 a1_0 a1_1 a1_2 a1_3 a1_4 a1_5 a1_6))
theorem bulwarklaw03_CapaOrder.mono_l : ∀ k, (∀ y0 y1 y2 y3 y4 y5 y6 y7 y8 y9 y10 y11 y12 y13 y14 y15 y16 y17, LeO (bulwarklaw03_CapaOrder.j0 k y0 y1 y2 y3 y4 y5 y6 y7 y8 y9 y10 y11 y12 y13 y14 y15 y16 y17) (bulwarklaw03_CapaOrder.j0 (k + 1) y0 y1 y2 y3 y4 y5 y6 y7 y8 y9 y10 y11 y12 y13 y14 y15 y16 y17)) ∧ (∀ y0, LeO (bulwarklaw03_CapaOrder.j1 k y0) (bulwarklaw03_CapaOrder.j1 (k + 1) y0))
  | 0 => ⟨fun _ _ _ _ _ _ _ _ _ _ _ _ _ _ _ _ _ _ r h => by simp [bulwarklaw03_CapaOrder.j0] at h, fun _ r h => by simp [bulwarklaw03_CapaOrder.j1] at h⟩
  | k + 1 => by
    obtain ⟨ih0, ih1⟩ := bulwarklaw03_CapaOrder.mono_l k
    refine ⟨?_, ?_⟩
    · intro y0 y1 y2 y3 y4 y5 y6 y7 y8 y9 y10 y11 y12 y13 y14 y15 y16 y17
      unfold bulwarklaw03_CapaOrder.j0
      repeat' first
      | (with_reducible exact ih0 _ _ _ _ _ _ _ _ _ _ _ _ _ _ _ _ _ _)
      | (with_reducible exact ih1 _)
      | (with_reducible exact bulwarklaw03_lives.mono _)
      | (with_reducible exact bulwarkref00_Same.mono _ _ _)
      | (with_reducible exact capa_May.mono _ _ _ _ _ _ _ _ _ _ _)
      | (with_reducible exact LeO.refl _)
      | (with_reducible exact LeO.none _)
      | (with_reducible refine LeO.ite ?_ ?_)
      | (with_reducible refine LeO.bind ?_ (fun _ => ?_))
      | exact ih0 _ _ _ _ _ _ _ _ _ _ _ _ _ _ _ _ _ _
      | exact ih1 _
      | exact bulwarklaw03_lives.mono _
      | exact bulwarkref00_Same.mono _ _ _
      | exact capa_May.mono _ _ _ _ _ _ _ _ _ _ _
      | exact LeO.none _
      | refine LeO.ite ?_ ?_
      | refine LeO.bind ?_ (fun _ => ?_)
    · intro y0
      unfold bulwarklaw03_CapaOrder.j1
      repeat' first
      | (with_reducible exact ih0 _ _ _ _ _ _ _ _ _ _ _ _ _ _ _ _ _ _)
      | (with_reducible exact ih1 _)
      | (with_reducible exact bulwarklaw03_lives.mono _)
      | (with_reducible exact bulwarkref00_Same.mono _ _ _)
      | (with_reducible exact capa_May.mono _ _ _ _ _ _ _ _ _ _ _)
      | (with_reducible exact LeO.refl _)
      | (with_reducible exact LeO.none _)
      | (with_reducible refine LeO.ite ?_ ?_)
      | (with_reducible refine LeO.bind ?_ (fun _ => ?_))
      | exact ih0 _ _ _ _ _ _ _ _ _ _ _ _ _ _ _ _ _ _
      | exact ih1 _
      | exact bulwarklaw03_lives.mono _
      | exact bulwarkref00_Same.mono _ _ _
      | exact capa_May.mono _ _ _ _ _ _ _ _ _ _ _
      | exact LeO.none _
      | refine LeO.ite ?_ ?_
      | refine LeO.bind ?_ (fun _ => ?_)
theorem bulwarklaw03_CapaOrder.mono : ∀ a0 a1 a2 a3 a4 a5 a6 a7 a8 a9 a10 a11 a12 a13 a14 a15 a16 a17 a18 a19 a20 a21 a22 a23 k, LeO (bulwarklaw03_CapaOrder.f k a0 a1 a2 a3 a4 a5 a6 a7 a8 a9 a10 a11 a12 a13 a14 a15 a16 a17 a18 a19 a20 a21 a22 a23) (bulwarklaw03_CapaOrder.f (k + 1) a0 a1 a2 a3 a4 a5 a6 a7 a8 a9 a10 a11 a12 a13 a14 a15 a16 a17 a18 a19 a20 a21 a22 a23) := by
  intro a0 a1 a2 a3 a4 a5 a6 a7 a8 a9 a10 a11 a12 a13 a14 a15 a16 a17 a18 a19 a20 a21 a22 a23 k
  obtain ⟨ih0, ih1⟩ := bulwarklaw03_CapaOrder.mono_l k
  unfold bulwarklaw03_CapaOrder.f
  repeat' first
      | (with_reducible exact ih0 _ _ _ _ _ _ _ _ _ _ _ _ _ _ _ _ _ _)
      | (with_reducible exact ih1 _)
      | (with_reducible exact bulwarklaw03_lives.mono _)
      | (with_reducible exact bulwarkref00_Same.mono _ _ _)
      | (with_reducible exact capa_May.mono _ _ _ _ _ _ _ _ _ _ _)
      | (with_reducible exact LeO.refl _)
      | (with_reducible exact LeO.none _)
      | (with_reducible refine LeO.ite ?_ ?_)
      | (with_reducible refine LeO.bind ?_ (fun _ => ?_))
      | exact ih0 _ _ _ _ _ _ _ _ _ _ _ _ _ _ _ _ _ _
      | exact ih1 _
      | exact bulwarklaw03_lives.mono _
      | exact bulwarkref00_Same.mono _ _ _
      | exact capa_May.mono _ _ _ _ _ _ _ _ _ _ _
      | exact LeO.none _
      | refine LeO.ite ?_ ?_
      | refine LeO.bind ?_ (fun _ => ?_)
set_option maxHeartbeats 8000000 in
set_option maxRecDepth 100000 in
theorem bulwarklaw03_CapaOrder.calls (k : Nat) (a0_0 : Bool) (a0_1 : Int) (a0_2 : Int) (a0_3 : Int) (a0_4 : Int) (a0_5 : Int) (a0_6 : Int) (a1_0 : Bool) (a1_1 : Int) (a1_2 : Int) (a1_3 : Int) (a1_4 : Int) (a1_5 : Int) (a1_6 : Int) (a2_0 : Bool) (a2_1 : Int) (a2_2 : Int) (a2_3 : Int) (a2_4 : Int) (a2_5 : Int) (a2_6 : Int) (a3 : Int) (a4 : Int) (a5 : Int) (r : Bool) (w : World) (h : bulwarklaw03_CapaOrder.f k a0_0 a0_1 a0_2 a0_3 a0_4 a0_5 a0_6 a1_0 a1_1 a1_2 a1_3 a1_4 a1_5 a1_6 a2_0 a2_1 a2_2 a2_3 a2_4 a2_5 a2_6 a3 a4 a5 = some r) (hr : r = true) :
    Calls Try.prog 4 #[.agg #[.bool a0_0, .int .u32 a0_1, .int .u8 a0_2, .int .u8 a0_3, .int .u8 a0_4, .int .u16 a0_5, .int .u16 a0_6], .agg #[.bool a1_0, .int .u32 a1_1, .int .u8 a1_2, .int .u8 a1_3, .int .u8 a1_4, .int .u16 a1_5, .int .u16 a1_6], .agg #[.bool a2_0, .int .u32 a2_1, .int .u8 a2_2, .int .u8 a2_3, .int .u8 a2_4, .int .u16 a2_5, .int .u16 a2_6], .int .u8 a3, .int .u64 a4, .int .u64 a5] w fun e w' => e = .returned (.bool r) ∧ Below w.heap.size w w' := by
  have hr' := Aside0.mk hr
  clear hr
  have hu27 := Try.underlying27
  have HB := Aside0.mk (Below.refl w.heap.size w)
  have H : ((capa_Subset.f a0_0 a0_1 a0_2 a0_3 a0_4 a0_5 a0_6 a0_0 a0_1 a0_2 a0_3 a0_4 a0_5 a0_6).bind fun t268 => (if t268 = true then ((capa_Subset.f a0_0 a0_1 a0_2 a0_3 a0_4 a0_5 a0_6 a1_0 a1_1 a1_2 a1_3 a1_4 a1_5 a1_6).bind fun t269 => (if t269 = true then ((capa_Subset.f a1_0 a1_1 a1_2 a1_3 a1_4 a1_5 a1_6 a2_0 a2_1 a2_2 a2_3 a2_4 a2_5 a2_6).bind fun t270 => (if t270 = true then ((capa_Subset.f a0_0 a0_1 a0_2 a0_3 a0_4 a0_5 a0_6 a2_0 a2_1 a2_2 a2_3 a2_4 a2_5 a2_6).bind fun t271 => (bulwarklaw03_CapaOrder.j0 k a3 a4 a5 (!t271) a0_0 a0_1 a0_2 a0_3 a0_4 a0_5 a0_6 a1_0 a1_1 a1_2 a1_3 a1_4 a1_5 a1_6)) else (bulwarklaw03_CapaOrder.j0 k a3 a4 a5 false a0_0 a0_1 a0_2 a0_3 a0_4 a0_5 a0_6 a1_0 a1_1 a1_2 a1_3 a1_4 a1_5 a1_6))) else (bulwarklaw03_CapaOrder.j0 k a3 a4 a5 false a0_0 a0_1 a0_2 a0_3 a0_4 a0_5 a0_6 a1_0 a1_1 a1_2 a1_3 a1_4 a1_5 a1_6))) else (bulwarklaw03_CapaOrder.j0 k a3 a4 a5 true a0_0 a0_1 a0_2 a0_3 a0_4 a0_5 a0_6 a1_0 a1_1 a1_2 a1_3 a1_4 a1_5 a1_6))) = some r := h
  clear h
  have HC7 := Aside0.mk H
  clear H
  go_enter Try.func4, Try.ntmps4
  go_upto_region 1 with (first | ((with_reducible refine gate_dst (N := 6) rfl ?_); refine box_event ?hg (N := 6) ?hd (cs := #[.bool a0_0, .int .u32 a0_1, .int .u8 a0_2, .int .u8 a0_3, .int .u8 a0_4, .int .u16 a0_5, .int .u16 a0_6]) (t := 27) ?hr ?_; (case hd => rfl); (case hg => rfl); (case hr => first | (go_simp; done) | (go_simp; rfl)); intro gb265 hg w8 hbox hb; have n0_ := Aside0.mk (below_step (by repeat (first | (with_reducible first | exact HB.out | apply below_alloc | apply pw_below_drewN | apply below_drew1) | exact HB.out)) hb); have n1_ := Aside0.mk (hbox); have n2_ := Aside0.mk ((by rw [hg]; exact (below_size (by repeat (first | (with_reducible first | exact HB.out | apply below_alloc | apply pw_below_drewN | apply below_drew1) | exact HB.out))) : w.heap.size ≤ gb265)); have n3_ := Aside0.mk ((by rw [hg]; exact (below_size (by repeat (first | (with_reducible first | exact HB.out | apply below_alloc | apply pw_below_drewN | apply below_drew1) | exact HB.out))) : w.heap.size ≤ gb265)); clear HB; have HB := n0_; have BK265 := n1_; have GW265 := n2_; have GE265 := n3_; clear n0_ n1_ n2_ n3_; clear hb hbox hg) | ((with_reducible refine gate_dst (N := 7) rfl ?_); refine box_event ?hg (N := 7) ?hd (cs := #[.bool a1_0, .int .u32 a1_1, .int .u8 a1_2, .int .u8 a1_3, .int .u8 a1_4, .int .u16 a1_5, .int .u16 a1_6]) (t := 27) ?hr ?_; (case hd => rfl); (case hg => rfl); (case hr => first | (go_simp; done) | (go_simp; rfl)); intro gb266 hg w9 hbox hb; have n0_ := Aside0.mk (blk_below (g := gb265) (o := .cells #[.bool a0_0, .int .u32 a0_1, .int .u8 a0_2, .int .u8 a0_3, .int .u8 a0_4, .int .u16 a0_5, .int .u16 a0_6] 27 (0, 0)) (by (with_reducible repeat (first | refine blk_drewN ?_ _ | refine blk_drew ?_ | refine blk_alloc ?_ _)); exact BK265.out) hb); have n1_ := Aside0.mk (below_step (by repeat (first | (with_reducible first | exact HB.out | apply below_alloc | apply pw_below_drewN | apply below_drew1 | refine below_set ?_ GE265.out) | exact HB.out)) hb); have n2_ := Aside0.mk (hbox); have n3_ := Aside0.mk ((by rw [hg]; exact (below_size (by repeat (first | (with_reducible first | exact HB.out | apply below_alloc | apply pw_below_drewN | apply below_drew1 | refine below_set ?_ GE265.out) | exact HB.out))) : w.heap.size ≤ gb266)); have n4_ := Aside0.mk ((by rw [hg]; exact (below_size (by repeat (first | (with_reducible first | exact HB.out | apply below_alloc | apply pw_below_drewN | apply below_drew1 | refine below_set ?_ GE265.out) | exact HB.out))) : w.heap.size ≤ gb266)); have n5_ := Aside0.mk ((by rw [hg]; exact Nat.ne_of_lt (blk_lt (g := gb265) (o := .cells #[.bool a0_0, .int .u32 a0_1, .int .u8 a0_2, .int .u8 a0_3, .int .u8 a0_4, .int .u16 a0_5, .int .u16 a0_6] 27 (0, 0)) (by (with_reducible repeat (first | refine blk_drewN ?_ _ | refine blk_drew ?_ | refine blk_alloc ?_ _)); exact BK265.out)) : gb265 ≠ gb266)); have n6_ := Aside0.mk ((by rw [hg]; exact Nat.ne_of_gt (blk_lt (g := gb265) (o := .cells #[.bool a0_0, .int .u32 a0_1, .int .u8 a0_2, .int .u8 a0_3, .int .u8 a0_4, .int .u16 a0_5, .int .u16 a0_6] 27 (0, 0)) (by (with_reducible repeat (first | refine blk_drewN ?_ _ | refine blk_drew ?_ | refine blk_alloc ?_ _)); exact BK265.out)) : gb266 ≠ gb265)); clear BK265; clear HB; have BK265 := n0_; have HB := n1_; have BK266 := n2_; have GW266 := n3_; have GE266 := n4_; have NB265_266 := n5_; have NB266_265 := n6_; clear n0_ n1_ n2_ n3_ n4_ n5_ n6_; clear hb hbox hg) | ((with_reducible refine gate_dst (N := 8) rfl ?_); refine box_event ?hg (N := 8) ?hd (cs := #[.bool a2_0, .int .u32 a2_1, .int .u8 a2_2, .int .u8 a2_3, .int .u8 a2_4, .int .u16 a2_5, .int .u16 a2_6]) (t := 27) ?hr ?_; (case hd => rfl); (case hg => rfl); (case hr => first | (go_simp; done) | (go_simp; rfl)); intro gb267 hg w10 hbox hb; have n0_ := Aside0.mk (blk_below (g := gb265) (o := .cells #[.bool a0_0, .int .u32 a0_1, .int .u8 a0_2, .int .u8 a0_3, .int .u8 a0_4, .int .u16 a0_5, .int .u16 a0_6] 27 (0, 0)) (by (with_reducible repeat (first | refine blk_drewN ?_ _ | refine blk_drew ?_ | refine blk_alloc ?_ _)); exact BK265.out) hb); have n1_ := Aside0.mk (blk_below (g := gb266) (o := .cells #[.bool a1_0, .int .u32 a1_1, .int .u8 a1_2, .int .u8 a1_3, .int .u8 a1_4, .int .u16 a1_5, .int .u16 a1_6] 27 (0, 0)) (by (with_reducible repeat (first | refine blk_drewN ?_ _ | refine blk_drew ?_ | refine blk_alloc ?_ _)); exact BK266.out) hb); have n2_ := Aside0.mk (below_step (by repeat (first | (with_reducible first | exact HB.out | apply below_alloc | apply pw_below_drewN | apply below_drew1 | refine below_set ?_ GE265.out | refine below_set ?_ GE266.out) | exact HB.out)) hb); have n3_ := Aside0.mk (hbox); have n4_ := Aside0.mk ((by rw [hg]; exact (below_size (by repeat (first | (with_reducible first | exact HB.out | apply below_alloc | apply pw_below_drewN | apply below_drew1 | refine below_set ?_ GE265.out | refine below_set ?_ GE266.out) | exact HB.out))) : w.heap.size ≤ gb267)); have n5_ := Aside0.mk ((by rw [hg]; exact (below_size (by repeat (first | (with_reducible first | exact HB.out | apply below_alloc | apply pw_below_drewN | apply below_drew1 | refine below_set ?_ GE265.out | refine below_set ?_ GE266.out) | exact HB.out))) : w.heap.size ≤ gb267)); have n6_ := Aside0.mk ((by rw [hg]; exact Nat.ne_of_lt (blk_lt (g := gb265) (o := .cells #[.bool a0_0, .int .u32 a0_1, .int .u8 a0_2, .int .u8 a0_3, .int .u8 a0_4, .int .u16 a0_5, .int .u16 a0_6] 27 (0, 0)) (by (with_reducible repeat (first | refine blk_drewN ?_ _ | refine blk_drew ?_ | refine blk_alloc ?_ _)); exact BK265.out)) : gb265 ≠ gb267)); have n7_ := Aside0.mk ((by rw [hg]; exact Nat.ne_of_gt (blk_lt (g := gb265) (o := .cells #[.bool a0_0, .int .u32 a0_1, .int .u8 a0_2, .int .u8 a0_3, .int .u8 a0_4, .int .u16 a0_5, .int .u16 a0_6] 27 (0, 0)) (by (with_reducible repeat (first | refine blk_drewN ?_ _ | refine blk_drew ?_ | refine blk_alloc ?_ _)); exact BK265.out)) : gb267 ≠ gb265)); have n8_ := Aside0.mk ((by rw [hg]; exact Nat.ne_of_lt (blk_lt (g := gb266) (o := .cells #[.bool a1_0, .int .u32 a1_1, .int .u8 a1_2, .int .u8 a1_3, .int .u8 a1_4, .int .u16 a1_5, .int .u16 a1_6] 27 (0, 0)) (by (with_reducible repeat (first | refine blk_drewN ?_ _ | refine blk_drew ?_ | refine blk_alloc ?_ _)); exact BK266.out)) : gb266 ≠ gb267)); have n9_ := Aside0.mk ((by rw [hg]; exact Nat.ne_of_gt (blk_lt (g := gb266) (o := .cells #[.bool a1_0, .int .u32 a1_1, .int .u8 a1_2, .int .u8 a1_3, .int .u8 a1_4, .int .u16 a1_5, .int .u16 a1_6] 27 (0, 0)) (by (with_reducible repeat (first | refine blk_drewN ?_ _ | refine blk_drew ?_ | refine blk_alloc ?_ _)); exact BK266.out)) : gb267 ≠ gb266)); clear BK265; clear BK266; clear HB; have BK265 := n0_; have BK266 := n1_; have HB := n2_; have BK267 := n3_; have GW267 := n4_; have GE267 := n5_; have NB265_267 := n6_; have NB267_265 := n7_; have NB266_267 := n8_; have NB267_266 := n9_; clear n0_ n1_ n2_ n3_ n4_ n5_ n6_ n7_ n8_ n9_; clear hb hbox hg))
  (try simp only [Act.put, List.setIfInBounds_toArray, List.set_cons_zero, List.set_cons_succ])
  go_cut [32] (fun v32 wc => ∃ (kq : Nat) (x32_6 : Bool), v32 = .bool x32_6 ∧ Aside0 (bulwarklaw03_CapaOrder.j0 kq a3 a4 a5 x32_6 a0_0 a0_1 a0_2 a0_3 a0_4 a0_5 a0_6 a1_0 a1_1 a1_2 a1_3 a1_4 a1_5 a1_6 = some r) ∧ Aside0 (kq ≤ k) ∧ Aside0 (wc.heap[gb265]? = some (.cells #[.bool a0_0, .int .u32 a0_1, .int .u8 a0_2, .int .u8 a0_3, .int .u8 a0_4, .int .u16 a0_5, .int .u16 a0_6] 27 (0, 0))) ∧ Aside0 (wc.heap[gb266]? = some (.cells #[.bool a1_0, .int .u32 a1_1, .int .u8 a1_2, .int .u8 a1_3, .int .u8 a1_4, .int .u16 a1_5, .int .u16 a1_6] 27 (0, 0))) ∧ Aside0 (wc.heap[gb267]? = some (.cells #[.bool a2_0, .int .u32 a2_1, .int .u8 a2_2, .int .u8 a2_3, .int .u8 a2_4, .int .u16 a2_5, .int .u16 a2_6] 27 (0, 0))) ∧ Aside0 (Below w.heap.size w wc))
  case first =>
    have H := HC7.out
    clear HC7
    replace H := Option.bind_eq_some_iff.mp H
    obtain ⟨t268, A110, H⟩ := H
    replace H : (if t268 = true then ((capa_Subset.f a0_0 a0_1 a0_2 a0_3 a0_4 a0_5 a0_6 a1_0 a1_1 a1_2 a1_3 a1_4 a1_5 a1_6).bind fun t269 => (if t269 = true then ((capa_Subset.f a1_0 a1_1 a1_2 a1_3 a1_4 a1_5 a1_6 a2_0 a2_1 a2_2 a2_3 a2_4 a2_5 a2_6).bind fun t270 => (if t270 = true then ((capa_Subset.f a0_0 a0_1 a0_2 a0_3 a0_4 a0_5 a0_6 a2_0 a2_1 a2_2 a2_3 a2_4 a2_5 a2_6).bind fun t271 => (bulwarklaw03_CapaOrder.j0 k a3 a4 a5 (!t271) a0_0 a0_1 a0_2 a0_3 a0_4 a0_5 a0_6 a1_0 a1_1 a1_2 a1_3 a1_4 a1_5 a1_6)) else (bulwarklaw03_CapaOrder.j0 k a3 a4 a5 false a0_0 a0_1 a0_2 a0_3 a0_4 a0_5 a0_6 a1_0 a1_1 a1_2 a1_3 a1_4 a1_5 a1_6))) else (bulwarklaw03_CapaOrder.j0 k a3 a4 a5 false a0_0 a0_1 a0_2 a0_3 a0_4 a0_5 a0_6 a1_0 a1_1 a1_2 a1_3 a1_4 a1_5 a1_6))) else (bulwarklaw03_CapaOrder.j0 k a3 a4 a5 true a0_0 a0_1 a0_2 a0_3 a0_4 a0_5 a0_6 a1_0 a1_1 a1_2 a1_3 a1_4 a1_5 a1_6)) = some r := H
    have A11 := Aside0.mk A110
    clear A110
    by_cases c12 : t268 = true
    · subst c12
      have H1 : ((capa_Subset.f a0_0 a0_1 a0_2 a0_3 a0_4 a0_5 a0_6 a1_0 a1_1 a1_2 a1_3 a1_4 a1_5 a1_6).bind fun t269 => (if t269 = true then ((capa_Subset.f a1_0 a1_1 a1_2 a1_3 a1_4 a1_5 a1_6 a2_0 a2_1 a2_2 a2_3 a2_4 a2_5 a2_6).bind fun t270 => (if t270 = true then ((capa_Subset.f a0_0 a0_1 a0_2 a0_3 a0_4 a0_5 a0_6 a2_0 a2_1 a2_2 a2_3 a2_4 a2_5 a2_6).bind fun t271 => (bulwarklaw03_CapaOrder.j0 k a3 a4 a5 (!t271) a0_0 a0_1 a0_2 a0_3 a0_4 a0_5 a0_6 a1_0 a1_1 a1_2 a1_3 a1_4 a1_5 a1_6)) else (bulwarklaw03_CapaOrder.j0 k a3 a4 a5 false a0_0 a0_1 a0_2 a0_3 a0_4 a0_5 a0_6 a1_0 a1_1 a1_2 a1_3 a1_4 a1_5 a1_6))) else (bulwarklaw03_CapaOrder.j0 k a3 a4 a5 false a0_0 a0_1 a0_2 a0_3 a0_4 a0_5 a0_6 a1_0 a1_1 a1_2 a1_3 a1_4 a1_5 a1_6))) = some r := by rw [if_pos rfl] at H; exact H
      clear H
      have H := H1
      clear H1
      replace H := Option.bind_eq_some_iff.mp H
      obtain ⟨t269, A130, H⟩ := H
      replace H : (if t269 = true then ((capa_Subset.f a1_0 a1_1 a1_2 a1_3 a1_4 a1_5 a1_6 a2_0 a2_1 a2_2 a2_3 a2_4 a2_5 a2_6).bind fun t270 => (if t270 = true then ((capa_Subset.f a0_0 a0_1 a0_2 a0_3 a0_4 a0_5 a0_6 a2_0 a2_1 a2_2 a2_3 a2_4 a2_5 a2_6).bind fun t271 => (bulwarklaw03_CapaOrder.j0 k a3 a4 a5 (!t271) a0_0 a0_1 a0_2 a0_3 a0_4 a0_5 a0_6 a1_0 a1_1 a1_2 a1_3 a1_4 a1_5 a1_6)) else (bulwarklaw03_CapaOrder.j0 k a3 a4 a5 false a0_0 a0_1 a0_2 a0_3 a0_4 a0_5 a0_6 a1_0 a1_1 a1_2 a1_3 a1_4 a1_5 a1_6))) else (bulwarklaw03_CapaOrder.j0 k a3 a4 a5 false a0_0 a0_1 a0_2 a0_3 a0_4 a0_5 a0_6 a1_0 a1_1 a1_2 a1_3 a1_4 a1_5 a1_6)) = some r := H
      have A13 := Aside0.mk A130
      clear A130
      by_cases c14 : t269 = true
      · subst c14
        have H1 : ((capa_Subset.f a1_0 a1_1 a1_2 a1_3 a1_4 a1_5 a1_6 a2_0 a2_1 a2_2 a2_3 a2_4 a2_5 a2_6).bind fun t270 => (if t270 = true then ((capa_Subset.f a0_0 a0_1 a0_2 a0_3 a0_4 a0_5 a0_6 a2_0 a2_1 a2_2 a2_3 a2_4 a2_5 a2_6).bind fun t271 => (bulwarklaw03_CapaOrder.j0 k a3 a4 a5 (!t271) a0_0 a0_1 a0_2 a0_3 a0_4 a0_5 a0_6 a1_0 a1_1 a1_2 a1_3 a1_4 a1_5 a1_6)) else (bulwarklaw03_CapaOrder.j0 k a3 a4 a5 false a0_0 a0_1 a0_2 a0_3 a0_4 a0_5 a0_6 a1_0 a1_1 a1_2 a1_3 a1_4 a1_5 a1_6))) = some r := by rw [if_pos rfl] at H; exact H
        clear H
        have H := H1
        clear H1
        replace H := Option.bind_eq_some_iff.mp H
        obtain ⟨t270, A150, H⟩ := H
        replace H : (if t270 = true then ((capa_Subset.f a0_0 a0_1 a0_2 a0_3 a0_4 a0_5 a0_6 a2_0 a2_1 a2_2 a2_3 a2_4 a2_5 a2_6).bind fun t271 => (bulwarklaw03_CapaOrder.j0 k a3 a4 a5 (!t271) a0_0 a0_1 a0_2 a0_3 a0_4 a0_5 a0_6 a1_0 a1_1 a1_2 a1_3 a1_4 a1_5 a1_6)) else (bulwarklaw03_CapaOrder.j0 k a3 a4 a5 false a0_0 a0_1 a0_2 a0_3 a0_4 a0_5 a0_6 a1_0 a1_1 a1_2 a1_3 a1_4 a1_5 a1_6)) = some r := H
        have A15 := Aside0.mk A150
        clear A150
        by_cases c16 : t270 = true
        · subst c16
          have H1 : ((capa_Subset.f a0_0 a0_1 a0_2 a0_3 a0_4 a0_5 a0_6 a2_0 a2_1 a2_2 a2_3 a2_4 a2_5 a2_6).bind fun t271 => (bulwarklaw03_CapaOrder.j0 k a3 a4 a5 (!t271) a0_0 a0_1 a0_2 a0_3 a0_4 a0_5 a0_6 a1_0 a1_1 a1_2 a1_3 a1_4 a1_5 a1_6)) = some r := by rw [if_pos rfl] at H; exact H
          clear H
          have H := H1
          clear H1
          replace H := Option.bind_eq_some_iff.mp H
          obtain ⟨t271, A170, H⟩ := H
          replace H : (bulwarklaw03_CapaOrder.j0 k a3 a4 a5 (!t271) a0_0 a0_1 a0_2 a0_3 a0_4 a0_5 a0_6 a1_0 a1_1 a1_2 a1_3 a1_4 a1_5 a1_6) = some r := H
          have A17 := Aside0.mk A170
          clear A170
          have H' := Aside0.mk H
          clear H
          have hnb18 := NB265_266.out
          have hnc18 := NB266_265.out
          have hnb19 := NB265_267.out
          have hnc19 := NB267_265.out
          have hcz20_0 : w10.cell? ⟨gb265, 0, none⟩ = some (.bool a0_0) := (blk_cell BK265.out 0).trans rfl
          have hcz20_1 : w10.cell? ⟨gb265, 1, none⟩ = some (.int .u32 a0_1) := (blk_cell BK265.out 1).trans rfl
          have hcz20_2 : w10.cell? ⟨gb265, 2, none⟩ = some (.int .u8 a0_2) := (blk_cell BK265.out 2).trans rfl
          have hcz20_3 : w10.cell? ⟨gb265, 3, none⟩ = some (.int .u8 a0_3) := (blk_cell BK265.out 3).trans rfl
          have hcz20_4 : w10.cell? ⟨gb265, 4, none⟩ = some (.int .u8 a0_4) := (blk_cell BK265.out 4).trans rfl
          have hcz20_5 : w10.cell? ⟨gb265, 5, none⟩ = some (.int .u16 a0_5) := (blk_cell BK265.out 5).trans rfl
          have hcz20_6 : w10.cell? ⟨gb265, 6, none⟩ = some (.int .u16 a0_6) := (blk_cell BK265.out 6).trans rfl
          have hfz20_0 := blk_frozen BK265.out 0
          have hfz20_1 := blk_frozen BK265.out 1
          have hfz20_2 := blk_frozen BK265.out 2
          have hfz20_3 := blk_frozen BK265.out 3
          have hfz20_4 := blk_frozen BK265.out 4
          have hfz20_5 := blk_frozen BK265.out 5
          have hfz20_6 := blk_frozen BK265.out 6
          go_wp2_with (first | ((with_reducible refine gate_callee (f := 13) rfl ?_); refine goesL_ (some 15) rfl rfl Try.func13 (by kernel_rfl) rfl #[.agg #[.bool a0_0, .int .u32 a0_1, .int .u8 a0_2, .int .u8 a0_3, .int .u8 a0_4, .int .u16 a0_5, .int .u16 a0_6], .agg #[.bool a0_0, .int .u32 a0_1, .int .u8 a0_2, .int .u8 a0_3, .int .u8 a0_4, .int .u16 a0_5, .int .u16 a0_6]] rfl (by (try simp only [List.map_toArray, List.map_cons, List.map_nil]); first | done | rfl | (simp only [List.length_drop, List.length_take]; rfl)) ?_; (with_reducible refine (capa_Subset.calls a0_0 a0_1 a0_2 a0_3 a0_4 a0_5 a0_6 a0_0 a0_1 a0_2 a0_3 a0_4 a0_5 a0_6 true _ A11.out).mono ?_); rintro e w21 ⟨rfl, hb⟩; refine ⟨_, rfl, ?_⟩; have n0_ := Aside0.mk (blk_below (g := gb265) (o := .cells #[.bool a0_0, .int .u32 a0_1, .int .u8 a0_2, .int .u8 a0_3, .int .u8 a0_4, .int .u16 a0_5, .int .u16 a0_6] 27 (0, 0)) (by (with_reducible repeat (first | refine blk_drewN ?_ _ | refine blk_drew ?_ | refine blk_alloc ?_ _)); exact BK265.out) hb); have n1_ := Aside0.mk (blk_below (g := gb266) (o := .cells #[.bool a1_0, .int .u32 a1_1, .int .u8 a1_2, .int .u8 a1_3, .int .u8 a1_4, .int .u16 a1_5, .int .u16 a1_6] 27 (0, 0)) (by (with_reducible repeat (first | refine blk_drewN ?_ _ | refine blk_drew ?_ | refine blk_alloc ?_ _)); exact BK266.out) hb); have n2_ := Aside0.mk (blk_below (g := gb267) (o := .cells #[.bool a2_0, .int .u32 a2_1, .int .u8 a2_2, .int .u8 a2_3, .int .u8 a2_4, .int .u16 a2_5, .int .u16 a2_6] 27 (0, 0)) (by (with_reducible repeat (first | refine blk_drewN ?_ _ | refine blk_drew ?_ | refine blk_alloc ?_ _)); exact BK267.out) hb); have n3_ := Aside0.mk (below_step (by repeat (first | (with_reducible first | exact HB.out | apply below_alloc | apply pw_below_drewN | apply below_drew1 | refine below_set ?_ GE265.out | refine below_set ?_ GE266.out | refine below_set ?_ GE267.out) | exact HB.out)) hb); clear BK265; clear BK266; clear BK267; clear HB; have BK265 := n0_; have BK266 := n1_; have BK267 := n2_; have HB := n3_; clear n0_ n1_ n2_ n3_; (try clear hb); (try clear hb2); (try clear hk); (try clear hi); have hcz22_0 : w21.cell? ⟨gb265, 0, none⟩ = some (.bool a0_0) := (blk_cell BK265.out 0).trans rfl; have hcz22_1 : w21.cell? ⟨gb265, 1, none⟩ = some (.int .u32 a0_1) := (blk_cell BK265.out 1).trans rfl; have hcz22_2 : w21.cell? ⟨gb265, 2, none⟩ = some (.int .u8 a0_2) := (blk_cell BK265.out 2).trans rfl; have hcz22_3 : w21.cell? ⟨gb265, 3, none⟩ = some (.int .u8 a0_3) := (blk_cell BK265.out 3).trans rfl; have hcz22_4 : w21.cell? ⟨gb265, 4, none⟩ = some (.int .u8 a0_4) := (blk_cell BK265.out 4).trans rfl; have hcz22_5 : w21.cell? ⟨gb265, 5, none⟩ = some (.int .u16 a0_5) := (blk_cell BK265.out 5).trans rfl; have hcz22_6 : w21.cell? ⟨gb265, 6, none⟩ = some (.int .u16 a0_6) := (blk_cell BK265.out 6).trans rfl; have hfz22_0 := blk_frozen BK265.out 0; have hfz22_1 := blk_frozen BK265.out 1; have hfz22_2 := blk_frozen BK265.out 2; have hfz22_3 := blk_frozen BK265.out 3; have hfz22_4 := blk_frozen BK265.out 4; have hfz22_5 := blk_frozen BK265.out 5; have hfz22_6 := blk_frozen BK265.out 6; have hnb23 := NB266_267.out; have hnc23 := NB267_266.out; have hcz24_0 : w21.cell? ⟨gb266, 0, none⟩ = some (.bool a1_0) := (blk_cell BK266.out 0).trans rfl; have hcz24_1 : w21.cell? ⟨gb266, 1, none⟩ = some (.int .u32 a1_1) := (blk_cell BK266.out 1).trans rfl; have hcz24_2 : w21.cell? ⟨gb266, 2, none⟩ = some (.int .u8 a1_2) := (blk_cell BK266.out 2).trans rfl; have hcz24_3 : w21.cell? ⟨gb266, 3, none⟩ = some (.int .u8 a1_3) := (blk_cell BK266.out 3).trans rfl; have hcz24_4 : w21.cell? ⟨gb266, 4, none⟩ = some (.int .u8 a1_4) := (blk_cell BK266.out 4).trans rfl; have hcz24_5 : w21.cell? ⟨gb266, 5, none⟩ = some (.int .u16 a1_5) := (blk_cell BK266.out 5).trans rfl; have hcz24_6 : w21.cell? ⟨gb266, 6, none⟩ = some (.int .u16 a1_6) := (blk_cell BK266.out 6).trans rfl; have hfz24_0 := blk_frozen BK266.out 0; have hfz24_1 := blk_frozen BK266.out 1; have hfz24_2 := blk_frozen BK266.out 2; have hfz24_3 := blk_frozen BK266.out 3; have hfz24_4 := blk_frozen BK266.out 4; have hfz24_5 := blk_frozen BK266.out 5; have hfz24_6 := blk_frozen BK266.out 6) | (go_at_call 13; (with_reducible refine (capa_Subset.calls a0_0 a0_1 a0_2 a0_3 a0_4 a0_5 a0_6 a1_0 a1_1 a1_2 a1_3 a1_4 a1_5 a1_6 true _ A13.out).mono ?_); rintro e w25 ⟨rfl, hb⟩; have n0_ := Aside0.mk (blk_below (g := gb265) (o := .cells #[.bool a0_0, .int .u32 a0_1, .int .u8 a0_2, .int .u8 a0_3, .int .u8 a0_4, .int .u16 a0_5, .int .u16 a0_6] 27 (0, 0)) (by (with_reducible repeat (first | refine blk_drewN ?_ _ | refine blk_drew ?_ | refine blk_alloc ?_ _)); exact BK265.out) hb); have n1_ := Aside0.mk (blk_below (g := gb266) (o := .cells #[.bool a1_0, .int .u32 a1_1, .int .u8 a1_2, .int .u8 a1_3, .int .u8 a1_4, .int .u16 a1_5, .int .u16 a1_6] 27 (0, 0)) (by (with_reducible repeat (first | refine blk_drewN ?_ _ | refine blk_drew ?_ | refine blk_alloc ?_ _)); exact BK266.out) hb); have n2_ := Aside0.mk (blk_below (g := gb267) (o := .cells #[.bool a2_0, .int .u32 a2_1, .int .u8 a2_2, .int .u8 a2_3, .int .u8 a2_4, .int .u16 a2_5, .int .u16 a2_6] 27 (0, 0)) (by (with_reducible repeat (first | refine blk_drewN ?_ _ | refine blk_drew ?_ | refine blk_alloc ?_ _)); exact BK267.out) hb); have n3_ := Aside0.mk (below_step (by repeat (first | (with_reducible first | exact HB.out | apply below_alloc | apply pw_below_drewN | apply below_drew1 | refine below_set ?_ GE265.out | refine below_set ?_ GE266.out | refine below_set ?_ GE267.out) | exact HB.out)) hb); clear BK265; clear BK266; clear BK267; clear HB; have BK265 := n0_; have BK266 := n1_; have BK267 := n2_; have HB := n3_; clear n0_ n1_ n2_ n3_; (try clear hb); (try clear hb2); (try clear hk); (try clear hi); have hcz26_0 : w25.cell? ⟨gb266, 0, none⟩ = some (.bool a1_0) := (blk_cell BK266.out 0).trans rfl; have hcz26_1 : w25.cell? ⟨gb266, 1, none⟩ = some (.int .u32 a1_1) := (blk_cell BK266.out 1).trans rfl; have hcz26_2 : w25.cell? ⟨gb266, 2, none⟩ = some (.int .u8 a1_2) := (blk_cell BK266.out 2).trans rfl; have hcz26_3 : w25.cell? ⟨gb266, 3, none⟩ = some (.int .u8 a1_3) := (blk_cell BK266.out 3).trans rfl; have hcz26_4 : w25.cell? ⟨gb266, 4, none⟩ = some (.int .u8 a1_4) := (blk_cell BK266.out 4).trans rfl; have hcz26_5 : w25.cell? ⟨gb266, 5, none⟩ = some (.int .u16 a1_5) := (blk_cell BK266.out 5).trans rfl; have hcz26_6 : w25.cell? ⟨gb266, 6, none⟩ = some (.int .u16 a1_6) := (blk_cell BK266.out 6).trans rfl; have hfz26_0 := blk_frozen BK266.out 0; have hfz26_1 := blk_frozen BK266.out 1; have hfz26_2 := blk_frozen BK266.out 2; have hfz26_3 := blk_frozen BK266.out 3; have hfz26_4 := blk_frozen BK266.out 4; have hfz26_5 := blk_frozen BK266.out 5; have hfz26_6 := blk_frozen BK266.out 6; have hcz27_0 : w25.cell? ⟨gb267, 0, none⟩ = some (.bool a2_0) := (blk_cell BK267.out 0).trans rfl; have hcz27_1 : w25.cell? ⟨gb267, 1, none⟩ = some (.int .u32 a2_1) := (blk_cell BK267.out 1).trans rfl; have hcz27_2 : w25.cell? ⟨gb267, 2, none⟩ = some (.int .u8 a2_2) := (blk_cell BK267.out 2).trans rfl; have hcz27_3 : w25.cell? ⟨gb267, 3, none⟩ = some (.int .u8 a2_3) := (blk_cell BK267.out 3).trans rfl; have hcz27_4 : w25.cell? ⟨gb267, 4, none⟩ = some (.int .u8 a2_4) := (blk_cell BK267.out 4).trans rfl; have hcz27_5 : w25.cell? ⟨gb267, 5, none⟩ = some (.int .u16 a2_5) := (blk_cell BK267.out 5).trans rfl; have hcz27_6 : w25.cell? ⟨gb267, 6, none⟩ = some (.int .u16 a2_6) := (blk_cell BK267.out 6).trans rfl; have hfz27_0 := blk_frozen BK267.out 0; have hfz27_1 := blk_frozen BK267.out 1; have hfz27_2 := blk_frozen BK267.out 2; have hfz27_3 := blk_frozen BK267.out 3; have hfz27_4 := blk_frozen BK267.out 4; have hfz27_5 := blk_frozen BK267.out 5; have hfz27_6 := blk_frozen BK267.out 6) | (go_at_call 13; (with_reducible refine (capa_Subset.calls a1_0 a1_1 a1_2 a1_3 a1_4 a1_5 a1_6 a2_0 a2_1 a2_2 a2_3 a2_4 a2_5 a2_6 true _ A15.out).mono ?_); rintro e w28 ⟨rfl, hb⟩; have n0_ := Aside0.mk (blk_below (g := gb265) (o := .cells #[.bool a0_0, .int .u32 a0_1, .int .u8 a0_2, .int .u8 a0_3, .int .u8 a0_4, .int .u16 a0_5, .int .u16 a0_6] 27 (0, 0)) (by (with_reducible repeat (first | refine blk_drewN ?_ _ | refine blk_drew ?_ | refine blk_alloc ?_ _)); exact BK265.out) hb); have n1_ := Aside0.mk (blk_below (g := gb266) (o := .cells #[.bool a1_0, .int .u32 a1_1, .int .u8 a1_2, .int .u8 a1_3, .int .u8 a1_4, .int .u16 a1_5, .int .u16 a1_6] 27 (0, 0)) (by (with_reducible repeat (first | refine blk_drewN ?_ _ | refine blk_drew ?_ | refine blk_alloc ?_ _)); exact BK266.out) hb); have n2_ := Aside0.mk (blk_below (g := gb267) (o := .cells #[.bool a2_0, .int .u32 a2_1, .int .u8 a2_2, .int .u8 a2_3, .int .u8 a2_4, .int .u16 a2_5, .int .u16 a2_6] 27 (0, 0)) (by (with_reducible repeat (first | refine blk_drewN ?_ _ | refine blk_drew ?_ | refine blk_alloc ?_ _)); exact BK267.out) hb); have n3_ := Aside0.mk (below_step (by repeat (first | (with_reducible first | exact HB.out | apply below_alloc | apply pw_below_drewN | apply below_drew1 | refine below_set ?_ GE265.out | refine below_set ?_ GE266.out | refine below_set ?_ GE267.out) | exact HB.out)) hb); clear BK265; clear BK266; clear BK267; clear HB; have BK265 := n0_; have BK266 := n1_; have BK267 := n2_; have HB := n3_; clear n0_ n1_ n2_ n3_; (try clear hb); (try clear hb2); (try clear hk); (try clear hi); have hcz29_0 : w28.cell? ⟨gb265, 0, none⟩ = some (.bool a0_0) := (blk_cell BK265.out 0).trans rfl; have hcz29_1 : w28.cell? ⟨gb265, 1, none⟩ = some (.int .u32 a0_1) := (blk_cell BK265.out 1).trans rfl; have hcz29_2 : w28.cell? ⟨gb265, 2, none⟩ = some (.int .u8 a0_2) := (blk_cell BK265.out 2).trans rfl; have hcz29_3 : w28.cell? ⟨gb265, 3, none⟩ = some (.int .u8 a0_3) := (blk_cell BK265.out 3).trans rfl; have hcz29_4 : w28.cell? ⟨gb265, 4, none⟩ = some (.int .u8 a0_4) := (blk_cell BK265.out 4).trans rfl; have hcz29_5 : w28.cell? ⟨gb265, 5, none⟩ = some (.int .u16 a0_5) := (blk_cell BK265.out 5).trans rfl; have hcz29_6 : w28.cell? ⟨gb265, 6, none⟩ = some (.int .u16 a0_6) := (blk_cell BK265.out 6).trans rfl; have hfz29_0 := blk_frozen BK265.out 0; have hfz29_1 := blk_frozen BK265.out 1; have hfz29_2 := blk_frozen BK265.out 2; have hfz29_3 := blk_frozen BK265.out 3; have hfz29_4 := blk_frozen BK265.out 4; have hfz29_5 := blk_frozen BK265.out 5; have hfz29_6 := blk_frozen BK265.out 6; have hcz30_0 : w28.cell? ⟨gb267, 0, none⟩ = some (.bool a2_0) := (blk_cell BK267.out 0).trans rfl; have hcz30_1 : w28.cell? ⟨gb267, 1, none⟩ = some (.int .u32 a2_1) := (blk_cell BK267.out 1).trans rfl; have hcz30_2 : w28.cell? ⟨gb267, 2, none⟩ = some (.int .u8 a2_2) := (blk_cell BK267.out 2).trans rfl; have hcz30_3 : w28.cell? ⟨gb267, 3, none⟩ = some (.int .u8 a2_3) := (blk_cell BK267.out 3).trans rfl; have hcz30_4 : w28.cell? ⟨gb267, 4, none⟩ = some (.int .u8 a2_4) := (blk_cell BK267.out 4).trans rfl; have hcz30_5 : w28.cell? ⟨gb267, 5, none⟩ = some (.int .u16 a2_5) := (blk_cell BK267.out 5).trans rfl; have hcz30_6 : w28.cell? ⟨gb267, 6, none⟩ = some (.int .u16 a2_6) := (blk_cell BK267.out 6).trans rfl; have hfz30_0 := blk_frozen BK267.out 0; have hfz30_1 := blk_frozen BK267.out 1; have hfz30_2 := blk_frozen BK267.out 2; have hfz30_3 := blk_frozen BK267.out 3; have hfz30_4 := blk_frozen BK267.out 4; have hfz30_5 := blk_frozen BK267.out 5; have hfz30_6 := blk_frozen BK267.out 6) | (go_at_call 13; (with_reducible refine (capa_Subset.calls a0_0 a0_1 a0_2 a0_3 a0_4 a0_5 a0_6 a2_0 a2_1 a2_2 a2_3 a2_4 a2_5 a2_6 t271 _ A17.out).mono ?_); rintro e w31 ⟨rfl, hb⟩; have n0_ := Aside0.mk (blk_below (g := gb265) (o := .cells #[.bool a0_0, .int .u32 a0_1, .int .u8 a0_2, .int .u8 a0_3, .int .u8 a0_4, .int .u16 a0_5, .int .u16 a0_6] 27 (0, 0)) (by (with_reducible repeat (first | refine blk_drewN ?_ _ | refine blk_drew ?_ | refine blk_alloc ?_ _)); exact BK265.out) hb); have n1_ := Aside0.mk (blk_below (g := gb266) (o := .cells #[.bool a1_0, .int .u32 a1_1, .int .u8 a1_2, .int .u8 a1_3, .int .u8 a1_4, .int .u16 a1_5, .int .u16 a1_6] 27 (0, 0)) (by (with_reducible repeat (first | refine blk_drewN ?_ _ | refine blk_drew ?_ | refine blk_alloc ?_ _)); exact BK266.out) hb); have n2_ := Aside0.mk (blk_below (g := gb267) (o := .cells #[.bool a2_0, .int .u32 a2_1, .int .u8 a2_2, .int .u8 a2_3, .int .u8 a2_4, .int .u16 a2_5, .int .u16 a2_6] 27 (0, 0)) (by (with_reducible repeat (first | refine blk_drewN ?_ _ | refine blk_drew ?_ | refine blk_alloc ?_ _)); exact BK267.out) hb); have n3_ := Aside0.mk (below_step (by repeat (first | (with_reducible first | exact HB.out | apply below_alloc | apply pw_below_drewN | apply below_drew1 | refine below_set ?_ GE265.out | refine below_set ?_ GE266.out | refine below_set ?_ GE267.out) | exact HB.out)) hb); clear BK265; clear BK266; clear BK267; clear HB; have BK265 := n0_; have BK266 := n1_; have BK267 := n2_; have HB := n3_; clear n0_ n1_ n2_ n3_; (try clear hb); (try clear hb2); (try clear hk); (try clear hi)))
          go_meet
          case rel => exact ⟨_, (!t271), (by first | rfl | (simp; done) | (simp [*]; done)), H', ⟨by first | omega | exact Nat.le_refl _⟩, ⟨by (with_reducible repeat (first | refine blk_drewN ?_ _ | refine blk_drew ?_ | refine blk_alloc ?_ _)); exact BK265.out⟩, ⟨by (with_reducible repeat (first | refine blk_drewN ?_ _ | refine blk_drew ?_ | refine blk_alloc ?_ _)); exact BK266.out⟩, ⟨by (with_reducible repeat (first | refine blk_drewN ?_ _ | refine blk_drew ?_ | refine blk_alloc ?_ _)); exact BK267.out⟩, ⟨by repeat (first | (with_reducible first | exact HB.out | apply below_alloc | apply pw_below_drewN | apply below_drew1 | refine below_set ?_ GE265.out | refine below_set ?_ GE266.out | refine below_set ?_ GE267.out) | exact HB.out)⟩⟩
        · replace c16 := Bool.eq_false_iff.mpr c16
          subst c16
          have H1 : (bulwarklaw03_CapaOrder.j0 k a3 a4 a5 false a0_0 a0_1 a0_2 a0_3 a0_4 a0_5 a0_6 a1_0 a1_1 a1_2 a1_3 a1_4 a1_5 a1_6) = some r := by rw [if_neg (show ¬ (false = true) by decide)] at H; exact H
          clear H
          have H := H1
          clear H1
          have H' := Aside0.mk H
          clear H
          have hnb32 := NB265_266.out
          have hnc32 := NB266_265.out
          have hnb33 := NB265_267.out
          have hnc33 := NB267_265.out
          have hcz34_0 : w10.cell? ⟨gb265, 0, none⟩ = some (.bool a0_0) := (blk_cell BK265.out 0).trans rfl
          have hcz34_1 : w10.cell? ⟨gb265, 1, none⟩ = some (.int .u32 a0_1) := (blk_cell BK265.out 1).trans rfl
          have hcz34_2 : w10.cell? ⟨gb265, 2, none⟩ = some (.int .u8 a0_2) := (blk_cell BK265.out 2).trans rfl
          have hcz34_3 : w10.cell? ⟨gb265, 3, none⟩ = some (.int .u8 a0_3) := (blk_cell BK265.out 3).trans rfl
          have hcz34_4 : w10.cell? ⟨gb265, 4, none⟩ = some (.int .u8 a0_4) := (blk_cell BK265.out 4).trans rfl
          have hcz34_5 : w10.cell? ⟨gb265, 5, none⟩ = some (.int .u16 a0_5) := (blk_cell BK265.out 5).trans rfl
          have hcz34_6 : w10.cell? ⟨gb265, 6, none⟩ = some (.int .u16 a0_6) := (blk_cell BK265.out 6).trans rfl
          have hfz34_0 := blk_frozen BK265.out 0
          have hfz34_1 := blk_frozen BK265.out 1
          have hfz34_2 := blk_frozen BK265.out 2
          have hfz34_3 := blk_frozen BK265.out 3
          have hfz34_4 := blk_frozen BK265.out 4
          have hfz34_5 := blk_frozen BK265.out 5
          have hfz34_6 := blk_frozen BK265.out 6
          go_wp2_with (first | ((with_reducible refine gate_callee (f := 13) rfl ?_); refine goesL_ (some 15) rfl rfl Try.func13 (by kernel_rfl) rfl #[.agg #[.bool a0_0, .int .u32 a0_1, .int .u8 a0_2, .int .u8 a0_3, .int .u8 a0_4, .int .u16 a0_5, .int .u16 a0_6], .agg #[.bool a0_0, .int .u32 a0_1, .int .u8 a0_2, .int .u8 a0_3, .int .u8 a0_4, .int .u16 a0_5, .int .u16 a0_6]] rfl (by (try simp only [List.map_toArray, List.map_cons, List.map_nil]); first | done | rfl | (simp only [List.length_drop, List.length_take]; rfl)) ?_; (with_reducible refine (capa_Subset.calls a0_0 a0_1 a0_2 a0_3 a0_4 a0_5 a0_6 a0_0 a0_1 a0_2 a0_3 a0_4 a0_5 a0_6 true _ A11.out).mono ?_); rintro e w35 ⟨rfl, hb⟩; refine ⟨_, rfl, ?_⟩; have n0_ := Aside0.mk (blk_below (g := gb265) (o := .cells #[.bool a0_0, .int .u32 a0_1, .int .u8 a0_2, .int .u8 a0_3, .int .u8 a0_4, .int .u16 a0_5, .int .u16 a0_6] 27 (0, 0)) (by (with_reducible repeat (first | refine blk_drewN ?_ _ | refine blk_drew ?_ | refine blk_alloc ?_ _)); exact BK265.out) hb); have n1_ := Aside0.mk (blk_below (g := gb266) (o := .cells #[.bool a1_0, .int .u32 a1_1, .int .u8 a1_2, .int .u8 a1_3, .int .u8 a1_4, .int .u16 a1_5, .int .u16 a1_6] 27 (0, 0)) (by (with_reducible repeat (first | refine blk_drewN ?_ _ | refine blk_drew ?_ | refine blk_alloc ?_ _)); exact BK266.out) hb); have n2_ := Aside0.mk (blk_below (g := gb267) (o := .cells #[.bool a2_0, .int .u32 a2_1, .int .u8 a2_2, .int .u8 a2_3, .int .u8 a2_4, .int .u16 a2_5, .int .u16 a2_6] 27 (0, 0)) (by (with_reducible repeat (first | refine blk_drewN ?_ _ | refine blk_drew ?_ | refine blk_alloc ?_ _)); exact BK267.out) hb); have n3_ := Aside0.mk (below_step (by repeat (first | (with_reducible first | exact HB.out | apply below_alloc | apply pw_below_drewN | apply below_drew1 | refine below_set ?_ GE265.out | refine below_set ?_ GE266.out | refine below_set ?_ GE267.out) | exact HB.out)) hb); clear BK265; clear BK266; clear BK267; clear HB; have BK265 := n0_; have BK266 := n1_; have BK267 := n2_; have HB := n3_; clear n0_ n1_ n2_ n3_; (try clear hb); (try clear hb2); (try clear hk); (try clear hi); have hcz36_0 : w35.cell? ⟨gb265, 0, none⟩ = some (.bool a0_0) := (blk_cell BK265.out 0).trans rfl; have hcz36_1 : w35.cell? ⟨gb265, 1, none⟩ = some (.int .u32 a0_1) := (blk_cell BK265.out 1).trans rfl; have hcz36_2 : w35.cell? ⟨gb265, 2, none⟩ = some (.int .u8 a0_2) := (blk_cell BK265.out 2).trans rfl; have hcz36_3 : w35.cell? ⟨gb265, 3, none⟩ = some (.int .u8 a0_3) := (blk_cell BK265.out 3).trans rfl; have hcz36_4 : w35.cell? ⟨gb265, 4, none⟩ = some (.int .u8 a0_4) := (blk_cell BK265.out 4).trans rfl; have hcz36_5 : w35.cell? ⟨gb265, 5, none⟩ = some (.int .u16 a0_5) := (blk_cell BK265.out 5).trans rfl; have hcz36_6 : w35.cell? ⟨gb265, 6, none⟩ = some (.int .u16 a0_6) := (blk_cell BK265.out 6).trans rfl; have hfz36_0 := blk_frozen BK265.out 0; have hfz36_1 := blk_frozen BK265.out 1; have hfz36_2 := blk_frozen BK265.out 2; have hfz36_3 := blk_frozen BK265.out 3; have hfz36_4 := blk_frozen BK265.out 4; have hfz36_5 := blk_frozen BK265.out 5; have hfz36_6 := blk_frozen BK265.out 6; have hnb37 := NB266_267.out; have hnc37 := NB267_266.out; have hcz38_0 : w35.cell? ⟨gb266, 0, none⟩ = some (.bool a1_0) := (blk_cell BK266.out 0).trans rfl; have hcz38_1 : w35.cell? ⟨gb266, 1, none⟩ = some (.int .u32 a1_1) := (blk_cell BK266.out 1).trans rfl; have hcz38_2 : w35.cell? ⟨gb266, 2, none⟩ = some (.int .u8 a1_2) := (blk_cell BK266.out 2).trans rfl; have hcz38_3 : w35.cell? ⟨gb266, 3, none⟩ = some (.int .u8 a1_3) := (blk_cell BK266.out 3).trans rfl; have hcz38_4 : w35.cell? ⟨gb266, 4, none⟩ = some (.int .u8 a1_4) := (blk_cell BK266.out 4).trans rfl; have hcz38_5 : w35.cell? ⟨gb266, 5, none⟩ = some (.int .u16 a1_5) := (blk_cell BK266.out 5).trans rfl; have hcz38_6 : w35.cell? ⟨gb266, 6, none⟩ = some (.int .u16 a1_6) := (blk_cell BK266.out 6).trans rfl; have hfz38_0 := blk_frozen BK266.out 0; have hfz38_1 := blk_frozen BK266.out 1; have hfz38_2 := blk_frozen BK266.out 2; have hfz38_3 := blk_frozen BK266.out 3; have hfz38_4 := blk_frozen BK266.out 4; have hfz38_5 := blk_frozen BK266.out 5; have hfz38_6 := blk_frozen BK266.out 6) | (go_at_call 13; (with_reducible refine (capa_Subset.calls a0_0 a0_1 a0_2 a0_3 a0_4 a0_5 a0_6 a1_0 a1_1 a1_2 a1_3 a1_4 a1_5 a1_6 true _ A13.out).mono ?_); rintro e w39 ⟨rfl, hb⟩; have n0_ := Aside0.mk (blk_below (g := gb265) (o := .cells #[.bool a0_0, .int .u32 a0_1, .int .u8 a0_2, .int .u8 a0_3, .int .u8 a0_4, .int .u16 a0_5, .int .u16 a0_6] 27 (0, 0)) (by (with_reducible repeat (first | refine blk_drewN ?_ _ | refine blk_drew ?_ | refine blk_alloc ?_ _)); exact BK265.out) hb); have n1_ := Aside0.mk (blk_below (g := gb266) (o := .cells #[.bool a1_0, .int .u32 a1_1, .int .u8 a1_2, .int .u8 a1_3, .int .u8 a1_4, .int .u16 a1_5, .int .u16 a1_6] 27 (0, 0)) (by (with_reducible repeat (first | refine blk_drewN ?_ _ | refine blk_drew ?_ | refine blk_alloc ?_ _)); exact BK266.out) hb); have n2_ := Aside0.mk (blk_below (g := gb267) (o := .cells #[.bool a2_0, .int .u32 a2_1, .int .u8 a2_2, .int .u8 a2_3, .int .u8 a2_4, .int .u16 a2_5, .int .u16 a2_6] 27 (0, 0)) (by (with_reducible repeat (first | refine blk_drewN ?_ _ | refine blk_drew ?_ | refine blk_alloc ?_ _)); exact BK267.out) hb); have n3_ := Aside0.mk (below_step (by repeat (first | (with_reducible first | exact HB.out | apply below_alloc | apply pw_below_drewN | apply below_drew1 | refine below_set ?_ GE265.out | refine below_set ?_ GE266.out | refine below_set ?_ GE267.out) | exact HB.out)) hb); clear BK265; clear BK266; clear BK267; clear HB; have BK265 := n0_; have BK266 := n1_; have BK267 := n2_; have HB := n3_; clear n0_ n1_ n2_ n3_; (try clear hb); (try clear hb2); (try clear hk); (try clear hi); have hcz40_0 : w39.cell? ⟨gb266, 0, none⟩ = some (.bool a1_0) := (blk_cell BK266.out 0).trans rfl; have hcz40_1 : w39.cell? ⟨gb266, 1, none⟩ = some (.int .u32 a1_1) := (blk_cell BK266.out 1).trans rfl; have hcz40_2 : w39.cell? ⟨gb266, 2, none⟩ = some (.int .u8 a1_2) := (blk_cell BK266.out 2).trans rfl; have hcz40_3 : w39.cell? ⟨gb266, 3, none⟩ = some (.int .u8 a1_3) := (blk_cell BK266.out 3).trans rfl; have hcz40_4 : w39.cell? ⟨gb266, 4, none⟩ = some (.int .u8 a1_4) := (blk_cell BK266.out 4).trans rfl; have hcz40_5 : w39.cell? ⟨gb266, 5, none⟩ = some (.int .u16 a1_5) := (blk_cell BK266.out 5).trans rfl; have hcz40_6 : w39.cell? ⟨gb266, 6, none⟩ = some (.int .u16 a1_6) := (blk_cell BK266.out 6).trans rfl; have hfz40_0 := blk_frozen BK266.out 0; have hfz40_1 := blk_frozen BK266.out 1; have hfz40_2 := blk_frozen BK266.out 2; have hfz40_3 := blk_frozen BK266.out 3; have hfz40_4 := blk_frozen BK266.out 4; have hfz40_5 := blk_frozen BK266.out 5; have hfz40_6 := blk_frozen BK266.out 6; have hcz41_0 : w39.cell? ⟨gb267, 0, none⟩ = some (.bool a2_0) := (blk_cell BK267.out 0).trans rfl; have hcz41_1 : w39.cell? ⟨gb267, 1, none⟩ = some (.int .u32 a2_1) := (blk_cell BK267.out 1).trans rfl; have hcz41_2 : w39.cell? ⟨gb267, 2, none⟩ = some (.int .u8 a2_2) := (blk_cell BK267.out 2).trans rfl; have hcz41_3 : w39.cell? ⟨gb267, 3, none⟩ = some (.int .u8 a2_3) := (blk_cell BK267.out 3).trans rfl; have hcz41_4 : w39.cell? ⟨gb267, 4, none⟩ = some (.int .u8 a2_4) := (blk_cell BK267.out 4).trans rfl; have hcz41_5 : w39.cell? ⟨gb267, 5, none⟩ = some (.int .u16 a2_5) := (blk_cell BK267.out 5).trans rfl; have hcz41_6 : w39.cell? ⟨gb267, 6, none⟩ = some (.int .u16 a2_6) := (blk_cell BK267.out 6).trans rfl; have hfz41_0 := blk_frozen BK267.out 0; have hfz41_1 := blk_frozen BK267.out 1; have hfz41_2 := blk_frozen BK267.out 2; have hfz41_3 := blk_frozen BK267.out 3; have hfz41_4 := blk_frozen BK267.out 4; have hfz41_5 := blk_frozen BK267.out 5; have hfz41_6 := blk_frozen BK267.out 6) | (go_at_call 13; (with_reducible refine (capa_Subset.calls a1_0 a1_1 a1_2 a1_3 a1_4 a1_5 a1_6 a2_0 a2_1 a2_2 a2_3 a2_4 a2_5 a2_6 false _ A15.out).mono ?_); rintro e w42 ⟨rfl, hb⟩; have n0_ := Aside0.mk (blk_below (g := gb265) (o := .cells #[.bool a0_0, .int .u32 a0_1, .int .u8 a0_2, .int .u8 a0_3, .int .u8 a0_4, .int .u16 a0_5, .int .u16 a0_6] 27 (0, 0)) (by (with_reducible repeat (first | refine blk_drewN ?_ _ | refine blk_drew ?_ | refine blk_alloc ?_ _)); exact BK265.out) hb); have n1_ := Aside0.mk (blk_below (g := gb266) (o := .cells #[.bool a1_0, .int .u32 a1_1, .int .u8 a1_2, .int .u8 a1_3, .int .u8 a1_4, .int .u16 a1_5, .int .u16 a1_6] 27 (0, 0)) (by (with_reducible repeat (first | refine blk_drewN ?_ _ | refine blk_drew ?_ | refine blk_alloc ?_ _)); exact BK266.out) hb); have n2_ := Aside0.mk (blk_below (g := gb267) (o := .cells #[.bool a2_0, .int .u32 a2_1, .int .u8 a2_2, .int .u8 a2_3, .int .u8 a2_4, .int .u16 a2_5, .int .u16 a2_6] 27 (0, 0)) (by (with_reducible repeat (first | refine blk_drewN ?_ _ | refine blk_drew ?_ | refine blk_alloc ?_ _)); exact BK267.out) hb); have n3_ := Aside0.mk (below_step (by repeat (first | (with_reducible first | exact HB.out | apply below_alloc | apply pw_below_drewN | apply below_drew1 | refine below_set ?_ GE265.out | refine below_set ?_ GE266.out | refine below_set ?_ GE267.out) | exact HB.out)) hb); clear BK265; clear BK266; clear BK267; clear HB; have BK265 := n0_; have BK266 := n1_; have BK267 := n2_; have HB := n3_; clear n0_ n1_ n2_ n3_; (try clear hb); (try clear hb2); (try clear hk); (try clear hi)))
          go_meet
          case rel => exact ⟨_, (false), (by first | rfl | (simp; done) | (simp [*]; done)), H', ⟨by first | omega | exact Nat.le_refl _⟩, ⟨by (with_reducible repeat (first | refine blk_drewN ?_ _ | refine blk_drew ?_ | refine blk_alloc ?_ _)); exact BK265.out⟩, ⟨by (with_reducible repeat (first | refine blk_drewN ?_ _ | refine blk_drew ?_ | refine blk_alloc ?_ _)); exact BK266.out⟩, ⟨by (with_reducible repeat (first | refine blk_drewN ?_ _ | refine blk_drew ?_ | refine blk_alloc ?_ _)); exact BK267.out⟩, ⟨by repeat (first | (with_reducible first | exact HB.out | apply below_alloc | apply pw_below_drewN | apply below_drew1 | refine below_set ?_ GE265.out | refine below_set ?_ GE266.out | refine below_set ?_ GE267.out) | exact HB.out)⟩⟩
      · replace c14 := Bool.eq_false_iff.mpr c14
        subst c14
        have H1 : (bulwarklaw03_CapaOrder.j0 k a3 a4 a5 false a0_0 a0_1 a0_2 a0_3 a0_4 a0_5 a0_6 a1_0 a1_1 a1_2 a1_3 a1_4 a1_5 a1_6) = some r := by rw [if_neg (show ¬ (false = true) by decide)] at H; exact H
        clear H
        have H := H1
        clear H1
        have H' := Aside0.mk H
        clear H
        have hnb43 := NB265_266.out
        have hnc43 := NB266_265.out
        have hnb44 := NB265_267.out
        have hnc44 := NB267_265.out
        have hcz45_0 : w10.cell? ⟨gb265, 0, none⟩ = some (.bool a0_0) := (blk_cell BK265.out 0).trans rfl
        have hcz45_1 : w10.cell? ⟨gb265, 1, none⟩ = some (.int .u32 a0_1) := (blk_cell BK265.out 1).trans rfl
        have hcz45_2 : w10.cell? ⟨gb265, 2, none⟩ = some (.int .u8 a0_2) := (blk_cell BK265.out 2).trans rfl
        have hcz45_3 : w10.cell? ⟨gb265, 3, none⟩ = some (.int .u8 a0_3) := (blk_cell BK265.out 3).trans rfl
        have hcz45_4 : w10.cell? ⟨gb265, 4, none⟩ = some (.int .u8 a0_4) := (blk_cell BK265.out 4).trans rfl
        have hcz45_5 : w10.cell? ⟨gb265, 5, none⟩ = some (.int .u16 a0_5) := (blk_cell BK265.out 5).trans rfl
        have hcz45_6 : w10.cell? ⟨gb265, 6, none⟩ = some (.int .u16 a0_6) := (blk_cell BK265.out 6).trans rfl
        have hfz45_0 := blk_frozen BK265.out 0
        have hfz45_1 := blk_frozen BK265.out 1
        have hfz45_2 := blk_frozen BK265.out 2
        have hfz45_3 := blk_frozen BK265.out 3
        have hfz45_4 := blk_frozen BK265.out 4
        have hfz45_5 := blk_frozen BK265.out 5
        have hfz45_6 := blk_frozen BK265.out 6
        go_wp2_with (first | ((with_reducible refine gate_callee (f := 13) rfl ?_); refine goesL_ (some 15) rfl rfl Try.func13 (by kernel_rfl) rfl #[.agg #[.bool a0_0, .int .u32 a0_1, .int .u8 a0_2, .int .u8 a0_3, .int .u8 a0_4, .int .u16 a0_5, .int .u16 a0_6], .agg #[.bool a0_0, .int .u32 a0_1, .int .u8 a0_2, .int .u8 a0_3, .int .u8 a0_4, .int .u16 a0_5, .int .u16 a0_6]] rfl (by (try simp only [List.map_toArray, List.map_cons, List.map_nil]); first | done | rfl | (simp only [List.length_drop, List.length_take]; rfl)) ?_; (with_reducible refine (capa_Subset.calls a0_0 a0_1 a0_2 a0_3 a0_4 a0_5 a0_6 a0_0 a0_1 a0_2 a0_3 a0_4 a0_5 a0_6 true _ A11.out).mono ?_); rintro e w46 ⟨rfl, hb⟩; refine ⟨_, rfl, ?_⟩; have n0_ := Aside0.mk (blk_below (g := gb265) (o := .cells #[.bool a0_0, .int .u32 a0_1, .int .u8 a0_2, .int .u8 a0_3, .int .u8 a0_4, .int .u16 a0_5, .int .u16 a0_6] 27 (0, 0)) (by (with_reducible repeat (first | refine blk_drewN ?_ _ | refine blk_drew ?_ | refine blk_alloc ?_ _)); exact BK265.out) hb); have n1_ := Aside0.mk (blk_below (g := gb266) (o := .cells #[.bool a1_0, .int .u32 a1_1, .int .u8 a1_2, .int .u8 a1_3, .int .u8 a1_4, .int .u16 a1_5, .int .u16 a1_6] 27 (0, 0)) (by (with_reducible repeat (first | refine blk_drewN ?_ _ | refine blk_drew ?_ | refine blk_alloc ?_ _)); exact BK266.out) hb); have n2_ := Aside0.mk (blk_below (g := gb267) (o := .cells #[.bool a2_0, .int .u32 a2_1, .int .u8 a2_2, .int .u8 a2_3, .int .u8 a2_4, .int .u16 a2_5, .int .u16 a2_6] 27 (0, 0)) (by (with_reducible repeat (first | refine blk_drewN ?_ _ | refine blk_drew ?_ | refine blk_alloc ?_ _)); exact BK267.out) hb); have n3_ := Aside0.mk (below_step (by repeat (first | (with_reducible first | exact HB.out | apply below_alloc | apply pw_below_drewN | apply below_drew1 | refine below_set ?_ GE265.out | refine below_set ?_ GE266.out | refine below_set ?_ GE267.out) | exact HB.out)) hb); clear BK265; clear BK266; clear BK267; clear HB; have BK265 := n0_; have BK266 := n1_; have BK267 := n2_; have HB := n3_; clear n0_ n1_ n2_ n3_; (try clear hb); (try clear hb2); (try clear hk); (try clear hi); have hcz47_0 : w46.cell? ⟨gb265, 0, none⟩ = some (.bool a0_0) := (blk_cell BK265.out 0).trans rfl; have hcz47_1 : w46.cell? ⟨gb265, 1, none⟩ = some (.int .u32 a0_1) := (blk_cell BK265.out 1).trans rfl; have hcz47_2 : w46.cell? ⟨gb265, 2, none⟩ = some (.int .u8 a0_2) := (blk_cell BK265.out 2).trans rfl; have hcz47_3 : w46.cell? ⟨gb265, 3, none⟩ = some (.int .u8 a0_3) := (blk_cell BK265.out 3).trans rfl; have hcz47_4 : w46.cell? ⟨gb265, 4, none⟩ = some (.int .u8 a0_4) := (blk_cell BK265.out 4).trans rfl; have hcz47_5 : w46.cell? ⟨gb265, 5, none⟩ = some (.int .u16 a0_5) := (blk_cell BK265.out 5).trans rfl; have hcz47_6 : w46.cell? ⟨gb265, 6, none⟩ = some (.int .u16 a0_6) := (blk_cell BK265.out 6).trans rfl; have hfz47_0 := blk_frozen BK265.out 0; have hfz47_1 := blk_frozen BK265.out 1; have hfz47_2 := blk_frozen BK265.out 2; have hfz47_3 := blk_frozen BK265.out 3; have hfz47_4 := blk_frozen BK265.out 4; have hfz47_5 := blk_frozen BK265.out 5; have hfz47_6 := blk_frozen BK265.out 6; have hnb48 := NB266_267.out; have hnc48 := NB267_266.out; have hcz49_0 : w46.cell? ⟨gb266, 0, none⟩ = some (.bool a1_0) := (blk_cell BK266.out 0).trans rfl; have hcz49_1 : w46.cell? ⟨gb266, 1, none⟩ = some (.int .u32 a1_1) := (blk_cell BK266.out 1).trans rfl; have hcz49_2 : w46.cell? ⟨gb266, 2, none⟩ = some (.int .u8 a1_2) := (blk_cell BK266.out 2).trans rfl; have hcz49_3 : w46.cell? ⟨gb266, 3, none⟩ = some (.int .u8 a1_3) := (blk_cell BK266.out 3).trans rfl; have hcz49_4 : w46.cell? ⟨gb266, 4, none⟩ = some (.int .u8 a1_4) := (blk_cell BK266.out 4).trans rfl; have hcz49_5 : w46.cell? ⟨gb266, 5, none⟩ = some (.int .u16 a1_5) := (blk_cell BK266.out 5).trans rfl; have hcz49_6 : w46.cell? ⟨gb266, 6, none⟩ = some (.int .u16 a1_6) := (blk_cell BK266.out 6).trans rfl; have hfz49_0 := blk_frozen BK266.out 0; have hfz49_1 := blk_frozen BK266.out 1; have hfz49_2 := blk_frozen BK266.out 2; have hfz49_3 := blk_frozen BK266.out 3; have hfz49_4 := blk_frozen BK266.out 4; have hfz49_5 := blk_frozen BK266.out 5; have hfz49_6 := blk_frozen BK266.out 6) | (go_at_call 13; (with_reducible refine (capa_Subset.calls a0_0 a0_1 a0_2 a0_3 a0_4 a0_5 a0_6 a1_0 a1_1 a1_2 a1_3 a1_4 a1_5 a1_6 false _ A13.out).mono ?_); rintro e w50 ⟨rfl, hb⟩; have n0_ := Aside0.mk (blk_below (g := gb265) (o := .cells #[.bool a0_0, .int .u32 a0_1, .int .u8 a0_2, .int .u8 a0_3, .int .u8 a0_4, .int .u16 a0_5, .int .u16 a0_6] 27 (0, 0)) (by (with_reducible repeat (first | refine blk_drewN ?_ _ | refine blk_drew ?_ | refine blk_alloc ?_ _)); exact BK265.out) hb); have n1_ := Aside0.mk (blk_below (g := gb266) (o := .cells #[.bool a1_0, .int .u32 a1_1, .int .u8 a1_2, .int .u8 a1_3, .int .u8 a1_4, .int .u16 a1_5, .int .u16 a1_6] 27 (0, 0)) (by (with_reducible repeat (first | refine blk_drewN ?_ _ | refine blk_drew ?_ | refine blk_alloc ?_ _)); exact BK266.out) hb); have n2_ := Aside0.mk (blk_below (g := gb267) (o := .cells #[.bool a2_0, .int .u32 a2_1, .int .u8 a2_2, .int .u8 a2_3, .int .u8 a2_4, .int .u16 a2_5, .int .u16 a2_6] 27 (0, 0)) (by (with_reducible repeat (first | refine blk_drewN ?_ _ | refine blk_drew ?_ | refine blk_alloc ?_ _)); exact BK267.out) hb); have n3_ := Aside0.mk (below_step (by repeat (first | (with_reducible first | exact HB.out | apply below_alloc | apply pw_below_drewN | apply below_drew1 | refine below_set ?_ GE265.out | refine below_set ?_ GE266.out | refine below_set ?_ GE267.out) | exact HB.out)) hb); clear BK265; clear BK266; clear BK267; clear HB; have BK265 := n0_; have BK266 := n1_; have BK267 := n2_; have HB := n3_; clear n0_ n1_ n2_ n3_; (try clear hb); (try clear hb2); (try clear hk); (try clear hi)))
        go_meet
        case rel => exact ⟨_, (false), (by first | rfl | (simp; done) | (simp [*]; done)), H', ⟨by first | omega | exact Nat.le_refl _⟩, ⟨by (with_reducible repeat (first | refine blk_drewN ?_ _ | refine blk_drew ?_ | refine blk_alloc ?_ _)); exact BK265.out⟩, ⟨by (with_reducible repeat (first | refine blk_drewN ?_ _ | refine blk_drew ?_ | refine blk_alloc ?_ _)); exact BK266.out⟩, ⟨by (with_reducible repeat (first | refine blk_drewN ?_ _ | refine blk_drew ?_ | refine blk_alloc ?_ _)); exact BK267.out⟩, ⟨by repeat (first | (with_reducible first | exact HB.out | apply below_alloc | apply pw_below_drewN | apply below_drew1 | refine below_set ?_ GE265.out | refine below_set ?_ GE266.out | refine below_set ?_ GE267.out) | exact HB.out)⟩⟩
    · replace c12 := Bool.eq_false_iff.mpr c12
      subst c12
      have H1 : (bulwarklaw03_CapaOrder.j0 k a3 a4 a5 true a0_0 a0_1 a0_2 a0_3 a0_4 a0_5 a0_6 a1_0 a1_1 a1_2 a1_3 a1_4 a1_5 a1_6) = some r := by rw [if_neg (show ¬ (false = true) by decide)] at H; exact H
      clear H
      have H := H1
      clear H1
      have H' := Aside0.mk H
      clear H
      have hnb51 := NB265_266.out
      have hnc51 := NB266_265.out
      have hnb52 := NB265_267.out
      have hnc52 := NB267_265.out
      have hcz53_0 : w10.cell? ⟨gb265, 0, none⟩ = some (.bool a0_0) := (blk_cell BK265.out 0).trans rfl
      have hcz53_1 : w10.cell? ⟨gb265, 1, none⟩ = some (.int .u32 a0_1) := (blk_cell BK265.out 1).trans rfl
      have hcz53_2 : w10.cell? ⟨gb265, 2, none⟩ = some (.int .u8 a0_2) := (blk_cell BK265.out 2).trans rfl
      have hcz53_3 : w10.cell? ⟨gb265, 3, none⟩ = some (.int .u8 a0_3) := (blk_cell BK265.out 3).trans rfl
      have hcz53_4 : w10.cell? ⟨gb265, 4, none⟩ = some (.int .u8 a0_4) := (blk_cell BK265.out 4).trans rfl
      have hcz53_5 : w10.cell? ⟨gb265, 5, none⟩ = some (.int .u16 a0_5) := (blk_cell BK265.out 5).trans rfl
      have hcz53_6 : w10.cell? ⟨gb265, 6, none⟩ = some (.int .u16 a0_6) := (blk_cell BK265.out 6).trans rfl
      have hfz53_0 := blk_frozen BK265.out 0
      have hfz53_1 := blk_frozen BK265.out 1
      have hfz53_2 := blk_frozen BK265.out 2
      have hfz53_3 := blk_frozen BK265.out 3
      have hfz53_4 := blk_frozen BK265.out 4
      have hfz53_5 := blk_frozen BK265.out 5
      have hfz53_6 := blk_frozen BK265.out 6
      go_wp2_with (first | ((with_reducible refine gate_callee (f := 13) rfl ?_); refine goesL_ (some 15) rfl rfl Try.func13 (by kernel_rfl) rfl #[.agg #[.bool a0_0, .int .u32 a0_1, .int .u8 a0_2, .int .u8 a0_3, .int .u8 a0_4, .int .u16 a0_5, .int .u16 a0_6], .agg #[.bool a0_0, .int .u32 a0_1, .int .u8 a0_2, .int .u8 a0_3, .int .u8 a0_4, .int .u16 a0_5, .int .u16 a0_6]] rfl (by (try simp only [List.map_toArray, List.map_cons, List.map_nil]); first | done | rfl | (simp only [List.length_drop, List.length_take]; rfl)) ?_; (with_reducible refine (capa_Subset.calls a0_0 a0_1 a0_2 a0_3 a0_4 a0_5 a0_6 a0_0 a0_1 a0_2 a0_3 a0_4 a0_5 a0_6 false _ A11.out).mono ?_); rintro e w54 ⟨rfl, hb⟩; refine ⟨_, rfl, ?_⟩; have n0_ := Aside0.mk (blk_below (g := gb265) (o := .cells #[.bool a0_0, .int .u32 a0_1, .int .u8 a0_2, .int .u8 a0_3, .int .u8 a0_4, .int .u16 a0_5, .int .u16 a0_6] 27 (0, 0)) (by (with_reducible repeat (first | refine blk_drewN ?_ _ | refine blk_drew ?_ | refine blk_alloc ?_ _)); exact BK265.out) hb); have n1_ := Aside0.mk (blk_below (g := gb266) (o := .cells #[.bool a1_0, .int .u32 a1_1, .int .u8 a1_2, .int .u8 a1_3, .int .u8 a1_4, .int .u16 a1_5, .int .u16 a1_6] 27 (0, 0)) (by (with_reducible repeat (first | refine blk_drewN ?_ _ | refine blk_drew ?_ | refine blk_alloc ?_ _)); exact BK266.out) hb); have n2_ := Aside0.mk (blk_below (g := gb267) (o := .cells #[.bool a2_0, .int .u32 a2_1, .int .u8 a2_2, .int .u8 a2_3, .int .u8 a2_4, .int .u16 a2_5, .int .u16 a2_6] 27 (0, 0)) (by (with_reducible repeat (first | refine blk_drewN ?_ _ | refine blk_drew ?_ | refine blk_alloc ?_ _)); exact BK267.out) hb); have n3_ := Aside0.mk (below_step (by repeat (first | (with_reducible first | exact HB.out | apply below_alloc | apply pw_below_drewN | apply below_drew1 | refine below_set ?_ GE265.out | refine below_set ?_ GE266.out | refine below_set ?_ GE267.out) | exact HB.out)) hb); clear BK265; clear BK266; clear BK267; clear HB; have BK265 := n0_; have BK266 := n1_; have BK267 := n2_; have HB := n3_; clear n0_ n1_ n2_ n3_; (try clear hb); (try clear hb2); (try clear hk); (try clear hi)))
      go_meet
      case rel => exact ⟨_, (true), (by first | rfl | (simp; done) | (simp [*]; done)), H', ⟨by first | omega | exact Nat.le_refl _⟩, ⟨by (with_reducible repeat (first | refine blk_drewN ?_ _ | refine blk_drew ?_ | refine blk_alloc ?_ _)); exact BK265.out⟩, ⟨by (with_reducible repeat (first | refine blk_drewN ?_ _ | refine blk_drew ?_ | refine blk_alloc ?_ _)); exact BK266.out⟩, ⟨by (with_reducible repeat (first | refine blk_drewN ?_ _ | refine blk_drew ?_ | refine blk_alloc ?_ _)); exact BK267.out⟩, ⟨by repeat (first | (with_reducible first | exact HB.out | apply below_alloc | apply pw_below_drewN | apply below_drew1 | refine below_set ?_ GE265.out | refine below_set ?_ GE266.out | refine below_set ?_ GE267.out) | exact HB.out)⟩⟩
  case rest =>
    clear HC7
    try clear c1
    try clear c2
    try clear p2
    try clear c3
    try clear c4
    try clear c5
    try clear c12
    try clear c13
    try clear c14
    try clear c16
    try clear c18
    try clear c19
    try clear c23
    try clear c32
    try clear c33
    try clear c37
    try clear c43
    try clear c44
    try clear c48
    try clear c51
    try clear c52
    try clear hcz20_0
    try clear hcz20_1
    try clear hcz20_2
    try clear hcz20_3
    try clear hcz20_4
    try clear hcz20_5
    try clear hcz20_6
    try clear hcz22_0
    try clear hcz22_1
    try clear hcz22_2
    try clear hcz22_3
    try clear hcz22_4
    try clear hcz22_5
    try clear hcz22_6
    try clear hcz24_0
    try clear hcz24_1
    try clear hcz24_2
    try clear hcz24_3
    try clear hcz24_4
    try clear hcz24_5
    try clear hcz24_6
    try clear hcz26_0
    try clear hcz26_1
    try clear hcz26_2
    try clear hcz26_3
    try clear hcz26_4
    try clear hcz26_5
    try clear hcz26_6
    try clear hcz27_0
    try clear hcz27_1
    try clear hcz27_2
    try clear hcz27_3
    try clear hcz27_4
    try clear hcz27_5
    try clear hcz27_6
    try clear hcz29_0
    try clear hcz29_1
    try clear hcz29_2
    try clear hcz29_3
    try clear hcz29_4
    try clear hcz29_5
    try clear hcz29_6
    try clear hcz30_0
    try clear hcz30_1
    try clear hcz30_2
    try clear hcz30_3
    try clear hcz30_4
    try clear hcz30_5
    try clear hcz30_6
    try clear hcz34_0
    try clear hcz34_1
    try clear hcz34_2
    try clear hcz34_3
    try clear hcz34_4
    try clear hcz34_5
    try clear hcz34_6
    try clear hcz36_0
    try clear hcz36_1
    try clear hcz36_2
    try clear hcz36_3
    try clear hcz36_4
    try clear hcz36_5
    try clear hcz36_6
    try clear hcz38_0
    try clear hcz38_1
    try clear hcz38_2
    try clear hcz38_3
    try clear hcz38_4
    try clear hcz38_5
    try clear hcz38_6
    try clear hcz40_0
    try clear hcz40_1
    try clear hcz40_2
    try clear hcz40_3
    try clear hcz40_4
    try clear hcz40_5
    try clear hcz40_6
    try clear hcz41_0
    try clear hcz41_1
    try clear hcz41_2
    try clear hcz41_3
    try clear hcz41_4
    try clear hcz41_5
    try clear hcz41_6
    try clear hcz45_0
    try clear hcz45_1
    try clear hcz45_2
    try clear hcz45_3
    try clear hcz45_4
    try clear hcz45_5
    try clear hcz45_6
    try clear hcz47_0
    try clear hcz47_1
    try clear hcz47_2
    try clear hcz47_3
    try clear hcz47_4
    try clear hcz47_5
    try clear hcz47_6
    try clear hcz49_0
    try clear hcz49_1
    try clear hcz49_2
    try clear hcz49_3
    try clear hcz49_4
    try clear hcz49_5
    try clear hcz49_6
    try clear hcz53_0
    try clear hcz53_1
    try clear hcz53_2
    try clear hcz53_3
    try clear hcz53_4
    try clear hcz53_5
    try clear hcz53_6
    try clear hfz20_0
    try clear hfz20_1
    try clear hfz20_2
    try clear hfz20_3
    try clear hfz20_4
    try clear hfz20_5
    try clear hfz20_6
    try clear hfz22_0
    try clear hfz22_1
    try clear hfz22_2
    try clear hfz22_3
    try clear hfz22_4
    try clear hfz22_5
    try clear hfz22_6
    try clear hfz24_0
    try clear hfz24_1
    try clear hfz24_2
    try clear hfz24_3
    try clear hfz24_4
    try clear hfz24_5
    try clear hfz24_6
    try clear hfz26_0
    try clear hfz26_1
    try clear hfz26_2
    try clear hfz26_3
    try clear hfz26_4
    try clear hfz26_5
    try clear hfz26_6
    try clear hfz27_0
    try clear hfz27_1
    try clear hfz27_2
    try clear hfz27_3
    try clear hfz27_4
    try clear hfz27_5
    try clear hfz27_6
    try clear hfz29_0
    try clear hfz29_1
    try clear hfz29_2
    try clear hfz29_3
    try clear hfz29_4
    try clear hfz29_5
    try clear hfz29_6
    try clear hfz30_0
    try clear hfz30_1
    try clear hfz30_2
    try clear hfz30_3
    try clear hfz30_4
    try clear hfz30_5
    try clear hfz30_6
    try clear hfz34_0
    try clear hfz34_1
    try clear hfz34_2
    try clear hfz34_3
    try clear hfz34_4
    try clear hfz34_5
    try clear hfz34_6
    try clear hfz36_0
    try clear hfz36_1
    try clear hfz36_2
    try clear hfz36_3
    try clear hfz36_4
    try clear hfz36_5
    try clear hfz36_6
    try clear hfz38_0
    try clear hfz38_1
    try clear hfz38_2
    try clear hfz38_3
    try clear hfz38_4
    try clear hfz38_5
    try clear hfz38_6
    try clear hfz40_0
    try clear hfz40_1
    try clear hfz40_2
    try clear hfz40_3
    try clear hfz40_4
    try clear hfz40_5
    try clear hfz40_6
    try clear hfz41_0
    try clear hfz41_1
    try clear hfz41_2
    try clear hfz41_3
    try clear hfz41_4
    try clear hfz41_5
    try clear hfz41_6
    try clear hfz45_0
    try clear hfz45_1
    try clear hfz45_2
    try clear hfz45_3
    try clear hfz45_4
    try clear hfz45_5
    try clear hfz45_6
    try clear hfz47_0
    try clear hfz47_1
    try clear hfz47_2
    try clear hfz47_3
    try clear hfz47_4
    try clear hfz47_5
    try clear hfz47_6
    try clear hfz49_0
    try clear hfz49_1
    try clear hfz49_2
    try clear hfz49_3
    try clear hfz49_4
    try clear hfz49_5
    try clear hfz49_6
    try clear hfz53_0
    try clear hfz53_1
    try clear hfz53_2
    try clear hfz53_3
    try clear hfz53_4
    try clear hfz53_5
    try clear hfz53_6
    obtain ⟨kq, x32_6, rfl, HA, HJ6, BK265, BK266, BK267, HB⟩ := hcut
    cases kq with
    | zero => exact absurd HA.out (by simp [bulwarklaw03_CapaOrder.j0])
    | succ kj6 =>
      have H := HA.out
      clear HA
      simp only [bulwarklaw03_CapaOrder.j0] at H
      by_cases c55 : x32_6 = true
      · subst c55
        have H1 : (some false) = some r := by rw [if_pos rfl] at H; exact H
        exact absurd ((Option.some.inj H1).trans hr'.out) (by decide)
      · replace c55 := Bool.eq_false_iff.mpr c55
        subst c55
        have H1 : ((capa_Subset.f a0_0 a0_1 a0_2 a0_3 a0_4 a0_5 a0_6 a1_0 a1_1 a1_2 a1_3 a1_4 a1_5 a1_6).bind fun t272 => (if t272 = true then (if a1_3 = 0 then ((capa_May.f kj6 a0_0 a0_1 a0_2 a0_3 a0_4 a0_5 a0_6 a3 a4 a5).bind fun t273 => (if t273 = true then ((capa_May.f kj6 a1_0 a1_1 a1_2 a1_3 a1_4 a1_5 a1_6 a3 a4 a5).bind fun t274 => (bulwarklaw03_CapaOrder.j1 kj6 (!t274))) else (bulwarklaw03_CapaOrder.j1 kj6 false))) else (bulwarklaw03_CapaOrder.j1 kj6 false)) else (bulwarklaw03_CapaOrder.j1 kj6 false))) = some r := by rw [if_neg (show ¬ (false = true) by decide)] at H; exact H
        clear H
        have H := H1
        clear H1
        have HC56 := Aside0.mk H
        clear H
        go_upto_region 3 with (fail)
        go_cut [55] (fun v55 wc => ∃ (kq : Nat) (x55_55 : Bool), v55 = .bool x55_55 ∧ Aside0 (bulwarklaw03_CapaOrder.j1 kq x55_55 = some r) ∧ Aside0 (kq ≤ kj6) ∧ Aside0 (wc.heap[gb265]? = some (.cells #[.bool a0_0, .int .u32 a0_1, .int .u8 a0_2, .int .u8 a0_3, .int .u8 a0_4, .int .u16 a0_5, .int .u16 a0_6] 27 (0, 0))) ∧ Aside0 (wc.heap[gb266]? = some (.cells #[.bool a1_0, .int .u32 a1_1, .int .u8 a1_2, .int .u8 a1_3, .int .u8 a1_4, .int .u16 a1_5, .int .u16 a1_6] 27 (0, 0))) ∧ Aside0 (wc.heap[gb267]? = some (.cells #[.bool a2_0, .int .u32 a2_1, .int .u8 a2_2, .int .u8 a2_3, .int .u8 a2_4, .int .u16 a2_5, .int .u16 a2_6] 27 (0, 0))) ∧ Aside0 (Below w.heap.size w wc))
        case first =>
          have H := HC56.out
          clear HC56
          replace H := Option.bind_eq_some_iff.mp H
          obtain ⟨t272, A570, H⟩ := H
          replace H : (if t272 = true then (if a1_3 = 0 then ((capa_May.f kj6 a0_0 a0_1 a0_2 a0_3 a0_4 a0_5 a0_6 a3 a4 a5).bind fun t273 => (if t273 = true then ((capa_May.f kj6 a1_0 a1_1 a1_2 a1_3 a1_4 a1_5 a1_6 a3 a4 a5).bind fun t274 => (bulwarklaw03_CapaOrder.j1 kj6 (!t274))) else (bulwarklaw03_CapaOrder.j1 kj6 false))) else (bulwarklaw03_CapaOrder.j1 kj6 false)) else (bulwarklaw03_CapaOrder.j1 kj6 false)) = some r := H
          have A57 := Aside0.mk A570
          clear A570
          by_cases c58 : t272 = true
          · subst c58
            have H1 : (if a1_3 = 0 then ((capa_May.f kj6 a0_0 a0_1 a0_2 a0_3 a0_4 a0_5 a0_6 a3 a4 a5).bind fun t273 => (if t273 = true then ((capa_May.f kj6 a1_0 a1_1 a1_2 a1_3 a1_4 a1_5 a1_6 a3 a4 a5).bind fun t274 => (bulwarklaw03_CapaOrder.j1 kj6 (!t274))) else (bulwarklaw03_CapaOrder.j1 kj6 false))) else (bulwarklaw03_CapaOrder.j1 kj6 false)) = some r := by rw [if_pos rfl] at H; exact H
            clear H
            have H := H1
            clear H1
            by_cases c59 : a1_3 = 0
            · rw [if_pos c59] at H
              have c59b0 : (a1_3 == 0) = true := beq_iff_eq.mpr c59
              have c59b1 : (a1_3 != 0) = false := bne_eq_false_iff_eq.mpr c59
              clear c59
              (first | rw [c59b0] | (simp only [i64_w, i32_w]; rw [c59b0]) | skip)
              replace H := Option.bind_eq_some_iff.mp H
              obtain ⟨t273, A600, H⟩ := H
              replace H : (if t273 = true then ((capa_May.f kj6 a1_0 a1_1 a1_2 a1_3 a1_4 a1_5 a1_6 a3 a4 a5).bind fun t274 => (bulwarklaw03_CapaOrder.j1 kj6 (!t274))) else (bulwarklaw03_CapaOrder.j1 kj6 false)) = some r := H
              have A60 := Aside0.mk A600
              clear A600
              by_cases c61 : t273 = true
              · subst c61
                have H1 : ((capa_May.f kj6 a1_0 a1_1 a1_2 a1_3 a1_4 a1_5 a1_6 a3 a4 a5).bind fun t274 => (bulwarklaw03_CapaOrder.j1 kj6 (!t274))) = some r := by rw [if_pos rfl] at H; exact H
                clear H
                have H := H1
                clear H1
                replace H := Option.bind_eq_some_iff.mp H
                obtain ⟨t274, A620, H⟩ := H
                replace H : (bulwarklaw03_CapaOrder.j1 kj6 (!t274)) = some r := H
                have A62 := Aside0.mk A620
                clear A620
                have H' := Aside0.mk H
                clear H
                have hnb63 := NB265_266.out
                have hnc63 := NB266_265.out
                have hnb64 := NB265_267.out
                have hnc64 := NB267_265.out
                have hcz65_0 : wc.cell? ⟨gb265, 0, none⟩ = some (.bool a0_0) := (blk_cell BK265.out 0).trans rfl
                have hcz65_1 : wc.cell? ⟨gb265, 1, none⟩ = some (.int .u32 a0_1) := (blk_cell BK265.out 1).trans rfl
                have hcz65_2 : wc.cell? ⟨gb265, 2, none⟩ = some (.int .u8 a0_2) := (blk_cell BK265.out 2).trans rfl
                have hcz65_3 : wc.cell? ⟨gb265, 3, none⟩ = some (.int .u8 a0_3) := (blk_cell BK265.out 3).trans rfl
                have hcz65_4 : wc.cell? ⟨gb265, 4, none⟩ = some (.int .u8 a0_4) := (blk_cell BK265.out 4).trans rfl
                have hcz65_5 : wc.cell? ⟨gb265, 5, none⟩ = some (.int .u16 a0_5) := (blk_cell BK265.out 5).trans rfl
                have hcz65_6 : wc.cell? ⟨gb265, 6, none⟩ = some (.int .u16 a0_6) := (blk_cell BK265.out 6).trans rfl
                have hfz65_0 := blk_frozen BK265.out 0
                have hfz65_1 := blk_frozen BK265.out 1
                have hfz65_2 := blk_frozen BK265.out 2
                have hfz65_3 := blk_frozen BK265.out 3
                have hfz65_4 := blk_frozen BK265.out 4
                have hfz65_5 := blk_frozen BK265.out 5
                have hfz65_6 := blk_frozen BK265.out 6
                have hnb66 := NB266_267.out
                have hnc66 := NB267_266.out
                have hcz67_0 : wc.cell? ⟨gb266, 0, none⟩ = some (.bool a1_0) := (blk_cell BK266.out 0).trans rfl
                have hcz67_1 : wc.cell? ⟨gb266, 1, none⟩ = some (.int .u32 a1_1) := (blk_cell BK266.out 1).trans rfl
                have hcz67_2 : wc.cell? ⟨gb266, 2, none⟩ = some (.int .u8 a1_2) := (blk_cell BK266.out 2).trans rfl
                have hcz67_3 : wc.cell? ⟨gb266, 3, none⟩ = some (.int .u8 a1_3) := (blk_cell BK266.out 3).trans rfl
                have hcz67_4 : wc.cell? ⟨gb266, 4, none⟩ = some (.int .u8 a1_4) := (blk_cell BK266.out 4).trans rfl
                have hcz67_5 : wc.cell? ⟨gb266, 5, none⟩ = some (.int .u16 a1_5) := (blk_cell BK266.out 5).trans rfl
                have hcz67_6 : wc.cell? ⟨gb266, 6, none⟩ = some (.int .u16 a1_6) := (blk_cell BK266.out 6).trans rfl
                have hfz67_0 := blk_frozen BK266.out 0
                have hfz67_1 := blk_frozen BK266.out 1
                have hfz67_2 := blk_frozen BK266.out 2
                have hfz67_3 := blk_frozen BK266.out 3
                have hfz67_4 := blk_frozen BK266.out 4
                have hfz67_5 := blk_frozen BK266.out 5
                have hfz67_6 := blk_frozen BK266.out 6
                go_wp2_with (first | ((with_reducible refine gate_callee (f := 13) rfl ?_); refine goesL_ (some 35) rfl rfl Try.func13 (by kernel_rfl) rfl #[.agg #[.bool a0_0, .int .u32 a0_1, .int .u8 a0_2, .int .u8 a0_3, .int .u8 a0_4, .int .u16 a0_5, .int .u16 a0_6], .agg #[.bool a1_0, .int .u32 a1_1, .int .u8 a1_2, .int .u8 a1_3, .int .u8 a1_4, .int .u16 a1_5, .int .u16 a1_6]] rfl (by (try simp only [List.map_toArray, List.map_cons, List.map_nil]); first | done | rfl | (simp only [List.length_drop, List.length_take]; rfl)) ?_; (with_reducible refine (capa_Subset.calls a0_0 a0_1 a0_2 a0_3 a0_4 a0_5 a0_6 a1_0 a1_1 a1_2 a1_3 a1_4 a1_5 a1_6 true _ A57.out).mono ?_); rintro e w68 ⟨rfl, hb⟩; refine ⟨_, rfl, ?_⟩; have n0_ := Aside0.mk (blk_below (g := gb265) (o := .cells #[.bool a0_0, .int .u32 a0_1, .int .u8 a0_2, .int .u8 a0_3, .int .u8 a0_4, .int .u16 a0_5, .int .u16 a0_6] 27 (0, 0)) (by (with_reducible repeat (first | refine blk_drewN ?_ _ | refine blk_drew ?_ | refine blk_alloc ?_ _)); exact BK265.out) hb); have n1_ := Aside0.mk (blk_below (g := gb266) (o := .cells #[.bool a1_0, .int .u32 a1_1, .int .u8 a1_2, .int .u8 a1_3, .int .u8 a1_4, .int .u16 a1_5, .int .u16 a1_6] 27 (0, 0)) (by (with_reducible repeat (first | refine blk_drewN ?_ _ | refine blk_drew ?_ | refine blk_alloc ?_ _)); exact BK266.out) hb); have n2_ := Aside0.mk (blk_below (g := gb267) (o := .cells #[.bool a2_0, .int .u32 a2_1, .int .u8 a2_2, .int .u8 a2_3, .int .u8 a2_4, .int .u16 a2_5, .int .u16 a2_6] 27 (0, 0)) (by (with_reducible repeat (first | refine blk_drewN ?_ _ | refine blk_drew ?_ | refine blk_alloc ?_ _)); exact BK267.out) hb); have n3_ := Aside0.mk (below_step (by repeat (first | (with_reducible first | exact HB.out | apply below_alloc | apply pw_below_drewN | apply below_drew1 | refine below_set ?_ GE265.out | refine below_set ?_ GE266.out | refine below_set ?_ GE267.out) | exact HB.out)) hb); clear BK265; clear BK266; clear BK267; clear HB; have BK265 := n0_; have BK266 := n1_; have BK267 := n2_; have HB := n3_; clear n0_ n1_ n2_ n3_; (try clear hb); (try clear hb2); (try clear hk); (try clear hi); have hcz69_0 : w68.cell? ⟨gb266, 0, none⟩ = some (.bool a1_0) := (blk_cell BK266.out 0).trans rfl; have hcz69_1 : w68.cell? ⟨gb266, 1, none⟩ = some (.int .u32 a1_1) := (blk_cell BK266.out 1).trans rfl; have hcz69_2 : w68.cell? ⟨gb266, 2, none⟩ = some (.int .u8 a1_2) := (blk_cell BK266.out 2).trans rfl; have hcz69_3 : w68.cell? ⟨gb266, 3, none⟩ = some (.int .u8 a1_3) := (blk_cell BK266.out 3).trans rfl; have hcz69_4 : w68.cell? ⟨gb266, 4, none⟩ = some (.int .u8 a1_4) := (blk_cell BK266.out 4).trans rfl; have hcz69_5 : w68.cell? ⟨gb266, 5, none⟩ = some (.int .u16 a1_5) := (blk_cell BK266.out 5).trans rfl; have hcz69_6 : w68.cell? ⟨gb266, 6, none⟩ = some (.int .u16 a1_6) := (blk_cell BK266.out 6).trans rfl; have hfz69_0 := blk_frozen BK266.out 0; have hfz69_1 := blk_frozen BK266.out 1; have hfz69_2 := blk_frozen BK266.out 2; have hfz69_3 := blk_frozen BK266.out 3; have hfz69_4 := blk_frozen BK266.out 4; have hfz69_5 := blk_frozen BK266.out 5; have hfz69_6 := blk_frozen BK266.out 6; have hcz70_0 : w68.cell? ⟨gb265, 0, none⟩ = some (.bool a0_0) := (blk_cell BK265.out 0).trans rfl; have hcz70_1 : w68.cell? ⟨gb265, 1, none⟩ = some (.int .u32 a0_1) := (blk_cell BK265.out 1).trans rfl; have hcz70_2 : w68.cell? ⟨gb265, 2, none⟩ = some (.int .u8 a0_2) := (blk_cell BK265.out 2).trans rfl; have hcz70_3 : w68.cell? ⟨gb265, 3, none⟩ = some (.int .u8 a0_3) := (blk_cell BK265.out 3).trans rfl; have hcz70_4 : w68.cell? ⟨gb265, 4, none⟩ = some (.int .u8 a0_4) := (blk_cell BK265.out 4).trans rfl; have hcz70_5 : w68.cell? ⟨gb265, 5, none⟩ = some (.int .u16 a0_5) := (blk_cell BK265.out 5).trans rfl; have hcz70_6 : w68.cell? ⟨gb265, 6, none⟩ = some (.int .u16 a0_6) := (blk_cell BK265.out 6).trans rfl; have hfz70_0 := blk_frozen BK265.out 0; have hfz70_1 := blk_frozen BK265.out 1; have hfz70_2 := blk_frozen BK265.out 2; have hfz70_3 := blk_frozen BK265.out 3; have hfz70_4 := blk_frozen BK265.out 4; have hfz70_5 := blk_frozen BK265.out 5; have hfz70_6 := blk_frozen BK265.out 6) | (go_at_call 15; (with_reducible refine (capa_May.calls kj6 a0_0 a0_1 a0_2 a0_3 a0_4 a0_5 a0_6 a3 a4 a5 true _ A60.out).mono ?_); rintro e w71 ⟨rfl, hb⟩; have n0_ := Aside0.mk (blk_below (g := gb265) (o := .cells #[.bool a0_0, .int .u32 a0_1, .int .u8 a0_2, .int .u8 a0_3, .int .u8 a0_4, .int .u16 a0_5, .int .u16 a0_6] 27 (0, 0)) (by (with_reducible repeat (first | refine blk_drewN ?_ _ | refine blk_drew ?_ | refine blk_alloc ?_ _)); exact BK265.out) hb); have n1_ := Aside0.mk (blk_below (g := gb266) (o := .cells #[.bool a1_0, .int .u32 a1_1, .int .u8 a1_2, .int .u8 a1_3, .int .u8 a1_4, .int .u16 a1_5, .int .u16 a1_6] 27 (0, 0)) (by (with_reducible repeat (first | refine blk_drewN ?_ _ | refine blk_drew ?_ | refine blk_alloc ?_ _)); exact BK266.out) hb); have n2_ := Aside0.mk (blk_below (g := gb267) (o := .cells #[.bool a2_0, .int .u32 a2_1, .int .u8 a2_2, .int .u8 a2_3, .int .u8 a2_4, .int .u16 a2_5, .int .u16 a2_6] 27 (0, 0)) (by (with_reducible repeat (first | refine blk_drewN ?_ _ | refine blk_drew ?_ | refine blk_alloc ?_ _)); exact BK267.out) hb); have n3_ := Aside0.mk (below_step (by repeat (first | (with_reducible first | exact HB.out | apply below_alloc | apply pw_below_drewN | apply below_drew1 | refine below_set ?_ GE265.out | refine below_set ?_ GE266.out | refine below_set ?_ GE267.out) | exact HB.out)) hb); clear BK265; clear BK266; clear BK267; clear HB; have BK265 := n0_; have BK266 := n1_; have BK267 := n2_; have HB := n3_; clear n0_ n1_ n2_ n3_; (try clear hb); (try clear hb2); (try clear hk); (try clear hi); have hcz72_0 : w71.cell? ⟨gb266, 0, none⟩ = some (.bool a1_0) := (blk_cell BK266.out 0).trans rfl; have hcz72_1 : w71.cell? ⟨gb266, 1, none⟩ = some (.int .u32 a1_1) := (blk_cell BK266.out 1).trans rfl; have hcz72_2 : w71.cell? ⟨gb266, 2, none⟩ = some (.int .u8 a1_2) := (blk_cell BK266.out 2).trans rfl; have hcz72_3 : w71.cell? ⟨gb266, 3, none⟩ = some (.int .u8 a1_3) := (blk_cell BK266.out 3).trans rfl; have hcz72_4 : w71.cell? ⟨gb266, 4, none⟩ = some (.int .u8 a1_4) := (blk_cell BK266.out 4).trans rfl; have hcz72_5 : w71.cell? ⟨gb266, 5, none⟩ = some (.int .u16 a1_5) := (blk_cell BK266.out 5).trans rfl; have hcz72_6 : w71.cell? ⟨gb266, 6, none⟩ = some (.int .u16 a1_6) := (blk_cell BK266.out 6).trans rfl; have hfz72_0 := blk_frozen BK266.out 0; have hfz72_1 := blk_frozen BK266.out 1; have hfz72_2 := blk_frozen BK266.out 2; have hfz72_3 := blk_frozen BK266.out 3; have hfz72_4 := blk_frozen BK266.out 4; have hfz72_5 := blk_frozen BK266.out 5; have hfz72_6 := blk_frozen BK266.out 6) | (go_at_call 15; (with_reducible refine (capa_May.calls kj6 a1_0 a1_1 a1_2 a1_3 a1_4 a1_5 a1_6 a3 a4 a5 t274 _ A62.out).mono ?_); rintro e w73 ⟨rfl, hb⟩; have n0_ := Aside0.mk (blk_below (g := gb265) (o := .cells #[.bool a0_0, .int .u32 a0_1, .int .u8 a0_2, .int .u8 a0_3, .int .u8 a0_4, .int .u16 a0_5, .int .u16 a0_6] 27 (0, 0)) (by (with_reducible repeat (first | refine blk_drewN ?_ _ | refine blk_drew ?_ | refine blk_alloc ?_ _)); exact BK265.out) hb); have n1_ := Aside0.mk (blk_below (g := gb266) (o := .cells #[.bool a1_0, .int .u32 a1_1, .int .u8 a1_2, .int .u8 a1_3, .int .u8 a1_4, .int .u16 a1_5, .int .u16 a1_6] 27 (0, 0)) (by (with_reducible repeat (first | refine blk_drewN ?_ _ | refine blk_drew ?_ | refine blk_alloc ?_ _)); exact BK266.out) hb); have n2_ := Aside0.mk (blk_below (g := gb267) (o := .cells #[.bool a2_0, .int .u32 a2_1, .int .u8 a2_2, .int .u8 a2_3, .int .u8 a2_4, .int .u16 a2_5, .int .u16 a2_6] 27 (0, 0)) (by (with_reducible repeat (first | refine blk_drewN ?_ _ | refine blk_drew ?_ | refine blk_alloc ?_ _)); exact BK267.out) hb); have n3_ := Aside0.mk (below_step (by repeat (first | (with_reducible first | exact HB.out | apply below_alloc | apply pw_below_drewN | apply below_drew1 | refine below_set ?_ GE265.out | refine below_set ?_ GE266.out | refine below_set ?_ GE267.out) | exact HB.out)) hb); clear BK265; clear BK266; clear BK267; clear HB; have BK265 := n0_; have BK266 := n1_; have BK267 := n2_; have HB := n3_; clear n0_ n1_ n2_ n3_; (try clear hb); (try clear hb2); (try clear hk); (try clear hi)))
                go_meet
                case rel => exact ⟨_, (!t274), (by first | rfl | (simp; done) | (simp [*]; done)), H', ⟨by have := HJ6.out; first | omega | exact Nat.le_refl _⟩, ⟨by (with_reducible repeat (first | refine blk_drewN ?_ _ | refine blk_drew ?_ | refine blk_alloc ?_ _)); exact BK265.out⟩, ⟨by (with_reducible repeat (first | refine blk_drewN ?_ _ | refine blk_drew ?_ | refine blk_alloc ?_ _)); exact BK266.out⟩, ⟨by (with_reducible repeat (first | refine blk_drewN ?_ _ | refine blk_drew ?_ | refine blk_alloc ?_ _)); exact BK267.out⟩, ⟨by repeat (first | (with_reducible first | exact HB.out | apply below_alloc | apply pw_below_drewN | apply below_drew1 | refine below_set ?_ GE265.out | refine below_set ?_ GE266.out | refine below_set ?_ GE267.out) | exact HB.out)⟩⟩
              · replace c61 := Bool.eq_false_iff.mpr c61
                subst c61
                have H1 : (bulwarklaw03_CapaOrder.j1 kj6 false) = some r := by rw [if_neg (show ¬ (false = true) by decide)] at H; exact H
                clear H
                have H := H1
                clear H1
                have H' := Aside0.mk H
                clear H
                have hnb74 := NB265_266.out
                have hnc74 := NB266_265.out
                have hnb75 := NB265_267.out
                have hnc75 := NB267_265.out
                have hcz76_0 : wc.cell? ⟨gb265, 0, none⟩ = some (.bool a0_0) := (blk_cell BK265.out 0).trans rfl
                have hcz76_1 : wc.cell? ⟨gb265, 1, none⟩ = some (.int .u32 a0_1) := (blk_cell BK265.out 1).trans rfl
                have hcz76_2 : wc.cell? ⟨gb265, 2, none⟩ = some (.int .u8 a0_2) := (blk_cell BK265.out 2).trans rfl
                have hcz76_3 : wc.cell? ⟨gb265, 3, none⟩ = some (.int .u8 a0_3) := (blk_cell BK265.out 3).trans rfl
                have hcz76_4 : wc.cell? ⟨gb265, 4, none⟩ = some (.int .u8 a0_4) := (blk_cell BK265.out 4).trans rfl
                have hcz76_5 : wc.cell? ⟨gb265, 5, none⟩ = some (.int .u16 a0_5) := (blk_cell BK265.out 5).trans rfl
                have hcz76_6 : wc.cell? ⟨gb265, 6, none⟩ = some (.int .u16 a0_6) := (blk_cell BK265.out 6).trans rfl
                have hfz76_0 := blk_frozen BK265.out 0
                have hfz76_1 := blk_frozen BK265.out 1
                have hfz76_2 := blk_frozen BK265.out 2
                have hfz76_3 := blk_frozen BK265.out 3
                have hfz76_4 := blk_frozen BK265.out 4
                have hfz76_5 := blk_frozen BK265.out 5
                have hfz76_6 := blk_frozen BK265.out 6
                have hnb77 := NB266_267.out
                have hnc77 := NB267_266.out
                have hcz78_0 : wc.cell? ⟨gb266, 0, none⟩ = some (.bool a1_0) := (blk_cell BK266.out 0).trans rfl
                have hcz78_1 : wc.cell? ⟨gb266, 1, none⟩ = some (.int .u32 a1_1) := (blk_cell BK266.out 1).trans rfl
                have hcz78_2 : wc.cell? ⟨gb266, 2, none⟩ = some (.int .u8 a1_2) := (blk_cell BK266.out 2).trans rfl
                have hcz78_3 : wc.cell? ⟨gb266, 3, none⟩ = some (.int .u8 a1_3) := (blk_cell BK266.out 3).trans rfl
                have hcz78_4 : wc.cell? ⟨gb266, 4, none⟩ = some (.int .u8 a1_4) := (blk_cell BK266.out 4).trans rfl
                have hcz78_5 : wc.cell? ⟨gb266, 5, none⟩ = some (.int .u16 a1_5) := (blk_cell BK266.out 5).trans rfl
                have hcz78_6 : wc.cell? ⟨gb266, 6, none⟩ = some (.int .u16 a1_6) := (blk_cell BK266.out 6).trans rfl
                have hfz78_0 := blk_frozen BK266.out 0
                have hfz78_1 := blk_frozen BK266.out 1
                have hfz78_2 := blk_frozen BK266.out 2
                have hfz78_3 := blk_frozen BK266.out 3
                have hfz78_4 := blk_frozen BK266.out 4
                have hfz78_5 := blk_frozen BK266.out 5
                have hfz78_6 := blk_frozen BK266.out 6
                go_wp2_with (first | ((with_reducible refine gate_callee (f := 13) rfl ?_); refine goesL_ (some 35) rfl rfl Try.func13 (by kernel_rfl) rfl #[.agg #[.bool a0_0, .int .u32 a0_1, .int .u8 a0_2, .int .u8 a0_3, .int .u8 a0_4, .int .u16 a0_5, .int .u16 a0_6], .agg #[.bool a1_0, .int .u32 a1_1, .int .u8 a1_2, .int .u8 a1_3, .int .u8 a1_4, .int .u16 a1_5, .int .u16 a1_6]] rfl (by (try simp only [List.map_toArray, List.map_cons, List.map_nil]); first | done | rfl | (simp only [List.length_drop, List.length_take]; rfl)) ?_; (with_reducible refine (capa_Subset.calls a0_0 a0_1 a0_2 a0_3 a0_4 a0_5 a0_6 a1_0 a1_1 a1_2 a1_3 a1_4 a1_5 a1_6 true _ A57.out).mono ?_); rintro e w79 ⟨rfl, hb⟩; refine ⟨_, rfl, ?_⟩; have n0_ := Aside0.mk (blk_below (g := gb265) (o := .cells #[.bool a0_0, .int .u32 a0_1, .int .u8 a0_2, .int .u8 a0_3, .int .u8 a0_4, .int .u16 a0_5, .int .u16 a0_6] 27 (0, 0)) (by (with_reducible repeat (first | refine blk_drewN ?_ _ | refine blk_drew ?_ | refine blk_alloc ?_ _)); exact BK265.out) hb); have n1_ := Aside0.mk (blk_below (g := gb266) (o := .cells #[.bool a1_0, .int .u32 a1_1, .int .u8 a1_2, .int .u8 a1_3, .int .u8 a1_4, .int .u16 a1_5, .int .u16 a1_6] 27 (0, 0)) (by (with_reducible repeat (first | refine blk_drewN ?_ _ | refine blk_drew ?_ | refine blk_alloc ?_ _)); exact BK266.out) hb); have n2_ := Aside0.mk (blk_below (g := gb267) (o := .cells #[.bool a2_0, .int .u32 a2_1, .int .u8 a2_2, .int .u8 a2_3, .int .u8 a2_4, .int .u16 a2_5, .int .u16 a2_6] 27 (0, 0)) (by (with_reducible repeat (first | refine blk_drewN ?_ _ | refine blk_drew ?_ | refine blk_alloc ?_ _)); exact BK267.out) hb); have n3_ := Aside0.mk (below_step (by repeat (first | (with_reducible first | exact HB.out | apply below_alloc | apply pw_below_drewN | apply below_drew1 | refine below_set ?_ GE265.out | refine below_set ?_ GE266.out | refine below_set ?_ GE267.out) | exact HB.out)) hb); clear BK265; clear BK266; clear BK267; clear HB; have BK265 := n0_; have BK266 := n1_; have BK267 := n2_; have HB := n3_; clear n0_ n1_ n2_ n3_; (try clear hb); (try clear hb2); (try clear hk); (try clear hi); have hcz80_0 : w79.cell? ⟨gb266, 0, none⟩ = some (.bool a1_0) := (blk_cell BK266.out 0).trans rfl; have hcz80_1 : w79.cell? ⟨gb266, 1, none⟩ = some (.int .u32 a1_1) := (blk_cell BK266.out 1).trans rfl; have hcz80_2 : w79.cell? ⟨gb266, 2, none⟩ = some (.int .u8 a1_2) := (blk_cell BK266.out 2).trans rfl; have hcz80_3 : w79.cell? ⟨gb266, 3, none⟩ = some (.int .u8 a1_3) := (blk_cell BK266.out 3).trans rfl; have hcz80_4 : w79.cell? ⟨gb266, 4, none⟩ = some (.int .u8 a1_4) := (blk_cell BK266.out 4).trans rfl; have hcz80_5 : w79.cell? ⟨gb266, 5, none⟩ = some (.int .u16 a1_5) := (blk_cell BK266.out 5).trans rfl; have hcz80_6 : w79.cell? ⟨gb266, 6, none⟩ = some (.int .u16 a1_6) := (blk_cell BK266.out 6).trans rfl; have hfz80_0 := blk_frozen BK266.out 0; have hfz80_1 := blk_frozen BK266.out 1; have hfz80_2 := blk_frozen BK266.out 2; have hfz80_3 := blk_frozen BK266.out 3; have hfz80_4 := blk_frozen BK266.out 4; have hfz80_5 := blk_frozen BK266.out 5; have hfz80_6 := blk_frozen BK266.out 6; have hcz81_0 : w79.cell? ⟨gb265, 0, none⟩ = some (.bool a0_0) := (blk_cell BK265.out 0).trans rfl; have hcz81_1 : w79.cell? ⟨gb265, 1, none⟩ = some (.int .u32 a0_1) := (blk_cell BK265.out 1).trans rfl; have hcz81_2 : w79.cell? ⟨gb265, 2, none⟩ = some (.int .u8 a0_2) := (blk_cell BK265.out 2).trans rfl; have hcz81_3 : w79.cell? ⟨gb265, 3, none⟩ = some (.int .u8 a0_3) := (blk_cell BK265.out 3).trans rfl; have hcz81_4 : w79.cell? ⟨gb265, 4, none⟩ = some (.int .u8 a0_4) := (blk_cell BK265.out 4).trans rfl; have hcz81_5 : w79.cell? ⟨gb265, 5, none⟩ = some (.int .u16 a0_5) := (blk_cell BK265.out 5).trans rfl; have hcz81_6 : w79.cell? ⟨gb265, 6, none⟩ = some (.int .u16 a0_6) := (blk_cell BK265.out 6).trans rfl; have hfz81_0 := blk_frozen BK265.out 0; have hfz81_1 := blk_frozen BK265.out 1; have hfz81_2 := blk_frozen BK265.out 2; have hfz81_3 := blk_frozen BK265.out 3; have hfz81_4 := blk_frozen BK265.out 4; have hfz81_5 := blk_frozen BK265.out 5; have hfz81_6 := blk_frozen BK265.out 6) | (go_at_call 15; (with_reducible refine (capa_May.calls kj6 a0_0 a0_1 a0_2 a0_3 a0_4 a0_5 a0_6 a3 a4 a5 false _ A60.out).mono ?_); rintro e w82 ⟨rfl, hb⟩; have n0_ := Aside0.mk (blk_below (g := gb265) (o := .cells #[.bool a0_0, .int .u32 a0_1, .int .u8 a0_2, .int .u8 a0_3, .int .u8 a0_4, .int .u16 a0_5, .int .u16 a0_6] 27 (0, 0)) (by (with_reducible repeat (first | refine blk_drewN ?_ _ | refine blk_drew ?_ | refine blk_alloc ?_ _)); exact BK265.out) hb); have n1_ := Aside0.mk (blk_below (g := gb266) (o := .cells #[.bool a1_0, .int .u32 a1_1, .int .u8 a1_2, .int .u8 a1_3, .int .u8 a1_4, .int .u16 a1_5, .int .u16 a1_6] 27 (0, 0)) (by (with_reducible repeat (first | refine blk_drewN ?_ _ | refine blk_drew ?_ | refine blk_alloc ?_ _)); exact BK266.out) hb); have n2_ := Aside0.mk (blk_below (g := gb267) (o := .cells #[.bool a2_0, .int .u32 a2_1, .int .u8 a2_2, .int .u8 a2_3, .int .u8 a2_4, .int .u16 a2_5, .int .u16 a2_6] 27 (0, 0)) (by (with_reducible repeat (first | refine blk_drewN ?_ _ | refine blk_drew ?_ | refine blk_alloc ?_ _)); exact BK267.out) hb); have n3_ := Aside0.mk (below_step (by repeat (first | (with_reducible first | exact HB.out | apply below_alloc | apply pw_below_drewN | apply below_drew1 | refine below_set ?_ GE265.out | refine below_set ?_ GE266.out | refine below_set ?_ GE267.out) | exact HB.out)) hb); clear BK265; clear BK266; clear BK267; clear HB; have BK265 := n0_; have BK266 := n1_; have BK267 := n2_; have HB := n3_; clear n0_ n1_ n2_ n3_; (try clear hb); (try clear hb2); (try clear hk); (try clear hi)))
                go_meet
                case rel => exact ⟨_, (false), (by first | rfl | (simp; done) | (simp [*]; done)), H', ⟨by have := HJ6.out; first | omega | exact Nat.le_refl _⟩, ⟨by (with_reducible repeat (first | refine blk_drewN ?_ _ | refine blk_drew ?_ | refine blk_alloc ?_ _)); exact BK265.out⟩, ⟨by (with_reducible repeat (first | refine blk_drewN ?_ _ | refine blk_drew ?_ | refine blk_alloc ?_ _)); exact BK266.out⟩, ⟨by (with_reducible repeat (first | refine blk_drewN ?_ _ | refine blk_drew ?_ | refine blk_alloc ?_ _)); exact BK267.out⟩, ⟨by repeat (first | (with_reducible first | exact HB.out | apply below_alloc | apply pw_below_drewN | apply below_drew1 | refine below_set ?_ GE265.out | refine below_set ?_ GE266.out | refine below_set ?_ GE267.out) | exact HB.out)⟩⟩
            · rw [if_neg c59] at H
              have c59b0 : (a1_3 == 0) = false := beq_eq_false_iff_ne.mpr c59
              have c59b1 : (a1_3 != 0) = true := bne_iff_ne.mpr c59
              (first | rw [c59b0] | (simp only [i64_w, i32_w]; rw [c59b0]) | skip)
              have H' := Aside0.mk H
              clear H
              have hnb83 := NB265_266.out
              have hnc83 := NB266_265.out
              have hnb84 := NB265_267.out
              have hnc84 := NB267_265.out
              have hcz85_0 : wc.cell? ⟨gb265, 0, none⟩ = some (.bool a0_0) := (blk_cell BK265.out 0).trans rfl
              have hcz85_1 : wc.cell? ⟨gb265, 1, none⟩ = some (.int .u32 a0_1) := (blk_cell BK265.out 1).trans rfl
              have hcz85_2 : wc.cell? ⟨gb265, 2, none⟩ = some (.int .u8 a0_2) := (blk_cell BK265.out 2).trans rfl
              have hcz85_3 : wc.cell? ⟨gb265, 3, none⟩ = some (.int .u8 a0_3) := (blk_cell BK265.out 3).trans rfl
              have hcz85_4 : wc.cell? ⟨gb265, 4, none⟩ = some (.int .u8 a0_4) := (blk_cell BK265.out 4).trans rfl
              have hcz85_5 : wc.cell? ⟨gb265, 5, none⟩ = some (.int .u16 a0_5) := (blk_cell BK265.out 5).trans rfl
              have hcz85_6 : wc.cell? ⟨gb265, 6, none⟩ = some (.int .u16 a0_6) := (blk_cell BK265.out 6).trans rfl
              have hfz85_0 := blk_frozen BK265.out 0
              have hfz85_1 := blk_frozen BK265.out 1
              have hfz85_2 := blk_frozen BK265.out 2
              have hfz85_3 := blk_frozen BK265.out 3
              have hfz85_4 := blk_frozen BK265.out 4
              have hfz85_5 := blk_frozen BK265.out 5
              have hfz85_6 := blk_frozen BK265.out 6
              have hnb86 := NB266_267.out
              have hnc86 := NB267_266.out
              have hcz87_0 : wc.cell? ⟨gb266, 0, none⟩ = some (.bool a1_0) := (blk_cell BK266.out 0).trans rfl
              have hcz87_1 : wc.cell? ⟨gb266, 1, none⟩ = some (.int .u32 a1_1) := (blk_cell BK266.out 1).trans rfl
              have hcz87_2 : wc.cell? ⟨gb266, 2, none⟩ = some (.int .u8 a1_2) := (blk_cell BK266.out 2).trans rfl
              have hcz87_3 : wc.cell? ⟨gb266, 3, none⟩ = some (.int .u8 a1_3) := (blk_cell BK266.out 3).trans rfl
              have hcz87_4 : wc.cell? ⟨gb266, 4, none⟩ = some (.int .u8 a1_4) := (blk_cell BK266.out 4).trans rfl
              have hcz87_5 : wc.cell? ⟨gb266, 5, none⟩ = some (.int .u16 a1_5) := (blk_cell BK266.out 5).trans rfl
              have hcz87_6 : wc.cell? ⟨gb266, 6, none⟩ = some (.int .u16 a1_6) := (blk_cell BK266.out 6).trans rfl
              have hfz87_0 := blk_frozen BK266.out 0
              have hfz87_1 := blk_frozen BK266.out 1
              have hfz87_2 := blk_frozen BK266.out 2
              have hfz87_3 := blk_frozen BK266.out 3
              have hfz87_4 := blk_frozen BK266.out 4
              have hfz87_5 := blk_frozen BK266.out 5
              have hfz87_6 := blk_frozen BK266.out 6
              go_wp2_with (first | ((with_reducible refine gate_callee (f := 13) rfl ?_); refine goesL_ (some 35) rfl rfl Try.func13 (by kernel_rfl) rfl #[.agg #[.bool a0_0, .int .u32 a0_1, .int .u8 a0_2, .int .u8 a0_3, .int .u8 a0_4, .int .u16 a0_5, .int .u16 a0_6], .agg #[.bool a1_0, .int .u32 a1_1, .int .u8 a1_2, .int .u8 a1_3, .int .u8 a1_4, .int .u16 a1_5, .int .u16 a1_6]] rfl (by (try simp only [List.map_toArray, List.map_cons, List.map_nil]); first | done | rfl | (simp only [List.length_drop, List.length_take]; rfl)) ?_; (with_reducible refine (capa_Subset.calls a0_0 a0_1 a0_2 a0_3 a0_4 a0_5 a0_6 a1_0 a1_1 a1_2 a1_3 a1_4 a1_5 a1_6 true _ A57.out).mono ?_); rintro e w88 ⟨rfl, hb⟩; refine ⟨_, rfl, ?_⟩; have n0_ := Aside0.mk (blk_below (g := gb265) (o := .cells #[.bool a0_0, .int .u32 a0_1, .int .u8 a0_2, .int .u8 a0_3, .int .u8 a0_4, .int .u16 a0_5, .int .u16 a0_6] 27 (0, 0)) (by (with_reducible repeat (first | refine blk_drewN ?_ _ | refine blk_drew ?_ | refine blk_alloc ?_ _)); exact BK265.out) hb); have n1_ := Aside0.mk (blk_below (g := gb266) (o := .cells #[.bool a1_0, .int .u32 a1_1, .int .u8 a1_2, .int .u8 a1_3, .int .u8 a1_4, .int .u16 a1_5, .int .u16 a1_6] 27 (0, 0)) (by (with_reducible repeat (first | refine blk_drewN ?_ _ | refine blk_drew ?_ | refine blk_alloc ?_ _)); exact BK266.out) hb); have n2_ := Aside0.mk (blk_below (g := gb267) (o := .cells #[.bool a2_0, .int .u32 a2_1, .int .u8 a2_2, .int .u8 a2_3, .int .u8 a2_4, .int .u16 a2_5, .int .u16 a2_6] 27 (0, 0)) (by (with_reducible repeat (first | refine blk_drewN ?_ _ | refine blk_drew ?_ | refine blk_alloc ?_ _)); exact BK267.out) hb); have n3_ := Aside0.mk (below_step (by repeat (first | (with_reducible first | exact HB.out | apply below_alloc | apply pw_below_drewN | apply below_drew1 | refine below_set ?_ GE265.out | refine below_set ?_ GE266.out | refine below_set ?_ GE267.out) | exact HB.out)) hb); clear BK265; clear BK266; clear BK267; clear HB; have BK265 := n0_; have BK266 := n1_; have BK267 := n2_; have HB := n3_; clear n0_ n1_ n2_ n3_; (try clear hb); (try clear hb2); (try clear hk); (try clear hi); have hcz89_0 : w88.cell? ⟨gb266, 0, none⟩ = some (.bool a1_0) := (blk_cell BK266.out 0).trans rfl; have hcz89_1 : w88.cell? ⟨gb266, 1, none⟩ = some (.int .u32 a1_1) := (blk_cell BK266.out 1).trans rfl; have hcz89_2 : w88.cell? ⟨gb266, 2, none⟩ = some (.int .u8 a1_2) := (blk_cell BK266.out 2).trans rfl; have hcz89_3 : w88.cell? ⟨gb266, 3, none⟩ = some (.int .u8 a1_3) := (blk_cell BK266.out 3).trans rfl; have hcz89_4 : w88.cell? ⟨gb266, 4, none⟩ = some (.int .u8 a1_4) := (blk_cell BK266.out 4).trans rfl; have hcz89_5 : w88.cell? ⟨gb266, 5, none⟩ = some (.int .u16 a1_5) := (blk_cell BK266.out 5).trans rfl; have hcz89_6 : w88.cell? ⟨gb266, 6, none⟩ = some (.int .u16 a1_6) := (blk_cell BK266.out 6).trans rfl; have hfz89_0 := blk_frozen BK266.out 0; have hfz89_1 := blk_frozen BK266.out 1; have hfz89_2 := blk_frozen BK266.out 2; have hfz89_3 := blk_frozen BK266.out 3; have hfz89_4 := blk_frozen BK266.out 4; have hfz89_5 := blk_frozen BK266.out 5; have hfz89_6 := blk_frozen BK266.out 6))
              go_meet
              case rel => exact ⟨_, (false), (by first | rfl | (simp; done) | (simp [*]; done)), H', ⟨by have := HJ6.out; first | omega | exact Nat.le_refl _⟩, ⟨by (with_reducible repeat (first | refine blk_drewN ?_ _ | refine blk_drew ?_ | refine blk_alloc ?_ _)); exact BK265.out⟩, ⟨by (with_reducible repeat (first | refine blk_drewN ?_ _ | refine blk_drew ?_ | refine blk_alloc ?_ _)); exact BK266.out⟩, ⟨by (with_reducible repeat (first | refine blk_drewN ?_ _ | refine blk_drew ?_ | refine blk_alloc ?_ _)); exact BK267.out⟩, ⟨by repeat (first | (with_reducible first | exact HB.out | apply below_alloc | apply pw_below_drewN | apply below_drew1 | refine below_set ?_ GE265.out | refine below_set ?_ GE266.out | refine below_set ?_ GE267.out) | exact HB.out)⟩⟩
          · replace c58 := Bool.eq_false_iff.mpr c58
            subst c58
            have H1 : (bulwarklaw03_CapaOrder.j1 kj6 false) = some r := by rw [if_neg (show ¬ (false = true) by decide)] at H; exact H
            clear H
            have H := H1
            clear H1
            have H' := Aside0.mk H
            clear H
            have hnb90 := NB265_266.out
            have hnc90 := NB266_265.out
            have hnb91 := NB265_267.out
            have hnc91 := NB267_265.out
            have hcz92_0 : wc.cell? ⟨gb265, 0, none⟩ = some (.bool a0_0) := (blk_cell BK265.out 0).trans rfl
            have hcz92_1 : wc.cell? ⟨gb265, 1, none⟩ = some (.int .u32 a0_1) := (blk_cell BK265.out 1).trans rfl
            have hcz92_2 : wc.cell? ⟨gb265, 2, none⟩ = some (.int .u8 a0_2) := (blk_cell BK265.out 2).trans rfl
            have hcz92_3 : wc.cell? ⟨gb265, 3, none⟩ = some (.int .u8 a0_3) := (blk_cell BK265.out 3).trans rfl
            have hcz92_4 : wc.cell? ⟨gb265, 4, none⟩ = some (.int .u8 a0_4) := (blk_cell BK265.out 4).trans rfl
            have hcz92_5 : wc.cell? ⟨gb265, 5, none⟩ = some (.int .u16 a0_5) := (blk_cell BK265.out 5).trans rfl
            have hcz92_6 : wc.cell? ⟨gb265, 6, none⟩ = some (.int .u16 a0_6) := (blk_cell BK265.out 6).trans rfl
            have hfz92_0 := blk_frozen BK265.out 0
            have hfz92_1 := blk_frozen BK265.out 1
            have hfz92_2 := blk_frozen BK265.out 2
            have hfz92_3 := blk_frozen BK265.out 3
            have hfz92_4 := blk_frozen BK265.out 4
            have hfz92_5 := blk_frozen BK265.out 5
            have hfz92_6 := blk_frozen BK265.out 6
            have hnb93 := NB266_267.out
            have hnc93 := NB267_266.out
            have hcz94_0 : wc.cell? ⟨gb266, 0, none⟩ = some (.bool a1_0) := (blk_cell BK266.out 0).trans rfl
            have hcz94_1 : wc.cell? ⟨gb266, 1, none⟩ = some (.int .u32 a1_1) := (blk_cell BK266.out 1).trans rfl
            have hcz94_2 : wc.cell? ⟨gb266, 2, none⟩ = some (.int .u8 a1_2) := (blk_cell BK266.out 2).trans rfl
            have hcz94_3 : wc.cell? ⟨gb266, 3, none⟩ = some (.int .u8 a1_3) := (blk_cell BK266.out 3).trans rfl
            have hcz94_4 : wc.cell? ⟨gb266, 4, none⟩ = some (.int .u8 a1_4) := (blk_cell BK266.out 4).trans rfl
            have hcz94_5 : wc.cell? ⟨gb266, 5, none⟩ = some (.int .u16 a1_5) := (blk_cell BK266.out 5).trans rfl
            have hcz94_6 : wc.cell? ⟨gb266, 6, none⟩ = some (.int .u16 a1_6) := (blk_cell BK266.out 6).trans rfl
            have hfz94_0 := blk_frozen BK266.out 0
            have hfz94_1 := blk_frozen BK266.out 1
            have hfz94_2 := blk_frozen BK266.out 2
            have hfz94_3 := blk_frozen BK266.out 3
            have hfz94_4 := blk_frozen BK266.out 4
            have hfz94_5 := blk_frozen BK266.out 5
            have hfz94_6 := blk_frozen BK266.out 6
            go_wp2_with (first | ((with_reducible refine gate_callee (f := 13) rfl ?_); refine goesL_ (some 35) rfl rfl Try.func13 (by kernel_rfl) rfl #[.agg #[.bool a0_0, .int .u32 a0_1, .int .u8 a0_2, .int .u8 a0_3, .int .u8 a0_4, .int .u16 a0_5, .int .u16 a0_6], .agg #[.bool a1_0, .int .u32 a1_1, .int .u8 a1_2, .int .u8 a1_3, .int .u8 a1_4, .int .u16 a1_5, .int .u16 a1_6]] rfl (by (try simp only [List.map_toArray, List.map_cons, List.map_nil]); first | done | rfl | (simp only [List.length_drop, List.length_take]; rfl)) ?_; (with_reducible refine (capa_Subset.calls a0_0 a0_1 a0_2 a0_3 a0_4 a0_5 a0_6 a1_0 a1_1 a1_2 a1_3 a1_4 a1_5 a1_6 false _ A57.out).mono ?_); rintro e w95 ⟨rfl, hb⟩; refine ⟨_, rfl, ?_⟩; have n0_ := Aside0.mk (blk_below (g := gb265) (o := .cells #[.bool a0_0, .int .u32 a0_1, .int .u8 a0_2, .int .u8 a0_3, .int .u8 a0_4, .int .u16 a0_5, .int .u16 a0_6] 27 (0, 0)) (by (with_reducible repeat (first | refine blk_drewN ?_ _ | refine blk_drew ?_ | refine blk_alloc ?_ _)); exact BK265.out) hb); have n1_ := Aside0.mk (blk_below (g := gb266) (o := .cells #[.bool a1_0, .int .u32 a1_1, .int .u8 a1_2, .int .u8 a1_3, .int .u8 a1_4, .int .u16 a1_5, .int .u16 a1_6] 27 (0, 0)) (by (with_reducible repeat (first | refine blk_drewN ?_ _ | refine blk_drew ?_ | refine blk_alloc ?_ _)); exact BK266.out) hb); have n2_ := Aside0.mk (blk_below (g := gb267) (o := .cells #[.bool a2_0, .int .u32 a2_1, .int .u8 a2_2, .int .u8 a2_3, .int .u8 a2_4, .int .u16 a2_5, .int .u16 a2_6] 27 (0, 0)) (by (with_reducible repeat (first | refine blk_drewN ?_ _ | refine blk_drew ?_ | refine blk_alloc ?_ _)); exact BK267.out) hb); have n3_ := Aside0.mk (below_step (by repeat (first | (with_reducible first | exact HB.out | apply below_alloc | apply pw_below_drewN | apply below_drew1 | refine below_set ?_ GE265.out | refine below_set ?_ GE266.out | refine below_set ?_ GE267.out) | exact HB.out)) hb); clear BK265; clear BK266; clear BK267; clear HB; have BK265 := n0_; have BK266 := n1_; have BK267 := n2_; have HB := n3_; clear n0_ n1_ n2_ n3_; (try clear hb); (try clear hb2); (try clear hk); (try clear hi)))
            go_meet
            case rel => exact ⟨_, (false), (by first | rfl | (simp; done) | (simp [*]; done)), H', ⟨by have := HJ6.out; first | omega | exact Nat.le_refl _⟩, ⟨by (with_reducible repeat (first | refine blk_drewN ?_ _ | refine blk_drew ?_ | refine blk_alloc ?_ _)); exact BK265.out⟩, ⟨by (with_reducible repeat (first | refine blk_drewN ?_ _ | refine blk_drew ?_ | refine blk_alloc ?_ _)); exact BK266.out⟩, ⟨by (with_reducible repeat (first | refine blk_drewN ?_ _ | refine blk_drew ?_ | refine blk_alloc ?_ _)); exact BK267.out⟩, ⟨by repeat (first | (with_reducible first | exact HB.out | apply below_alloc | apply pw_below_drewN | apply below_drew1 | refine below_set ?_ GE265.out | refine below_set ?_ GE266.out | refine below_set ?_ GE267.out) | exact HB.out)⟩⟩
        case rest =>
          clear HC56
          try clear c1
          try clear c2
          try clear p2
          try clear c3
          try clear c4
          try clear c5
          try clear c6
          try clear c7
          try clear c8
          try clear c9
          try clear c12
          try clear c13
          try clear c14
          try clear c16
          try clear c18
          try clear c19
          try clear c23
          try clear c32
          try clear c33
          try clear c37
          try clear c43
          try clear c44
          try clear c48
          try clear c51
          try clear c52
          try clear c55
          try clear c58
          try clear c59
          try clear c59b0
          try clear c59b1
          try clear c61
          try clear c63
          try clear c64
          try clear c66
          try clear c74
          try clear c75
          try clear c77
          try clear c83
          try clear c84
          try clear c86
          try clear c90
          try clear c91
          try clear c93
          try clear hcz20_0
          try clear hcz20_1
          try clear hcz20_2
          try clear hcz20_3
          try clear hcz20_4
          try clear hcz20_5
          try clear hcz20_6
          try clear hcz22_0
          try clear hcz22_1
          try clear hcz22_2
          try clear hcz22_3
          try clear hcz22_4
          try clear hcz22_5
          try clear hcz22_6
          try clear hcz24_0
          try clear hcz24_1
          try clear hcz24_2
          try clear hcz24_3
          try clear hcz24_4
          try clear hcz24_5
          try clear hcz24_6
          try clear hcz26_0
          try clear hcz26_1
          try clear hcz26_2
          try clear hcz26_3
          try clear hcz26_4
          try clear hcz26_5
          try clear hcz26_6
          try clear hcz27_0
          try clear hcz27_1
          try clear hcz27_2
          try clear hcz27_3
          try clear hcz27_4
          try clear hcz27_5
          try clear hcz27_6
          try clear hcz29_0
          try clear hcz29_1
          try clear hcz29_2
          try clear hcz29_3
          try clear hcz29_4
          try clear hcz29_5
          try clear hcz29_6
          try clear hcz30_0
          try clear hcz30_1
          try clear hcz30_2
          try clear hcz30_3
          try clear hcz30_4
          try clear hcz30_5
          try clear hcz30_6
          try clear hcz34_0
          try clear hcz34_1
          try clear hcz34_2
          try clear hcz34_3
          try clear hcz34_4
          try clear hcz34_5
          try clear hcz34_6
          try clear hcz36_0
          try clear hcz36_1
          try clear hcz36_2
          try clear hcz36_3
          try clear hcz36_4
          try clear hcz36_5
          try clear hcz36_6
          try clear hcz38_0
          try clear hcz38_1
          try clear hcz38_2
          try clear hcz38_3
          try clear hcz38_4
          try clear hcz38_5
          try clear hcz38_6
          try clear hcz40_0
          try clear hcz40_1
          try clear hcz40_2
          try clear hcz40_3
          try clear hcz40_4
          try clear hcz40_5
          try clear hcz40_6
          try clear hcz41_0
          try clear hcz41_1
          try clear hcz41_2
          try clear hcz41_3
          try clear hcz41_4
          try clear hcz41_5
          try clear hcz41_6
          try clear hcz45_0
          try clear hcz45_1
          try clear hcz45_2
          try clear hcz45_3
          try clear hcz45_4
          try clear hcz45_5
          try clear hcz45_6
          try clear hcz47_0
          try clear hcz47_1
          try clear hcz47_2
          try clear hcz47_3
          try clear hcz47_4
          try clear hcz47_5
          try clear hcz47_6
          try clear hcz49_0
          try clear hcz49_1
          try clear hcz49_2
          try clear hcz49_3
          try clear hcz49_4
          try clear hcz49_5
          try clear hcz49_6
          try clear hcz53_0
          try clear hcz53_1
          try clear hcz53_2
          try clear hcz53_3
          try clear hcz53_4
          try clear hcz53_5
          try clear hcz53_6
          try clear hcz65_0
          try clear hcz65_1
          try clear hcz65_2
          try clear hcz65_3
          try clear hcz65_4
          try clear hcz65_5
          try clear hcz65_6
          try clear hcz67_0
          try clear hcz67_1
          try clear hcz67_2
          try clear hcz67_3
          try clear hcz67_4
          try clear hcz67_5
          try clear hcz67_6
          try clear hcz69_0
          try clear hcz69_1
          try clear hcz69_2
          try clear hcz69_3
          try clear hcz69_4
          try clear hcz69_5
          try clear hcz69_6
          try clear hcz70_0
          try clear hcz70_1
          try clear hcz70_2
          try clear hcz70_3
          try clear hcz70_4
          try clear hcz70_5
          try clear hcz70_6
          try clear hcz72_0
          try clear hcz72_1
          try clear hcz72_2
          try clear hcz72_3
          try clear hcz72_4
          try clear hcz72_5
          try clear hcz72_6
          try clear hcz76_0
          try clear hcz76_1
          try clear hcz76_2
          try clear hcz76_3
          try clear hcz76_4
          try clear hcz76_5
          try clear hcz76_6
          try clear hcz78_0
          try clear hcz78_1
          try clear hcz78_2
          try clear hcz78_3
          try clear hcz78_4
          try clear hcz78_5
          try clear hcz78_6
          try clear hcz80_0
          try clear hcz80_1
          try clear hcz80_2
          try clear hcz80_3
          try clear hcz80_4
          try clear hcz80_5
          try clear hcz80_6
          try clear hcz81_0
          try clear hcz81_1
          try clear hcz81_2
          try clear hcz81_3
          try clear hcz81_4
          try clear hcz81_5
          try clear hcz81_6
          try clear hcz85_0
          try clear hcz85_1
          try clear hcz85_2
          try clear hcz85_3
          try clear hcz85_4
          try clear hcz85_5
          try clear hcz85_6
          try clear hcz87_0
          try clear hcz87_1
          try clear hcz87_2
          try clear hcz87_3
          try clear hcz87_4
          try clear hcz87_5
          try clear hcz87_6
          try clear hcz89_0
          try clear hcz89_1
          try clear hcz89_2
          try clear hcz89_3
          try clear hcz89_4
          try clear hcz89_5
          try clear hcz89_6
          try clear hcz92_0
          try clear hcz92_1
          try clear hcz92_2
          try clear hcz92_3
          try clear hcz92_4
          try clear hcz92_5
          try clear hcz92_6
          try clear hcz94_0
          try clear hcz94_1
          try clear hcz94_2
          try clear hcz94_3
          try clear hcz94_4
          try clear hcz94_5
          try clear hcz94_6
          try clear hfz20_0
          try clear hfz20_1
          try clear hfz20_2
          try clear hfz20_3
          try clear hfz20_4
          try clear hfz20_5
          try clear hfz20_6
          try clear hfz22_0
          try clear hfz22_1
          try clear hfz22_2
          try clear hfz22_3
          try clear hfz22_4
          try clear hfz22_5
          try clear hfz22_6
          try clear hfz24_0
          try clear hfz24_1
          try clear hfz24_2
          try clear hfz24_3
          try clear hfz24_4
          try clear hfz24_5
          try clear hfz24_6
          try clear hfz26_0
          try clear hfz26_1
          try clear hfz26_2
          try clear hfz26_3
          try clear hfz26_4
          try clear hfz26_5
          try clear hfz26_6
          try clear hfz27_0
          try clear hfz27_1
          try clear hfz27_2
          try clear hfz27_3
          try clear hfz27_4
          try clear hfz27_5
          try clear hfz27_6
          try clear hfz29_0
          try clear hfz29_1
          try clear hfz29_2
          try clear hfz29_3
          try clear hfz29_4
          try clear hfz29_5
          try clear hfz29_6
          try clear hfz30_0
          try clear hfz30_1
          try clear hfz30_2
          try clear hfz30_3
          try clear hfz30_4
          try clear hfz30_5
          try clear hfz30_6
          try clear hfz34_0
          try clear hfz34_1
          try clear hfz34_2
          try clear hfz34_3
          try clear hfz34_4
          try clear hfz34_5
          try clear hfz34_6
          try clear hfz36_0
          try clear hfz36_1
          try clear hfz36_2
          try clear hfz36_3
          try clear hfz36_4
          try clear hfz36_5
          try clear hfz36_6
          try clear hfz38_0
          try clear hfz38_1
          try clear hfz38_2
          try clear hfz38_3
          try clear hfz38_4
          try clear hfz38_5
          try clear hfz38_6
          try clear hfz40_0
          try clear hfz40_1
          try clear hfz40_2
          try clear hfz40_3
          try clear hfz40_4
          try clear hfz40_5
          try clear hfz40_6
          try clear hfz41_0
          try clear hfz41_1
          try clear hfz41_2
          try clear hfz41_3
          try clear hfz41_4
          try clear hfz41_5
          try clear hfz41_6
          try clear hfz45_0
          try clear hfz45_1
          try clear hfz45_2
          try clear hfz45_3
          try clear hfz45_4
          try clear hfz45_5
          try clear hfz45_6
          try clear hfz47_0
          try clear hfz47_1
          try clear hfz47_2
          try clear hfz47_3
          try clear hfz47_4
          try clear hfz47_5
          try clear hfz47_6
          try clear hfz49_0
          try clear hfz49_1
          try clear hfz49_2
          try clear hfz49_3
          try clear hfz49_4
          try clear hfz49_5
          try clear hfz49_6
          try clear hfz53_0
          try clear hfz53_1
          try clear hfz53_2
          try clear hfz53_3
          try clear hfz53_4
          try clear hfz53_5
          try clear hfz53_6
          try clear hfz65_0
          try clear hfz65_1
          try clear hfz65_2
          try clear hfz65_3
          try clear hfz65_4
          try clear hfz65_5
          try clear hfz65_6
          try clear hfz67_0
          try clear hfz67_1
          try clear hfz67_2
          try clear hfz67_3
          try clear hfz67_4
          try clear hfz67_5
          try clear hfz67_6
          try clear hfz69_0
          try clear hfz69_1
          try clear hfz69_2
          try clear hfz69_3
          try clear hfz69_4
          try clear hfz69_5
          try clear hfz69_6
          try clear hfz70_0
          try clear hfz70_1
          try clear hfz70_2
          try clear hfz70_3
          try clear hfz70_4
          try clear hfz70_5
          try clear hfz70_6
          try clear hfz72_0
          try clear hfz72_1
          try clear hfz72_2
          try clear hfz72_3
          try clear hfz72_4
          try clear hfz72_5
          try clear hfz72_6
          try clear hfz76_0
          try clear hfz76_1
          try clear hfz76_2
          try clear hfz76_3
          try clear hfz76_4
          try clear hfz76_5
          try clear hfz76_6
          try clear hfz78_0
          try clear hfz78_1
          try clear hfz78_2
          try clear hfz78_3
          try clear hfz78_4
          try clear hfz78_5
          try clear hfz78_6
          try clear hfz80_0
          try clear hfz80_1
          try clear hfz80_2
          try clear hfz80_3
          try clear hfz80_4
          try clear hfz80_5
          try clear hfz80_6
          try clear hfz81_0
          try clear hfz81_1
          try clear hfz81_2
          try clear hfz81_3
          try clear hfz81_4
          try clear hfz81_5
          try clear hfz81_6
          try clear hfz85_0
          try clear hfz85_1
          try clear hfz85_2
          try clear hfz85_3
          try clear hfz85_4
          try clear hfz85_5
          try clear hfz85_6
          try clear hfz87_0
          try clear hfz87_1
          try clear hfz87_2
          try clear hfz87_3
          try clear hfz87_4
          try clear hfz87_5
          try clear hfz87_6
          try clear hfz89_0
          try clear hfz89_1
          try clear hfz89_2
          try clear hfz89_3
          try clear hfz89_4
          try clear hfz89_5
          try clear hfz89_6
          try clear hfz92_0
          try clear hfz92_1
          try clear hfz92_2
          try clear hfz92_3
          try clear hfz92_4
          try clear hfz92_5
          try clear hfz92_6
          try clear hfz94_0
          try clear hfz94_1
          try clear hfz94_2
          try clear hfz94_3
          try clear hfz94_4
          try clear hfz94_5
          try clear hfz94_6
          try clear p2
          obtain ⟨kq, x55_55, rfl, HA, HJ55, BK265, BK266, BK267, HB⟩ := hcut
          cases kq with
          | zero => exact absurd HA.out (by simp [bulwarklaw03_CapaOrder.j1])
          | succ kj55 =>
            have H := HA.out
            clear HA
            simp only [bulwarklaw03_CapaOrder.j1] at H
            by_cases c96 : x55_55 = true
            · subst c96
              have H1 : (some false) = some r := by rw [if_pos rfl] at H; exact H
              exact absurd ((Option.some.inj H1).trans hr'.out) (by decide)
            · replace c96 := Bool.eq_false_iff.mpr c96
              subst c96
              have H1 : ((bulwarkref00_Same.f kj55 ([] : List Int) ([] : List Int)).bind fun t275 => (if t275 = true then ((bulwarklaw03_lives.f kj55).bind fun t276 => (some t276)) else (some false))) = some r := by rw [if_neg (show ¬ (false = true) by decide)] at H; exact H
              clear H
              have H := H1
              clear H1
              replace H := Option.bind_eq_some_iff.mp H
              obtain ⟨t275, A970, H⟩ := H
              replace H : (if t275 = true then ((bulwarklaw03_lives.f kj55).bind fun t276 => (some t276)) else (some false)) = some r := H
              have A97 := Aside0.mk A970
              clear A970
              by_cases c98 : t275 = true
              · subst c98
                have H1 : ((bulwarklaw03_lives.f kj55).bind fun t276 => (some t276)) = some r := by rw [if_pos rfl] at H; exact H
                clear H
                have H := H1
                clear H1
                replace H := Option.bind_eq_some_iff.mp H
                obtain ⟨t276, A990, H⟩ := H
                replace H : (some t276) = some r := H
                have A99 := Aside0.mk A990
                clear A990
                obtain rfl := Option.some.inj H
                go_wp2_with (first | ((with_reducible refine gate_callee (f := 22) rfl ?_); refine goesL_ (some 56) rfl rfl Try.func22 (by kernel_rfl) rfl #[.slice none 0 0, .slice none 0 0] rfl (by (try simp only [List.map_toArray, List.map_cons, List.map_nil]); first | done | rfl | (simp only [List.length_drop, List.length_take]; rfl)) ?_; (refine (bulwarkref00_Same.calls kj55 _ _ ([] : List Int) _ _ ([] : List Int) true _ ?side1 ?side2 ?side3 ?side4 A97.out).mono ?_); (case side1 => exact Kd.C_nil _ _); (case side2 => exact Nat.le_refl _); (case side3 => exact Kd.C_nil _ _); (case side4 => exact Nat.le_refl _); rintro e w' ⟨rfl, ⟨nd, rfl⟩⟩; refine ⟨_, rfl, ?_⟩) | (go_at_call 21; (with_reducible refine (bulwarklaw03_lives.calls kj55  t276 _ A99.out).mono ?_); rintro e w100 ⟨rfl, hb⟩; have n0_ := Aside0.mk (blk_below (g := gb265) (o := .cells #[.bool a0_0, .int .u32 a0_1, .int .u8 a0_2, .int .u8 a0_3, .int .u8 a0_4, .int .u16 a0_5, .int .u16 a0_6] 27 (0, 0)) (by (with_reducible repeat (first | refine blk_drewN ?_ _ | refine blk_drew ?_ | refine blk_alloc ?_ _)); exact BK265.out) hb); have n1_ := Aside0.mk (blk_below (g := gb266) (o := .cells #[.bool a1_0, .int .u32 a1_1, .int .u8 a1_2, .int .u8 a1_3, .int .u8 a1_4, .int .u16 a1_5, .int .u16 a1_6] 27 (0, 0)) (by (with_reducible repeat (first | refine blk_drewN ?_ _ | refine blk_drew ?_ | refine blk_alloc ?_ _)); exact BK266.out) hb); have n2_ := Aside0.mk (blk_below (g := gb267) (o := .cells #[.bool a2_0, .int .u32 a2_1, .int .u8 a2_2, .int .u8 a2_3, .int .u8 a2_4, .int .u16 a2_5, .int .u16 a2_6] 27 (0, 0)) (by (with_reducible repeat (first | refine blk_drewN ?_ _ | refine blk_drew ?_ | refine blk_alloc ?_ _)); exact BK267.out) hb); have n3_ := Aside0.mk (below_step (by repeat (first | (with_reducible first | exact HB.out | apply below_alloc | apply pw_below_drewN | apply below_drew1 | refine below_set ?_ GE265.out | refine below_set ?_ GE266.out | refine below_set ?_ GE267.out) | exact HB.out)) hb); clear BK265; clear BK266; clear BK267; clear HB; have BK265 := n0_; have BK266 := n1_; have BK267 := n2_; have HB := n3_; clear n0_ n1_ n2_ n3_; (try clear hb); (try clear hb2); (try clear hk); (try clear hi)))
                go_ret
                exact ⟨by first | rfl | (simp [errW_none, errW_some] <;> rfl) | (simp [*, errW_none, errW_some] <;> rfl), by repeat (first | (with_reducible first | exact HB.out | apply below_alloc | apply pw_below_drewN | apply below_drew1 | refine below_set ?_ GE265.out | refine below_set ?_ GE266.out | refine below_set ?_ GE267.out) | exact HB.out)⟩
              · replace c98 := Bool.eq_false_iff.mpr c98
                subst c98
                have H1 : (some false) = some r := by rw [if_neg (show ¬ (false = true) by decide)] at H; exact H
                exact absurd ((Option.some.inj H1).trans hr'.out) (by decide)
end Go.Proofs.Ytkfgloolpjlddaa.Q
