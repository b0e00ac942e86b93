-- A walk, out of the kit's print program run by wip/ownprint.sh and turned by wip/qprune.py. Lean checks it.
import Derived.Test.YtegehkenmkmflaaQ0
import Derived.Test.YtegehkenmkmflaaQ3
import Derived.Test.YtegehkenmkmflaaQ17
namespace Go.Proofs.Ytegehkenmkmflaa.Q
open Go.RowKit Go.Proofs.YtegehkenmkmflaaW.PrintWords Go.Proofs.YtegehkenmkmflaaW.PrintLast Go.Proofs.YtegehkenmkmflaaW.PrintMore
attribute [local go_sem] max2_int min2_int max_two min_two max_three min_three max_four min_four   -- for this text's walks alone
set_option linter.unusedVariables false
set_option linter.unusedSimpArgs false

/-! ### tables_maker_region: function 30 -/
-- by hand: making
def tables_maker_region.f (s0_0 : List (S25)) (s0_1 : Int) (a1 : Int) (a2 : Int) : Option (Int × Int × Int × Int × Int) := (tables_Region.f s0_0 a1 a2).bind fun t => if t.2.2.2.2 = true then some (t.1, t.2.1, t.2.2.1, t.2.2.2.1, s0_1) else (tables_maker_fail.f s0_0 s0_1 6).bind fun e => some (t.1, t.2.1, t.2.2.1, t.2.2.2.1, e)
set_option maxHeartbeats 8000000 in
set_option maxRecDepth 100000 in
theorem tables_maker_region.calls (g : Nat) (s0_0 : List (S25)) (s0_1 : Int) (a1 : Int) (a2 : Int) (r1 : Int) (r2 : Int) (r3 : Int) (r4 : Int) (r5 : Int) (w0 w : World) (hI : IsS62 w0 w g s0_0 s0_1) (hB : Below w0.heap.size w0 w) (h : tables_maker_region.f s0_0 s0_1 a1 a2 = some (r1, r2, r3, r4, r5)) :
    Calls Try.prog 30 #[.pointer (some ⟨g, 0, none⟩), .int .u8 a1, .int .i64 a2] w fun e w' => e = .returned (.agg #[.int .u8 r1, .int .i64 r2, .int .u32 r3, .int .u32 r4]) ∧ IsS62 w0 w' g s0_0 r5 ∧ Below w0.heap.size w0 w' ∧ KeepBut w w' g none := by
  have hu25 := Try.underlying25
  have hu62 := Try.underlying62
  have HI := Aside0.mk hI
  have HB := Aside0.mk hB
  have HH := Aside0.mk h
  obtain ⟨A0, c0, hb, hg, hr0⟩ := hI
  have hcl0 := cellS62_0 hb
  have hcl1 := cellS62_1 hb
  have HR := Aside0.mk hr0
  have hgl := Aside0.mk (blk_lt hb)
  have HGE := Aside0.mk hg
  have hbz : Below w.heap.size w (w.alloc (.cells #[.int .u8 0, .int .i64 0, .int .u32 0, .int .u32 0] 25)) := (Below.refl w.heap.size w).alloc (Nat.le_refl _) _
  have hcz0 := (hbz.cell (World.block_lt_of_cell? w _ hcl0)).trans hcl0
  have hcz1 := (hbz.cell (World.block_lt_of_cell? w _ hcl1)).trans hcl1
  have BZ := Aside0.mk (heap_alloc_new w (.cells #[.int .u8 0, .int .i64 0, .int .u32 0, .int .u32 0] 25))
  have HBZ := Aside0.mk hbz
  clear hb hg hr0 hB h hcl0 hcl1 hbz
  go_enter Try.func30, Try.ntmps30
  go_wp2_with fail
  obtain ⟨⟨t1, t2, t3, t4, t5⟩, ht, hh⟩ := Option.bind_eq_some_iff.mp HH.out
  refine (tables_Region_any A0 c0 s0_0 a1 a2 t1 t2 t3 t4 t5 _ (Kd.C_below HR.out (below_step HB.out HBZ.out)) ht).mono ?_
  rintro e w1 ⟨rfl, hb⟩
  replace HI := Aside0.mk ((HI.out.below HBZ.out).below hb)
  replace HB := Aside0.mk (below_step (below_step HB.out HBZ.out) hb)
  replace BZ := Aside0.mk (blk_below BZ.out hb)
  have HK := Aside0.mk (KeepBut.of_below (below_step HBZ.out hb) g none)
  have HKL := HK
  clear hb hcz0 hcz1 ht HH
  simp only at hh
  have HR1 := Aside0.mk ((Below.refl w1.heap.size w1).alloc (Nat.le_refl _) (.cells #[.int .u8 t1, .int .i64 t2, .int .u32 t3, .int .u32 t4] 25))
  have BT := Aside0.mk (heap_alloc_new w1 (.cells #[.int .u8 t1, .int .i64 t2, .int .u32 t3, .int .u32 t4] 25))
  replace BZ := Aside0.mk (blk_below BZ.out HR1.out)
  replace HI := Aside0.mk (HI.out.below HR1.out)
  replace HB := Aside0.mk (below_step HB.out HR1.out)
  replace HK := Aside0.mk (HK.out.trans (KeepBut.of_below HR1.out g none) (.inl rfl))
  have KLE : Aside0 (w.heap.size ≤ w1.heap.size) := ⟨HKL.out.1⟩
  clear HR1 HKL
  by_cases c : t5 = true
  · subst c
    rw [if_pos rfl] at hh
    simp only [Option.some.injEq, Prod.mk.injEq] at hh
    obtain ⟨rfl, rfl, rfl, rfl, rfl⟩ := hh
    have hc0 : (w1.alloc (.cells #[.int .u8 t1, .int .i64 t2, .int .u32 t3, .int .u32 t4] 25)).cell? ⟨w.heap.size, 0, none⟩ = some (.int .u8 0) := (blk_cell BZ.out 0).trans rfl
    have hf0 := blk_frozen BZ.out 0
    have hc1 : (w1.alloc (.cells #[.int .u8 t1, .int .i64 t2, .int .u32 t3, .int .u32 t4] 25)).cell? ⟨w.heap.size, 1, none⟩ = some (.int .i64 0) := (blk_cell BZ.out 1).trans rfl
    have hf1 := blk_frozen BZ.out 1
    have hc2 : (w1.alloc (.cells #[.int .u8 t1, .int .i64 t2, .int .u32 t3, .int .u32 t4] 25)).cell? ⟨w.heap.size, 2, none⟩ = some (.int .u32 0) := (blk_cell BZ.out 2).trans rfl
    have hf2 := blk_frozen BZ.out 2
    have hc3 : (w1.alloc (.cells #[.int .u8 t1, .int .i64 t2, .int .u32 t3, .int .u32 t4] 25)).cell? ⟨w.heap.size, 3, none⟩ = some (.int .u32 0) := (blk_cell BZ.out 3).trans rfl
    have hf3 := blk_frozen BZ.out 3
    go_wp2
    have hne : g ≠ w.heap.size := Nat.ne_of_lt hgl.out
    have hge : w0.heap.size ≤ w.heap.size := by have := HGE.out; have := hgl.out; omega
    refine bodyPost_ret (results_cell_row rfl _ _ w.heap.size 25 #[.int .u8 t1, .int .i64 t2, .int .u32 t3, .int .u32 t4] (0, 0) _ rfl (by refine blk_put (cs := #[.int .u8 t1, .int .i64 t2, .int .u32 t3, .int .u32 0]) ?_ 3 _ rfl; refine blk_put (cs := #[.int .u8 t1, .int .i64 t2, .int .u32 0, .int .u32 0]) ?_ 2 _ rfl; refine blk_put (cs := #[.int .u8 t1, .int .i64 0, .int .u32 0, .int .u32 0]) ?_ 1 _ rfl; refine blk_put (cs := #[.int .u8 0, .int .i64 0, .int .u32 0, .int .u32 0]) ?_ 0 _ rfl; exact BZ.out) Try.underlying25 rfl (by kernel_rfl)) rfl ?_
    exact ⟨rfl, (((HI.out.far hne _).far hne _).far hne _).far hne _, (((HB.out.setCell hge _).setCell hge _).setCell hge _).setCell hge _, keep_far (keep_far (keep_far (keep_far HK.out (Nat.le_refl _) _) (Nat.le_refl _) _) (Nat.le_refl _) _) (Nat.le_refl _) _⟩
  · replace c := Bool.eq_false_iff.mpr c
    subst c
    rw [if_neg (by decide)] at hh
    obtain ⟨e1, he, hh⟩ := Option.bind_eq_some_iff.mp hh
    simp only [Option.some.injEq, Prod.mk.injEq] at hh
    obtain ⟨rfl, rfl, rfl, rfl, rfl⟩ := hh
    have HE := Aside0.mk he
    clear he
    go_wp2_with fail
    refine (tables_maker_fail.calls g s0_0 s0_1 6 e1 w0 _ HI.out HB.out HE.out).mono ?_
    rintro e w2 ⟨rfl, hi, hb, hk⟩
    have hn1 : w.heap.size ≠ g := Nat.ne_of_gt hgl.out
    have hn2 : w1.heap.size ≠ g := Nat.ne_of_gt (Nat.lt_of_lt_of_le hgl.out (KLE.out))
    replace BZ := Aside0.mk (hk.blk BZ.out hn1 (by simp))
    replace BT := Aside0.mk (hk.blk BT.out hn2 (by simp))
    replace HI := Aside0.mk hi
    replace HB := Aside0.mk hb
    replace HK := Aside0.mk (HK.out.trans hk (.inl rfl))
    clear hi hb hk hn1 hn2 HE
    have zc0 : w2.cell? ⟨w.heap.size, 0, none⟩ = some (.int .u8 0) := (blk_cell BZ.out 0).trans rfl
    have zf0 := blk_frozen BZ.out 0
    have zc1 : w2.cell? ⟨w.heap.size, 1, none⟩ = some (.int .i64 0) := (blk_cell BZ.out 1).trans rfl
    have zf1 := blk_frozen BZ.out 1
    have zc2 : w2.cell? ⟨w.heap.size, 2, none⟩ = some (.int .u32 0) := (blk_cell BZ.out 2).trans rfl
    have zf2 := blk_frozen BZ.out 2
    have zc3 : w2.cell? ⟨w.heap.size, 3, none⟩ = some (.int .u32 0) := (blk_cell BZ.out 3).trans rfl
    have zf3 := blk_frozen BZ.out 3
    have tc0 : w2.cell? ⟨w1.heap.size, 0, none⟩ = some (.int .u8 t1) := (blk_cell BT.out 0).trans rfl
    have tf0 := blk_frozen BT.out 0
    have tc1 : w2.cell? ⟨w1.heap.size, 1, none⟩ = some (.int .i64 t2) := (blk_cell BT.out 1).trans rfl
    have tf1 := blk_frozen BT.out 1
    have tc2 : w2.cell? ⟨w1.heap.size, 2, none⟩ = some (.int .u32 t3) := (blk_cell BT.out 2).trans rfl
    have tf2 := blk_frozen BT.out 2
    have tc3 : w2.cell? ⟨w1.heap.size, 3, none⟩ = some (.int .u32 t4) := (blk_cell BT.out 3).trans rfl
    have tf3 := blk_frozen BT.out 3
    go_wp2
    have hne : g ≠ w.heap.size := Nat.ne_of_lt hgl.out
    have hge : w0.heap.size ≤ w.heap.size := by have := HGE.out; have := hgl.out; omega
    refine bodyPost_ret (results_cell_row rfl _ _ w.heap.size 25 #[.int .u8 t1, .int .i64 t2, .int .u32 t3, .int .u32 t4] (0, 0) _ rfl (by refine blk_put (cs := #[.int .u8 t1, .int .i64 t2, .int .u32 t3, .int .u32 0]) ?_ 3 _ rfl; refine blk_put (cs := #[.int .u8 t1, .int .i64 t2, .int .u32 0, .int .u32 0]) ?_ 2 _ rfl; refine blk_put (cs := #[.int .u8 t1, .int .i64 0, .int .u32 0, .int .u32 0]) ?_ 1 _ rfl; refine blk_put (cs := #[.int .u8 0, .int .i64 0, .int .u32 0, .int .u32 0]) ?_ 0 _ rfl; exact BZ.out) Try.underlying25 rfl (by kernel_rfl)) rfl ?_
    exact ⟨rfl, (((HI.out.far hne _).far hne _).far hne _).far hne _, (((HB.out.setCell hge _).setCell hge _).setCell hge _).setCell hge _, keep_far (keep_far (keep_far (keep_far HK.out (Nat.le_refl _) _) (Nat.le_refl _) _) (Nat.le_refl _) _) (Nat.le_refl _) _⟩

end Go.Proofs.Ytegehkenmkmflaa.Q
