-- A walk, out of the kit's print program run by wip/ownprint.sh and turned by wip/qprune.py. Lean checks it.
import Derived.Test.YtegehkenmkmflaaQ0
import Derived.Test.YtegehkenmkmflaaQ22
import Derived.Test.YtegehkenmkmflaaQ27
import Derived.Test.YtegehkenmkmflaaQ28
namespace Go.Proofs.Ytegehkenmkmflaa.Q
open Go.RowKit Go.Proofs.YtegehkenmkmflaaW.PrintWords Go.Proofs.YtegehkenmkmflaaW.PrintLast Go.Proofs.YtegehkenmkmflaaW.PrintMore
attribute [local go_sem] max2_int min2_int max_two min_two max_three min_three max_four min_four   -- for this text's walks alone
set_option linter.unusedVariables false
set_option linter.unusedSimpArgs false

/-! ### bulwarkref18_Entry: function 15 -/
mutual
def bulwarkref18_Entry.j0 : Nat → Int → Int → Int → Bool → Int → Int → Int → Int → Int → Int → Int → Int → Option ((List (S66)) × Int × Int)
  | 0, _, _, _, _, _, _, _, _, _, _, _, _ => none
  | k + 1, x2, x3, x4, x40, x238000, x238001, x238002, x238003, x244000, x244001, x244002, x244003 => if x40 = true then (some (([] : List (S66)), 0, 6)) else ((bulwarkref18_Cap.f k x238000 x238001 x238002 x238003 29 x238002).bind fun bt244 => ((bulwarkref18_Cap.f k x244000 x244001 x244002 x244003 23 x244002).bind fun bt253 => (if bt244.2.2.2.2.2.2.2 = 0 then (bulwarkref18_Entry.j1 k x2 x3 x4 (bt253.2.2.2.2.2.2.2 != 0) x238000 x238001 x238002 x238003 bt253.1 bt253.2.1 bt253.2.2.1 bt253.2.2.2.1 bt253.2.2.2.2.1 bt253.2.2.2.2.2.1 bt253.2.2.2.2.2.2.1) else (bulwarkref18_Entry.j1 k x2 x3 x4 true x238000 x238001 x238002 x238003 bt253.1 bt253.2.1 bt253.2.2.1 bt253.2.2.2.1 bt253.2.2.2.2.1 bt253.2.2.2.2.2.1 bt253.2.2.2.2.2.2.1))))
def bulwarkref18_Entry.j1 : Nat → Int → Int → Int → Bool → Int → Int → Int → Int → Bool → Int → Int → Int → Int → Int → Int → Option ((List (S66)) × Int × Int)
  | 0, _, _, _, _, _, _, _, _, _, _, _, _, _, _, _ => none
  | k + 1, x2, x3, x4, x60, x238000, x238001, x238002, x238003, x262000, x262001, x262002, x262003, x262004, x262005, x262006 => if x60 = true then (some (([] : List (S66)), 0, 5)) else (if x2 < x238002 then (bulwarkref18_Entry.j2 k x2 x3 x4 true x238000 x238001 x238002 x238003 x262000 x262001 x262002 x262003 x262004 x262005 x262006) else (if (IntKind.u64.wrap (x2)) ≥ (IntKind.u64.wrap ((IntKind.u64.wrap (x238002)) + (IntKind.u64.wrap (x238003)))) then (bulwarkref18_Entry.j2 k x2 x3 x4 true x238000 x238001 x238002 x238003 x262000 x262001 x262002 x262003 x262004 x262005 x262006) else (if x3 < 0 then (bulwarkref18_Entry.j2 k x2 x3 x4 true x238000 x238001 x238002 x238003 x262000 x262001 x262002 x262003 x262004 x262005 x262006) else (if x3 > 6 then (bulwarkref18_Entry.j2 k x2 x3 x4 true x238000 x238001 x238002 x238003 x262000 x262001 x262002 x262003 x262004 x262005 x262006) else (if x4 < 0 then (bulwarkref18_Entry.j2 k x2 x3 x4 true x238000 x238001 x238002 x238003 x262000 x262001 x262002 x262003 x262004 x262005 x262006) else (bulwarkref18_Entry.j2 k x2 x3 x4 (decide (x4 > 4088)) x238000 x238001 x238002 x238003 x262000 x262001 x262002 x262003 x262004 x262005 x262006))))))
def bulwarkref18_Entry.j2 : Nat → Int → Int → Int → Bool → Int → Int → Int → Int → Bool → Int → Int → Int → Int → Int → Int → Option ((List (S66)) × Int × Int)
  | 0, _, _, _, _, _, _, _, _, _, _, _, _, _, _, _ => none
  | k + 1, x2, x3, x4, x92, x238000, x238001, x238002, x238003, x262000, x262001, x262002, x262003, x262004, x262005, x262006 => if x92 = true then (some (([] : List (S66)), 0, 2)) else ((bulwarkref18_Cap.f k x238000 x238001 x238002 x238003 29 x2).bind fun bt262 => ((bulwarkref03_Seal.f bt262.1 bt262.2.1 bt262.2.2.1 bt262.2.2.2.1 bt262.2.2.2.2.1 bt262.2.2.2.2.2.1 bt262.2.2.2.2.2.2.1 3).bind fun bt271 => (some ((([(⟨0, (⟨bt271.1, bt271.2.1, bt271.2.2.1, bt271.2.2.2.1, (⟨bt271.2.2.2.2.1, bt271.2.2.2.2.2.1, bt271.2.2.2.2.2.2⟩ : S32)⟩ : S34)⟩ : S66), (⟨8, (⟨x262000, x262001, x262002, x262003, (⟨x262004, x262005, x262006⟩ : S32)⟩ : S34)⟩ : S66)] : List (S66))), (wrap64 (x3 + (wrap64 (256 * x4)))) % 4294967296, 0))))
end
def bulwarkref18_Entry.f (k : Nat) (l0 : List (S25)) (a1 : Int) (a2 : Int) (a3 : Int) (a4 : Int) : Option ((List (S66)) × Int × Int) := (bulwarkref18_Region.f k l0 6 a1).bind fun bt232 => ((bulwarkref18_Region.f k l0 7 a1).bind fun bt238 => (if bt232.2.2.2.2 = true then (bulwarkref18_Entry.j0 k a2 a3 a4 (!bt238.2.2.2.2) bt232.1 bt232.2.1 bt232.2.2.1 bt232.2.2.2.1 bt238.1 bt238.2.1 bt238.2.2.1 bt238.2.2.2.1) else (bulwarkref18_Entry.j0 k a2 a3 a4 true bt232.1 bt232.2.1 bt232.2.2.1 bt232.2.2.2.1 bt238.1 bt238.2.1 bt238.2.2.1 bt238.2.2.2.1)))
theorem bulwarkref18_Entry.mono_l : ∀ k, (∀ y0 y1 y2 y3 y4 y5 y6 y7 y8 y9 y10 y11, LeO (bulwarkref18_Entry.j0 k y0 y1 y2 y3 y4 y5 y6 y7 y8 y9 y10 y11) (bulwarkref18_Entry.j0 (k + 1) y0 y1 y2 y3 y4 y5 y6 y7 y8 y9 y10 y11)) ∧ (∀ y0 y1 y2 y3 y4 y5 y6 y7 y8 y9 y10 y11 y12 y13 y14, LeO (bulwarkref18_Entry.j1 k y0 y1 y2 y3 y4 y5 y6 y7 y8 y9 y10 y11 y12 y13 y14) (bulwarkref18_Entry.j1 (k + 1) y0 y1 y2 y3 y4 y5 y6 y7 y8 y9 y10 y11 y12 y13 y14)) ∧ (∀ y0 y1 y2 y3 y4 y5 y6 y7 y8 y9 y10 y11 y12 y13 y14, LeO (bulwarkref18_Entry.j2 k y0 y1 y2 y3 y4 y5 y6 y7 y8 y9 y10 y11 y12 y13 y14) (bulwarkref18_Entry.j2 (k + 1) y0 y1 y2 y3 y4 y5 y6 y7 y8 y9 y10 y11 y12 y13 y14))
  | 0 => ⟨fun _ _ _ _ _ _ _ _ _ _ _ _ r h => by simp [bulwarkref18_Entry.j0] at h, fun _ _ _ _ _ _ _ _ _ _ _ _ _ _ _ r h => by simp [bulwarkref18_Entry.j1] at h, fun _ _ _ _ _ _ _ _ _ _ _ _ _ _ _ r h => by simp [bulwarkref18_Entry.j2] at h⟩
  | k + 1 => by
    obtain ⟨ih0, ih1, ih2⟩ := bulwarkref18_Entry.mono_l k
    refine ⟨?_, ?_, ?_⟩
    · intro y0 y1 y2 y3 y4 y5 y6 y7 y8 y9 y10 y11
      unfold bulwarkref18_Entry.j0
      repeat' first
      | (with_reducible exact ih0 _ _ _ _ _ _ _ _ _ _ _ _)
      | (with_reducible exact ih1 _ _ _ _ _ _ _ _ _ _ _ _ _ _ _)
      | (with_reducible exact ih2 _ _ _ _ _ _ _ _ _ _ _ _ _ _ _)
      | (with_reducible exact bulwarkref18_Cap.mono _ _ _ _ _ _ _)
      | (with_reducible exact bulwarkref18_Region.mono _ _ _ _)
      | (with_reducible exact LeO.refl _)
      | (with_reducible exact LeO.none _)
      | (with_reducible refine LeO.ite ?_ ?_)
      | (with_reducible refine LeO.bind ?_ (fun _ => ?_))
      | exact ih0 _ _ _ _ _ _ _ _ _ _ _ _
      | exact ih1 _ _ _ _ _ _ _ _ _ _ _ _ _ _ _
      | exact ih2 _ _ _ _ _ _ _ _ _ _ _ _ _ _ _
      | exact bulwarkref18_Cap.mono _ _ _ _ _ _ _
      | exact bulwarkref18_Region.mono _ _ _ _
      | exact LeO.none _
      | refine LeO.ite ?_ ?_
      | refine LeO.bind ?_ (fun _ => ?_)
    · intro y0 y1 y2 y3 y4 y5 y6 y7 y8 y9 y10 y11 y12 y13 y14
      unfold bulwarkref18_Entry.j1
      repeat' first
      | (with_reducible exact ih0 _ _ _ _ _ _ _ _ _ _ _ _)
      | (with_reducible exact ih1 _ _ _ _ _ _ _ _ _ _ _ _ _ _ _)
      | (with_reducible exact ih2 _ _ _ _ _ _ _ _ _ _ _ _ _ _ _)
      | (with_reducible exact bulwarkref18_Cap.mono _ _ _ _ _ _ _)
      | (with_reducible exact bulwarkref18_Region.mono _ _ _ _)
      | (with_reducible exact LeO.refl _)
      | (with_reducible exact LeO.none _)
      | (with_reducible refine LeO.ite ?_ ?_)
      | (with_reducible refine LeO.bind ?_ (fun _ => ?_))
      | exact ih0 _ _ _ _ _ _ _ _ _ _ _ _
      | exact ih1 _ _ _ _ _ _ _ _ _ _ _ _ _ _ _
      | exact ih2 _ _ _ _ _ _ _ _ _ _ _ _ _ _ _
      | exact bulwarkref18_Cap.mono _ _ _ _ _ _ _
      | exact bulwarkref18_Region.mono _ _ _ _
      | exact LeO.none _
      | refine LeO.ite ?_ ?_
      | refine LeO.bind ?_ (fun _ => ?_)
    · intro y0 y1 y2 y3 y4 y5 y6 y7 y8 y9 y10 y11 y12 y13 y14
      unfold bulwarkref18_Entry.j2
      repeat' first
      | (with_reducible exact ih0 _ _ _ _ _ _ _ _ _ _ _ _)
      | (with_reducible exact ih1 _ _ _ _ _ _ _ _ _ _ _ _ _ _ _)
      | (with_reducible exact ih2 _ _ _ _ _ _ _ _ _ _ _ _ _ _ _)
      | (with_reducible exact bulwarkref18_Cap.mono _ _ _ _ _ _ _)
      | (with_reducible exact bulwarkref18_Region.mono _ _ _ _)
      | (with_reducible exact LeO.refl _)
      | (with_reducible exact LeO.none _)
      | (with_reducible refine LeO.ite ?_ ?_)
      | (with_reducible refine LeO.bind ?_ (fun _ => ?_))
      | exact ih0 _ _ _ _ _ _ _ _ _ _ _ _
      | exact ih1 _ _ _ _ _ _ _ _ _ _ _ _ _ _ _
      | exact ih2 _ _ _ _ _ _ _ _ _ _ _ _ _ _ _
      | exact bulwarkref18_Cap.mono _ _ _ _ _ _ _
      | exact bulwarkref18_Region.mono _ _ _ _
      | exact LeO.none _
      | refine LeO.ite ?_ ?_
      | refine LeO.bind ?_ (fun _ => ?_)
theorem bulwarkref18_Entry.mono : ∀ a0 a1 a2 a3 a4 k, LeO (bulwarkref18_Entry.f k a0 a1 a2 a3 a4) (bulwarkref18_Entry.f (k + 1) a0 a1 a2 a3 a4) := by
  intro a0 a1 a2 a3 a4 k
  obtain ⟨ih0, ih1, ih2⟩ := bulwarkref18_Entry.mono_l k
  unfold bulwarkref18_Entry.f
  repeat' first
      | (with_reducible exact ih0 _ _ _ _ _ _ _ _ _ _ _ _)
      | (with_reducible exact ih1 _ _ _ _ _ _ _ _ _ _ _ _ _ _ _)
      | (with_reducible exact ih2 _ _ _ _ _ _ _ _ _ _ _ _ _ _ _)
      | (with_reducible exact bulwarkref18_Cap.mono _ _ _ _ _ _ _)
      | (with_reducible exact bulwarkref18_Region.mono _ _ _ _)
      | (with_reducible exact LeO.refl _)
      | (with_reducible exact LeO.none _)
      | (with_reducible refine LeO.ite ?_ ?_)
      | (with_reducible refine LeO.bind ?_ (fun _ => ?_))
      | exact ih0 _ _ _ _ _ _ _ _ _ _ _ _
      | exact ih1 _ _ _ _ _ _ _ _ _ _ _ _ _ _ _
      | exact ih2 _ _ _ _ _ _ _ _ _ _ _ _ _ _ _
      | exact bulwarkref18_Cap.mono _ _ _ _ _ _ _
      | exact bulwarkref18_Region.mono _ _ _ _
      | exact LeO.none _
      | refine LeO.ite ?_ ?_
      | refine LeO.bind ?_ (fun _ => ?_)
def bulwarkref18_Entry.T12 : Bool × List (List Nat × List Nat) := (true, [([], []), ([0], [0]), ([1], [1]), ([], []), ([3], [3]), ([2, 4], [2, 4]), ([], []), ([], []), ([7], [7]), ([6, 8], [6, 8]), ([9], [9]), ([5, 1, 0, 1, 2, 3, 4, 5], [5]), ([10, 11, 0, 1, 2, 3, 4, 5, 6, 7, 8, 9, 10, 11], [10]), ([12, 0, 1, 2, 3, 4, 5, 6, 7, 8, 9, 10, 11, 12], [])])
def bulwarkref18_Entry.B12 : List Nat := [0, 1, 3, 0, 8, 31, 0, 0, 128, 448, 960, 63, 4095, 8191]
theorem bulwarkref18_Entry.tab12 : rtab .any (opsOf Try.f15 12) = bulwarkref18_Entry.T12 := by kernel_rfl
theorem bulwarkref18_Entry.bits12 : waitsOk bulwarkref18_Entry.T12.2 bulwarkref18_Entry.B12 = true := by kernel_rfl
set_option maxHeartbeats 8000000 in
set_option maxRecDepth 100000 in
theorem bulwarkref18_Entry.calls (k : Nat) (A0 : Option Addr) (c0 : Nat) (l0 : List (S25)) (a1 : Int) (a2 : Int) (a3 : Int) (a4 : Int) (r1 : List (S66)) (r2 : Int) (r3 : Int) (w : World) (hr0 : Kd.C k25 w A0 l0.length l0) (hc0 : l0.length ≤ c0) (h : bulwarkref18_Entry.f k l0 a1 a2 a3 a4 = some (r1, r2, r3)) :
    Calls Try.prog 15 #[.slice A0 l0.length c0, .int .i64 a1, .int .u32 a2, .int .i64 a3, .int .i64 a4] w fun e w' => ∃ v0_ : Value, e = .returned (.tuple #[v0_, .int .u32 r2, .int .i64 r3]) ∧ Kd.R k66 66 w' w.heap.size (fun _ => True) v0_ r1 ∧ Below w.heap.size w w' := by
  have hu25 := Try.underlying25
  have hu34 := Try.underlying34
  have hu66 := Try.underlying66
  have HR0 := Aside0.mk hr0
  have HC0 := Aside0.mk hc0
  clear hr0 hc0
  have HB := Aside0.mk (Below.refl w.heap.size w)
  have H : ((bulwarkref18_Region.f k l0 6 a1).bind fun bt232 => ((bulwarkref18_Region.f k l0 7 a1).bind fun bt238 => (if bt232.2.2.2.2 = true then (bulwarkref18_Entry.j0 k a2 a3 a4 (!bt238.2.2.2.2) bt232.1 bt232.2.1 bt232.2.2.1 bt232.2.2.2.1 bt238.1 bt238.2.1 bt238.2.2.1 bt238.2.2.2.1) else (bulwarkref18_Entry.j0 k a2 a3 a4 true bt232.1 bt232.2.1 bt232.2.2.1 bt232.2.2.2.1 bt238.1 bt238.2.1 bt238.2.2.1 bt238.2.2.2.1)))) = some (r1, r2, r3) := h
  clear h
  replace H := Option.bind_eq_some_iff.mp H
  obtain ⟨⟨t232, t233, t234, t235, t236⟩, A60, H⟩ := H
  replace H : ((bulwarkref18_Region.f k l0 7 a1).bind fun bt238 => (if t236 = true then (bulwarkref18_Entry.j0 k a2 a3 a4 (!bt238.2.2.2.2) t232 t233 t234 t235 bt238.1 bt238.2.1 bt238.2.2.1 bt238.2.2.2.1) else (bulwarkref18_Entry.j0 k a2 a3 a4 true t232 t233 t234 t235 bt238.1 bt238.2.1 bt238.2.2.1 bt238.2.2.2.1))) = some (r1, r2, r3) := H
  have A6 := Aside0.mk A60
  clear A60
  replace H := Option.bind_eq_some_iff.mp H
  obtain ⟨⟨t238, t239, t240, t241, t242⟩, A70, H⟩ := H
  replace H : (if t236 = true then (bulwarkref18_Entry.j0 k a2 a3 a4 (!t242) t232 t233 t234 t235 t238 t239 t240 t241) else (bulwarkref18_Entry.j0 k a2 a3 a4 true t232 t233 t234 t235 t238 t239 t240 t241)) = some (r1, r2, r3) := H
  have A7 := Aside0.mk A70
  clear A70
  have HC8 := Aside0.mk H
  clear H
  go_enter Try.func15, Try.ntmps15
  go_upto_region 3 with (first | ((with_reducible refine gate_callee (f := 8) rfl ?_); refine goesL_ (some 26) rfl rfl Try.func8 (by kernel_rfl) rfl #[.slice A0 l0.length c0, .int .u8 6, .int .i64 a1] rfl (by (try simp only [List.map_toArray, List.map_cons, List.map_nil]); first | done | rfl | (simp only [List.length_drop, List.length_take]; rfl)) ?_; (with_reducible refine (bulwarkref18_Region.calls k _ _ l0 6 a1 t232 t233 t234 t235 t236 _ ?side1 ?side2 A6.out).mono ?_); (case side1 => repeat (first | exact HR0.out | (with_reducible refine Kd.C_alloc ?_ _) | (with_reducible refine Kd.C_drewN ?_ _) | (with_reducible refine Kd.C_drew ?_))); (case side2 => exact HC0.out); rintro e w9 ⟨rfl, hb⟩; refine ⟨_, rfl, ?_⟩; have n0_ := Aside0.mk (below_step (by repeat (first | (with_reducible first | exact HB.out | apply below_alloc | apply pw_below_drewN | apply below_drew1) | exact HB.out)) hb); clear HB; have HB := n0_; clear n0_; (try clear hb); (try clear hb2); (try clear hk); (try clear hi)) | ((with_reducible refine gate_dst (N := 13) rfl ?_); refine box_event ?hg (N := 13) ?hd (cs := #[.int .u8 0, .int .i64 0, .int .u32 0, .int .u32 0]) (t := 25) ?hr ?_; (case hd => rfl); (case hg => rfl); (case hr => first | (go_simp; done) | (go_simp; rfl)); intro gb237 hg w10 hbox hb; have n0_ := Aside0.mk (below_step (by repeat (first | (with_reducible first | exact HB.out | apply below_alloc | apply pw_below_drewN | apply below_drew1) | exact HB.out)) hb); have n1_ := Aside0.mk (hbox); have n2_ := Aside0.mk ((by rw [hg]; exact (below_size (by repeat (first | (with_reducible first | exact HB.out | apply below_alloc | apply pw_below_drewN | apply below_drew1) | exact HB.out))) : w.heap.size ≤ gb237)); have n3_ := Aside0.mk ((by rw [hg]; exact (below_size (by repeat (first | (with_reducible first | exact HB.out | apply below_alloc | apply pw_below_drewN | apply below_drew1) | exact HB.out))) : w.heap.size ≤ gb237)); clear HB; have HB := n0_; have BK237 := n1_; have GW237 := n2_; have GE237 := n3_; clear n0_ n1_ n2_ n3_; clear hb hbox hg; have hcz11_0 : w10.cell? ⟨gb237, 0, none⟩ = some (.int .u8 0) := (blk_cell BK237.out 0).trans rfl; have hcz11_1 : w10.cell? ⟨gb237, 1, none⟩ = some (.int .i64 0) := (blk_cell BK237.out 1).trans rfl; have hcz11_2 : w10.cell? ⟨gb237, 2, none⟩ = some (.int .u32 0) := (blk_cell BK237.out 2).trans rfl; have hcz11_3 : w10.cell? ⟨gb237, 3, none⟩ = some (.int .u32 0) := (blk_cell BK237.out 3).trans rfl; have hfz11_0 := blk_frozen BK237.out 0; have hfz11_1 := blk_frozen BK237.out 1; have hfz11_2 := blk_frozen BK237.out 2; have hfz11_3 := blk_frozen BK237.out 3) | ((with_reducible refine gate_callee (f := 8) rfl ?_); refine goesL_ (some 32) rfl rfl Try.func8 (by kernel_rfl) rfl #[.slice A0 l0.length c0, .int .u8 7, .int .i64 a1] rfl (by (try simp only [List.map_toArray, List.map_cons, List.map_nil]); first | done | rfl | (simp only [List.length_drop, List.length_take]; rfl)) ?_; (with_reducible refine (bulwarkref18_Region.calls k _ _ l0 7 a1 t238 t239 t240 t241 t242 _ ?side1 ?side2 A7.out).mono ?_); (case side1 => exact Kd.C_below HR0.out (by repeat (first | (with_reducible first | exact HB.out | apply below_alloc | apply pw_below_drewN | apply below_drew1 | refine below_set ?_ GE237.out) | exact HB.out))); (case side2 => exact HC0.out); rintro e w12 ⟨rfl, hb⟩; refine ⟨_, rfl, ?_⟩; have n0_ := Aside0.mk (blk_below (g := gb237) (o := .cells #[.int .u8 t232, .int .i64 t233, .int .u32 t234, .int .u32 t235] 25 (0, 0)) (by (with_reducible repeat (first | refine blk_drewN ?_ _ | refine blk_drew ?_ | refine blk_alloc ?_ _)); refine blk_put (cs := #[.int .u8 t232, .int .i64 t233, .int .u32 t234, .int .u32 0]) ?_ 3 _ rfl; (with_reducible repeat (first | refine blk_drewN ?_ _ | refine blk_drew ?_ | refine blk_alloc ?_ _)); refine blk_put (cs := #[.int .u8 t232, .int .i64 t233, .int .u32 0, .int .u32 0]) ?_ 2 _ rfl; (with_reducible repeat (first | refine blk_drewN ?_ _ | refine blk_drew ?_ | refine blk_alloc ?_ _)); refine blk_put (cs := #[.int .u8 t232, .int .i64 0, .int .u32 0, .int .u32 0]) ?_ 1 _ rfl; (with_reducible repeat (first | refine blk_drewN ?_ _ | refine blk_drew ?_ | refine blk_alloc ?_ _)); refine blk_put (cs := #[.int .u8 0, .int .i64 0, .int .u32 0, .int .u32 0]) ?_ 0 _ rfl; (with_reducible repeat (first | refine blk_drewN ?_ _ | refine blk_drew ?_ | refine blk_alloc ?_ _)); exact BK237.out) hb); have n1_ := Aside0.mk (below_step (by repeat (first | (with_reducible first | exact HB.out | apply below_alloc | apply pw_below_drewN | apply below_drew1 | refine below_set ?_ GE237.out) | exact HB.out)) hb); clear BK237; clear HB; have BK237 := n0_; have HB := n1_; clear n0_ n1_; (try clear hb); (try clear hb2); (try clear hk); (try clear hi)) | ((with_reducible refine gate_dst (N := 15) rfl ?_); refine box_event ?hg (N := 15) ?hd (cs := #[.int .u8 0, .int .i64 0, .int .u32 0, .int .u32 0]) (t := 25) ?hr ?_; (case hd => rfl); (case hg => rfl); (case hr => first | (go_simp; done) | (go_simp; rfl)); intro gb243 hg w13 hbox hb; have n0_ := Aside0.mk (blk_below (g := gb237) (o := .cells #[.int .u8 t232, .int .i64 t233, .int .u32 t234, .int .u32 t235] 25 (0, 0)) (by (with_reducible repeat (first | refine blk_drewN ?_ _ | refine blk_drew ?_ | refine blk_alloc ?_ _)); exact BK237.out) hb); have n1_ := Aside0.mk (below_step (by repeat (first | (with_reducible first | exact HB.out | apply below_alloc | apply pw_below_drewN | apply below_drew1 | refine below_set ?_ GE237.out) | exact HB.out)) hb); have n2_ := Aside0.mk (hbox); have n3_ := Aside0.mk ((by rw [hg]; exact (below_size (by repeat (first | (with_reducible first | exact HB.out | apply below_alloc | apply pw_below_drewN | apply below_drew1 | refine below_set ?_ GE237.out) | exact HB.out))) : w.heap.size ≤ gb243)); have n4_ := Aside0.mk ((by rw [hg]; exact (below_size (by repeat (first | (with_reducible first | exact HB.out | apply below_alloc | apply pw_below_drewN | apply below_drew1 | refine below_set ?_ GE237.out) | exact HB.out))) : w.heap.size ≤ gb243)); have n5_ := Aside0.mk ((by rw [hg]; exact Nat.ne_of_lt (blk_lt (g := gb237) (o := .cells #[.int .u8 t232, .int .i64 t233, .int .u32 t234, .int .u32 t235] 25 (0, 0)) (by (with_reducible repeat (first | refine blk_drewN ?_ _ | refine blk_drew ?_ | refine blk_alloc ?_ _)); exact BK237.out)) : gb237 ≠ gb243)); have n6_ := Aside0.mk ((by rw [hg]; exact Nat.ne_of_gt (blk_lt (g := gb237) (o := .cells #[.int .u8 t232, .int .i64 t233, .int .u32 t234, .int .u32 t235] 25 (0, 0)) (by (with_reducible repeat (first | refine blk_drewN ?_ _ | refine blk_drew ?_ | refine blk_alloc ?_ _)); exact BK237.out)) : gb243 ≠ gb237)); clear BK237; clear HB; have BK237 := n0_; have HB := n1_; have BK243 := n2_; have GW243 := n3_; have GE243 := n4_; have NB237_243 := n5_; have NB243_237 := n6_; clear n0_ n1_ n2_ n3_ n4_ n5_ n6_; clear hb hbox hg; have hnb14 := NB243_237.out; have hnc14 := NB237_243.out; have hcz15_0 : w13.cell? ⟨gb243, 0, none⟩ = some (.int .u8 0) := (blk_cell BK243.out 0).trans rfl; have hcz15_1 : w13.cell? ⟨gb243, 1, none⟩ = some (.int .i64 0) := (blk_cell BK243.out 1).trans rfl; have hcz15_2 : w13.cell? ⟨gb243, 2, none⟩ = some (.int .u32 0) := (blk_cell BK243.out 2).trans rfl; have hcz15_3 : w13.cell? ⟨gb243, 3, none⟩ = some (.int .u32 0) := (blk_cell BK243.out 3).trans rfl; have hfz15_0 := blk_frozen BK243.out 0; have hfz15_1 := blk_frozen BK243.out 1; have hfz15_2 := blk_frozen BK243.out 2; have hfz15_3 := blk_frozen BK243.out 3))
  (try simp only [Act.put, List.setIfInBounds_toArray, List.set_cons_zero, List.set_cons_succ])
  go_cut [40] (fun v40 wc => ∃ (kq : Nat) (x40_7 : Bool), v40 = .bool x40_7 ∧ Aside0 (bulwarkref18_Entry.j0 kq a2 a3 a4 x40_7 t232 t233 t234 t235 t238 t239 t240 t241 = some (r1, r2, r3)) ∧ Aside0 (kq ≤ k) ∧ Aside0 (wc.heap[gb237]? = some (.cells #[.int .u8 t232, .int .i64 t233, .int .u32 t234, .int .u32 t235] 25 (0, 0))) ∧ Aside0 (wc.heap[gb243]? = some (.cells #[.int .u8 t238, .int .i64 t239, .int .u32 t240, .int .u32 t241] 25 (0, 0))) ∧ Aside0 (Below w.heap.size w wc))
  case first =>
    have H := HC8.out
    clear HC8
    by_cases c16 : t236 = true
    · subst c16
      have H1 : (bulwarkref18_Entry.j0 k a2 a3 a4 (!t242) t232 t233 t234 t235 t238 t239 t240 t241) = some (r1, r2, r3) := by rw [if_pos rfl] at H; exact H
      clear H
      have H := H1
      clear H1
      have H' := Aside0.mk H
      clear H
      go_wp2
      go_meet
      case rel => exact ⟨_, (!t242), (by first | rfl | (simp; done) | (simp [*]; done)), H', ⟨by first | omega | exact Nat.le_refl _⟩, ⟨by (with_reducible repeat (first | refine blk_drewN ?_ _ | refine blk_drew ?_ | refine blk_alloc ?_ _)); refine blk_far ?_ NB237_243.out _; (with_reducible repeat (first | refine blk_drewN ?_ _ | refine blk_drew ?_ | refine blk_alloc ?_ _)); refine blk_far ?_ NB237_243.out _; (with_reducible repeat (first | refine blk_drewN ?_ _ | refine blk_drew ?_ | refine blk_alloc ?_ _)); refine blk_far ?_ NB237_243.out _; (with_reducible repeat (first | refine blk_drewN ?_ _ | refine blk_drew ?_ | refine blk_alloc ?_ _)); refine blk_far ?_ NB237_243.out _; (with_reducible repeat (first | refine blk_drewN ?_ _ | refine blk_drew ?_ | refine blk_alloc ?_ _)); exact BK237.out⟩, ⟨by (with_reducible repeat (first | refine blk_drewN ?_ _ | refine blk_drew ?_ | refine blk_alloc ?_ _)); refine blk_put (cs := #[.int .u8 t238, .int .i64 t239, .int .u32 t240, .int .u32 0]) ?_ 3 _ rfl; (with_reducible repeat (first | refine blk_drewN ?_ _ | refine blk_drew ?_ | refine blk_alloc ?_ _)); refine blk_put (cs := #[.int .u8 t238, .int .i64 t239, .int .u32 0, .int .u32 0]) ?_ 2 _ rfl; (with_reducible repeat (first | refine blk_drewN ?_ _ | refine blk_drew ?_ | refine blk_alloc ?_ _)); refine blk_put (cs := #[.int .u8 t238, .int .i64 0, .int .u32 0, .int .u32 0]) ?_ 1 _ rfl; (with_reducible repeat (first | refine blk_drewN ?_ _ | refine blk_drew ?_ | refine blk_alloc ?_ _)); refine blk_put (cs := #[.int .u8 0, .int .i64 0, .int .u32 0, .int .u32 0]) ?_ 0 _ rfl; (with_reducible repeat (first | refine blk_drewN ?_ _ | refine blk_drew ?_ | refine blk_alloc ?_ _)); exact BK243.out⟩, ⟨by repeat (first | (with_reducible first | exact HB.out | apply below_alloc | apply pw_below_drewN | apply below_drew1 | refine below_set ?_ GE237.out | refine below_set ?_ GE243.out) | exact HB.out)⟩⟩
    · replace c16 := Bool.eq_false_iff.mpr c16
      subst c16
      have H1 : (bulwarkref18_Entry.j0 k a2 a3 a4 true t232 t233 t234 t235 t238 t239 t240 t241) = some (r1, r2, r3) := by rw [if_neg (show ¬ (false = true) by decide)] at H; exact H
      clear H
      have H := H1
      clear H1
      have H' := Aside0.mk H
      clear H
      go_wp2
      go_meet
      case rel => exact ⟨_, (true), (by first | rfl | (simp; done) | (simp [*]; done)), H', ⟨by first | omega | exact Nat.le_refl _⟩, ⟨by (with_reducible repeat (first | refine blk_drewN ?_ _ | refine blk_drew ?_ | refine blk_alloc ?_ _)); refine blk_far ?_ NB237_243.out _; (with_reducible repeat (first | refine blk_drewN ?_ _ | refine blk_drew ?_ | refine blk_alloc ?_ _)); refine blk_far ?_ NB237_243.out _; (with_reducible repeat (first | refine blk_drewN ?_ _ | refine blk_drew ?_ | refine blk_alloc ?_ _)); refine blk_far ?_ NB237_243.out _; (with_reducible repeat (first | refine blk_drewN ?_ _ | refine blk_drew ?_ | refine blk_alloc ?_ _)); refine blk_far ?_ NB237_243.out _; (with_reducible repeat (first | refine blk_drewN ?_ _ | refine blk_drew ?_ | refine blk_alloc ?_ _)); exact BK237.out⟩, ⟨by (with_reducible repeat (first | refine blk_drewN ?_ _ | refine blk_drew ?_ | refine blk_alloc ?_ _)); refine blk_put (cs := #[.int .u8 t238, .int .i64 t239, .int .u32 t240, .int .u32 0]) ?_ 3 _ rfl; (with_reducible repeat (first | refine blk_drewN ?_ _ | refine blk_drew ?_ | refine blk_alloc ?_ _)); refine blk_put (cs := #[.int .u8 t238, .int .i64 t239, .int .u32 0, .int .u32 0]) ?_ 2 _ rfl; (with_reducible repeat (first | refine blk_drewN ?_ _ | refine blk_drew ?_ | refine blk_alloc ?_ _)); refine blk_put (cs := #[.int .u8 t238, .int .i64 0, .int .u32 0, .int .u32 0]) ?_ 1 _ rfl; (with_reducible repeat (first | refine blk_drewN ?_ _ | refine blk_drew ?_ | refine blk_alloc ?_ _)); refine blk_put (cs := #[.int .u8 0, .int .i64 0, .int .u32 0, .int .u32 0]) ?_ 0 _ rfl; (with_reducible repeat (first | refine blk_drewN ?_ _ | refine blk_drew ?_ | refine blk_alloc ?_ _)); exact BK243.out⟩, ⟨by repeat (first | (with_reducible first | exact HB.out | apply below_alloc | apply pw_below_drewN | apply below_drew1 | refine below_set ?_ GE237.out | refine below_set ?_ GE243.out) | exact HB.out)⟩⟩
  case rest =>
    clear HC8
    try clear c1
    try clear p2
    try clear c8
    try clear c14
    try clear c15
    try clear c16
    try clear hcz11_0
    try clear hcz11_1
    try clear hcz11_2
    try clear hcz11_3
    try clear hcz15_0
    try clear hcz15_1
    try clear hcz15_2
    try clear hcz15_3
    try clear hfz11_0
    try clear hfz11_1
    try clear hfz11_2
    try clear hfz11_3
    try clear hfz15_0
    try clear hfz15_1
    try clear hfz15_2
    try clear hfz15_3
    obtain ⟨kq, x40_7, rfl, HA, HJ7, BK237, BK243, HB⟩ := hcut
    cases kq with
    | zero => exact absurd HA.out (by simp [bulwarkref18_Entry.j0])
    | succ kj7 =>
      have H := HA.out
      clear HA
      simp only [bulwarkref18_Entry.j0] at H
      by_cases c17 : x40_7 = true
      · subst c17
        have H1 : (some (([] : List (S66)), 0, 6)) = some (r1, r2, r3) := by rw [if_pos rfl] at H; exact H
        clear H
        have H := H1
        clear H1
        simp only [Option.some.injEq, Prod.mk.injEq] at H
        obtain ⟨rfl, rfl, rfl⟩ := H
        go_wp2
        go_ret3
        exact ⟨_, by first | rfl | (simp [errW_none, errW_some] <;> rfl) | (simp [*, errW_none, errW_some] <;> rfl), by first | exact Kd.R_nil _ _ _ _ _ | exact Kd.N_nil _ _ _ _ _ | exact Kd.V_nil _ _ _ _ _ | exact Kd.Q_nil _ _ _ _ _ | exact Kd.S_nil _ _ _ _ _, by repeat (first | (with_reducible first | exact HB.out | apply below_alloc | apply pw_below_drewN | apply below_drew1 | refine below_set ?_ GE237.out | refine below_set ?_ GE243.out) | exact HB.out)⟩
      · replace c17 := Bool.eq_false_iff.mpr c17
        subst c17
        have H1 : ((bulwarkref18_Cap.f kj7 t232 t233 t234 t235 29 t234).bind fun bt244 => ((bulwarkref18_Cap.f kj7 t238 t239 t240 t241 23 t240).bind fun bt253 => (if bt244.2.2.2.2.2.2.2 = 0 then (bulwarkref18_Entry.j1 kj7 a2 a3 a4 (bt253.2.2.2.2.2.2.2 != 0) t232 t233 t234 t235 bt253.1 bt253.2.1 bt253.2.2.1 bt253.2.2.2.1 bt253.2.2.2.2.1 bt253.2.2.2.2.2.1 bt253.2.2.2.2.2.2.1) else (bulwarkref18_Entry.j1 kj7 a2 a3 a4 true t232 t233 t234 t235 bt253.1 bt253.2.1 bt253.2.2.1 bt253.2.2.2.1 bt253.2.2.2.2.1 bt253.2.2.2.2.2.1 bt253.2.2.2.2.2.2.1)))) = some (r1, r2, r3) := by rw [if_neg (show ¬ (false = true) by decide)] at H; exact H
        clear H
        have H := H1
        clear H1
        replace H := Option.bind_eq_some_iff.mp H
        obtain ⟨⟨t244, t245, t246, t247, t248, t249, t250, t251⟩, A180, H⟩ := H
        replace H : ((bulwarkref18_Cap.f kj7 t238 t239 t240 t241 23 t240).bind fun bt253 => (if t251 = 0 then (bulwarkref18_Entry.j1 kj7 a2 a3 a4 (bt253.2.2.2.2.2.2.2 != 0) t232 t233 t234 t235 bt253.1 bt253.2.1 bt253.2.2.1 bt253.2.2.2.1 bt253.2.2.2.2.1 bt253.2.2.2.2.2.1 bt253.2.2.2.2.2.2.1) else (bulwarkref18_Entry.j1 kj7 a2 a3 a4 true t232 t233 t234 t235 bt253.1 bt253.2.1 bt253.2.2.1 bt253.2.2.2.1 bt253.2.2.2.2.1 bt253.2.2.2.2.2.1 bt253.2.2.2.2.2.2.1))) = some (r1, r2, r3) := H
        have A18 := Aside0.mk A180
        clear A180
        replace H := Option.bind_eq_some_iff.mp H
        obtain ⟨⟨t253, t254, t255, t256, t257, t258, t259, t260⟩, A190, H⟩ := H
        replace H : (if t251 = 0 then (bulwarkref18_Entry.j1 kj7 a2 a3 a4 (t260 != 0) t232 t233 t234 t235 t253 t254 t255 t256 t257 t258 t259) else (bulwarkref18_Entry.j1 kj7 a2 a3 a4 true t232 t233 t234 t235 t253 t254 t255 t256 t257 t258 t259)) = some (r1, r2, r3) := H
        have A19 := Aside0.mk A190
        clear A190
        have HC20 := Aside0.mk H
        clear H
        have hnb21 := NB237_243.out
        have hnc21 := NB243_237.out
        have hcz22_0 : wc.cell? ⟨gb237, 0, none⟩ = some (.int .u8 t232) := (blk_cell BK237.out 0).trans rfl
        have hcz22_1 : wc.cell? ⟨gb237, 1, none⟩ = some (.int .i64 t233) := (blk_cell BK237.out 1).trans rfl
        have hcz22_2 : wc.cell? ⟨gb237, 2, none⟩ = some (.int .u32 t234) := (blk_cell BK237.out 2).trans rfl
        have hcz22_3 : wc.cell? ⟨gb237, 3, none⟩ = some (.int .u32 t235) := (blk_cell BK237.out 3).trans rfl
        have hfz22_0 := blk_frozen BK237.out 0
        have hfz22_1 := blk_frozen BK237.out 1
        have hfz22_2 := blk_frozen BK237.out 2
        have hfz22_3 := blk_frozen BK237.out 3
        go_upto_region 7 with (first | ((with_reducible refine gate_callee (f := 10) rfl ?_); refine goesL_ (some 45) rfl rfl Try.func10 (by kernel_rfl) rfl #[.agg #[.int .u8 t232, .int .i64 t233, .int .u32 t234, .int .u32 t235], .int .u8 29, .int .u32 t234] rfl (by (try simp only [List.map_toArray, List.map_cons, List.map_nil]); first | done | rfl | (simp only [List.length_drop, List.length_take]; rfl)) ?_; (with_reducible refine (bulwarkref18_Cap.calls kj7 t232 t233 t234 t235 29 t234 t244 t245 t246 t247 t248 t249 t250 t251 _ A18.out).mono ?_); rintro e w23 ⟨rfl, hb⟩; refine ⟨_, rfl, ?_⟩; have n0_ := Aside0.mk (blk_below (g := gb237) (o := .cells #[.int .u8 t232, .int .i64 t233, .int .u32 t234, .int .u32 t235] 25 (0, 0)) (by (with_reducible repeat (first | refine blk_drewN ?_ _ | refine blk_drew ?_ | refine blk_alloc ?_ _)); exact BK237.out) hb); have n1_ := Aside0.mk (blk_below (g := gb243) (o := .cells #[.int .u8 t238, .int .i64 t239, .int .u32 t240, .int .u32 t241] 25 (0, 0)) (by (with_reducible repeat (first | refine blk_drewN ?_ _ | refine blk_drew ?_ | refine blk_alloc ?_ _)); exact BK243.out) hb); have n2_ := Aside0.mk (below_step (by repeat (first | (with_reducible first | exact HB.out | apply below_alloc | apply pw_below_drewN | apply below_drew1 | refine below_set ?_ GE237.out | refine below_set ?_ GE243.out) | exact HB.out)) hb); clear BK237; clear BK243; clear HB; have BK237 := n0_; have BK243 := n1_; have HB := n2_; clear n0_ n1_ n2_; (try clear hb); (try clear hb2); (try clear hk); (try clear hi)) | ((with_reducible refine gate_dst (N := 17) rfl ?_); refine box_event ?hg (N := 17) ?hd (cs := #[.bool false, .int .u32 0, .int .u8 0, .int .u8 0, .int .u8 0, .int .u16 0, .int .u16 0]) (t := 34) ?hr ?_; (case hd => rfl); (case hg => rfl); (case hr => first | (go_simp; done) | (go_simp; rfl)); intro gb252 hg w24 hbox hb; have n0_ := Aside0.mk (blk_below (g := gb237) (o := .cells #[.int .u8 t232, .int .i64 t233, .int .u32 t234, .int .u32 t235] 25 (0, 0)) (by (with_reducible repeat (first | refine blk_drewN ?_ _ | refine blk_drew ?_ | refine blk_alloc ?_ _)); exact BK237.out) hb); have n1_ := Aside0.mk (blk_below (g := gb243) (o := .cells #[.int .u8 t238, .int .i64 t239, .int .u32 t240, .int .u32 t241] 25 (0, 0)) (by (with_reducible repeat (first | refine blk_drewN ?_ _ | refine blk_drew ?_ | refine blk_alloc ?_ _)); exact BK243.out) hb); have n2_ := Aside0.mk (below_step (by repeat (first | (with_reducible first | exact HB.out | apply below_alloc | apply pw_below_drewN | apply below_drew1 | refine below_set ?_ GE237.out | refine below_set ?_ GE243.out) | exact HB.out)) hb); have n3_ := Aside0.mk (hbox); have n4_ := Aside0.mk ((by rw [hg]; exact (below_size (by repeat (first | (with_reducible first | exact HB.out | apply below_alloc | apply pw_below_drewN | apply below_drew1 | refine below_set ?_ GE237.out | refine below_set ?_ GE243.out) | exact HB.out))) : w.heap.size ≤ gb252)); have n5_ := Aside0.mk ((by rw [hg]; exact (below_size (by repeat (first | (with_reducible first | exact HB.out | apply below_alloc | apply pw_below_drewN | apply below_drew1 | refine below_set ?_ GE237.out | refine below_set ?_ GE243.out) | exact HB.out))) : w.heap.size ≤ gb252)); have n6_ := Aside0.mk ((by rw [hg]; exact Nat.ne_of_lt (blk_lt (g := gb237) (o := .cells #[.int .u8 t232, .int .i64 t233, .int .u32 t234, .int .u32 t235] 25 (0, 0)) (by (with_reducible repeat (first | refine blk_drewN ?_ _ | refine blk_drew ?_ | refine blk_alloc ?_ _)); exact BK237.out)) : gb237 ≠ gb252)); have n7_ := Aside0.mk ((by rw [hg]; exact Nat.ne_of_gt (blk_lt (g := gb237) (o := .cells #[.int .u8 t232, .int .i64 t233, .int .u32 t234, .int .u32 t235] 25 (0, 0)) (by (with_reducible repeat (first | refine blk_drewN ?_ _ | refine blk_drew ?_ | refine blk_alloc ?_ _)); exact BK237.out)) : gb252 ≠ gb237)); have n8_ := Aside0.mk ((by rw [hg]; exact Nat.ne_of_lt (blk_lt (g := gb243) (o := .cells #[.int .u8 t238, .int .i64 t239, .int .u32 t240, .int .u32 t241] 25 (0, 0)) (by (with_reducible repeat (first | refine blk_drewN ?_ _ | refine blk_drew ?_ | refine blk_alloc ?_ _)); exact BK243.out)) : gb243 ≠ gb252)); have n9_ := Aside0.mk ((by rw [hg]; exact Nat.ne_of_gt (blk_lt (g := gb243) (o := .cells #[.int .u8 t238, .int .i64 t239, .int .u32 t240, .int .u32 t241] 25 (0, 0)) (by (with_reducible repeat (first | refine blk_drewN ?_ _ | refine blk_drew ?_ | refine blk_alloc ?_ _)); exact BK243.out)) : gb252 ≠ gb243)); clear BK237; clear BK243; clear HB; have BK237 := n0_; have BK243 := n1_; have HB := n2_; have BK252 := n3_; have GW252 := n4_; have GE252 := n5_; have NB237_252 := n6_; have NB252_237 := n7_; have NB243_252 := n8_; have NB252_243 := n9_; clear n0_ n1_ n2_ n3_ n4_ n5_ n6_ n7_ n8_ n9_; clear hb hbox hg; have hnb25 := NB252_237.out; have hnc25 := NB237_252.out; have hnb26 := NB252_243.out; have hnc26 := NB243_252.out; have hcz27_0 : w24.cell? ⟨gb252, 0, none⟩ = some (.bool false) := (blk_cell BK252.out 0).trans rfl; have hcz27_1 : w24.cell? ⟨gb252, 1, none⟩ = some (.int .u32 0) := (blk_cell BK252.out 1).trans rfl; have hcz27_2 : w24.cell? ⟨gb252, 2, none⟩ = some (.int .u8 0) := (blk_cell BK252.out 2).trans rfl; have hcz27_3 : w24.cell? ⟨gb252, 3, none⟩ = some (.int .u8 0) := (blk_cell BK252.out 3).trans rfl; have hcz27_4 : w24.cell? ⟨gb252, 4, none⟩ = some (.int .u8 0) := (blk_cell BK252.out 4).trans rfl; have hcz27_5 : w24.cell? ⟨gb252, 5, none⟩ = some (.int .u16 0) := (blk_cell BK252.out 5).trans rfl; have hcz27_6 : w24.cell? ⟨gb252, 6, none⟩ = some (.int .u16 0) := (blk_cell BK252.out 6).trans rfl; have hfz27_0 := blk_frozen BK252.out 0; have hfz27_1 := blk_frozen BK252.out 1; have hfz27_2 := blk_frozen BK252.out 2; have hfz27_3 := blk_frozen BK252.out 3; have hfz27_4 := blk_frozen BK252.out 4; have hfz27_5 := blk_frozen BK252.out 5; have hfz27_6 := blk_frozen BK252.out 6; have hcz28_0 : w24.cell? ⟨gb243, 0, none⟩ = some (.int .u8 t238) := (blk_cell BK243.out 0).trans rfl; have hcz28_1 : w24.cell? ⟨gb243, 1, none⟩ = some (.int .i64 t239) := (blk_cell BK243.out 1).trans rfl; have hcz28_2 : w24.cell? ⟨gb243, 2, none⟩ = some (.int .u32 t240) := (blk_cell BK243.out 2).trans rfl; have hcz28_3 : w24.cell? ⟨gb243, 3, none⟩ = some (.int .u32 t241) := (blk_cell BK243.out 3).trans rfl; have hfz28_0 := blk_frozen BK243.out 0; have hfz28_1 := blk_frozen BK243.out 1; have hfz28_2 := blk_frozen BK243.out 2; have hfz28_3 := blk_frozen BK243.out 3) | ((with_reducible refine gate_callee (f := 10) rfl ?_); refine goesL_ (some 52) rfl rfl Try.func10 (by kernel_rfl) rfl #[.agg #[.int .u8 t238, .int .i64 t239, .int .u32 t240, .int .u32 t241], .int .u8 23, .int .u32 t240] rfl (by (try simp only [List.map_toArray, List.map_cons, List.map_nil]); first | done | rfl | (simp only [List.length_drop, List.length_take]; rfl)) ?_; (with_reducible refine (bulwarkref18_Cap.calls kj7 t238 t239 t240 t241 23 t240 t253 t254 t255 t256 t257 t258 t259 t260 _ A19.out).mono ?_); rintro e w29 ⟨rfl, hb⟩; refine ⟨_, rfl, ?_⟩; have n0_ := Aside0.mk (blk_below (g := gb237) (o := .cells #[.int .u8 t232, .int .i64 t233, .int .u32 t234, .int .u32 t235] 25 (0, 0)) (by (with_reducible repeat (first | refine blk_drewN ?_ _ | refine blk_drew ?_ | refine blk_alloc ?_ _)); refine blk_far ?_ NB237_252.out _; (with_reducible repeat (first | refine blk_drewN ?_ _ | refine blk_drew ?_ | refine blk_alloc ?_ _)); refine blk_far ?_ NB237_252.out _; (with_reducible repeat (first | refine blk_drewN ?_ _ | refine blk_drew ?_ | refine blk_alloc ?_ _)); refine blk_far ?_ NB237_252.out _; (with_reducible repeat (first | refine blk_drewN ?_ _ | refine blk_drew ?_ | refine blk_alloc ?_ _)); refine blk_far ?_ NB237_252.out _; (with_reducible repeat (first | refine blk_drewN ?_ _ | refine blk_drew ?_ | refine blk_alloc ?_ _)); refine blk_far ?_ NB237_252.out _; (with_reducible repeat (first | refine blk_drewN ?_ _ | refine blk_drew ?_ | refine blk_alloc ?_ _)); refine blk_far ?_ NB237_252.out _; (with_reducible repeat (first | refine blk_drewN ?_ _ | refine blk_drew ?_ | refine blk_alloc ?_ _)); refine blk_far ?_ NB237_252.out _; (with_reducible repeat (first | refine blk_drewN ?_ _ | refine blk_drew ?_ | refine blk_alloc ?_ _)); exact BK237.out) hb); have n1_ := Aside0.mk (blk_below (g := gb243) (o := .cells #[.int .u8 t238, .int .i64 t239, .int .u32 t240, .int .u32 t241] 25 (0, 0)) (by (with_reducible repeat (first | refine blk_drewN ?_ _ | refine blk_drew ?_ | refine blk_alloc ?_ _)); refine blk_far ?_ NB243_252.out _; (with_reducible repeat (first | refine blk_drewN ?_ _ | refine blk_drew ?_ | refine blk_alloc ?_ _)); refine blk_far ?_ NB243_252.out _; (with_reducible repeat (first | refine blk_drewN ?_ _ | refine blk_drew ?_ | refine blk_alloc ?_ _)); refine blk_far ?_ NB243_252.out _; (with_reducible repeat (first | refine blk_drewN ?_ _ | refine blk_drew ?_ | refine blk_alloc ?_ _)); refine blk_far ?_ NB243_252.out _; (with_reducible repeat (first | refine blk_drewN ?_ _ | refine blk_drew ?_ | refine blk_alloc ?_ _)); refine blk_far ?_ NB243_252.out _; (with_reducible repeat (first | refine blk_drewN ?_ _ | refine blk_drew ?_ | refine blk_alloc ?_ _)); refine blk_far ?_ NB243_252.out _; (with_reducible repeat (first | refine blk_drewN ?_ _ | refine blk_drew ?_ | refine blk_alloc ?_ _)); refine blk_far ?_ NB243_252.out _; (with_reducible repeat (first | refine blk_drewN ?_ _ | refine blk_drew ?_ | refine blk_alloc ?_ _)); exact BK243.out) hb); have n2_ := Aside0.mk (blk_below (g := gb252) (o := .cells #[.bool t244, .int .u32 t245, .int .u8 t246, .int .u8 t247, .int .u8 t248, .int .u16 t249, .int .u16 t250] 34 (0, 0)) (by (with_reducible repeat (first | refine blk_drewN ?_ _ | refine blk_drew ?_ | refine blk_alloc ?_ _)); refine blk_put (cs := #[.bool t244, .int .u32 t245, .int .u8 t246, .int .u8 t247, .int .u8 t248, .int .u16 t249, .int .u16 0]) ?_ 6 _ rfl; (with_reducible repeat (first | refine blk_drewN ?_ _ | refine blk_drew ?_ | refine blk_alloc ?_ _)); refine blk_put (cs := #[.bool t244, .int .u32 t245, .int .u8 t246, .int .u8 t247, .int .u8 t248, .int .u16 0, .int .u16 0]) ?_ 5 _ rfl; (with_reducible repeat (first | refine blk_drewN ?_ _ | refine blk_drew ?_ | refine blk_alloc ?_ _)); refine blk_put (cs := #[.bool t244, .int .u32 t245, .int .u8 t246, .int .u8 t247, .int .u8 0, .int .u16 0, .int .u16 0]) ?_ 4 _ rfl; (with_reducible repeat (first | refine blk_drewN ?_ _ | refine blk_drew ?_ | refine blk_alloc ?_ _)); refine blk_put (cs := #[.bool t244, .int .u32 t245, .int .u8 t246, .int .u8 0, .int .u8 0, .int .u16 0, .int .u16 0]) ?_ 3 _ rfl; (with_reducible repeat (first | refine blk_drewN ?_ _ | refine blk_drew ?_ | refine blk_alloc ?_ _)); refine blk_put (cs := #[.bool t244, .int .u32 t245, .int .u8 0, .int .u8 0, .int .u8 0, .int .u16 0, .int .u16 0]) ?_ 2 _ rfl; (with_reducible repeat (first | refine blk_drewN ?_ _ | refine blk_drew ?_ | refine blk_alloc ?_ _)); refine blk_put (cs := #[.bool t244, .int .u32 0, .int .u8 0, .int .u8 0, .int .u8 0, .int .u16 0, .int .u16 0]) ?_ 1 _ rfl; (with_reducible repeat (first | refine blk_drewN ?_ _ | refine blk_drew ?_ | refine blk_alloc ?_ _)); refine blk_put (cs := #[.bool false, .int .u32 0, .int .u8 0, .int .u8 0, .int .u8 0, .int .u16 0, .int .u16 0]) ?_ 0 _ rfl; (with_reducible repeat (first | refine blk_drewN ?_ _ | refine blk_drew ?_ | refine blk_alloc ?_ _)); exact BK252.out) hb); have n3_ := Aside0.mk (below_step (by repeat (first | (with_reducible first | exact HB.out | apply below_alloc | apply pw_below_drewN | apply below_drew1 | refine below_set ?_ GE237.out | refine below_set ?_ GE243.out | refine below_set ?_ GE252.out) | exact HB.out)) hb); clear BK237; clear BK243; clear BK252; clear HB; have BK237 := n0_; have BK243 := n1_; have BK252 := n2_; have HB := n3_; clear n0_ n1_ n2_ n3_; (try clear hb); (try clear hb2); (try clear hk); (try clear hi)) | ((with_reducible refine gate_dst (N := 19) rfl ?_); refine box_event ?hg (N := 19) ?hd (cs := #[.bool false, .int .u32 0, .int .u8 0, .int .u8 0, .int .u8 0, .int .u16 0, .int .u16 0]) (t := 34) ?hr ?_; (case hd => rfl); (case hg => rfl); (case hr => first | (go_simp; done) | (go_simp; rfl)); intro gb261 hg w30 hbox hb; have n0_ := Aside0.mk (blk_below (g := gb237) (o := .cells #[.int .u8 t232, .int .i64 t233, .int .u32 t234, .int .u32 t235] 25 (0, 0)) (by (with_reducible repeat (first | refine blk_drewN ?_ _ | refine blk_drew ?_ | refine blk_alloc ?_ _)); exact BK237.out) hb); have n1_ := Aside0.mk (blk_below (g := gb243) (o := .cells #[.int .u8 t238, .int .i64 t239, .int .u32 t240, .int .u32 t241] 25 (0, 0)) (by (with_reducible repeat (first | refine blk_drewN ?_ _ | refine blk_drew ?_ | refine blk_alloc ?_ _)); exact BK243.out) hb); have n2_ := Aside0.mk (blk_below (g := gb252) (o := .cells #[.bool t244, .int .u32 t245, .int .u8 t246, .int .u8 t247, .int .u8 t248, .int .u16 t249, .int .u16 t250] 34 (0, 0)) (by (with_reducible repeat (first | refine blk_drewN ?_ _ | refine blk_drew ?_ | refine blk_alloc ?_ _)); exact BK252.out) hb); have n3_ := Aside0.mk (below_step (by repeat (first | (with_reducible first | exact HB.out | apply below_alloc | apply pw_below_drewN | apply below_drew1 | refine below_set ?_ GE237.out | refine below_set ?_ GE243.out | refine below_set ?_ GE252.out) | exact HB.out)) hb); have n4_ := Aside0.mk (hbox); have n5_ := Aside0.mk ((by rw [hg]; exact (below_size (by repeat (first | (with_reducible first | exact HB.out | apply below_alloc | apply pw_below_drewN | apply below_drew1 | refine below_set ?_ GE237.out | refine below_set ?_ GE243.out | refine below_set ?_ GE252.out) | exact HB.out))) : w.heap.size ≤ gb261)); have n6_ := Aside0.mk ((by rw [hg]; exact (below_size (by repeat (first | (with_reducible first | exact HB.out | apply below_alloc | apply pw_below_drewN | apply below_drew1 | refine below_set ?_ GE237.out | refine below_set ?_ GE243.out | refine below_set ?_ GE252.out) | exact HB.out))) : w.heap.size ≤ gb261)); have n7_ := Aside0.mk ((by rw [hg]; exact Nat.ne_of_lt (blk_lt (g := gb237) (o := .cells #[.int .u8 t232, .int .i64 t233, .int .u32 t234, .int .u32 t235] 25 (0, 0)) (by (with_reducible repeat (first | refine blk_drewN ?_ _ | refine blk_drew ?_ | refine blk_alloc ?_ _)); exact BK237.out)) : gb237 ≠ gb261)); have n8_ := Aside0.mk ((by rw [hg]; exact Nat.ne_of_gt (blk_lt (g := gb237) (o := .cells #[.int .u8 t232, .int .i64 t233, .int .u32 t234, .int .u32 t235] 25 (0, 0)) (by (with_reducible repeat (first | refine blk_drewN ?_ _ | refine blk_drew ?_ | refine blk_alloc ?_ _)); exact BK237.out)) : gb261 ≠ gb237)); have n9_ := Aside0.mk ((by rw [hg]; exact Nat.ne_of_lt (blk_lt (g := gb243) (o := .cells #[.int .u8 t238, .int .i64 t239, .int .u32 t240, .int .u32 t241] 25 (0, 0)) (by (with_reducible repeat (first | refine blk_drewN ?_ _ | refine blk_drew ?_ | refine blk_alloc ?_ _)); exact BK243.out)) : gb243 ≠ gb261)); have n10_ := Aside0.mk ((by rw [hg]; exact Nat.ne_of_gt (blk_lt (g := gb243) (o := .cells #[.int .u8 t238, .int .i64 t239, .int .u32 t240, .int .u32 t241] 25 (0, 0)) (by (with_reducible repeat (first | refine blk_drewN ?_ _ | refine blk_drew ?_ | refine blk_alloc ?_ _)); exact BK243.out)) : gb261 ≠ gb243)); have n11_ := Aside0.mk ((by rw [hg]; exact Nat.ne_of_lt (blk_lt (g := gb252) (o := .cells #[.bool t244, .int .u32 t245, .int .u8 t246, .int .u8 t247, .int .u8 t248, .int .u16 t249, .int .u16 t250] 34 (0, 0)) (by (with_reducible repeat (first | refine blk_drewN ?_ _ | refine blk_drew ?_ | refine blk_alloc ?_ _)); exact BK252.out)) : gb252 ≠ gb261)); have n12_ := Aside0.mk ((by rw [hg]; exact Nat.ne_of_gt (blk_lt (g := gb252) (o := .cells #[.bool t244, .int .u32 t245, .int .u8 t246, .int .u8 t247, .int .u8 t248, .int .u16 t249, .int .u16 t250] 34 (0, 0)) (by (with_reducible repeat (first | refine blk_drewN ?_ _ | refine blk_drew ?_ | refine blk_alloc ?_ _)); exact BK252.out)) : gb261 ≠ gb252)); clear BK237; clear BK243; clear BK252; clear HB; have BK237 := n0_; have BK243 := n1_; have BK252 := n2_; have HB := n3_; have BK261 := n4_; have GW261 := n5_; have GE261 := n6_; have NB237_261 := n7_; have NB261_237 := n8_; have NB243_261 := n9_; have NB261_243 := n10_; have NB252_261 := n11_; have NB261_252 := n12_; clear n0_ n1_ n2_ n3_ n4_ n5_ n6_ n7_ n8_ n9_ n10_ n11_ n12_; clear hb hbox hg; have hnb31 := NB261_237.out; have hnc31 := NB237_261.out; have hnb32 := NB261_243.out; have hnc32 := NB243_261.out; have hnb33 := NB261_252.out; have hnc33 := NB252_261.out; have hcz34_0 : w30.cell? ⟨gb261, 0, none⟩ = some (.bool false) := (blk_cell BK261.out 0).trans rfl; have hcz34_1 : w30.cell? ⟨gb261, 1, none⟩ = some (.int .u32 0) := (blk_cell BK261.out 1).trans rfl; have hcz34_2 : w30.cell? ⟨gb261, 2, none⟩ = some (.int .u8 0) := (blk_cell BK261.out 2).trans rfl; have hcz34_3 : w30.cell? ⟨gb261, 3, none⟩ = some (.int .u8 0) := (blk_cell BK261.out 3).trans rfl; have hcz34_4 : w30.cell? ⟨gb261, 4, none⟩ = some (.int .u8 0) := (blk_cell BK261.out 4).trans rfl; have hcz34_5 : w30.cell? ⟨gb261, 5, none⟩ = some (.int .u16 0) := (blk_cell BK261.out 5).trans rfl; have hcz34_6 : w30.cell? ⟨gb261, 6, none⟩ = some (.int .u16 0) := (blk_cell BK261.out 6).trans rfl; have hfz34_0 := blk_frozen BK261.out 0; have hfz34_1 := blk_frozen BK261.out 1; have hfz34_2 := blk_frozen BK261.out 2; have hfz34_3 := blk_frozen BK261.out 3; have hfz34_4 := blk_frozen BK261.out 4; have hfz34_5 := blk_frozen BK261.out 5; have hfz34_6 := blk_frozen BK261.out 6))
        (try simp only [Act.put, List.setIfInBounds_toArray, List.set_cons_zero, List.set_cons_succ])
        go_cut [60] (fun v60 wc => ∃ (kq : Nat) (x60_19 : Bool), v60 = .bool x60_19 ∧ Aside0 (bulwarkref18_Entry.j1 kq a2 a3 a4 x60_19 t232 t233 t234 t235 t253 t254 t255 t256 t257 t258 t259 = some (r1, r2, r3)) ∧ Aside0 (kq ≤ kj7) ∧ Aside0 (wc.heap[gb237]? = some (.cells #[.int .u8 t232, .int .i64 t233, .int .u32 t234, .int .u32 t235] 25 (0, 0))) ∧ Aside0 (wc.heap[gb243]? = some (.cells #[.int .u8 t238, .int .i64 t239, .int .u32 t240, .int .u32 t241] 25 (0, 0))) ∧ Aside0 (wc.heap[gb252]? = some (.cells #[.bool t244, .int .u32 t245, .int .u8 t246, .int .u8 t247, .int .u8 t248, .int .u16 t249, .int .u16 t250] 34 (0, 0))) ∧ Aside0 (wc.heap[gb261]? = some (.cells #[.bool t253, .int .u32 t254, .int .u8 t255, .int .u8 t256, .int .u8 t257, .int .u16 t258, .int .u16 t259] 34 (0, 0))) ∧ Aside0 (Below w.heap.size w wc))
        case first =>
          have H := HC20.out
          clear HC20
          by_cases c35 : t251 = 0
          · rw [if_pos c35] at H
            have c35b0 : (t251 == 0) = true := beq_iff_eq.mpr c35
            have c35b1 : (t251 != 0) = false := bne_eq_false_iff_eq.mpr c35
            clear c35
            (first | rw [c35b0] | (simp only [i64_w, i32_w]; rw [c35b0]) | skip)
            have H' := Aside0.mk H
            clear H
            go_wp2
            go_meet
            case rel => exact ⟨_, ((t260 != 0)), (by first | rfl | (simp; done) | (simp [*]; done)), H', ⟨by have := HJ7.out; first | omega | exact Nat.le_refl _⟩, ⟨by (with_reducible repeat (first | refine blk_drewN ?_ _ | refine blk_drew ?_ | refine blk_alloc ?_ _)); refine blk_far ?_ NB237_261.out _; (with_reducible repeat (first | refine blk_drewN ?_ _ | refine blk_drew ?_ | refine blk_alloc ?_ _)); refine blk_far ?_ NB237_261.out _; (with_reducible repeat (first | refine blk_drewN ?_ _ | refine blk_drew ?_ | refine blk_alloc ?_ _)); refine blk_far ?_ NB237_261.out _; (with_reducible repeat (first | refine blk_drewN ?_ _ | refine blk_drew ?_ | refine blk_alloc ?_ _)); refine blk_far ?_ NB237_261.out _; (with_reducible repeat (first | refine blk_drewN ?_ _ | refine blk_drew ?_ | refine blk_alloc ?_ _)); refine blk_far ?_ NB237_261.out _; (with_reducible repeat (first | refine blk_drewN ?_ _ | refine blk_drew ?_ | refine blk_alloc ?_ _)); refine blk_far ?_ NB237_261.out _; (with_reducible repeat (first | refine blk_drewN ?_ _ | refine blk_drew ?_ | refine blk_alloc ?_ _)); refine blk_far ?_ NB237_261.out _; (with_reducible repeat (first | refine blk_drewN ?_ _ | refine blk_drew ?_ | refine blk_alloc ?_ _)); exact BK237.out⟩, ⟨by (with_reducible repeat (first | refine blk_drewN ?_ _ | refine blk_drew ?_ | refine blk_alloc ?_ _)); refine blk_far ?_ NB243_261.out _; (with_reducible repeat (first | refine blk_drewN ?_ _ | refine blk_drew ?_ | refine blk_alloc ?_ _)); refine blk_far ?_ NB243_261.out _; (with_reducible repeat (first | refine blk_drewN ?_ _ | refine blk_drew ?_ | refine blk_alloc ?_ _)); refine blk_far ?_ NB243_261.out _; (with_reducible repeat (first | refine blk_drewN ?_ _ | refine blk_drew ?_ | refine blk_alloc ?_ _)); refine blk_far ?_ NB243_261.out _; (with_reducible repeat (first | refine blk_drewN ?_ _ | refine blk_drew ?_ | refine blk_alloc ?_ _)); refine blk_far ?_ NB243_261.out _; (with_reducible repeat (first | refine blk_drewN ?_ _ | refine blk_drew ?_ | refine blk_alloc ?_ _)); refine blk_far ?_ NB243_261.out _; (with_reducible repeat (first | refine blk_drewN ?_ _ | refine blk_drew ?_ | refine blk_alloc ?_ _)); refine blk_far ?_ NB243_261.out _; (with_reducible repeat (first | refine blk_drewN ?_ _ | refine blk_drew ?_ | refine blk_alloc ?_ _)); exact BK243.out⟩, ⟨by (with_reducible repeat (first | refine blk_drewN ?_ _ | refine blk_drew ?_ | refine blk_alloc ?_ _)); refine blk_far ?_ NB252_261.out _; (with_reducible repeat (first | refine blk_drewN ?_ _ | refine blk_drew ?_ | refine blk_alloc ?_ _)); refine blk_far ?_ NB252_261.out _; (with_reducible repeat (first | refine blk_drewN ?_ _ | refine blk_drew ?_ | refine blk_alloc ?_ _)); refine blk_far ?_ NB252_261.out _; (with_reducible repeat (first | refine blk_drewN ?_ _ | refine blk_drew ?_ | refine blk_alloc ?_ _)); refine blk_far ?_ NB252_261.out _; (with_reducible repeat (first | refine blk_drewN ?_ _ | refine blk_drew ?_ | refine blk_alloc ?_ _)); refine blk_far ?_ NB252_261.out _; (with_reducible repeat (first | refine blk_drewN ?_ _ | refine blk_drew ?_ | refine blk_alloc ?_ _)); refine blk_far ?_ NB252_261.out _; (with_reducible repeat (first | refine blk_drewN ?_ _ | refine blk_drew ?_ | refine blk_alloc ?_ _)); refine blk_far ?_ NB252_261.out _; (with_reducible repeat (first | refine blk_drewN ?_ _ | refine blk_drew ?_ | refine blk_alloc ?_ _)); exact BK252.out⟩, ⟨by (with_reducible repeat (first | refine blk_drewN ?_ _ | refine blk_drew ?_ | refine blk_alloc ?_ _)); refine blk_put (cs := #[.bool t253, .int .u32 t254, .int .u8 t255, .int .u8 t256, .int .u8 t257, .int .u16 t258, .int .u16 0]) ?_ 6 _ rfl; (with_reducible repeat (first | refine blk_drewN ?_ _ | refine blk_drew ?_ | refine blk_alloc ?_ _)); refine blk_put (cs := #[.bool t253, .int .u32 t254, .int .u8 t255, .int .u8 t256, .int .u8 t257, .int .u16 0, .int .u16 0]) ?_ 5 _ rfl; (with_reducible repeat (first | refine blk_drewN ?_ _ | refine blk_drew ?_ | refine blk_alloc ?_ _)); refine blk_put (cs := #[.bool t253, .int .u32 t254, .int .u8 t255, .int .u8 t256, .int .u8 0, .int .u16 0, .int .u16 0]) ?_ 4 _ rfl; (with_reducible repeat (first | refine blk_drewN ?_ _ | refine blk_drew ?_ | refine blk_alloc ?_ _)); refine blk_put (cs := #[.bool t253, .int .u32 t254, .int .u8 t255, .int .u8 0, .int .u8 0, .int .u16 0, .int .u16 0]) ?_ 3 _ rfl; (with_reducible repeat (first | refine blk_drewN ?_ _ | refine blk_drew ?_ | refine blk_alloc ?_ _)); refine blk_put (cs := #[.bool t253, .int .u32 t254, .int .u8 0, .int .u8 0, .int .u8 0, .int .u16 0, .int .u16 0]) ?_ 2 _ rfl; (with_reducible repeat (first | refine blk_drewN ?_ _ | refine blk_drew ?_ | refine blk_alloc ?_ _)); refine blk_put (cs := #[.bool t253, .int .u32 0, .int .u8 0, .int .u8 0, .int .u8 0, .int .u16 0, .int .u16 0]) ?_ 1 _ rfl; (with_reducible repeat (first | refine blk_drewN ?_ _ | refine blk_drew ?_ | refine blk_alloc ?_ _)); refine blk_put (cs := #[.bool false, .int .u32 0, .int .u8 0, .int .u8 0, .int .u8 0, .int .u16 0, .int .u16 0]) ?_ 0 _ rfl; (with_reducible repeat (first | refine blk_drewN ?_ _ | refine blk_drew ?_ | refine blk_alloc ?_ _)); exact BK261.out⟩, ⟨by repeat (first | (with_reducible first | exact HB.out | apply below_alloc | apply pw_below_drewN | apply below_drew1 | refine below_set ?_ GE237.out | refine below_set ?_ GE243.out | refine below_set ?_ GE252.out | refine below_set ?_ GE261.out) | exact HB.out)⟩⟩
          · rw [if_neg c35] at H
            have c35b0 : (t251 == 0) = false := beq_eq_false_iff_ne.mpr c35
            have c35b1 : (t251 != 0) = true := bne_iff_ne.mpr c35
            (first | rw [c35b0] | (simp only [i64_w, i32_w]; rw [c35b0]) | skip)
            have H' := Aside0.mk H
            clear H
            go_wp2
            go_meet
            case rel => exact ⟨_, (true), (by first | rfl | (simp; done) | (simp [*]; done)), H', ⟨by have := HJ7.out; first | omega | exact Nat.le_refl _⟩, ⟨by (with_reducible repeat (first | refine blk_drewN ?_ _ | refine blk_drew ?_ | refine blk_alloc ?_ _)); refine blk_far ?_ NB237_261.out _; (with_reducible repeat (first | refine blk_drewN ?_ _ | refine blk_drew ?_ | refine blk_alloc ?_ _)); refine blk_far ?_ NB237_261.out _; (with_reducible repeat (first | refine blk_drewN ?_ _ | refine blk_drew ?_ | refine blk_alloc ?_ _)); refine blk_far ?_ NB237_261.out _; (with_reducible repeat (first | refine blk_drewN ?_ _ | refine blk_drew ?_ | refine blk_alloc ?_ _)); refine blk_far ?_ NB237_261.out _; (with_reducible repeat (first | refine blk_drewN ?_ _ | refine blk_drew ?_ | refine blk_alloc ?_ _)); refine blk_far ?_ NB237_261.out _; (with_reducible repeat (first | refine blk_drewN ?_ _ | refine blk_drew ?_ | refine blk_alloc ?_ _)); refine blk_far ?_ NB237_261.out _; (with_reducible repeat (first | refine blk_drewN ?_ _ | refine blk_drew ?_ | refine blk_alloc ?_ _)); refine blk_far ?_ NB237_261.out _; (with_reducible repeat (first | refine blk_drewN ?_ _ | refine blk_drew ?_ | refine blk_alloc ?_ _)); exact BK237.out⟩, ⟨by (with_reducible repeat (first | refine blk_drewN ?_ _ | refine blk_drew ?_ | refine blk_alloc ?_ _)); refine blk_far ?_ NB243_261.out _; (with_reducible repeat (first | refine blk_drewN ?_ _ | refine blk_drew ?_ | refine blk_alloc ?_ _)); refine blk_far ?_ NB243_261.out _; (with_reducible repeat (first | refine blk_drewN ?_ _ | refine blk_drew ?_ | refine blk_alloc ?_ _)); refine blk_far ?_ NB243_261.out _; (with_reducible repeat (first | refine blk_drewN ?_ _ | refine blk_drew ?_ | refine blk_alloc ?_ _)); refine blk_far ?_ NB243_261.out _; (with_reducible repeat (first | refine blk_drewN ?_ _ | refine blk_drew ?_ | refine blk_alloc ?_ _)); refine blk_far ?_ NB243_261.out _; (with_reducible repeat (first | refine blk_drewN ?_ _ | refine blk_drew ?_ | refine blk_alloc ?_ _)); refine blk_far ?_ NB243_261.out _; (with_reducible repeat (first | refine blk_drewN ?_ _ | refine blk_drew ?_ | refine blk_alloc ?_ _)); refine blk_far ?_ NB243_261.out _; (with_reducible repeat (first | refine blk_drewN ?_ _ | refine blk_drew ?_ | refine blk_alloc ?_ _)); exact BK243.out⟩, ⟨by (with_reducible repeat (first | refine blk_drewN ?_ _ | refine blk_drew ?_ | refine blk_alloc ?_ _)); refine blk_far ?_ NB252_261.out _; (with_reducible repeat (first | refine blk_drewN ?_ _ | refine blk_drew ?_ | refine blk_alloc ?_ _)); refine blk_far ?_ NB252_261.out _; (with_reducible repeat (first | refine blk_drewN ?_ _ | refine blk_drew ?_ | refine blk_alloc ?_ _)); refine blk_far ?_ NB252_261.out _; (with_reducible repeat (first | refine blk_drewN ?_ _ | refine blk_drew ?_ | refine blk_alloc ?_ _)); refine blk_far ?_ NB252_261.out _; (with_reducible repeat (first | refine blk_drewN ?_ _ | refine blk_drew ?_ | refine blk_alloc ?_ _)); refine blk_far ?_ NB252_261.out _; (with_reducible repeat (first | refine blk_drewN ?_ _ | refine blk_drew ?_ | refine blk_alloc ?_ _)); refine blk_far ?_ NB252_261.out _; (with_reducible repeat (first | refine blk_drewN ?_ _ | refine blk_drew ?_ | refine blk_alloc ?_ _)); refine blk_far ?_ NB252_261.out _; (with_reducible repeat (first | refine blk_drewN ?_ _ | refine blk_drew ?_ | refine blk_alloc ?_ _)); exact BK252.out⟩, ⟨by (with_reducible repeat (first | refine blk_drewN ?_ _ | refine blk_drew ?_ | refine blk_alloc ?_ _)); refine blk_put (cs := #[.bool t253, .int .u32 t254, .int .u8 t255, .int .u8 t256, .int .u8 t257, .int .u16 t258, .int .u16 0]) ?_ 6 _ rfl; (with_reducible repeat (first | refine blk_drewN ?_ _ | refine blk_drew ?_ | refine blk_alloc ?_ _)); refine blk_put (cs := #[.bool t253, .int .u32 t254, .int .u8 t255, .int .u8 t256, .int .u8 t257, .int .u16 0, .int .u16 0]) ?_ 5 _ rfl; (with_reducible repeat (first | refine blk_drewN ?_ _ | refine blk_drew ?_ | refine blk_alloc ?_ _)); refine blk_put (cs := #[.bool t253, .int .u32 t254, .int .u8 t255, .int .u8 t256, .int .u8 0, .int .u16 0, .int .u16 0]) ?_ 4 _ rfl; (with_reducible repeat (first | refine blk_drewN ?_ _ | refine blk_drew ?_ | refine blk_alloc ?_ _)); refine blk_put (cs := #[.bool t253, .int .u32 t254, .int .u8 t255, .int .u8 0, .int .u8 0, .int .u16 0, .int .u16 0]) ?_ 3 _ rfl; (with_reducible repeat (first | refine blk_drewN ?_ _ | refine blk_drew ?_ | refine blk_alloc ?_ _)); refine blk_put (cs := #[.bool t253, .int .u32 t254, .int .u8 0, .int .u8 0, .int .u8 0, .int .u16 0, .int .u16 0]) ?_ 2 _ rfl; (with_reducible repeat (first | refine blk_drewN ?_ _ | refine blk_drew ?_ | refine blk_alloc ?_ _)); refine blk_put (cs := #[.bool t253, .int .u32 0, .int .u8 0, .int .u8 0, .int .u8 0, .int .u16 0, .int .u16 0]) ?_ 1 _ rfl; (with_reducible repeat (first | refine blk_drewN ?_ _ | refine blk_drew ?_ | refine blk_alloc ?_ _)); refine blk_put (cs := #[.bool false, .int .u32 0, .int .u8 0, .int .u8 0, .int .u8 0, .int .u16 0, .int .u16 0]) ?_ 0 _ rfl; (with_reducible repeat (first | refine blk_drewN ?_ _ | refine blk_drew ?_ | refine blk_alloc ?_ _)); exact BK261.out⟩, ⟨by repeat (first | (with_reducible first | exact HB.out | apply below_alloc | apply pw_below_drewN | apply below_drew1 | refine below_set ?_ GE237.out | refine below_set ?_ GE243.out | refine below_set ?_ GE252.out | refine below_set ?_ GE261.out) | exact HB.out)⟩⟩
        case rest =>
          clear HC20
          try clear c1
          try clear c2
          try clear p2
          try clear c3
          try clear c8
          try clear c10
          try clear c14
          try clear c15
          try clear c16
          try clear c17
          try clear c21
          try clear c25
          try clear c26
          try clear c31
          try clear c32
          try clear c33
          try clear c35
          try clear c35b0
          try clear c35b1
          try clear hcz11_0
          try clear hcz11_1
          try clear hcz11_2
          try clear hcz11_3
          try clear hcz15_0
          try clear hcz15_1
          try clear hcz15_2
          try clear hcz15_3
          try clear hcz22_0
          try clear hcz22_1
          try clear hcz22_2
          try clear hcz22_3
          try clear hcz27_0
          try clear hcz27_1
          try clear hcz27_2
          try clear hcz27_3
          try clear hcz27_4
          try clear hcz27_5
          try clear hcz27_6
          try clear hcz28_0
          try clear hcz28_1
          try clear hcz28_2
          try clear hcz28_3
          try clear hcz34_0
          try clear hcz34_1
          try clear hcz34_2
          try clear hcz34_3
          try clear hcz34_4
          try clear hcz34_5
          try clear hcz34_6
          try clear hfz11_0
          try clear hfz11_1
          try clear hfz11_2
          try clear hfz11_3
          try clear hfz15_0
          try clear hfz15_1
          try clear hfz15_2
          try clear hfz15_3
          try clear hfz22_0
          try clear hfz22_1
          try clear hfz22_2
          try clear hfz22_3
          try clear hfz27_0
          try clear hfz27_1
          try clear hfz27_2
          try clear hfz27_3
          try clear hfz27_4
          try clear hfz27_5
          try clear hfz27_6
          try clear hfz28_0
          try clear hfz28_1
          try clear hfz28_2
          try clear hfz28_3
          try clear hfz34_0
          try clear hfz34_1
          try clear hfz34_2
          try clear hfz34_3
          try clear hfz34_4
          try clear hfz34_5
          try clear hfz34_6
          try clear p2
          obtain ⟨kq, x60_19, rfl, HA, HJ19, BK237, BK243, BK252, BK261, HB⟩ := hcut
          cases kq with
          | zero => exact absurd HA.out (by simp [bulwarkref18_Entry.j1])
          | succ kj19 =>
            have H := HA.out
            clear HA
            simp only [bulwarkref18_Entry.j1] at H
            by_cases c36 : x60_19 = true
            · subst c36
              have H1 : (some (([] : List (S66)), 0, 5)) = some (r1, r2, r3) := by rw [if_pos rfl] at H; exact H
              clear H
              have H := H1
              clear H1
              simp only [Option.some.injEq, Prod.mk.injEq] at H
              obtain ⟨rfl, rfl, rfl⟩ := H
              go_wp2
              go_ret3
              exact ⟨_, by first | rfl | (simp [errW_none, errW_some] <;> rfl) | (simp [*, errW_none, errW_some] <;> rfl), by first | exact Kd.R_nil _ _ _ _ _ | exact Kd.N_nil _ _ _ _ _ | exact Kd.V_nil _ _ _ _ _ | exact Kd.Q_nil _ _ _ _ _ | exact Kd.S_nil _ _ _ _ _, by repeat (first | (with_reducible first | exact HB.out | apply below_alloc | apply pw_below_drewN | apply below_drew1 | refine below_set ?_ GE237.out | refine below_set ?_ GE243.out | refine below_set ?_ GE252.out | refine below_set ?_ GE261.out) | exact HB.out)⟩
            · replace c36 := Bool.eq_false_iff.mpr c36
              subst c36
              have H1 : (if a2 < t234 then (bulwarkref18_Entry.j2 kj19 a2 a3 a4 true t232 t233 t234 t235 t253 t254 t255 t256 t257 t258 t259) else (if (IntKind.u64.wrap (a2)) ≥ (IntKind.u64.wrap ((IntKind.u64.wrap (t234)) + (IntKind.u64.wrap (t235)))) then (bulwarkref18_Entry.j2 kj19 a2 a3 a4 true t232 t233 t234 t235 t253 t254 t255 t256 t257 t258 t259) else (if a3 < 0 then (bulwarkref18_Entry.j2 kj19 a2 a3 a4 true t232 t233 t234 t235 t253 t254 t255 t256 t257 t258 t259) else (if a3 > 6 then (bulwarkref18_Entry.j2 kj19 a2 a3 a4 true t232 t233 t234 t235 t253 t254 t255 t256 t257 t258 t259) else (if a4 < 0 then (bulwarkref18_Entry.j2 kj19 a2 a3 a4 true t232 t233 t234 t235 t253 t254 t255 t256 t257 t258 t259) else (bulwarkref18_Entry.j2 kj19 a2 a3 a4 (decide (a4 > 4088)) t232 t233 t234 t235 t253 t254 t255 t256 t257 t258 t259)))))) = some (r1, r2, r3) := by rw [if_neg (show ¬ (false = true) by decide)] at H; exact H
              clear H
              have H := H1
              clear H1
              have HC37 := Aside0.mk H
              clear H
              go_upto_region 9 with (fail)
              go_cut [92] (fun v92 wc => ∃ (kq : Nat) (x92_36 : Bool), v92 = .bool x92_36 ∧ Aside0 (bulwarkref18_Entry.j2 kq a2 a3 a4 x92_36 t232 t233 t234 t235 t253 t254 t255 t256 t257 t258 t259 = some (r1, r2, r3)) ∧ Aside0 (kq ≤ kj19) ∧ Aside0 (wc.heap[gb237]? = some (.cells #[.int .u8 t232, .int .i64 t233, .int .u32 t234, .int .u32 t235] 25 (0, 0))) ∧ Aside0 (wc.heap[gb243]? = some (.cells #[.int .u8 t238, .int .i64 t239, .int .u32 t240, .int .u32 t241] 25 (0, 0))) ∧ Aside0 (wc.heap[gb252]? = some (.cells #[.bool t244, .int .u32 t245, .int .u8 t246, .int .u8 t247, .int .u8 t248, .int .u16 t249, .int .u16 t250] 34 (0, 0))) ∧ Aside0 (wc.heap[gb261]? = some (.cells #[.bool t253, .int .u32 t254, .int .u8 t255, .int .u8 t256, .int .u8 t257, .int .u16 t258, .int .u16 t259] 34 (0, 0))) ∧ Aside0 (Below w.heap.size w wc))
              case first =>
                have H := HC37.out
                clear HC37
                by_cases c38 : a2 < t234
                · rw [if_pos c38] at H
                  have c38b0 : decide (a2 < t234) = true := decide_eq_true c38
                  clear c38
                  (first | rw [c38b0] | (simp only [i64_w, i32_w]; rw [c38b0]) | skip)
                  have H' := Aside0.mk H
                  clear H
                  have hnb39 := NB237_243.out
                  have hnc39 := NB243_237.out
                  have hnb40 := NB237_252.out
                  have hnc40 := NB252_237.out
                  have hnb41 := NB237_261.out
                  have hnc41 := NB261_237.out
                  have hcz42_0 : wc.cell? ⟨gb237, 0, none⟩ = some (.int .u8 t232) := (blk_cell BK237.out 0).trans rfl
                  have hcz42_1 : wc.cell? ⟨gb237, 1, none⟩ = some (.int .i64 t233) := (blk_cell BK237.out 1).trans rfl
                  have hcz42_2 : wc.cell? ⟨gb237, 2, none⟩ = some (.int .u32 t234) := (blk_cell BK237.out 2).trans rfl
                  have hcz42_3 : wc.cell? ⟨gb237, 3, none⟩ = some (.int .u32 t235) := (blk_cell BK237.out 3).trans rfl
                  have hfz42_0 := blk_frozen BK237.out 0
                  have hfz42_1 := blk_frozen BK237.out 1
                  have hfz42_2 := blk_frozen BK237.out 2
                  have hfz42_3 := blk_frozen BK237.out 3
                  go_wp2
                  go_meet
                  case rel => exact ⟨_, (true), (by first | rfl | (simp; done) | (simp [*]; done)), H', ⟨by have := HJ7.out; have := HJ19.out; first | omega | exact Nat.le_refl _⟩, ⟨by (with_reducible repeat (first | refine blk_drewN ?_ _ | refine blk_drew ?_ | refine blk_alloc ?_ _)); exact BK237.out⟩, ⟨by (with_reducible repeat (first | refine blk_drewN ?_ _ | refine blk_drew ?_ | refine blk_alloc ?_ _)); exact BK243.out⟩, ⟨by (with_reducible repeat (first | refine blk_drewN ?_ _ | refine blk_drew ?_ | refine blk_alloc ?_ _)); exact BK252.out⟩, ⟨by (with_reducible repeat (first | refine blk_drewN ?_ _ | refine blk_drew ?_ | refine blk_alloc ?_ _)); exact BK261.out⟩, ⟨by repeat (first | (with_reducible first | exact HB.out | apply below_alloc | apply pw_below_drewN | apply below_drew1 | refine below_set ?_ GE237.out | refine below_set ?_ GE243.out | refine below_set ?_ GE252.out | refine below_set ?_ GE261.out) | exact HB.out)⟩⟩
                · rw [if_neg c38] at H
                  have c38b0 : decide (a2 < t234) = false := decide_eq_false c38
                  clear c38
                  (first | rw [c38b0] | (simp only [i64_w, i32_w]; rw [c38b0]) | skip)
                  by_cases c43 : (IntKind.u64.wrap (a2)) ≥ (IntKind.u64.wrap ((IntKind.u64.wrap (t234)) + (IntKind.u64.wrap (t235))))
                  · rw [if_pos c43] at H
                    have c43b0 : decide ((IntKind.u64.wrap ((IntKind.u64.wrap (t234)) + (IntKind.u64.wrap (t235)))) ≤ (IntKind.u64.wrap (a2))) = true := decide_eq_true c43
                    clear c43
                    have H' := Aside0.mk H
                    clear H
                    have hnb44 := NB237_243.out
                    have hnc44 := NB243_237.out
                    have hnb45 := NB237_252.out
                    have hnc45 := NB252_237.out
                    have hnb46 := NB237_261.out
                    have hnc46 := NB261_237.out
                    have hcz47_0 : wc.cell? ⟨gb237, 0, none⟩ = some (.int .u8 t232) := (blk_cell BK237.out 0).trans rfl
                    have hcz47_1 : wc.cell? ⟨gb237, 1, none⟩ = some (.int .i64 t233) := (blk_cell BK237.out 1).trans rfl
                    have hcz47_2 : wc.cell? ⟨gb237, 2, none⟩ = some (.int .u32 t234) := (blk_cell BK237.out 2).trans rfl
                    have hcz47_3 : wc.cell? ⟨gb237, 3, none⟩ = some (.int .u32 t235) := (blk_cell BK237.out 3).trans rfl
                    have hfz47_0 := blk_frozen BK237.out 0
                    have hfz47_1 := blk_frozen BK237.out 1
                    have hfz47_2 := blk_frozen BK237.out 2
                    have hfz47_3 := blk_frozen BK237.out 3
                    go_wp2
                    go_meet
                    case rel => exact ⟨_, (true), (by first | rfl | (simp; done) | (simp [*]; done)), H', ⟨by have := HJ7.out; have := HJ19.out; first | omega | exact Nat.le_refl _⟩, ⟨by (with_reducible repeat (first | refine blk_drewN ?_ _ | refine blk_drew ?_ | refine blk_alloc ?_ _)); exact BK237.out⟩, ⟨by (with_reducible repeat (first | refine blk_drewN ?_ _ | refine blk_drew ?_ | refine blk_alloc ?_ _)); exact BK243.out⟩, ⟨by (with_reducible repeat (first | refine blk_drewN ?_ _ | refine blk_drew ?_ | refine blk_alloc ?_ _)); exact BK252.out⟩, ⟨by (with_reducible repeat (first | refine blk_drewN ?_ _ | refine blk_drew ?_ | refine blk_alloc ?_ _)); exact BK261.out⟩, ⟨by repeat (first | (with_reducible first | exact HB.out | apply below_alloc | apply pw_below_drewN | apply below_drew1 | refine below_set ?_ GE237.out | refine below_set ?_ GE243.out | refine below_set ?_ GE252.out | refine below_set ?_ GE261.out) | exact HB.out)⟩⟩
                  · rw [if_neg c43] at H
                    have c43b0 : decide ((IntKind.u64.wrap ((IntKind.u64.wrap (t234)) + (IntKind.u64.wrap (t235)))) ≤ (IntKind.u64.wrap (a2))) = false := decide_eq_false c43
                    clear c43
                    by_cases c48 : a3 < 0
                    · rw [if_pos c48] at H
                      have c48b0 : decide (a3 < 0) = true := decide_eq_true c48
                      clear c48
                      have H' := Aside0.mk H
                      clear H
                      have hnb49 := NB237_243.out
                      have hnc49 := NB243_237.out
                      have hnb50 := NB237_252.out
                      have hnc50 := NB252_237.out
                      have hnb51 := NB237_261.out
                      have hnc51 := NB261_237.out
                      have hcz52_0 : wc.cell? ⟨gb237, 0, none⟩ = some (.int .u8 t232) := (blk_cell BK237.out 0).trans rfl
                      have hcz52_1 : wc.cell? ⟨gb237, 1, none⟩ = some (.int .i64 t233) := (blk_cell BK237.out 1).trans rfl
                      have hcz52_2 : wc.cell? ⟨gb237, 2, none⟩ = some (.int .u32 t234) := (blk_cell BK237.out 2).trans rfl
                      have hcz52_3 : wc.cell? ⟨gb237, 3, none⟩ = some (.int .u32 t235) := (blk_cell BK237.out 3).trans rfl
                      have hfz52_0 := blk_frozen BK237.out 0
                      have hfz52_1 := blk_frozen BK237.out 1
                      have hfz52_2 := blk_frozen BK237.out 2
                      have hfz52_3 := blk_frozen BK237.out 3
                      go_wp2
                      go_meet
                      case rel => exact ⟨_, (true), (by first | rfl | (simp; done) | (simp [*]; done)), H', ⟨by have := HJ7.out; have := HJ19.out; first | omega | exact Nat.le_refl _⟩, ⟨by (with_reducible repeat (first | refine blk_drewN ?_ _ | refine blk_drew ?_ | refine blk_alloc ?_ _)); exact BK237.out⟩, ⟨by (with_reducible repeat (first | refine blk_drewN ?_ _ | refine blk_drew ?_ | refine blk_alloc ?_ _)); exact BK243.out⟩, ⟨by (with_reducible repeat (first | refine blk_drewN ?_ _ | refine blk_drew ?_ | refine blk_alloc ?_ _)); exact BK252.out⟩, ⟨by (with_reducible repeat (first | refine blk_drewN ?_ _ | refine blk_drew ?_ | refine blk_alloc ?_ _)); exact BK261.out⟩, ⟨by repeat (first | (with_reducible first | exact HB.out | apply below_alloc | apply pw_below_drewN | apply below_drew1 | refine below_set ?_ GE237.out | refine below_set ?_ GE243.out | refine below_set ?_ GE252.out | refine below_set ?_ GE261.out) | exact HB.out)⟩⟩
                    · rw [if_neg c48] at H
                      have c48b0 : decide (a3 < 0) = false := decide_eq_false c48
                      clear c48
                      by_cases c53 : a3 > 6
                      · rw [if_pos c53] at H
                        have c53b0 : decide (6 < a3) = true := decide_eq_true c53
                        clear c53
                        have H' := Aside0.mk H
                        clear H
                        have hnb54 := NB237_243.out
                        have hnc54 := NB243_237.out
                        have hnb55 := NB237_252.out
                        have hnc55 := NB252_237.out
                        have hnb56 := NB237_261.out
                        have hnc56 := NB261_237.out
                        have hcz57_0 : wc.cell? ⟨gb237, 0, none⟩ = some (.int .u8 t232) := (blk_cell BK237.out 0).trans rfl
                        have hcz57_1 : wc.cell? ⟨gb237, 1, none⟩ = some (.int .i64 t233) := (blk_cell BK237.out 1).trans rfl
                        have hcz57_2 : wc.cell? ⟨gb237, 2, none⟩ = some (.int .u32 t234) := (blk_cell BK237.out 2).trans rfl
                        have hcz57_3 : wc.cell? ⟨gb237, 3, none⟩ = some (.int .u32 t235) := (blk_cell BK237.out 3).trans rfl
                        have hfz57_0 := blk_frozen BK237.out 0
                        have hfz57_1 := blk_frozen BK237.out 1
                        have hfz57_2 := blk_frozen BK237.out 2
                        have hfz57_3 := blk_frozen BK237.out 3
                        go_wp2
                        go_meet
                        case rel => exact ⟨_, (true), (by first | rfl | (simp; done) | (simp [*]; done)), H', ⟨by have := HJ7.out; have := HJ19.out; first | omega | exact Nat.le_refl _⟩, ⟨by (with_reducible repeat (first | refine blk_drewN ?_ _ | refine blk_drew ?_ | refine blk_alloc ?_ _)); exact BK237.out⟩, ⟨by (with_reducible repeat (first | refine blk_drewN ?_ _ | refine blk_drew ?_ | refine blk_alloc ?_ _)); exact BK243.out⟩, ⟨by (with_reducible repeat (first | refine blk_drewN ?_ _ | refine blk_drew ?_ | refine blk_alloc ?_ _)); exact BK252.out⟩, ⟨by (with_reducible repeat (first | refine blk_drewN ?_ _ | refine blk_drew ?_ | refine blk_alloc ?_ _)); exact BK261.out⟩, ⟨by repeat (first | (with_reducible first | exact HB.out | apply below_alloc | apply pw_below_drewN | apply below_drew1 | refine below_set ?_ GE237.out | refine below_set ?_ GE243.out | refine below_set ?_ GE252.out | refine below_set ?_ GE261.out) | exact HB.out)⟩⟩
                      · rw [if_neg c53] at H
                        have c53b0 : decide (6 < a3) = false := decide_eq_false c53
                        clear c53
                        by_cases c58 : a4 < 0
                        · rw [if_pos c58] at H
                          have c58b0 : decide (a4 < 0) = true := decide_eq_true c58
                          clear c58
                          have H' := Aside0.mk H
                          clear H
                          have hnb59 := NB237_243.out
                          have hnc59 := NB243_237.out
                          have hnb60 := NB237_252.out
                          have hnc60 := NB252_237.out
                          have hnb61 := NB237_261.out
                          have hnc61 := NB261_237.out
                          have hcz62_0 : wc.cell? ⟨gb237, 0, none⟩ = some (.int .u8 t232) := (blk_cell BK237.out 0).trans rfl
                          have hcz62_1 : wc.cell? ⟨gb237, 1, none⟩ = some (.int .i64 t233) := (blk_cell BK237.out 1).trans rfl
                          have hcz62_2 : wc.cell? ⟨gb237, 2, none⟩ = some (.int .u32 t234) := (blk_cell BK237.out 2).trans rfl
                          have hcz62_3 : wc.cell? ⟨gb237, 3, none⟩ = some (.int .u32 t235) := (blk_cell BK237.out 3).trans rfl
                          have hfz62_0 := blk_frozen BK237.out 0
                          have hfz62_1 := blk_frozen BK237.out 1
                          have hfz62_2 := blk_frozen BK237.out 2
                          have hfz62_3 := blk_frozen BK237.out 3
                          go_wp2
                          go_meet
                          case rel => exact ⟨_, (true), (by first | rfl | (simp; done) | (simp [*]; done)), H', ⟨by have := HJ7.out; have := HJ19.out; first | omega | exact Nat.le_refl _⟩, ⟨by (with_reducible repeat (first | refine blk_drewN ?_ _ | refine blk_drew ?_ | refine blk_alloc ?_ _)); exact BK237.out⟩, ⟨by (with_reducible repeat (first | refine blk_drewN ?_ _ | refine blk_drew ?_ | refine blk_alloc ?_ _)); exact BK243.out⟩, ⟨by (with_reducible repeat (first | refine blk_drewN ?_ _ | refine blk_drew ?_ | refine blk_alloc ?_ _)); exact BK252.out⟩, ⟨by (with_reducible repeat (first | refine blk_drewN ?_ _ | refine blk_drew ?_ | refine blk_alloc ?_ _)); exact BK261.out⟩, ⟨by repeat (first | (with_reducible first | exact HB.out | apply below_alloc | apply pw_below_drewN | apply below_drew1 | refine below_set ?_ GE237.out | refine below_set ?_ GE243.out | refine below_set ?_ GE252.out | refine below_set ?_ GE261.out) | exact HB.out)⟩⟩
                        · rw [if_neg c58] at H
                          have c58b0 : decide (a4 < 0) = false := decide_eq_false c58
                          clear c58
                          have H' := Aside0.mk H
                          clear H
                          have hnb63 := NB237_243.out
                          have hnc63 := NB243_237.out
                          have hnb64 := NB237_252.out
                          have hnc64 := NB252_237.out
                          have hnb65 := NB237_261.out
                          have hnc65 := NB261_237.out
                          have hcz66_0 : wc.cell? ⟨gb237, 0, none⟩ = some (.int .u8 t232) := (blk_cell BK237.out 0).trans rfl
                          have hcz66_1 : wc.cell? ⟨gb237, 1, none⟩ = some (.int .i64 t233) := (blk_cell BK237.out 1).trans rfl
                          have hcz66_2 : wc.cell? ⟨gb237, 2, none⟩ = some (.int .u32 t234) := (blk_cell BK237.out 2).trans rfl
                          have hcz66_3 : wc.cell? ⟨gb237, 3, none⟩ = some (.int .u32 t235) := (blk_cell BK237.out 3).trans rfl
                          have hfz66_0 := blk_frozen BK237.out 0
                          have hfz66_1 := blk_frozen BK237.out 1
                          have hfz66_2 := blk_frozen BK237.out 2
                          have hfz66_3 := blk_frozen BK237.out 3
                          go_wp2
                          go_meet
                          case rel => exact ⟨_, (decide (a4 > 4088)), (by first | rfl | (simp; done) | (simp [*]; done)), H', ⟨by have := HJ7.out; have := HJ19.out; first | omega | exact Nat.le_refl _⟩, ⟨by (with_reducible repeat (first | refine blk_drewN ?_ _ | refine blk_drew ?_ | refine blk_alloc ?_ _)); exact BK237.out⟩, ⟨by (with_reducible repeat (first | refine blk_drewN ?_ _ | refine blk_drew ?_ | refine blk_alloc ?_ _)); exact BK243.out⟩, ⟨by (with_reducible repeat (first | refine blk_drewN ?_ _ | refine blk_drew ?_ | refine blk_alloc ?_ _)); exact BK252.out⟩, ⟨by (with_reducible repeat (first | refine blk_drewN ?_ _ | refine blk_drew ?_ | refine blk_alloc ?_ _)); exact BK261.out⟩, ⟨by repeat (first | (with_reducible first | exact HB.out | apply below_alloc | apply pw_below_drewN | apply below_drew1 | refine below_set ?_ GE237.out | refine below_set ?_ GE243.out | refine below_set ?_ GE252.out | refine below_set ?_ GE261.out) | exact HB.out)⟩⟩
              case rest =>
                clear HC37
                try clear c1
                try clear c2
                try clear p2
                try clear c3
                try clear c4
                try clear c5
                try clear c6
                try clear c8
                try clear c10
                try clear c14
                try clear c15
                try clear c16
                try clear c17
                try clear c21
                try clear c25
                try clear c26
                try clear c31
                try clear c32
                try clear c33
                try clear c35
                try clear c35b0
                try clear c35b1
                try clear c36
                try clear c38
                try clear c38b0
                try clear c39
                try clear c40
                try clear c41
                try clear c43
                try clear c43b0
                try clear c44
                try clear c45
                try clear c46
                try clear c48
                try clear c48b0
                try clear c49
                try clear c50
                try clear c51
                try clear c53
                try clear c53b0
                try clear c54
                try clear c55
                try clear c56
                try clear c58
                try clear c58b0
                try clear c59
                try clear c60
                try clear c61
                try clear c63
                try clear c64
                try clear c65
                try clear hcz11_0
                try clear hcz11_1
                try clear hcz11_2
                try clear hcz11_3
                try clear hcz15_0
                try clear hcz15_1
                try clear hcz15_2
                try clear hcz15_3
                try clear hcz22_0
                try clear hcz22_1
                try clear hcz22_2
                try clear hcz22_3
                try clear hcz27_0
                try clear hcz27_1
                try clear hcz27_2
                try clear hcz27_3
                try clear hcz27_4
                try clear hcz27_5
                try clear hcz27_6
                try clear hcz28_0
                try clear hcz28_1
                try clear hcz28_2
                try clear hcz28_3
                try clear hcz34_0
                try clear hcz34_1
                try clear hcz34_2
                try clear hcz34_3
                try clear hcz34_4
                try clear hcz34_5
                try clear hcz34_6
                try clear hcz42_0
                try clear hcz42_1
                try clear hcz42_2
                try clear hcz42_3
                try clear hcz47_0
                try clear hcz47_1
                try clear hcz47_2
                try clear hcz47_3
                try clear hcz52_0
                try clear hcz52_1
                try clear hcz52_2
                try clear hcz52_3
                try clear hcz57_0
                try clear hcz57_1
                try clear hcz57_2
                try clear hcz57_3
                try clear hcz62_0
                try clear hcz62_1
                try clear hcz62_2
                try clear hcz62_3
                try clear hcz66_0
                try clear hcz66_1
                try clear hcz66_2
                try clear hcz66_3
                try clear hfz11_0
                try clear hfz11_1
                try clear hfz11_2
                try clear hfz11_3
                try clear hfz15_0
                try clear hfz15_1
                try clear hfz15_2
                try clear hfz15_3
                try clear hfz22_0
                try clear hfz22_1
                try clear hfz22_2
                try clear hfz22_3
                try clear hfz27_0
                try clear hfz27_1
                try clear hfz27_2
                try clear hfz27_3
                try clear hfz27_4
                try clear hfz27_5
                try clear hfz27_6
                try clear hfz28_0
                try clear hfz28_1
                try clear hfz28_2
                try clear hfz28_3
                try clear hfz34_0
                try clear hfz34_1
                try clear hfz34_2
                try clear hfz34_3
                try clear hfz34_4
                try clear hfz34_5
                try clear hfz34_6
                try clear hfz42_0
                try clear hfz42_1
                try clear hfz42_2
                try clear hfz42_3
                try clear hfz47_0
                try clear hfz47_1
                try clear hfz47_2
                try clear hfz47_3
                try clear hfz52_0
                try clear hfz52_1
                try clear hfz52_2
                try clear hfz52_3
                try clear hfz57_0
                try clear hfz57_1
                try clear hfz57_2
                try clear hfz57_3
                try clear hfz62_0
                try clear hfz62_1
                try clear hfz62_2
                try clear hfz62_3
                try clear hfz66_0
                try clear hfz66_1
                try clear hfz66_2
                try clear hfz66_3
                try clear p2
                obtain ⟨kq, x92_36, rfl, HA, HJ36, BK237, BK243, BK252, BK261, HB⟩ := hcut
                cases kq with
                | zero => exact absurd HA.out (by simp [bulwarkref18_Entry.j2])
                | succ kj36 =>
                  have H := HA.out
                  clear HA
                  simp only [bulwarkref18_Entry.j2] at H
                  by_cases c67 : x92_36 = true
                  · subst c67
                    have H1 : (some (([] : List (S66)), 0, 2)) = some (r1, r2, r3) := by rw [if_pos rfl] at H; exact H
                    clear H
                    have H := H1
                    clear H1
                    simp only [Option.some.injEq, Prod.mk.injEq] at H
                    obtain ⟨rfl, rfl, rfl⟩ := H
                    go_wp2
                    go_ret3
                    exact ⟨_, by first | rfl | (simp [errW_none, errW_some] <;> rfl) | (simp [*, errW_none, errW_some] <;> rfl), by first | exact Kd.R_nil _ _ _ _ _ | exact Kd.N_nil _ _ _ _ _ | exact Kd.V_nil _ _ _ _ _ | exact Kd.Q_nil _ _ _ _ _ | exact Kd.S_nil _ _ _ _ _, by repeat (first | (with_reducible first | exact HB.out | apply below_alloc | apply pw_below_drewN | apply below_drew1 | refine below_set ?_ GE237.out | refine below_set ?_ GE243.out | refine below_set ?_ GE252.out | refine below_set ?_ GE261.out) | exact HB.out)⟩
                  · replace c67 := Bool.eq_false_iff.mpr c67
                    subst c67
                    have H1 : ((bulwarkref18_Cap.f kj36 t232 t233 t234 t235 29 a2).bind fun bt262 => ((bulwarkref03_Seal.f bt262.1 bt262.2.1 bt262.2.2.1 bt262.2.2.2.1 bt262.2.2.2.2.1 bt262.2.2.2.2.2.1 bt262.2.2.2.2.2.2.1 3).bind fun bt271 => (some ((([(⟨0, (⟨bt271.1, bt271.2.1, bt271.2.2.1, bt271.2.2.2.1, (⟨bt271.2.2.2.2.1, bt271.2.2.2.2.2.1, bt271.2.2.2.2.2.2⟩ : S32)⟩ : S34)⟩ : S66), (⟨8, (⟨t253, t254, t255, t256, (⟨t257, t258, t259⟩ : S32)⟩ : S34)⟩ : S66)] : List (S66))), (wrap64 (a3 + (wrap64 (256 * a4)))) % 4294967296, 0)))) = some (r1, r2, r3) := by rw [if_neg (show ¬ (false = true) by decide)] at H; exact H
                    clear H
                    have H := H1
                    clear H1
                    replace H := Option.bind_eq_some_iff.mp H
                    obtain ⟨⟨t262, t263, t264, t265, t266, t267, t268, t269⟩, A680, H⟩ := H
                    replace H : ((bulwarkref03_Seal.f t262 t263 t264 t265 t266 t267 t268 3).bind fun bt271 => (some ((([(⟨0, (⟨bt271.1, bt271.2.1, bt271.2.2.1, bt271.2.2.2.1, (⟨bt271.2.2.2.2.1, bt271.2.2.2.2.2.1, bt271.2.2.2.2.2.2⟩ : S32)⟩ : S34)⟩ : S66), (⟨8, (⟨t253, t254, t255, t256, (⟨t257, t258, t259⟩ : S32)⟩ : S34)⟩ : S66)] : List (S66))), (wrap64 (a3 + (wrap64 (256 * a4)))) % 4294967296, 0))) = some (r1, r2, r3) := H
                    have A68 := Aside0.mk A680
                    clear A680
                    replace H := Option.bind_eq_some_iff.mp H
                    obtain ⟨⟨t271, t272, t273, t274, t275, t276, t277⟩, A690, H⟩ := H
                    replace H : (some ((([(⟨0, (⟨t271, t272, t273, t274, (⟨t275, t276, t277⟩ : S32)⟩ : S34)⟩ : S66), (⟨8, (⟨t253, t254, t255, t256, (⟨t257, t258, t259⟩ : S32)⟩ : S34)⟩ : S66)] : List (S66))), (wrap64 (a3 + (wrap64 (256 * a4)))) % 4294967296, 0)) = some (r1, r2, r3) := H
                    have A69 := Aside0.mk A690
                    clear A690
                    obtain ⟨y278, hy278⟩ : ∃ y_ : List (S66), y_ = (([(⟨0, (⟨t271, t272, t273, t274, (⟨t275, t276, t277⟩ : S32)⟩ : S34)⟩ : S66), (⟨8, (⟨t253, t254, t255, t256, (⟨t257, t258, t259⟩ : S32)⟩ : S34)⟩ : S66)] : List (S66))) := ⟨_, rfl⟩
                    replace H : (some (y278, (wrap64 (a3 + (wrap64 (256 * a4)))) % 4294967296, 0)) = some (r1, r2, r3) := by first | (rw [hy278]; with_reducible exact H) | (have H2_ := (Option.bind_some _ _).symm.trans H; rw [hy278]; with_reducible exact H2_) | (have H2_ := (Option.bind_some _ _).symm.trans H; with_reducible exact H2_) | with_reducible exact H | (rw [hy278]; exact H) | exact H
                    have Ny278 := Aside0.mk hy278
                    clear hy278
                    simp only [Option.some.injEq, Prod.mk.injEq] at H
                    obtain ⟨rfl, rfl, rfl⟩ := H
                    have hnb70 := NB237_243.out
                    have hnc70 := NB243_237.out
                    have hnb71 := NB237_252.out
                    have hnc71 := NB252_237.out
                    have hnb72 := NB237_261.out
                    have hnc72 := NB261_237.out
                    have hcz73_0 : wc.cell? ⟨gb237, 0, none⟩ = some (.int .u8 t232) := (blk_cell BK237.out 0).trans rfl
                    have hcz73_1 : wc.cell? ⟨gb237, 1, none⟩ = some (.int .i64 t233) := (blk_cell BK237.out 1).trans rfl
                    have hcz73_2 : wc.cell? ⟨gb237, 2, none⟩ = some (.int .u32 t234) := (blk_cell BK237.out 2).trans rfl
                    have hcz73_3 : wc.cell? ⟨gb237, 3, none⟩ = some (.int .u32 t235) := (blk_cell BK237.out 3).trans rfl
                    have hfz73_0 := blk_frozen BK237.out 0
                    have hfz73_1 := blk_frozen BK237.out 1
                    have hfz73_2 := blk_frozen BK237.out 2
                    have hfz73_3 := blk_frozen BK237.out 3
                    try go_wp2_with (first | ((with_reducible refine gate_callee (f := 10) rfl ?_); refine goesL_ (some 96) rfl rfl Try.func10 (by kernel_rfl) rfl #[.agg #[.int .u8 t232, .int .i64 t233, .int .u32 t234, .int .u32 t235], .int .u8 29, .int .u32 a2] rfl (by (try simp only [List.map_toArray, List.map_cons, List.map_nil]); first | done | rfl | (simp only [List.length_drop, List.length_take]; rfl)) ?_; (with_reducible refine (bulwarkref18_Cap.calls kj36 t232 t233 t234 t235 29 a2 t262 t263 t264 t265 t266 t267 t268 t269 _ A68.out).mono ?_); rintro e w74 ⟨rfl, hb⟩; refine ⟨_, rfl, ?_⟩; have n0_ := Aside0.mk (blk_below (g := gb237) (o := .cells #[.int .u8 t232, .int .i64 t233, .int .u32 t234, .int .u32 t235] 25 (0, 0)) (by (with_reducible repeat (first | refine blk_drewN ?_ _ | refine blk_drew ?_ | refine blk_alloc ?_ _)); exact BK237.out) hb); have n1_ := Aside0.mk (blk_below (g := gb243) (o := .cells #[.int .u8 t238, .int .i64 t239, .int .u32 t240, .int .u32 t241] 25 (0, 0)) (by (with_reducible repeat (first | refine blk_drewN ?_ _ | refine blk_drew ?_ | refine blk_alloc ?_ _)); exact BK243.out) hb); have n2_ := Aside0.mk (blk_below (g := gb252) (o := .cells #[.bool t244, .int .u32 t245, .int .u8 t246, .int .u8 t247, .int .u8 t248, .int .u16 t249, .int .u16 t250] 34 (0, 0)) (by (with_reducible repeat (first | refine blk_drewN ?_ _ | refine blk_drew ?_ | refine blk_alloc ?_ _)); exact BK252.out) hb); have n3_ := Aside0.mk (blk_below (g := gb261) (o := .cells #[.bool t253, .int .u32 t254, .int .u8 t255, .int .u8 t256, .int .u8 t257, .int .u16 t258, .int .u16 t259] 34 (0, 0)) (by (with_reducible repeat (first | refine blk_drewN ?_ _ | refine blk_drew ?_ | refine blk_alloc ?_ _)); exact BK261.out) hb); have n4_ := Aside0.mk (below_step (by repeat (first | (with_reducible first | exact HB.out | apply below_alloc | apply pw_below_drewN | apply below_drew1 | refine below_set ?_ GE237.out | refine below_set ?_ GE243.out | refine below_set ?_ GE252.out | refine below_set ?_ GE261.out) | exact HB.out)) hb); clear BK237; clear BK243; clear BK252; clear BK261; clear HB; have BK237 := n0_; have BK243 := n1_; have BK252 := n2_; have BK261 := n3_; have HB := n4_; clear n0_ n1_ n2_ n3_ n4_; (try clear hb); (try clear hb2); (try clear hk); (try clear hi)) | ((with_reducible refine gate_dst (N := 21) rfl ?_); refine box_event ?hg (N := 21) ?hd (cs := #[.bool false, .int .u32 0, .int .u8 0, .int .u8 0, .int .u8 0, .int .u16 0, .int .u16 0]) (t := 34) ?hr ?_; (case hd => rfl); (case hg => rfl); (case hr => first | (go_simp; done) | (go_simp; rfl)); intro gb270 hg w75 hbox hb; have n0_ := Aside0.mk (blk_below (g := gb237) (o := .cells #[.int .u8 t232, .int .i64 t233, .int .u32 t234, .int .u32 t235] 25 (0, 0)) (by (with_reducible repeat (first | refine blk_drewN ?_ _ | refine blk_drew ?_ | refine blk_alloc ?_ _)); exact BK237.out) hb); have n1_ := Aside0.mk (blk_below (g := gb243) (o := .cells #[.int .u8 t238, .int .i64 t239, .int .u32 t240, .int .u32 t241] 25 (0, 0)) (by (with_reducible repeat (first | refine blk_drewN ?_ _ | refine blk_drew ?_ | refine blk_alloc ?_ _)); exact BK243.out) hb); have n2_ := Aside0.mk (blk_below (g := gb252) (o := .cells #[.bool t244, .int .u32 t245, .int .u8 t246, .int .u8 t247, .int .u8 t248, .int .u16 t249, .int .u16 t250] 34 (0, 0)) (by (with_reducible repeat (first | refine blk_drewN ?_ _ | refine blk_drew ?_ | refine blk_alloc ?_ _)); exact BK252.out) hb); have n3_ := Aside0.mk (blk_below (g := gb261) (o := .cells #[.bool t253, .int .u32 t254, .int .u8 t255, .int .u8 t256, .int .u8 t257, .int .u16 t258, .int .u16 t259] 34 (0, 0)) (by (with_reducible repeat (first | refine blk_drewN ?_ _ | refine blk_drew ?_ | refine blk_alloc ?_ _)); exact BK261.out) hb); have n4_ := Aside0.mk (below_step (by repeat (first | (with_reducible first | exact HB.out | apply below_alloc | apply pw_below_drewN | apply below_drew1 | refine below_set ?_ GE237.out | refine below_set ?_ GE243.out | refine below_set ?_ GE252.out | refine below_set ?_ GE261.out) | exact HB.out)) hb); have n5_ := Aside0.mk (hbox); have n6_ := Aside0.mk ((by rw [hg]; exact (below_size (by repeat (first | (with_reducible first | exact HB.out | apply below_alloc | apply pw_below_drewN | apply below_drew1 | refine below_set ?_ GE237.out | refine below_set ?_ GE243.out | refine below_set ?_ GE252.out | refine below_set ?_ GE261.out) | exact HB.out))) : w.heap.size ≤ gb270)); have n7_ := Aside0.mk ((by rw [hg]; exact (below_size (by repeat (first | (with_reducible first | exact HB.out | apply below_alloc | apply pw_below_drewN | apply below_drew1 | refine below_set ?_ GE237.out | refine below_set ?_ GE243.out | refine below_set ?_ GE252.out | refine below_set ?_ GE261.out) | exact HB.out))) : w.heap.size ≤ gb270)); have n8_ := Aside0.mk ((by rw [hg]; exact Nat.ne_of_lt (blk_lt (g := gb237) (o := .cells #[.int .u8 t232, .int .i64 t233, .int .u32 t234, .int .u32 t235] 25 (0, 0)) (by (with_reducible repeat (first | refine blk_drewN ?_ _ | refine blk_drew ?_ | refine blk_alloc ?_ _)); exact BK237.out)) : gb237 ≠ gb270)); have n9_ := Aside0.mk ((by rw [hg]; exact Nat.ne_of_gt (blk_lt (g := gb237) (o := .cells #[.int .u8 t232, .int .i64 t233, .int .u32 t234, .int .u32 t235] 25 (0, 0)) (by (with_reducible repeat (first | refine blk_drewN ?_ _ | refine blk_drew ?_ | refine blk_alloc ?_ _)); exact BK237.out)) : gb270 ≠ gb237)); have n10_ := Aside0.mk ((by rw [hg]; exact Nat.ne_of_lt (blk_lt (g := gb243) (o := .cells #[.int .u8 t238, .int .i64 t239, .int .u32 t240, .int .u32 t241] 25 (0, 0)) (by (with_reducible repeat (first | refine blk_drewN ?_ _ | refine blk_drew ?_ | refine blk_alloc ?_ _)); exact BK243.out)) : gb243 ≠ gb270)); have n11_ := Aside0.mk ((by rw [hg]; exact Nat.ne_of_gt (blk_lt (g := gb243) (o := .cells #[.int .u8 t238, .int .i64 t239, .int .u32 t240, .int .u32 t241] 25 (0, 0)) (by (with_reducible repeat (first | refine blk_drewN ?_ _ | refine blk_drew ?_ | refine blk_alloc ?_ _)); exact BK243.out)) : gb270 ≠ gb243)); have n12_ := Aside0.mk ((by rw [hg]; exact Nat.ne_of_lt (blk_lt (g := gb252) (o := .cells #[.bool t244, .int .u32 t245, .int .u8 t246, .int .u8 t247, .int .u8 t248, .int .u16 t249, .int .u16 t250] 34 (0, 0)) (by (with_reducible repeat (first | refine blk_drewN ?_ _ | refine blk_drew ?_ | refine blk_alloc ?_ _)); exact BK252.out)) : gb252 ≠ gb270)); have n13_ := Aside0.mk ((by rw [hg]; exact Nat.ne_of_gt (blk_lt (g := gb252) (o := .cells #[.bool t244, .int .u32 t245, .int .u8 t246, .int .u8 t247, .int .u8 t248, .int .u16 t249, .int .u16 t250] 34 (0, 0)) (by (with_reducible repeat (first | refine blk_drewN ?_ _ | refine blk_drew ?_ | refine blk_alloc ?_ _)); exact BK252.out)) : gb270 ≠ gb252)); have n14_ := Aside0.mk ((by rw [hg]; exact Nat.ne_of_lt (blk_lt (g := gb261) (o := .cells #[.bool t253, .int .u32 t254, .int .u8 t255, .int .u8 t256, .int .u8 t257, .int .u16 t258, .int .u16 t259] 34 (0, 0)) (by (with_reducible repeat (first | refine blk_drewN ?_ _ | refine blk_drew ?_ | refine blk_alloc ?_ _)); exact BK261.out)) : gb261 ≠ gb270)); have n15_ := Aside0.mk ((by rw [hg]; exact Nat.ne_of_gt (blk_lt (g := gb261) (o := .cells #[.bool t253, .int .u32 t254, .int .u8 t255, .int .u8 t256, .int .u8 t257, .int .u16 t258, .int .u16 t259] 34 (0, 0)) (by (with_reducible repeat (first | refine blk_drewN ?_ _ | refine blk_drew ?_ | refine blk_alloc ?_ _)); exact BK261.out)) : gb270 ≠ gb261)); clear BK237; clear BK243; clear BK252; clear BK261; clear HB; have BK237 := n0_; have BK243 := n1_; have BK252 := n2_; have BK261 := n3_; have HB := n4_; have BK270 := n5_; have GW270 := n6_; have GE270 := n7_; have NB237_270 := n8_; have NB270_237 := n9_; have NB243_270 := n10_; have NB270_243 := n11_; have NB252_270 := n12_; have NB270_252 := n13_; have NB261_270 := n14_; have NB270_261 := n15_; clear n0_ n1_ n2_ n3_ n4_ n5_ n6_ n7_ n8_ n9_ n10_ n11_ n12_ n13_ n14_ n15_; clear hb hbox hg; have hnb76 := NB270_237.out; have hnc76 := NB237_270.out; have hnb77 := NB270_243.out; have hnc77 := NB243_270.out; have hnb78 := NB270_252.out; have hnc78 := NB252_270.out; have hnb79 := NB270_261.out; have hnc79 := NB261_270.out; have hcz80_0 : w75.cell? ⟨gb270, 0, none⟩ = some (.bool false) := (blk_cell BK270.out 0).trans rfl; have hcz80_1 : w75.cell? ⟨gb270, 1, none⟩ = some (.int .u32 0) := (blk_cell BK270.out 1).trans rfl; have hcz80_2 : w75.cell? ⟨gb270, 2, none⟩ = some (.int .u8 0) := (blk_cell BK270.out 2).trans rfl; have hcz80_3 : w75.cell? ⟨gb270, 3, none⟩ = some (.int .u8 0) := (blk_cell BK270.out 3).trans rfl; have hcz80_4 : w75.cell? ⟨gb270, 4, none⟩ = some (.int .u8 0) := (blk_cell BK270.out 4).trans rfl; have hcz80_5 : w75.cell? ⟨gb270, 5, none⟩ = some (.int .u16 0) := (blk_cell BK270.out 5).trans rfl; have hcz80_6 : w75.cell? ⟨gb270, 6, none⟩ = some (.int .u16 0) := (blk_cell BK270.out 6).trans rfl; have hfz80_0 := blk_frozen BK270.out 0; have hfz80_1 := blk_frozen BK270.out 1; have hfz80_2 := blk_frozen BK270.out 2; have hfz80_3 := blk_frozen BK270.out 3; have hfz80_4 := blk_frozen BK270.out 4; have hfz80_5 := blk_frozen BK270.out 5; have hfz80_6 := blk_frozen BK270.out 6))
                    have n0_ : Aside0 ((((((((w75.setCell ⟨gb270, 0, none⟩ (.bool t262)).setCell ⟨gb270, 1, none⟩ (.int .u32 t263)).setCell ⟨gb270, 2, none⟩ (.int .u8 t264)).setCell ⟨gb270, 3, none⟩ (.int .u8 t265)).setCell ⟨gb270, 4, none⟩ (.int .u8 t266)).setCell ⟨gb270, 5, none⟩ (.int .u16 t267)).setCell ⟨gb270, 6, none⟩ (.int .u16 t268)).heap[gb237]? = some (.cells #[.int .u8 t232, .int .i64 t233, .int .u32 t234, .int .u32 t235] 25 (0, 0))) := ⟨by (with_reducible repeat (first | refine blk_drewN ?_ _ | refine blk_drew ?_ | refine blk_alloc ?_ _)); refine blk_far ?_ NB237_270.out _; (with_reducible repeat (first | refine blk_drewN ?_ _ | refine blk_drew ?_ | refine blk_alloc ?_ _)); refine blk_far ?_ NB237_270.out _; (with_reducible repeat (first | refine blk_drewN ?_ _ | refine blk_drew ?_ | refine blk_alloc ?_ _)); refine blk_far ?_ NB237_270.out _; (with_reducible repeat (first | refine blk_drewN ?_ _ | refine blk_drew ?_ | refine blk_alloc ?_ _)); refine blk_far ?_ NB237_270.out _; (with_reducible repeat (first | refine blk_drewN ?_ _ | refine blk_drew ?_ | refine blk_alloc ?_ _)); refine blk_far ?_ NB237_270.out _; (with_reducible repeat (first | refine blk_drewN ?_ _ | refine blk_drew ?_ | refine blk_alloc ?_ _)); refine blk_far ?_ NB237_270.out _; (with_reducible repeat (first | refine blk_drewN ?_ _ | refine blk_drew ?_ | refine blk_alloc ?_ _)); refine blk_far ?_ NB237_270.out _; (with_reducible repeat (first | refine blk_drewN ?_ _ | refine blk_drew ?_ | refine blk_alloc ?_ _)); exact BK237.out⟩
                    have n1_ : Aside0 ((((((((w75.setCell ⟨gb270, 0, none⟩ (.bool t262)).setCell ⟨gb270, 1, none⟩ (.int .u32 t263)).setCell ⟨gb270, 2, none⟩ (.int .u8 t264)).setCell ⟨gb270, 3, none⟩ (.int .u8 t265)).setCell ⟨gb270, 4, none⟩ (.int .u8 t266)).setCell ⟨gb270, 5, none⟩ (.int .u16 t267)).setCell ⟨gb270, 6, none⟩ (.int .u16 t268)).heap[gb243]? = some (.cells #[.int .u8 t238, .int .i64 t239, .int .u32 t240, .int .u32 t241] 25 (0, 0))) := ⟨by (with_reducible repeat (first | refine blk_drewN ?_ _ | refine blk_drew ?_ | refine blk_alloc ?_ _)); refine blk_far ?_ NB243_270.out _; (with_reducible repeat (first | refine blk_drewN ?_ _ | refine blk_drew ?_ | refine blk_alloc ?_ _)); refine blk_far ?_ NB243_270.out _; (with_reducible repeat (first | refine blk_drewN ?_ _ | refine blk_drew ?_ | refine blk_alloc ?_ _)); refine blk_far ?_ NB243_270.out _; (with_reducible repeat (first | refine blk_drewN ?_ _ | refine blk_drew ?_ | refine blk_alloc ?_ _)); refine blk_far ?_ NB243_270.out _; (with_reducible repeat (first | refine blk_drewN ?_ _ | refine blk_drew ?_ | refine blk_alloc ?_ _)); refine blk_far ?_ NB243_270.out _; (with_reducible repeat (first | refine blk_drewN ?_ _ | refine blk_drew ?_ | refine blk_alloc ?_ _)); refine blk_far ?_ NB243_270.out _; (with_reducible repeat (first | refine blk_drewN ?_ _ | refine blk_drew ?_ | refine blk_alloc ?_ _)); refine blk_far ?_ NB243_270.out _; (with_reducible repeat (first | refine blk_drewN ?_ _ | refine blk_drew ?_ | refine blk_alloc ?_ _)); exact BK243.out⟩
                    have n2_ : Aside0 ((((((((w75.setCell ⟨gb270, 0, none⟩ (.bool t262)).setCell ⟨gb270, 1, none⟩ (.int .u32 t263)).setCell ⟨gb270, 2, none⟩ (.int .u8 t264)).setCell ⟨gb270, 3, none⟩ (.int .u8 t265)).setCell ⟨gb270, 4, none⟩ (.int .u8 t266)).setCell ⟨gb270, 5, none⟩ (.int .u16 t267)).setCell ⟨gb270, 6, none⟩ (.int .u16 t268)).heap[gb252]? = some (.cells #[.bool t244, .int .u32 t245, .int .u8 t246, .int .u8 t247, .int .u8 t248, .int .u16 t249, .int .u16 t250] 34 (0, 0))) := ⟨by (with_reducible repeat (first | refine blk_drewN ?_ _ | refine blk_drew ?_ | refine blk_alloc ?_ _)); refine blk_far ?_ NB252_270.out _; (with_reducible repeat (first | refine blk_drewN ?_ _ | refine blk_drew ?_ | refine blk_alloc ?_ _)); refine blk_far ?_ NB252_270.out _; (with_reducible repeat (first | refine blk_drewN ?_ _ | refine blk_drew ?_ | refine blk_alloc ?_ _)); refine blk_far ?_ NB252_270.out _; (with_reducible repeat (first | refine blk_drewN ?_ _ | refine blk_drew ?_ | refine blk_alloc ?_ _)); refine blk_far ?_ NB252_270.out _; (with_reducible repeat (first | refine blk_drewN ?_ _ | refine blk_drew ?_ | refine blk_alloc ?_ _)); refine blk_far ?_ NB252_270.out _; (with_reducible repeat (first | refine blk_drewN ?_ _ | refine blk_drew ?_ | refine blk_alloc ?_ _)); refine blk_far ?_ NB252_270.out _; (with_reducible repeat (first | refine blk_drewN ?_ _ | refine blk_drew ?_ | refine blk_alloc ?_ _)); refine blk_far ?_ NB252_270.out _; (with_reducible repeat (first | refine blk_drewN ?_ _ | refine blk_drew ?_ | refine blk_alloc ?_ _)); exact BK252.out⟩
                    have n3_ : Aside0 ((((((((w75.setCell ⟨gb270, 0, none⟩ (.bool t262)).setCell ⟨gb270, 1, none⟩ (.int .u32 t263)).setCell ⟨gb270, 2, none⟩ (.int .u8 t264)).setCell ⟨gb270, 3, none⟩ (.int .u8 t265)).setCell ⟨gb270, 4, none⟩ (.int .u8 t266)).setCell ⟨gb270, 5, none⟩ (.int .u16 t267)).setCell ⟨gb270, 6, none⟩ (.int .u16 t268)).heap[gb261]? = some (.cells #[.bool t253, .int .u32 t254, .int .u8 t255, .int .u8 t256, .int .u8 t257, .int .u16 t258, .int .u16 t259] 34 (0, 0))) := ⟨by (with_reducible repeat (first | refine blk_drewN ?_ _ | refine blk_drew ?_ | refine blk_alloc ?_ _)); refine blk_far ?_ NB261_270.out _; (with_reducible repeat (first | refine blk_drewN ?_ _ | refine blk_drew ?_ | refine blk_alloc ?_ _)); refine blk_far ?_ NB261_270.out _; (with_reducible repeat (first | refine blk_drewN ?_ _ | refine blk_drew ?_ | refine blk_alloc ?_ _)); refine blk_far ?_ NB261_270.out _; (with_reducible repeat (first | refine blk_drewN ?_ _ | refine blk_drew ?_ | refine blk_alloc ?_ _)); refine blk_far ?_ NB261_270.out _; (with_reducible repeat (first | refine blk_drewN ?_ _ | refine blk_drew ?_ | refine blk_alloc ?_ _)); refine blk_far ?_ NB261_270.out _; (with_reducible repeat (first | refine blk_drewN ?_ _ | refine blk_drew ?_ | refine blk_alloc ?_ _)); refine blk_far ?_ NB261_270.out _; (with_reducible repeat (first | refine blk_drewN ?_ _ | refine blk_drew ?_ | refine blk_alloc ?_ _)); refine blk_far ?_ NB261_270.out _; (with_reducible repeat (first | refine blk_drewN ?_ _ | refine blk_drew ?_ | refine blk_alloc ?_ _)); exact BK261.out⟩
                    have n4_ : Aside0 ((((((((w75.setCell ⟨gb270, 0, none⟩ (.bool t262)).setCell ⟨gb270, 1, none⟩ (.int .u32 t263)).setCell ⟨gb270, 2, none⟩ (.int .u8 t264)).setCell ⟨gb270, 3, none⟩ (.int .u8 t265)).setCell ⟨gb270, 4, none⟩ (.int .u8 t266)).setCell ⟨gb270, 5, none⟩ (.int .u16 t267)).setCell ⟨gb270, 6, none⟩ (.int .u16 t268)).heap[gb270]? = some (.cells #[.bool t262, .int .u32 t263, .int .u8 t264, .int .u8 t265, .int .u8 t266, .int .u16 t267, .int .u16 t268] 34 (0, 0))) := ⟨by (with_reducible repeat (first | refine blk_drewN ?_ _ | refine blk_drew ?_ | refine blk_alloc ?_ _)); refine blk_put (cs := #[.bool t262, .int .u32 t263, .int .u8 t264, .int .u8 t265, .int .u8 t266, .int .u16 t267, .int .u16 0]) ?_ 6 _ rfl; (with_reducible repeat (first | refine blk_drewN ?_ _ | refine blk_drew ?_ | refine blk_alloc ?_ _)); refine blk_put (cs := #[.bool t262, .int .u32 t263, .int .u8 t264, .int .u8 t265, .int .u8 t266, .int .u16 0, .int .u16 0]) ?_ 5 _ rfl; (with_reducible repeat (first | refine blk_drewN ?_ _ | refine blk_drew ?_ | refine blk_alloc ?_ _)); refine blk_put (cs := #[.bool t262, .int .u32 t263, .int .u8 t264, .int .u8 t265, .int .u8 0, .int .u16 0, .int .u16 0]) ?_ 4 _ rfl; (with_reducible repeat (first | refine blk_drewN ?_ _ | refine blk_drew ?_ | refine blk_alloc ?_ _)); refine blk_put (cs := #[.bool t262, .int .u32 t263, .int .u8 t264, .int .u8 0, .int .u8 0, .int .u16 0, .int .u16 0]) ?_ 3 _ rfl; (with_reducible repeat (first | refine blk_drewN ?_ _ | refine blk_drew ?_ | refine blk_alloc ?_ _)); refine blk_put (cs := #[.bool t262, .int .u32 t263, .int .u8 0, .int .u8 0, .int .u8 0, .int .u16 0, .int .u16 0]) ?_ 2 _ rfl; (with_reducible repeat (first | refine blk_drewN ?_ _ | refine blk_drew ?_ | refine blk_alloc ?_ _)); refine blk_put (cs := #[.bool t262, .int .u32 0, .int .u8 0, .int .u8 0, .int .u8 0, .int .u16 0, .int .u16 0]) ?_ 1 _ rfl; (with_reducible repeat (first | refine blk_drewN ?_ _ | refine blk_drew ?_ | refine blk_alloc ?_ _)); refine blk_put (cs := #[.bool false, .int .u32 0, .int .u8 0, .int .u8 0, .int .u8 0, .int .u16 0, .int .u16 0]) ?_ 0 _ rfl; (with_reducible repeat (first | refine blk_drewN ?_ _ | refine blk_drew ?_ | refine blk_alloc ?_ _)); exact BK270.out⟩
                    have n5_ : Aside0 (Below w.heap.size w (((((((w75.setCell ⟨gb270, 0, none⟩ (.bool t262)).setCell ⟨gb270, 1, none⟩ (.int .u32 t263)).setCell ⟨gb270, 2, none⟩ (.int .u8 t264)).setCell ⟨gb270, 3, none⟩ (.int .u8 t265)).setCell ⟨gb270, 4, none⟩ (.int .u8 t266)).setCell ⟨gb270, 5, none⟩ (.int .u16 t267)).setCell ⟨gb270, 6, none⟩ (.int .u16 t268))) := ⟨by repeat (first | (with_reducible first | exact HB.out | apply below_alloc | apply pw_below_drewN | apply below_drew1 | refine below_set ?_ GE237.out | refine below_set ?_ GE243.out | refine below_set ?_ GE252.out | refine below_set ?_ GE261.out | refine below_set ?_ GE270.out) | exact HB.out)⟩
                    (try clear BK237)
                    (try clear BK243)
                    (try clear BK252)
                    (try clear BK261)
                    (try clear BK270)
                    (try clear HB)
                    generalize (((((((w75.setCell ⟨gb270, 0, none⟩ (.bool t262)).setCell ⟨gb270, 1, none⟩ (.int .u32 t263)).setCell ⟨gb270, 2, none⟩ (.int .u8 t264)).setCell ⟨gb270, 3, none⟩ (.int .u8 t265)).setCell ⟨gb270, 4, none⟩ (.int .u8 t266)).setCell ⟨gb270, 5, none⟩ (.int .u16 t267)).setCell ⟨gb270, 6, none⟩ (.int .u16 t268)) = w81 at n0_ n1_ n2_ n3_ n4_ n5_ ⊢
                    have BK237 := n0_
                    have BK243 := n1_
                    have BK252 := n2_
                    have BK261 := n3_
                    have BK270 := n4_
                    have HB := n5_
                    clear n0_ n1_ n2_ n3_ n4_ n5_
                    have n0_ := Aside0.mk (blk_drew BK237.out)
                    have n1_ := Aside0.mk (blk_drew BK243.out)
                    have n2_ := Aside0.mk (blk_drew BK252.out)
                    have n3_ := Aside0.mk (blk_drew BK261.out)
                    have n4_ := Aside0.mk (blk_drew BK270.out)
                    have n5_ := Aside0.mk (below_drew1 HB.out)
                    clear BK237
                    clear BK243
                    clear BK252
                    clear BK261
                    clear BK270
                    clear HB
                    have BK237 := n0_
                    have BK243 := n1_
                    have BK252 := n2_
                    have BK261 := n3_
                    have BK270 := n4_
                    have HB := n5_
                    clear n0_ n1_ n2_ n3_ n4_ n5_
                    refine start_ (n := 14) (S := fun w' => w'.cell? ⟨gb270, 0, none⟩ = some (.bool t262) ∧ w'.cell? ⟨gb270, 1, none⟩ = some (.int .u32 t263) ∧ w'.cell? ⟨gb270, 2, none⟩ = some (.int .u8 t264) ∧ w'.cell? ⟨gb270, 3, none⟩ = some (.int .u8 t265) ∧ w'.cell? ⟨gb270, 4, none⟩ = some (.int .u8 t266) ∧ w'.cell? ⟨gb270, 5, none⟩ = some (.int .u16 t267) ∧ w'.cell? ⟨gb270, 6, none⟩ = some (.int .u16 t268) ∧ w'.cell? ⟨gb261, 0, none⟩ = some (.bool t253) ∧ w'.cell? ⟨gb261, 1, none⟩ = some (.int .u32 t254) ∧ w'.cell? ⟨gb261, 2, none⟩ = some (.int .u8 t255) ∧ w'.cell? ⟨gb261, 3, none⟩ = some (.int .u8 t256) ∧ w'.cell? ⟨gb261, 4, none⟩ = some (.int .u8 t257) ∧ w'.cell? ⟨gb261, 5, none⟩ = some (.int .u16 t258) ∧ w'.cell? ⟨gb261, 6, none⟩ = some (.int .u16 t259)) (ds := []) #[false, false, false, false, false, false, false, false, false, false, false, false, false, false] (by kernel_rfl) rfl rfl ⟨(blk_cell BK270.out 0).trans rfl, (blk_cell BK270.out 1).trans rfl, (blk_cell BK270.out 2).trans rfl, (blk_cell BK270.out 3).trans rfl, (blk_cell BK270.out 4).trans rfl, (blk_cell BK270.out 5).trans rfl, (blk_cell BK270.out 6).trans rfl, (blk_cell BK261.out 0).trans rfl, (blk_cell BK261.out 1).trans rfl, (blk_cell BK261.out 2).trans rfl, (blk_cell BK261.out 3).trans rfl, (blk_cell BK261.out 4).trans rfl, (blk_cell BK261.out 5).trans rfl, (blk_cell BK261.out 6).trans rfl⟩ (fun hHeld => ?_); refine with_tabW bulwarkref18_Entry.tab12 bulwarkref18_Entry.bits12 (fun HT_ HW_ => ?_)
                    generalize w81.drew = w82 at BK237 BK243 BK252 BK261 BK270 HB hHeld ⊢
                    refine pure_ (i := 6) (N := some 105) (v := ?_) (a' := ?_) #[false, false, false, false, false, false, true, false, false, false, false, false, false, false] rfl rfl (any_of HT_.out (by kernel_rfl)) (fun _ _ _ h => h) (Or.inl ⟨by rfl, ?_⟩) ?_ ?_
                    rotate_left
                    · intro w'
                      go_simp
                      with_reducible rfl
                    rotate_left
                    · simp only [Act.put, List.setIfInBounds_toArray, List.set_cons_zero, List.set_cons_succ, i64_w, i32_w]
                      rfl
                    refine pure_ (i := 7) (N := some 106) (v := ?_) (a' := ?_) #[false, false, false, false, false, false, true, true, false, false, false, false, false, false] rfl rfl (any_of HT_.out (by kernel_rfl)) (fun _ _ _ h => h) (Or.inl ⟨by rfl, ?_⟩) ?_ ?_
                    rotate_left
                    · intro w'
                      go_simp
                      with_reducible rfl
                    rotate_left
                    · simp only [Act.put, List.setIfInBounds_toArray, List.set_cons_zero, List.set_cons_succ, i64_w, i32_w]
                      rfl
                    refine pure_ (i := 8) (N := some 107) (v := ?_) (a' := ?_) #[false, false, false, false, false, false, true, true, true, false, false, false, false, false] rfl rfl (any_of HT_.out (by kernel_rfl)) (fun _ _ _ h => h) (Or.inl ⟨by rfl, ?_⟩) ?_ ?_
                    rotate_left
                    · intro w'
                      go_simp
                      with_reducible rfl
                    rotate_left
                    · simp only [Act.put, List.setIfInBounds_toArray, List.set_cons_zero, List.set_cons_succ, i64_w, i32_w]
                      rfl
                    refine pure_ (i := 9) (N := some 108) (v := ?_) (a' := ?_) #[false, false, false, false, false, false, true, true, true, true, false, false, false, false] rfl rfl (any_of HT_.out (by kernel_rfl)) (fun _ _ _ h => h) (Or.inl ⟨by rfl, ?_⟩) ?_ ?_
                    rotate_left
                    · intro w'
                      go_simp
                      with_reducible rfl
                    rotate_left
                    · simp only [Act.put, List.setIfInBounds_toArray, List.set_cons_zero, List.set_cons_succ, i64_w, i32_w]
                      rfl
                    refine pure_ (i := 10) (N := some 109) (v := ?_) (a' := ?_) #[false, false, false, false, false, false, true, true, true, true, true, false, false, false] rfl rfl (any_of HT_.out (by kernel_rfl)) (fun _ _ _ h => h) (Or.inl ⟨by rfl, ?_⟩) ?_ ?_
                    rotate_left
                    · intro w'
                      go_simp
                      with_reducible rfl
                    rotate_left
                    · simp only [Act.put, List.setIfInBounds_toArray, List.set_cons_zero, List.set_cons_succ, i64_w, i32_w]
                      rfl
                    refine take_ (i := 0) (N := some 99) (v := ?_) (a' := ?_) #[true, false, false, false, false, false, true, true, true, true, true, false, false, false] rfl rfl (take_ofW HT_.out HW_.out (by kernel_rfl)) (fun _ _ _ h => h) (Or.inl ⟨by rfl, ?_⟩) hHeld ?_ ?_
                    rotate_left
                    · rintro w' ⟨s0, s1, s2, s3, s4, s5, s6, s7, s8, s9, s10, s11, s12, s13⟩
                      go_simp
                      with_reducible rfl
                    rotate_left
                    · simp only [Act.put, List.setIfInBounds_toArray, List.set_cons_zero, List.set_cons_succ, i64_w, i32_w]
                      rfl
                    refine take_ (i := 3) (N := some 102) (v := ?_) (a' := ?_) #[true, false, false, true, false, false, true, true, true, true, true, false, false, false] rfl rfl (take_ofW HT_.out HW_.out (by kernel_rfl)) (fun _ _ _ h => h) (Or.inl ⟨by rfl, ?_⟩) hHeld ?_ ?_
                    rotate_left
                    · rintro w' ⟨s0, s1, s2, s3, s4, s5, s6, s7, s8, s9, s10, s11, s12, s13⟩
                      go_simp
                      with_reducible rfl
                    rotate_left
                    · simp only [Act.put, List.setIfInBounds_toArray, List.set_cons_zero, List.set_cons_succ, i64_w, i32_w]
                      rfl
                    refine pure_ (i := 4) (N := some 103) (v := ?_) (a' := ?_) #[true, false, false, true, true, false, true, true, true, true, true, false, false, false] rfl rfl (any_of HT_.out (by kernel_rfl)) (fun _ _ _ h => h) (Or.inl ⟨by rfl, ?_⟩) ?_ ?_
                    rotate_left
                    · intro w'
                      go_simp
                      with_reducible rfl
                    rotate_left
                    · simp only [Act.put, List.setIfInBounds_toArray, List.set_cons_zero, List.set_cons_succ, i64_w, i32_w]
                      rfl
                    refine one_ (i := 1) (N := some 100) #[true, true, false, true, true, false, true, true, true, true, true, false, false, false] rfl rfl (one_of HT_.out (by kernel_rfl)) (by decide) (fun K hK => ?_)
                    refine goes_ Try.func33 (by kernel_rfl) rfl #[.agg #[.bool t262, .int .u32 t263, .int .u8 t264, .int .u8 t265, .int .u8 t266, .int .u16 t267, .int .u16 t268], .int .u32 3] (by rfl) rfl rfl (by (try simp only [List.map_toArray, List.map_cons, List.map_nil]); first | done | rfl | (simp only [List.length_drop, List.length_take]; rfl)) ?_
                    with_reducible refine (bulwarkref03_Seal.calls t262 t263 t264 t265 t266 t267 t268 3 t271 t272 t273 t274 t275 t276 t277 _ A69.out).mono ?_
                    rintro e w83 ⟨rfl, hb⟩
                    refine ⟨_, rfl, ?_⟩
                    have n0_ := Aside0.mk (blk_below (g := gb237) (o := .cells #[.int .u8 t232, .int .i64 t233, .int .u32 t234, .int .u32 t235] 25 (0, 0)) (by (with_reducible repeat (first | refine blk_drewN ?_ _ | refine blk_drew ?_ | refine blk_alloc ?_ _)); exact BK237.out) hb)
                    have n1_ := Aside0.mk (blk_below (g := gb243) (o := .cells #[.int .u8 t238, .int .i64 t239, .int .u32 t240, .int .u32 t241] 25 (0, 0)) (by (with_reducible repeat (first | refine blk_drewN ?_ _ | refine blk_drew ?_ | refine blk_alloc ?_ _)); exact BK243.out) hb)
                    have n2_ := Aside0.mk (blk_below (g := gb252) (o := .cells #[.bool t244, .int .u32 t245, .int .u8 t246, .int .u8 t247, .int .u8 t248, .int .u16 t249, .int .u16 t250] 34 (0, 0)) (by (with_reducible repeat (first | refine blk_drewN ?_ _ | refine blk_drew ?_ | refine blk_alloc ?_ _)); exact BK252.out) hb)
                    have n3_ := Aside0.mk (blk_below (g := gb261) (o := .cells #[.bool t253, .int .u32 t254, .int .u8 t255, .int .u8 t256, .int .u8 t257, .int .u16 t258, .int .u16 t259] 34 (0, 0)) (by (with_reducible repeat (first | refine blk_drewN ?_ _ | refine blk_drew ?_ | refine blk_alloc ?_ _)); exact BK261.out) hb)
                    have n4_ := Aside0.mk (blk_below (g := gb270) (o := .cells #[.bool t262, .int .u32 t263, .int .u8 t264, .int .u8 t265, .int .u8 t266, .int .u16 t267, .int .u16 t268] 34 (0, 0)) (by (with_reducible repeat (first | refine blk_drewN ?_ _ | refine blk_drew ?_ | refine blk_alloc ?_ _)); exact BK270.out) hb)
                    have n5_ := Aside0.mk (below_step (by repeat (first | (with_reducible first | exact HB.out | apply below_alloc | apply pw_below_drewN | apply below_drew1 | refine below_set ?_ GE237.out | refine below_set ?_ GE243.out | refine below_set ?_ GE252.out | refine below_set ?_ GE261.out | refine below_set ?_ GE270.out) | exact HB.out)) hb)
                    clear BK237
                    clear BK243
                    clear BK252
                    clear BK261
                    clear BK270
                    clear HB
                    have BK237 := n0_
                    have BK243 := n1_
                    have BK252 := n2_
                    have BK261 := n3_
                    have BK270 := n4_
                    have HB := n5_
                    clear n0_ n1_ n2_ n3_ n4_ n5_
                    (try clear hb)
                    (try clear hb2)
                    (try clear hk)
                    (try clear hi)
                    refine hK.out _ _ ⟨(blk_cell BK270.out 0).trans rfl, (blk_cell BK270.out 1).trans rfl, (blk_cell BK270.out 2).trans rfl, (blk_cell BK270.out 3).trans rfl, (blk_cell BK270.out 4).trans rfl, (blk_cell BK270.out 5).trans rfl, (blk_cell BK270.out 6).trans rfl, (blk_cell BK261.out 0).trans rfl, (blk_cell BK261.out 1).trans rfl, (blk_cell BK261.out 2).trans rfl, (blk_cell BK261.out 3).trans rfl, (blk_cell BK261.out 4).trans rfl, (blk_cell BK261.out 5).trans rfl, (blk_cell BK261.out 6).trans rfl⟩ (fun hHeld => ?_)
                    clear hK K
                    refine norm_ (a' := ?_) ?_ ?_
                    rotate_left
                    · show Act.put _ (some 100) _ = _
                      simp only [Act.put, List.setIfInBounds_toArray, List.set_cons_zero, List.set_cons_succ, i64_w, i32_w]
                      rfl
                    refine pure_ (i := 2) (N := some 101) (v := ?_) (a' := ?_) #[true, true, true, true, true, false, true, true, true, true, true, false, false, false] rfl rfl (any_of HT_.out (by kernel_rfl)) (fun _ _ _ h => h) (Or.inl ⟨by rfl, ?_⟩) ?_ ?_
                    rotate_left
                    · intro w'
                      go_simp
                      with_reducible rfl
                    rotate_left
                    · simp only [Act.put, List.setIfInBounds_toArray, List.set_cons_zero, List.set_cons_succ, i64_w, i32_w]
                      rfl
                    refine one_ (i := 5) (N := some 104) #[true, true, true, true, true, true, true, true, true, true, true, false, false, false] rfl rfl (one_of HT_.out (by kernel_rfl)) (by decide) (fun K hK => ?_)
                    refine Kd.R_lit_step k66 _ 66 ?hg (N := 104) ?hd (xs := ([(⟨0, (⟨t271, t272, t273, t274, (⟨t275, t276, t277⟩ : S32)⟩ : S34)⟩ : S66), (⟨8, (⟨t253, t254, t255, t256, (⟨t257, t258, t259⟩ : S32)⟩ : S34)⟩ : S66)] : List (S66))) (inner := [.int .u32 0, .bool t271, .int .u32 t272, .int .u8 t273, .int .u8 t274, .int .u8 t275, .int .u16 t276, .int .u16 t277, .int .u32 8, .bool t253, .int .u32 t254, .int .u8 t255, .int .u8 t256, .int .u8 t257, .int .u16 t258, .int .u16 t259]) (ok := fun _ => True) (okp := fun _ => True) ?hr ?hp (fun _ hk => hk) trivial (Below.refl _ _) (Nat.le_refl _) (by simp) ?_; (case hd => rfl); (case hg => rfl); (case hr => first | (go_simp; done) | (go_simp; rfl)); (case hp => exact (Reps.c8 (show Kd.M k66 _ _ _ (⟨0, (⟨t271, t272, t273, t274, (⟨t275, t276, t277⟩ : S32)⟩ : S34)⟩ : S66) [.int .u32 0, .bool t271, .int .u32 t272, .int .u8 t273, .int .u8 t274, .int .u8 t275, .int .u16 t276, .int .u16 t277] from (k66_mkM _ _ _ (⟨0, (⟨t271, t272, t273, t274, (⟨t275, t276, t277⟩ : S32)⟩ : S34)⟩ : S66) )) (Reps.c8 (show Kd.M k66 _ _ _ (⟨8, (⟨t253, t254, t255, t256, (⟨t257, t258, t259⟩ : S32)⟩ : S34)⟩ : S66) [.int .u32 8, .bool t253, .int .u32 t254, .int .u8 t255, .int .u8 t256, .int .u8 t257, .int .u16 t258, .int .u16 t259] from (k66_mkM _ _ _ (⟨8, (⟨t253, t254, t255, t256, (⟨t257, t258, t259⟩ : S32)⟩ : S34)⟩ : S66) )) (Reps.none _ _))))
                    intro v279 w84 ho85 hb hg_ hnew_
                    clear hg_ hnew_
                    (first | rw [← Ny278.out] at ho85 | (simp only [Int.reduceToNat] at ho85; rw [← Ny278.out] at ho85))
                    have n0_ := Aside0.mk (Kd.R_lower ho85 (below_size (by repeat (first | (with_reducible first | exact HB.out | apply below_alloc | apply pw_below_drewN | apply below_drew1 | refine below_set ?_ GE237.out | refine below_set ?_ GE243.out | refine below_set ?_ GE252.out | refine below_set ?_ GE261.out | refine below_set ?_ GE270.out) | exact HB.out))))
                    have n1_ := Aside0.mk (blk_below (g := gb237) (o := .cells #[.int .u8 t232, .int .i64 t233, .int .u32 t234, .int .u32 t235] 25 (0, 0)) (by (with_reducible repeat (first | refine blk_drewN ?_ _ | refine blk_drew ?_ | refine blk_alloc ?_ _)); exact BK237.out) hb)
                    have n2_ := Aside0.mk (blk_below (g := gb243) (o := .cells #[.int .u8 t238, .int .i64 t239, .int .u32 t240, .int .u32 t241] 25 (0, 0)) (by (with_reducible repeat (first | refine blk_drewN ?_ _ | refine blk_drew ?_ | refine blk_alloc ?_ _)); exact BK243.out) hb)
                    have n3_ := Aside0.mk (blk_below (g := gb252) (o := .cells #[.bool t244, .int .u32 t245, .int .u8 t246, .int .u8 t247, .int .u8 t248, .int .u16 t249, .int .u16 t250] 34 (0, 0)) (by (with_reducible repeat (first | refine blk_drewN ?_ _ | refine blk_drew ?_ | refine blk_alloc ?_ _)); exact BK252.out) hb)
                    have n4_ := Aside0.mk (blk_below (g := gb261) (o := .cells #[.bool t253, .int .u32 t254, .int .u8 t255, .int .u8 t256, .int .u8 t257, .int .u16 t258, .int .u16 t259] 34 (0, 0)) (by (with_reducible repeat (first | refine blk_drewN ?_ _ | refine blk_drew ?_ | refine blk_alloc ?_ _)); exact BK261.out) hb)
                    have n5_ := Aside0.mk (blk_below (g := gb270) (o := .cells #[.bool t262, .int .u32 t263, .int .u8 t264, .int .u8 t265, .int .u8 t266, .int .u16 t267, .int .u16 t268] 34 (0, 0)) (by (with_reducible repeat (first | refine blk_drewN ?_ _ | refine blk_drew ?_ | refine blk_alloc ?_ _)); exact BK270.out) hb)
                    have n6_ := Aside0.mk (below_step (by repeat (first | (with_reducible first | exact HB.out | apply below_alloc | apply pw_below_drewN | apply below_drew1 | refine below_set ?_ GE237.out | refine below_set ?_ GE243.out | refine below_set ?_ GE252.out | refine below_set ?_ GE261.out | refine below_set ?_ GE270.out) | exact HB.out)) hb)
                    clear BK237
                    clear BK243
                    clear BK252
                    clear BK261
                    clear BK270
                    clear HB
                    have HO280 := n0_
                    have BK237 := n1_
                    have BK243 := n2_
                    have BK252 := n3_
                    have BK261 := n4_
                    have BK270 := n5_
                    have HB := n6_
                    clear n0_ n1_ n2_ n3_ n4_ n5_ n6_
                    clear hb ho85
                    refine hK.out _ _ ⟨(blk_cell BK270.out 0).trans rfl, (blk_cell BK270.out 1).trans rfl, (blk_cell BK270.out 2).trans rfl, (blk_cell BK270.out 3).trans rfl, (blk_cell BK270.out 4).trans rfl, (blk_cell BK270.out 5).trans rfl, (blk_cell BK270.out 6).trans rfl, (blk_cell BK261.out 0).trans rfl, (blk_cell BK261.out 1).trans rfl, (blk_cell BK261.out 2).trans rfl, (blk_cell BK261.out 3).trans rfl, (blk_cell BK261.out 4).trans rfl, (blk_cell BK261.out 5).trans rfl, (blk_cell BK261.out 6).trans rfl⟩ (fun hHeld => ?_)
                    clear hK K
                    refine norm_ (a' := ?_) ?_ ?_
                    rotate_left
                    · show Act.put _ (some 104) _ = _
                      simp only [Act.put, List.setIfInBounds_toArray, List.set_cons_zero, List.set_cons_succ, i64_w, i32_w]
                      rfl
                    refine pure_ (i := 11) (N := some 10) (v := ?_) (a' := ?_) #[true, true, true, true, true, true, true, true, true, true, true, true, false, false] rfl rfl (any_of HT_.out (by kernel_rfl)) (fun _ _ _ h => h) (Or.inl ⟨by rfl, ?_⟩) ?_ ?_
                    rotate_left
                    · intro w'
                      go_simp
                      with_reducible rfl
                    rotate_left
                    · simp only [Act.put, List.setIfInBounds_toArray, List.set_cons_zero, List.set_cons_succ, i64_w, i32_w]
                      rfl
                    refine pure_ (i := 12) (N := some 11) (v := ?_) (a' := ?_) #[true, true, true, true, true, true, true, true, true, true, true, true, true, false] rfl rfl (any_of HT_.out (by kernel_rfl)) (fun _ _ _ h => h) (Or.inl ⟨by rfl, ?_⟩) ?_ ?_
                    rotate_left
                    · intro w'
                      go_simp
                      with_reducible rfl
                    rotate_left
                    · simp only [Act.put, List.setIfInBounds_toArray, List.set_cons_zero, List.set_cons_succ, i64_w, i32_w]
                      rfl
                    refine pure_ (i := 13) (N := some 12) (v := ?_) (a' := ?_) #[true, true, true, true, true, true, true, true, true, true, true, true, true, true] rfl rfl (any_of HT_.out (by kernel_rfl)) (fun _ _ _ h => h) (Or.inl ⟨by rfl, ?_⟩) ?_ ?_
                    rotate_left
                    · intro w'
                      go_simp
                      with_reducible rfl
                    rotate_left
                    · simp only [Act.put, List.setIfInBounds_toArray, List.set_cons_zero, List.set_cons_succ, i64_w, i32_w]
                      rfl
                    refine done_ (done_of HT_.out (by kernel_rfl)) ?_
                    try go_wp2
                    go_ret3
                    exact ⟨_, by first | rfl | (simp [errW_none, errW_some] <;> rfl) | (simp [*, errW_none, errW_some] <;> rfl), by (with_reducible repeat (first | apply Kd.R_alloc | apply Kd.R_drewN | apply Kd.R_drew)); exact HO280.out, by repeat (first | (with_reducible first | exact HB.out | apply below_alloc | apply pw_below_drewN | apply below_drew1 | refine below_set ?_ GE237.out | refine below_set ?_ GE243.out | refine below_set ?_ GE252.out | refine below_set ?_ GE261.out | refine below_set ?_ GE270.out) | exact HB.out)⟩

end Go.Proofs.Ytegehkenmkmflaa.Q
