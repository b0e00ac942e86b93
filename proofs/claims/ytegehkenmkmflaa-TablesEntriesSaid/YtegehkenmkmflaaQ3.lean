-- A walk, out of the kit's print program run by wip/ownprint.sh and turned by wip/qprune.py. Lean checks it.
import Derived.Test.YtegehkenmkmflaaQ0
namespace Go.Proofs.Ytegehkenmkmflaa.Q
open Go.RowKit Go.Proofs.YtegehkenmkmflaaW.PrintWords Go.Proofs.YtegehkenmkmflaaW.PrintLast Go.Proofs.YtegehkenmkmflaaW.PrintMore
attribute [local go_sem] max2_int min2_int max_two min_two max_three min_three max_four min_four   -- for this text's walks alone
set_option linter.unusedVariables false
set_option linter.unusedSimpArgs false

/-! ### tables_Region: function 7 -/
-- by hand: making
def tables_Region.p (a1 a2 : Int) (x : S25) : Bool := x.f0 == a1 && x.f1 == a2
def tables_Region.f (l0 : List (S25)) (a1 : Int) (a2 : Int) : Option (Int × Int × Int × Int × Bool) := match l0.find? (tables_Region.p a1 a2) with
  | some x => some (x.f0, x.f1, x.f2, x.f3, true)
  | none => some (0, 0, 0, 0, false)
set_option maxHeartbeats 8000000 in
set_option maxRecDepth 100000 in
theorem tables_Region_lit (r0 r1 r2 r3 kind owner : Int) (g1 g2 : Nat) (w : World) (hk : w.cell? ⟨g1, 0, none⟩ = some (.int .u8 kind)) (ho : w.cell? ⟨g2, 0, none⟩ = some (.int .i64 owner)) :
    Calls Try.prog 24 #[.agg #[.int .u8 r0, .int .i64 r1, .int .u32 r2, .int .u32 r3], .pointer (some ⟨g1, 0, none⟩), .pointer (some ⟨g2, 0, none⟩)] w fun e w' => e = .returned (.bool (r0 == kind && r1 == owner)) ∧ Below w.heap.size w w' := by
  have hu25 := Try.underlying25
  have h1 : g1 < w.heap.size := World.block_lt_of_cell? w _ hk
  have h2 : g2 < w.heap.size := World.block_lt_of_cell? w _ ho
  have hk1 : (w.alloc (.cells #[.int .u8 r0, .int .i64 r1, .int .u32 r2, .int .u32 r3] 25)).cell? ⟨g1, 0, none⟩ = some (.int .u8 kind) := (((Below.refl w.heap.size w).alloc (Nat.le_refl _) _).cell h1).trans hk
  have ho1 : (w.alloc (.cells #[.int .u8 r0, .int .i64 r1, .int .u32 r2, .int .u32 r3] 25)).cell? ⟨g2, 0, none⟩ = some (.int .i64 owner) := (((Below.refl w.heap.size w).alloc (Nat.le_refl _) _).cell h2).trans ho
  have HB := Aside0.mk ((Below.refl w.heap.size w).alloc (Nat.le_refl _) (.cells #[.int .u8 r0, .int .i64 r1, .int .u32 r2, .int .u32 r3] 25))
  by_cases c : r0 = kind
  · subst c
    have e1 : (r0 == r0) = true := beq_self_eq_true r0
    rw [e1]
    go_enter Try.func24, Try.ntmps24
    go_wp2
    go_ret
    exact ⟨by simp, HB.out⟩
  · have e1 : (r0 == kind) = false := beq_eq_false_iff_ne.mpr c
    rw [e1]
    go_enter Try.func24, Try.ntmps24
    go_wp2
    go_ret
    exact ⟨by simp, HB.out⟩
theorem find_step {p : S25 → Bool} {l : List S25} {i : Nat} (hi : i < l.length) (h : (l.take i).find? p = none) : (l.take (i + 1)).find? p = (if p (rd_T25 l (i : Int)) then some (rd_T25 l (i : Int)) else none) := by
  have e : l[i] = rd_T25 l (i : Int) := by unfold rd_T25; rw [Int.toNat_natCast, List.getD_eq_getElem?_getD, List.getElem?_eq_getElem hi]; rfl
  rw [List.take_succ_eq_append_getElem hi, List.find?_append, h, e]
  by_cases c : p (rd_T25 l (i : Int)) = true
  · simp [c]
  · simp [c]
theorem find_some_take {p : S25 → Bool} {l : List S25} {i : Nat} {x : S25} (h : (l.take i).find? p = some x) : l.find? p = some x := by
  conv => lhs; rw [← List.take_append_drop i l]
  rw [List.find?_append, h]; rfl
set_option maxHeartbeats 8000000 in
set_option maxRecDepth 100000 in
theorem tables_Region_index (A0 : Option Addr) (c0 : Nat) (l0 : List (S25)) (a1 a2 : Int) (g1 g2 : Nat) (w : World) (hr0 : Kd.C k25 w A0 l0.length l0) (hk : w.cell? ⟨g1, 0, none⟩ = some (.int .u8 a1)) (ho : w.cell? ⟨g2, 0, none⟩ = some (.int .i64 a2)) :
    Calls Try.prog 23 #[.slice A0 l0.length c0, .func (.func 24) #[] #[.pointer (some ⟨g1, 0, none⟩), .pointer (some ⟨g2, 0, none⟩)]] w fun e w' => ∃ i : Int, e = .returned (.int .i64 i) ∧ ((i = -1 ∧ l0.find? (tables_Region.p a1 a2) = none) ∨ (0 ≤ i ∧ i < l0.length ∧ l0.find? (tables_Region.p a1 a2) = some (rd_T25 l0 i))) ∧ Below w.heap.size w w' := by
  have hu25 := Try.underlying25
  have HR0 := Aside0.mk hr0
  have HM := Aside0.mk hr0.2.1
  have HK := Aside0.mk hk
  have HO := Aside0.mk ho
  have HB := Aside0.mk (Below.refl w.heap.size w)
  clear hr0 hk ho
  go_enter Try.func23, Try.ntmps23
  go_wp2
  go_loopg [8] (l0.length + 1) (fun kq v8 w' => ∃ (i : Nat), v8 = .int .i64 (i : Int) ∧ Aside0 (i + kq = l0.length + 1 ∧ i ≤ l0.length) ∧ Aside0 ((l0.take i).find? (tables_Region.p a1 a2) = none) ∧ Aside0 (Below w.heap.size w w'))
  case atStart => exact ⟨0, rfl, ⟨by omega, by omega⟩, ⟨by simp⟩, HB⟩
  case round =>
    clear HB
    obtain ⟨i, rfl, HX, HF, HB⟩ := hrel
    have hx := HX.out
    by_cases c : i < l0.length
    · cases gk with
      | zero => exact absurd hx.1 (by omega)
      | succ gk =>
        have c1 : decide ((i : Int) < (l0.length : Int)) = true := decide_eq_true (by omega)
        have c2 : decide (i < l0.length) = true := decide_eq_true c
        have p1 : 0 ≤ (i : Int) := by omega
        have q1 : (i : Int) < (l0.length : Int) := by omega
        obtain ⟨ad, ea, hx0, hx1, hx2, hx3⟩ := at_T25 HR0.out (i : Int) p1 q1
        cases ea
        replace hx0 := (HB.out.cell (World.block_lt_of_cell? w _ hx0)).trans hx0
        replace hx1 := (HB.out.cell (World.block_lt_of_cell? w _ hx1)).trans hx1
        replace hx2 := (HB.out.cell (World.block_lt_of_cell? w _ hx2)).trans hx2
        replace hx3 := (HB.out.cell (World.block_lt_of_cell? w _ hx3)).trans hx3
        have hk1 := (HB.out.cell (World.block_lt_of_cell? w _ HK.out)).trans HK.out
        have ho1 := (HB.out.cell (World.block_lt_of_cell? w _ HO.out)).trans HO.out
        have HK1 := Aside0.mk hk1
        have HO1 := Aside0.mk ho1
        have hst := find_step c HF.out
        rw [Int.toNat_natCast] at hx0 hx1 hx2 hx3
        have HST := Aside0.mk hst
        have HC := Aside0.mk c
        replace p1 := eq_true p1
        replace q1 := eq_true q1
        have q2 := eq_true c
        clear hx hst c hk1 ho1
        go_wp2_with fail
        refine (tables_Region_lit _ _ _ _ a1 a2 g1 g2 _ HK1.out HO1.out).mono ?_
        rintro e w1 ⟨rfl, hb⟩
        replace HB := Aside0.mk (below_step HB.out hb)
        clear hb HK1 HO1 hx0 hx1 hx2 hx3
        by_cases d : ((rd_T25 l0 (i : Int)).f0 == a1 && (rd_T25 l0 (i : Int)).f1 == a2) = true
        · rw [d]
          have hs := HST.out
          rw [show tables_Region.p a1 a2 (rd_T25 l0 (i : Int)) = true from d, if_pos rfl] at hs
          have HS := Aside0.mk (find_some_take hs)
          clear hs HST d
          go_wp2
          go_ret
          exact ⟨_, rfl, .inr ⟨by omega, by have := HC.out; omega, HS.out⟩, HB.out⟩
        · rw [Bool.eq_false_iff.mpr d]
          have hs := HST.out
          rw [show tables_Region.p a1 a2 (rd_T25 l0 (i : Int)) = false from Bool.eq_false_iff.mpr d, if_neg (by decide)] at hs
          have HS := Aside0.mk hs
          clear hs HST d
          go_wp2
          go_roundg gk
          case measure => omega
          case rel => exact ⟨i + 1, by have := HM.out; have := HC.out; first | rfl | (simp [wrap64]; omega), ⟨by have := HX.out; omega, by have := HC.out; omega⟩, HS, HB⟩
    · have c1 : decide ((i : Int) < (l0.length : Int)) = false := decide_eq_false (by omega)
      have c2 : decide (i < l0.length) = false := decide_eq_false c
      have hs : l0.find? (tables_Region.p a1 a2) = none := by have h := HF.out; rwa [List.take_of_length_le (by omega)] at h
      have HS := Aside0.mk hs
      clear hx c hs
      go_wp2
      go_ret
      exact ⟨_, rfl, .inl ⟨rfl, HS.out⟩, HB.out⟩
set_option maxHeartbeats 8000000 in
set_option maxRecDepth 100000 in
theorem tables_Region_any (A0 : Option Addr) (c0 : Nat) (l0 : List (S25)) (a1 : Int) (a2 : Int) (r1 : Int) (r2 : Int) (r3 : Int) (r4 : Int) (r5 : Bool) (w : World) (hr0 : Kd.C k25 w A0 l0.length l0) (h : tables_Region.f l0 a1 a2 = some (r1, r2, r3, r4, r5)) :
    Calls Try.prog 7 #[.slice A0 l0.length c0, .int .u8 a1, .int .i64 a2] w fun e w' => e = .returned (.tuple #[.agg #[.int .u8 r1, .int .i64 r2, .int .u32 r3, .int .u32 r4], .bool r5]) ∧ Below w.heap.size w w' := by
  have hu25 := Try.underlying25
  have HR0 := Aside0.mk hr0
  have HH := Aside0.mk h
  clear hr0 h
  go_enter Try.func7, Try.ntmps7
  go_wp2_with fail
  have hb0 : Below w.heap.size w (((w.alloc (.cells #[.int .u8 a1] 5)).alloc (.cells #[.int .i64 a2] 3)).alloc (.cells #[.int .u8 0, .int .i64 0, .int .u32 0, .int .u32 0] 25)) := (((Below.refl w.heap.size w).alloc (Nat.le_refl _) _).alloc (by simp) _).alloc (by simp; omega) _
  have b1 : (((w.alloc (.cells #[.int .u8 a1] 5)).alloc (.cells #[.int .i64 a2] 3)).alloc (.cells #[.int .u8 0, .int .i64 0, .int .u32 0, .int .u32 0] 25)).heap[w.heap.size]? = some (.cells #[.int .u8 a1] 5 (0, 0)) := by
    rw [heap_alloc_old _ _ (by simp; omega), heap_alloc_old _ _ (by simp)]; exact heap_alloc_new w _
  have b2 : (((w.alloc (.cells #[.int .u8 a1] 5)).alloc (.cells #[.int .i64 a2] 3)).alloc (.cells #[.int .u8 0, .int .i64 0, .int .u32 0, .int .u32 0] 25)).heap[w.heap.size + 1]? = some (.cells #[.int .i64 a2] 3 (0, 0)) := by
    rw [heap_alloc_old _ _ (by simp)]
    have h := heap_alloc_new (w.alloc (.cells #[.int .u8 a1] 5)) (.cells #[.int .i64 a2] 3)
    simpa using h
  have b3 : (((w.alloc (.cells #[.int .u8 a1] 5)).alloc (.cells #[.int .i64 a2] 3)).alloc (.cells #[.int .u8 0, .int .i64 0, .int .u32 0, .int .u32 0] 25)).heap[w.heap.size + 1 + 1]? = some (.cells #[.int .u8 0, .int .i64 0, .int .u32 0, .int .u32 0] 25 (0, 0)) := by
    have h := heap_alloc_new ((w.alloc (.cells #[.int .u8 a1] 5)).alloc (.cells #[.int .i64 a2] 3)) (.cells #[.int .u8 0, .int .i64 0, .int .u32 0, .int .u32 0] 25)
    simpa using h
  refine (tables_Region_index A0 c0 l0 a1 a2 w.heap.size (w.heap.size + 1) _ (Kd.C_below HR0.out hb0) ((blk_cell b1 0).trans rfl) ((blk_cell b2 0).trans rfl)).mono ?_
  rintro e w1 ⟨i, rfl, hi, hb⟩
  have BR := Aside0.mk (blk_below b3 hb)
  have HB := Aside0.mk (below_step hb0 hb)
  clear hb0 b1 b2 b3 hb
  have hc0_ : w1.cell? ⟨w.heap.size + 1 + 1, 0, none⟩ = some (.int .u8 0) := (blk_cell BR.out 0).trans rfl
  have hc1_ : w1.cell? ⟨w.heap.size + 1 + 1, 1, none⟩ = some (.int .i64 0) := (blk_cell BR.out 1).trans rfl
  have hc2_ : w1.cell? ⟨w.heap.size + 1 + 1, 2, none⟩ = some (.int .u32 0) := (blk_cell BR.out 2).trans rfl
  have hc3_ : w1.cell? ⟨w.heap.size + 1 + 1, 3, none⟩ = some (.int .u32 0) := (blk_cell BR.out 3).trans rfl
  have hf0_ := blk_frozen BR.out 0
  have hf1_ := blk_frozen BR.out 1
  have hf2_ := blk_frozen BR.out 2
  have hf3_ := blk_frozen BR.out 3
  have hh := HH.out
  unfold tables_Region.f at hh
  rcases hi with ⟨rfl, hn⟩ | ⟨i0, i1, hs⟩
  · rw [hn] at hh
    simp only [Option.some.injEq, Prod.mk.injEq] at hh
    obtain ⟨rfl, rfl, rfl, rfl, rfl⟩ := hh
    clear hn HH
    go_wp2
    refine bodyPost_ret (results_ct rfl _ _ (w.heap.size + 1 + 1) 25 #[.int .u8 0, .int .i64 0, .int .u32 0, .int .u32 0] (0, 0) _ rfl (by refine blk_put (cs := #[.int .u8 0, .int .i64 0, .int .u32 0, .int .u32 0]) ?_ 3 _ rfl; refine blk_put (cs := #[.int .u8 0, .int .i64 0, .int .u32 0, .int .u32 0]) ?_ 2 _ rfl; refine blk_put (cs := #[.int .u8 0, .int .i64 0, .int .u32 0, .int .u32 0]) ?_ 1 _ rfl; refine blk_put (cs := #[.int .u8 0, .int .i64 0, .int .u32 0, .int .u32 0]) ?_ 0 _ rfl; exact BR.out) Try.underlying25 rfl (by kernel_rfl)) rfl ?_
    exact ⟨rfl, (((HB.out.setCell (by simp; omega) _).setCell (by simp; omega) _).setCell (by simp; omega) _).setCell (by simp; omega) _⟩
  · rw [hs] at hh
    simp only [Option.some.injEq, Prod.mk.injEq] at hh
    obtain ⟨rfl, rfl, rfl, rfl, rfl⟩ := hh
    obtain ⟨ad, ea, hx0, hx1, hx2, hx3⟩ := at_T25 HR0.out i i0 i1
    cases ea
    replace hx0 := (HB.out.cell (World.block_lt_of_cell? w _ hx0)).trans hx0
    replace hx1 := (HB.out.cell (World.block_lt_of_cell? w _ hx1)).trans hx1
    replace hx2 := (HB.out.cell (World.block_lt_of_cell? w _ hx2)).trans hx2
    replace hx3 := (HB.out.cell (World.block_lt_of_cell? w _ hx3)).trans hx3
    have c1 : decide (i < 0) = false := decide_eq_false (by omega)
    have p1 := eq_true i0
    have q1 := eq_true i1
    clear hs HH i0 i1
    go_wp2
    refine bodyPost_ret (results_ct rfl _ _ (w.heap.size + 1 + 1) 25 #[.int .u8 (rd_T25 l0 i).f0, .int .i64 (rd_T25 l0 i).f1, .int .u32 (rd_T25 l0 i).f2, .int .u32 (rd_T25 l0 i).f3] (0, 0) _ rfl (by refine blk_put (cs := #[.int .u8 (rd_T25 l0 i).f0, .int .i64 (rd_T25 l0 i).f1, .int .u32 (rd_T25 l0 i).f2, .int .u32 0]) ?_ 3 _ rfl; refine blk_put (cs := #[.int .u8 (rd_T25 l0 i).f0, .int .i64 (rd_T25 l0 i).f1, .int .u32 0, .int .u32 0]) ?_ 2 _ rfl; refine blk_put (cs := #[.int .u8 (rd_T25 l0 i).f0, .int .i64 0, .int .u32 0, .int .u32 0]) ?_ 1 _ rfl; refine blk_put (cs := #[.int .u8 0, .int .i64 0, .int .u32 0, .int .u32 0]) ?_ 0 _ rfl; exact BR.out) Try.underlying25 rfl (by kernel_rfl)) rfl ?_
    exact ⟨rfl, (((HB.out.setCell (by simp; omega) _).setCell (by simp; omega) _).setCell (by simp; omega) _).setCell (by simp; omega) _⟩
theorem tables_Region.calls (A0 : Option Addr) (c0 : Nat) (l0 : List (S25)) (a1 : Int) (a2 : Int) (r1 : Int) (r2 : Int) (r3 : Int) (r4 : Int) (r5 : Bool) (w : World) (hr0 : Kd.C k25 w A0 l0.length l0) (hc0 : l0.length ≤ c0) (h : tables_Region.f l0 a1 a2 = some (r1, r2, r3, r4, r5)) :
    Calls Try.prog 7 #[.slice A0 l0.length c0, .int .u8 a1, .int .i64 a2] w fun e w' => e = .returned (.tuple #[.agg #[.int .u8 r1, .int .i64 r2, .int .u32 r3, .int .u32 r4], .bool r5]) ∧ Below w.heap.size w w' := tables_Region_any A0 c0 l0 a1 a2 r1 r2 r3 r4 r5 w hr0 h

end Go.Proofs.Ytegehkenmkmflaa.Q
