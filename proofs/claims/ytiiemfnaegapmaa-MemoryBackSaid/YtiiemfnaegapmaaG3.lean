-- The capability of bytes (the code): walked by hand. Lean checks it.
import Derived.Test.YtiiemfnaegapmaaG2
namespace Go.Proofs.Ytiiemfnaegapmaa.Q
open Go.RowKit Go.Proofs.YtiiemfnaegapmaaW.PrintWords Go.Proofs.YtiiemfnaegapmaaW.PrintLast Go.Proofs.YtiiemfnaegapmaaW.PrintMore
attribute [local go_sem] max2_int min2_int max_two min_two max_three min_three max_four min_four   -- for this text's walks alone
set_option linter.unusedVariables false
set_option linter.unusedSimpArgs false

theorem C8 {w : World} {g t : Nat} (x0 x1 x2 x3 x4 x5 x6 x7 : Int) (h : w.heap[g]? = some (.cells #[.int .u8 x0, .int .u8 x1, .int .u8 x2, .int .u8 x3, .int .u8 x4, .int .u8 x5, .int .u8 x6, .int .u8 x7] t (0, 0))) : Kd.C (Kd.int .u8) w (some ⟨g, 0, none⟩) [x0, x1, x2, x3, x4, x5, x6, x7].length [x0, x1, x2, x3, x4, x5, x6, x7] := by
  refine Kd.C_of_reads (d := (0 : Int)) (h1 := fun _ => rfl) ⟨rfl, by show 8 ≤ _; decide, fun _ => ⟨_, rfl, ?_⟩⟩
  intro j hj
  have hj8 : j < 8 := hj
  have e : (⟨g, 0, none⟩ : Addr).add j = ⟨g, j, none⟩ := by unfold Addr.add; split <;> simp_all
  rw [e, blk_cell h j]
  have : j = 0 ∨ j = 1 ∨ j = 2 ∨ j = 3 ∨ j = 4 ∨ j = 5 ∨ j = 6 ∨ j = 7 := by omega
  rcases this with g | g | g | g | g | g | g | g <;> subst g <;> rfl
theorem put7 {w : World} {g t : Nat} {c0 c1 c2 c3 c4 c5 c6 : Value} (v0 v1 v2 v3 v4 v5 v6 : Value) (h : w.heap[g]? = some (.cells #[c0, c1, c2, c3, c4, c5, c6] t (0, 0))) : (((((((w.setCell ⟨g, 0, none⟩ v0).setCell ⟨g, 1, none⟩ v1).setCell ⟨g, 2, none⟩ v2).setCell ⟨g, 3, none⟩ v3).setCell ⟨g, 4, none⟩ v4).setCell ⟨g, 5, none⟩ v5).setCell ⟨g, 6, none⟩ v6).heap[g]? = some (.cells #[v0, v1, v2, v3, v4, v5, v6] t (0, 0)) := by
  refine blk_put (cs := #[v0, v1, v2, v3, v4, v5, c6]) ?_ 6 _ rfl
  refine blk_put (cs := #[v0, v1, v2, v3, v4, c5, c6]) ?_ 5 _ rfl
  refine blk_put (cs := #[v0, v1, v2, v3, c4, c5, c6]) ?_ 4 _ rfl
  refine blk_put (cs := #[v0, v1, v2, c3, c4, c5, c6]) ?_ 3 _ rfl
  refine blk_put (cs := #[v0, v1, c2, c3, c4, c5, c6]) ?_ 2 _ rfl
  refine blk_put (cs := #[v0, c1, c2, c3, c4, c5, c6]) ?_ 1 _ rfl
  refine blk_put (cs := #[c0, c1, c2, c3, c4, c5, c6]) ?_ 0 _ rfl
  exact h
theorem below7 {B : Nat} {w0 w : World} {g : Nat} (v0 v1 v2 v3 v4 v5 v6 : Value) (h : Below B w0 w) (hg : B ≤ g) : Below B w0 (((((((w.setCell ⟨g, 0, none⟩ v0).setCell ⟨g, 1, none⟩ v1).setCell ⟨g, 2, none⟩ v2).setCell ⟨g, 3, none⟩ v3).setCell ⟨g, 4, none⟩ v4).setCell ⟨g, 5, none⟩ v5).setCell ⟨g, 6, none⟩ v6) :=
  ((((((h.setCell hg _).setCell hg _).setCell hg _).setCell hg _).setCell hg _).setCell hg _).setCell hg _
set_option maxHeartbeats 8000000 in
set_option maxRecDepth 100000 in
theorem capa_Of.calls (k : Nat) (x0 x1 x2 x3 x4 x5 x6 x7 : Int) (tag : Bool) (n a : Int) (w : World) (h1 : ends_Get.f k [x0, x1, x2, x3, x4, x5, x6, x7] 4 4 = some (n, 0)) (h2 : ends_Get.f k [x0, x1, x2, x3, x4, x5, x6, x7] 0 4 = some (a, 0)) :
    Calls Try.prog 30 #[.agg #[.int .u8 x0, .int .u8 x1, .int .u8 x2, .int .u8 x3, .int .u8 x4, .int .u8 x5, .int .u8 x6, .int .u8 x7], .bool tag] w fun e' w' => e' = .returned (.agg #[.bool tag, .int .u32 (a % 4294967296), .int .u8 (bits .and .u64 n 127 % 256), .int .u8 (bits .and .u64 (n / 128) 7 % 256), .int .u8 (bits .and .u64 (n / 1024) 15 % 256), .int .u16 (IntKind.u16.wrap (bits .and .u64 (n / 16384) 511)), .int .u16 (IntKind.u16.wrap (bits .and .u64 (n / 8388608) 511))]) ∧ Below w.heap.size w w' := by
  have hu27 := Try.underlying30
  have hu48 := Try.underlying51
  go_enter Try.func30, Try.ntmps30
  go_wp2_with fail
  have bb : ((w.alloc (.cells #[.int .u8 x0, .int .u8 x1, .int .u8 x2, .int .u8 x3, .int .u8 x4, .int .u8 x5, .int .u8 x6, .int .u8 x7] 51)).alloc (.cells #[.bool false, .int .u32 0, .int .u8 0, .int .u8 0, .int .u8 0, .int .u16 0, .int .u16 0] 30)).heap[w.heap.size]? = some (.cells #[.int .u8 x0, .int .u8 x1, .int .u8 x2, .int .u8 x3, .int .u8 x4, .int .u8 x5, .int .u8 x6, .int .u8 x7] 51 (0, 0)) := by
    rw [heap_alloc_old _ _ (by simp)]; exact heap_alloc_new w _
  have br : ((w.alloc (.cells #[.int .u8 x0, .int .u8 x1, .int .u8 x2, .int .u8 x3, .int .u8 x4, .int .u8 x5, .int .u8 x6, .int .u8 x7] 51)).alloc (.cells #[.bool false, .int .u32 0, .int .u8 0, .int .u8 0, .int .u8 0, .int .u16 0, .int .u16 0] 30)).heap[w.heap.size + 1]? = some (.cells #[.bool false, .int .u32 0, .int .u8 0, .int .u8 0, .int .u8 0, .int .u16 0, .int .u16 0] 30 (0, 0)) := by
    have h := heap_alloc_new (w.alloc (.cells #[.int .u8 x0, .int .u8 x1, .int .u8 x2, .int .u8 x3, .int .u8 x4, .int .u8 x5, .int .u8 x6, .int .u8 x7] 51)) (.cells #[.bool false, .int .u32 0, .int .u8 0, .int .u8 0, .int .u8 0, .int .u16 0, .int .u16 0] 30)
    simpa using h
  have hb0 : Below w.heap.size w ((w.alloc (.cells #[.int .u8 x0, .int .u8 x1, .int .u8 x2, .int .u8 x3, .int .u8 x4, .int .u8 x5, .int .u8 x6, .int .u8 x7] 51)).alloc (.cells #[.bool false, .int .u32 0, .int .u8 0, .int .u8 0, .int .u8 0, .int .u16 0, .int .u16 0] 30)) := ((Below.refl w.heap.size w).alloc (Nat.le_refl _) _).alloc (by simp) _
  refine (ends_Get.calls k _ 8 [x0, x1, x2, x3, x4, x5, x6, x7] 4 4 n 0 _ (C8 x0 x1 x2 x3 x4 x5 x6 x7 bb) (Nat.le_refl _) h1).mono ?_
  rintro e3 w3 ⟨rfl, hb⟩
  have BB := Aside0.mk (blk_below bb hb)
  have BR := Aside0.mk (blk_below br hb)
  have HB := Aside0.mk (below_step hb0 hb)
  have H2 := Aside0.mk h2
  clear hb bb br hb0 h1 h2
  go_wp2_with fail
  refine (ends_Get.calls k _ 8 [x0, x1, x2, x3, x4, x5, x6, x7] 0 4 a 0 _ (C8 x0 x1 x2 x3 x4 x5 x6 x7 BB.out) (Nat.le_refl _) H2.out).mono ?_
  rintro e4 w4 ⟨rfl, hb⟩
  replace BB := Aside0.mk (blk_below BB.out hb)
  replace BR := Aside0.mk (blk_below BR.out hb)
  replace HB := Aside0.mk (below_step HB.out hb)
  have hc0 : w4.cell? ⟨w.heap.size + 1, 0, none⟩ = some (.bool false) := (blk_cell BR.out 0).trans rfl
  have hf0 := blk_frozen BR.out 0
  have hc1 : w4.cell? ⟨w.heap.size + 1, 1, none⟩ = some (.int .u32 0) := (blk_cell BR.out 1).trans rfl
  have hf1 := blk_frozen BR.out 1
  have hc2 : w4.cell? ⟨w.heap.size + 1, 2, none⟩ = some (.int .u8 0) := (blk_cell BR.out 2).trans rfl
  have hf2 := blk_frozen BR.out 2
  have hc3 : w4.cell? ⟨w.heap.size + 1, 3, none⟩ = some (.int .u8 0) := (blk_cell BR.out 3).trans rfl
  have hf3 := blk_frozen BR.out 3
  have hc4 : w4.cell? ⟨w.heap.size + 1, 4, none⟩ = some (.int .u8 0) := (blk_cell BR.out 4).trans rfl
  have hf4 := blk_frozen BR.out 4
  have hc5 : w4.cell? ⟨w.heap.size + 1, 5, none⟩ = some (.int .u16 0) := (blk_cell BR.out 5).trans rfl
  have hf5 := blk_frozen BR.out 5
  have hc6 : w4.cell? ⟨w.heap.size + 1, 6, none⟩ = some (.int .u16 0) := (blk_cell BR.out 6).trans rfl
  have hf6 := blk_frozen BR.out 6
  clear hb H2
  go_wp2
  refine bodyPost_ret (results_cell_row rfl _ _ (w.heap.size + 1) 30 #[.bool tag, .int .u32 (a % 4294967296), .int .u8 (bits .and .u64 n 127 % 256), .int .u8 (bits .and .u64 (n / 128) 7 % 256), .int .u8 (bits .and .u64 (n / 1024) 15 % 256), .int .u16 (IntKind.u16.wrap (bits .and .u64 (n / 16384) 511)), .int .u16 (IntKind.u16.wrap (bits .and .u64 (n / 8388608) 511))] (0, 0) _ rfl (put7 (g := w.heap.size + 1) (.bool tag) (.int .u32 (a % 4294967296)) (.int .u8 (bits .and .u64 n 127 % 256)) (.int .u8 (bits .and .u64 (n / 128) 7 % 256)) (.int .u8 (bits .and .u64 (n / 1024) 15 % 256)) (.int .u16 (IntKind.u16.wrap (bits .and .u64 (n / 16384) 511))) (.int .u16 (IntKind.u16.wrap (bits .and .u64 (n / 8388608) 511))) BR.out) Try.underlying30 rfl (by kernel_rfl)) rfl ?_
  exact ⟨rfl, below7 _ _ _ _ _ _ _ HB.out (by simp)⟩
end Go.Proofs.Ytiiemfnaegapmaa.Q
