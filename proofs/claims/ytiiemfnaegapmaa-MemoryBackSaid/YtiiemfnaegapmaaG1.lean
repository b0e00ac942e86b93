-- The bytes of a capability (the code): walked by hand. Lean checks it.
import Derived.Test.YtiiemfnaegapmaaQ0
import Derived.Test.YtiiemfnaegapmaaQ6
import Derived.Test.YtiiemfnaegapmaaQ7
import Derived.Test.YtiiemfnaegapmaaQ12
import Derived.Test.YtiiemfnaegapmaaQ13
import Derived.Test.YtiiemfnaegapmaaQ14
import Derived.Laws.Cover3
namespace Go.Proofs.Ytiiemfnaegapmaa.Q
open Go.RowKit Go.Proofs.YtiiemfnaegapmaaW.PrintWords Go.Proofs.YtiiemfnaegapmaaW.PrintLast Go.Proofs.YtiiemfnaegapmaaW.PrintMore
attribute [local go_sem] max2_int min2_int max_two min_two max_three min_three max_four min_four   -- for this text's walks alone
set_option linter.unusedVariables false
set_option linter.unusedSimpArgs false

/-- The number of the low bytes' bytes. -/
def pack (a p t e b u : Int) : Int := bits .or .u64 (IntKind.u64.wrap (bits .or .u64 (bits .or .u64 (bits .or .u64 (bits .or .u64 (IntKind.u64.wrap (bits .and .u8 p 127)) (IntKind.u64.wrap (IntKind.u64.wrap (bits .and .u8 t 7) * 128))) (IntKind.u64.wrap (IntKind.u64.wrap (bits .and .u8 e 15) * 1024))) (IntKind.u64.wrap (IntKind.u64.wrap (bits .and .u16 b 511) * 16384))) (IntKind.u64.wrap (IntKind.u64.wrap (bits .and .u16 u 511) * 8388608)) * 4294967296)) (IntKind.u64.wrap a)
set_option maxHeartbeats 8000000 in
set_option maxRecDepth 100000 in
theorem capa_Bytes.calls (g : Bool) (a p t e b u : Int) (x0 x1 x2 x3 x4 x5 x6 x7 : Int) (w : World) (h : ends_Put.f (pack a p t e b u) 8 = some ([x0, x1, x2, x3, x4, x5, x6, x7], 0)) :
    Calls Try.prog 25 #[.agg #[.bool g, .int .u32 a, .int .u8 p, .int .u8 t, .int .u8 e, .int .u16 b, .int .u16 u]] w fun e w' => e = .returned (.agg #[.int .u8 x0, .int .u8 x1, .int .u8 x2, .int .u8 x3, .int .u8 x4, .int .u8 x5, .int .u8 x6, .int .u8 x7]) ∧ Below w.heap.size w w' := by
  have hu27 := Try.underlying30
  have hu48 := Try.underlying51
  have HP := Aside0.mk h
  clear h
  go_enter Try.func25, Try.ntmps25
  go_wp2_with fail
  refine (ends_Put.calls _ _ [x0, x1, x2, x3, x4, x5, x6, x7] 0 _ HP.out).mono ?_
  rintro e1 w3 ⟨v, rfl, hR, hB⟩
  have BK : w3.heap[w.heap.size + 1]? = some (.cells #[.int .u8 0, .int .u8 0, .int .u8 0, .int .u8 0, .int .u8 0, .int .u8 0, .int .u8 0, .int .u8 0] 51 (0, 0)) := (hB.block _ (by simp)).trans (by have h := heap_alloc_new (w.alloc (.cells #[.bool g, .int .u32 a, .int .u8 p, .int .u8 t, .int .u8 e, .int .u16 b, .int .u16 u] 30)) (.cells #[.int .u8 0, .int .u8 0, .int .u8 0, .int .u8 0, .int .u8 0, .int .u8 0, .int .u8 0, .int .u8 0] 51); simpa using h)
  obtain ⟨gp, cp, rfl, hgp, hgl, cells, hcs⟩ := Kd.R_form hR (by simp)
  have hx0 : w3.cell? ⟨gp, 0, none⟩ = some (.int .u8 x0) := (Kd.R_celln 0 hR 0 (by omega) (by simp)).1
  have hx1 : w3.cell? ⟨gp, 1, none⟩ = some (.int .u8 x1) := (Kd.R_celln 0 hR 1 (by omega) (by simp)).1
  have hx2 : w3.cell? ⟨gp, 2, none⟩ = some (.int .u8 x2) := (Kd.R_celln 0 hR 2 (by omega) (by simp)).1
  have hx3 : w3.cell? ⟨gp, 3, none⟩ = some (.int .u8 x3) := (Kd.R_celln 0 hR 3 (by omega) (by simp)).1
  have hx4 : w3.cell? ⟨gp, 4, none⟩ = some (.int .u8 x4) := (Kd.R_celln 0 hR 4 (by omega) (by simp)).1
  have hx5 : w3.cell? ⟨gp, 5, none⟩ = some (.int .u8 x5) := (Kd.R_celln 0 hR 5 (by omega) (by simp)).1
  have hx6 : w3.cell? ⟨gp, 6, none⟩ = some (.int .u8 x6) := (Kd.R_celln 0 hR 6 (by omega) (by simp)).1
  have hx7 : w3.cell? ⟨gp, 7, none⟩ = some (.int .u8 x7) := (Kd.R_celln 0 hR 7 (by omega) (by simp)).1
  have HB := Aside0.mk hB
  have harr := fun W => run_arrayAt (P := Try.prog) (w := W) 51 5 8 (some ⟨gp, 0, none⟩) 8 cp Try.underlying51 (by omega)
  have hc0 : w3.cell? ⟨w.heap.size + 1, 0, none⟩ = some (.int .u8 0) := (blk_cell BK 0).trans rfl
  have hf0 : w3.frozen? ⟨w.heap.size + 1, 0, none⟩ = false := blk_frozen BK 0
  have hc1 : w3.cell? ⟨w.heap.size + 1, 1, none⟩ = some (.int .u8 0) := (blk_cell BK 1).trans rfl
  have hf1 : w3.frozen? ⟨w.heap.size + 1, 1, none⟩ = false := blk_frozen BK 1
  have hc2 : w3.cell? ⟨w.heap.size + 1, 2, none⟩ = some (.int .u8 0) := (blk_cell BK 2).trans rfl
  have hf2 : w3.frozen? ⟨w.heap.size + 1, 2, none⟩ = false := blk_frozen BK 2
  have hc3 : w3.cell? ⟨w.heap.size + 1, 3, none⟩ = some (.int .u8 0) := (blk_cell BK 3).trans rfl
  have hf3 : w3.frozen? ⟨w.heap.size + 1, 3, none⟩ = false := blk_frozen BK 3
  have hc4 : w3.cell? ⟨w.heap.size + 1, 4, none⟩ = some (.int .u8 0) := (blk_cell BK 4).trans rfl
  have hf4 : w3.frozen? ⟨w.heap.size + 1, 4, none⟩ = false := blk_frozen BK 4
  have hc5 : w3.cell? ⟨w.heap.size + 1, 5, none⟩ = some (.int .u8 0) := (blk_cell BK 5).trans rfl
  have hf5 : w3.frozen? ⟨w.heap.size + 1, 5, none⟩ = false := blk_frozen BK 5
  have hc6 : w3.cell? ⟨w.heap.size + 1, 6, none⟩ = some (.int .u8 0) := (blk_cell BK 6).trans rfl
  have hf6 : w3.frozen? ⟨w.heap.size + 1, 6, none⟩ = false := blk_frozen BK 6
  have hc7 : w3.cell? ⟨w.heap.size + 1, 7, none⟩ = some (.int .u8 0) := (blk_cell BK 7).trans rfl
  have hf7 : w3.frozen? ⟨w.heap.size + 1, 7, none⟩ = false := blk_frozen BK 7
  have HBK := Aside0.mk BK
  clear hR hB hgp hgl hcs BK
  go_wp2
  have hB0 : Below w.heap.size w w3 := (((Below.refl w.heap.size w).alloc (Nat.le_refl _) _).alloc (by simp) _).trans (HB.out.mono (by simp; omega))
  have hres : ((((((((w3.setCell ⟨w.heap.size + 1, 0, none⟩ (.int .u8 x0)).setCell ⟨w.heap.size + 1, 1, none⟩ (.int .u8 x1)).setCell ⟨w.heap.size + 1, 2, none⟩ (.int .u8 x2)).setCell ⟨w.heap.size + 1, 3, none⟩ (.int .u8 x3)).setCell ⟨w.heap.size + 1, 4, none⟩ (.int .u8 x4)).setCell ⟨w.heap.size + 1, 5, none⟩ (.int .u8 x5)).setCell ⟨w.heap.size + 1, 6, none⟩ (.int .u8 x6)).setCell ⟨w.heap.size + 1, 7, none⟩ (.int .u8 x7)).heap[w.heap.size + 1]? = some (.cells #[.int .u8 x0, .int .u8 x1, .int .u8 x2, .int .u8 x3, .int .u8 x4, .int .u8 x5, .int .u8 x6, .int .u8 x7] 51 (0, 0)) := by
    refine blk_put (cs := #[.int .u8 x0, .int .u8 x1, .int .u8 x2, .int .u8 x3, .int .u8 x4, .int .u8 x5, .int .u8 x6, .int .u8 0]) ?_ 7 _ rfl
    refine blk_put (cs := #[.int .u8 x0, .int .u8 x1, .int .u8 x2, .int .u8 x3, .int .u8 x4, .int .u8 x5, .int .u8 0, .int .u8 0]) ?_ 6 _ rfl
    refine blk_put (cs := #[.int .u8 x0, .int .u8 x1, .int .u8 x2, .int .u8 x3, .int .u8 x4, .int .u8 0, .int .u8 0, .int .u8 0]) ?_ 5 _ rfl
    refine blk_put (cs := #[.int .u8 x0, .int .u8 x1, .int .u8 x2, .int .u8 x3, .int .u8 0, .int .u8 0, .int .u8 0, .int .u8 0]) ?_ 4 _ rfl
    refine blk_put (cs := #[.int .u8 x0, .int .u8 x1, .int .u8 x2, .int .u8 0, .int .u8 0, .int .u8 0, .int .u8 0, .int .u8 0]) ?_ 3 _ rfl
    refine blk_put (cs := #[.int .u8 x0, .int .u8 x1, .int .u8 0, .int .u8 0, .int .u8 0, .int .u8 0, .int .u8 0, .int .u8 0]) ?_ 2 _ rfl
    refine blk_put (cs := #[.int .u8 x0, .int .u8 0, .int .u8 0, .int .u8 0, .int .u8 0, .int .u8 0, .int .u8 0, .int .u8 0]) ?_ 1 _ rfl
    refine blk_put (cs := #[.int .u8 0, .int .u8 0, .int .u8 0, .int .u8 0, .int .u8 0, .int .u8 0, .int .u8 0, .int .u8 0]) ?_ 0 _ rfl
    exact HBK.out
  refine bodyPost_ret (results_cell_row rfl _ _ (w.heap.size + 1) 51 #[.int .u8 x0, .int .u8 x1, .int .u8 x2, .int .u8 x3, .int .u8 x4, .int .u8 x5, .int .u8 x6, .int .u8 x7] (0, 0) _ rfl hres Try.underlying51 rfl (by kernel_rfl)) rfl ?_
  refine ⟨rfl, ?_⟩
  exact (((((((hB0.setCell (by simp) _).setCell (by simp) _).setCell (by simp) _).setCell (by simp) _).setCell (by simp) _).setCell (by simp) _).setCell (by simp) _).setCell (by simp) _
end Go.Proofs.Ytiiemfnaegapmaa.Q
