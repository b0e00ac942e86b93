-- The bytes of a capability (the reference): walked by hand. Lean checks it.
import Derived.Test.YtiiemfnaegapmaaG1
namespace Go.Proofs.Ytiiemfnaegapmaa.Q
open Go.RowKit Go.Proofs.YtiiemfnaegapmaaW.PrintWords Go.Proofs.YtiiemfnaegapmaaW.PrintLast Go.Proofs.YtiiemfnaegapmaaW.PrintMore
attribute [local go_sem] max2_int min2_int max_two min_two max_three min_three max_four min_four   -- for this text's walks alone
set_option linter.unusedVariables false
set_option linter.unusedSimpArgs false

theorem put8 {w : World} {g t : Nat} {c0 c1 c2 c3 c4 c5 c6 c7 : Value} (v0 v1 v2 v3 v4 v5 v6 v7 : Value) (h : w.heap[g]? = some (.cells #[c0, c1, c2, c3, c4, c5, c6, c7] t (0, 0))) : ((((((((w.setCell ⟨g, 0, none⟩ v0).setCell ⟨g, 1, none⟩ v1).setCell ⟨g, 2, none⟩ v2).setCell ⟨g, 3, none⟩ v3).setCell ⟨g, 4, none⟩ v4).setCell ⟨g, 5, none⟩ v5).setCell ⟨g, 6, none⟩ v6).setCell ⟨g, 7, none⟩ v7).heap[g]? = some (.cells #[v0, v1, v2, v3, v4, v5, v6, v7] t (0, 0)) := by
  refine blk_put (cs := #[v0, v1, v2, v3, v4, v5, v6, c7]) ?_ 7 _ rfl
  refine blk_put (cs := #[v0, v1, v2, v3, v4, v5, c6, c7]) ?_ 6 _ rfl
  refine blk_put (cs := #[v0, v1, v2, v3, v4, c5, c6, c7]) ?_ 5 _ rfl
  refine blk_put (cs := #[v0, v1, v2, v3, c4, c5, c6, c7]) ?_ 4 _ rfl
  refine blk_put (cs := #[v0, v1, v2, c3, c4, c5, c6, c7]) ?_ 3 _ rfl
  refine blk_put (cs := #[v0, v1, c2, c3, c4, c5, c6, c7]) ?_ 2 _ rfl
  refine blk_put (cs := #[v0, c1, c2, c3, c4, c5, c6, c7]) ?_ 1 _ rfl
  refine blk_put (cs := #[c0, c1, c2, c3, c4, c5, c6, c7]) ?_ 0 _ rfl
  exact h
theorem below8 {B : Nat} {w0 w : World} {g : Nat} (v0 v1 v2 v3 v4 v5 v6 v7 : Value) (h : Below B w0 w) (hg : B ≤ g) : Below B w0 ((((((((w.setCell ⟨g, 0, none⟩ v0).setCell ⟨g, 1, none⟩ v1).setCell ⟨g, 2, none⟩ v2).setCell ⟨g, 3, none⟩ v3).setCell ⟨g, 4, none⟩ v4).setCell ⟨g, 5, none⟩ v5).setCell ⟨g, 6, none⟩ v6).setCell ⟨g, 7, none⟩ v7) :=
  (((((((h.setCell hg _).setCell hg _).setCell hg _).setCell hg _).setCell hg _).setCell hg _).setCell hg _).setCell hg _
/-- Divided again and again. -/
def dv (n : Int) : Nat → Int
  | 0 => n
  | i + 1 => IntKind.u64.wrap (Int.tdiv (dv n i) 256)
def by8 (n : Int) (i : Nat) : Int := Int.tmod (dv n i) 256 % 256
def rpack (p t e b u : Int) : Int := IntKind.u64.wrap (IntKind.u64.wrap (IntKind.u64.wrap (IntKind.u64.wrap (IntKind.u64.wrap (p.tmod 128) + IntKind.u64.wrap (128 * IntKind.u64.wrap (t.tmod 8))) + IntKind.u64.wrap (1024 * IntKind.u64.wrap (e.tmod 16))) + IntKind.u64.wrap (16384 * IntKind.u64.wrap (b.tmod 512))) + IntKind.u64.wrap (8388608 * IntKind.u64.wrap (u.tmod 512)))
/-- The array behind i rounds. -/
def rarr (a n : Int) (i : Nat) : Array Value := #[.int .u8 (if 0 < i then by8 a 0 else 0), .int .u8 (if 1 < i then by8 a 1 else 0), .int .u8 (if 2 < i then by8 a 2 else 0), .int .u8 (if 3 < i then by8 a 3 else 0), .int .u8 (if 0 < i then by8 n 0 else 0), .int .u8 (if 1 < i then by8 n 1 else 0), .int .u8 (if 2 < i then by8 n 2 else 0), .int .u8 (if 3 < i then by8 n 3 else 0)]
set_option maxHeartbeats 8000000 in
set_option maxRecDepth 100000 in
theorem bulwarkref03_Bytes.calls (g : Bool) (a p t e b u : Int) (w : World) :
    Calls Try.prog 18 #[.agg #[.bool g, .int .u32 a, .int .u8 p, .int .u8 t, .int .u8 e, .int .u16 b, .int .u16 u]] w fun e' w' => e' = .returned (.agg (rarr (IntKind.u64.wrap a) (rpack p t e b u) 4)) ∧ Below w.heap.size w w' := by
  have hu27 := Try.underlying30
  have hu48 := Try.underlying51
  go_enter Try.func18, Try.ntmps18
  go_wp2_with fail
  obtain ⟨A, hA⟩ : ∃ A, A = IntKind.u64.wrap a := ⟨_, rfl⟩
  obtain ⟨N, hN⟩ : ∃ N, N = rpack p t e b u := ⟨_, rfl⟩
  have hN' := hN
  unfold rpack at hN'
  rw [← hA, ← hN']
  clear hN'
  have HA := Aside0.mk hA
  have HN := Aside0.mk hN
  clear hA hN
  go_loopg [3, 4, 6] 5 (fun kq v3 v4 v6 w' => ∃ (i : Nat), v3 = .int .u64 (dv N i) ∧ v4 = .int .u64 (dv A i) ∧ v6 = .int .i64 (i : Int) ∧ Aside0 (i + kq = 5 ∧ i ≤ 4) ∧ Aside0 (w'.heap[w.heap.size + 1]? = some (.cells (rarr 0 0 0) 51 (0, 0))) ∧ Aside0 (w'.heap[w.heap.size + 1 + 1]? = some (.cells (rarr A N i) 51 (0, 0))) ∧ Aside0 (Below w.heap.size w w'))
  case atStart =>
    refine ⟨0, by rw [HN.out]; rfl, by rw [HA.out]; rfl, rfl, ⟨by omega, by omega⟩, ⟨?_⟩, ⟨?_⟩, ⟨?_⟩⟩
    · rw [heap_alloc_old _ _ (by simp)]
      have h := heap_alloc_new (w.alloc (.cells #[.bool g, .int .u32 a, .int .u8 p, .int .u8 t, .int .u8 e, .int .u16 b, .int .u16 u] 30)) (.cells #[.int .u8 0, .int .u8 0, .int .u8 0, .int .u8 0, .int .u8 0, .int .u8 0, .int .u8 0, .int .u8 0] 51)
      simpa [rarr] using h
    · have h := heap_alloc_new ((w.alloc (.cells #[.bool g, .int .u32 a, .int .u8 p, .int .u8 t, .int .u8 e, .int .u16 b, .int .u16 u] 30)).alloc (.cells #[.int .u8 0, .int .u8 0, .int .u8 0, .int .u8 0, .int .u8 0, .int .u8 0, .int .u8 0, .int .u8 0] 51)) (.cells #[.int .u8 0, .int .u8 0, .int .u8 0, .int .u8 0, .int .u8 0, .int .u8 0, .int .u8 0, .int .u8 0] 51)
      simpa [rarr] using h
    · exact (((Below.refl w.heap.size w).alloc (Nat.le_refl _) _).alloc (by simp) _).alloc (by simp; omega) _
  case round =>
    obtain ⟨i, rfl, rfl, rfl, HX, BR, BB, HB⟩ := hrel
    have hx := HX.out
    have : i = 0 ∨ i = 1 ∨ i = 2 ∨ i = 3 ∨ i = 4 := by omega
    rcases this with h | h | h | h | h
    · subst h
      have hc0 := (blk_cell BB.out 0).trans rfl
      have hf0 := blk_frozen BB.out 0
      have hc4 := (blk_cell BB.out 4).trans rfl
      have hf4 := blk_frozen BB.out 4
      cases gk with
      | zero => exact absurd hx.1 (by omega)
      | succ gk =>
        clear hx
        go_wp2
        go_roundg gk
        case measure => omega
        case rel => exact ⟨1, rfl, rfl, rfl, ⟨by have := HX.out; omega, by omega⟩, ⟨blk_far (blk_far BR.out (by simp) _) (by simp) _⟩, ⟨blk_put (blk_set BB.out 0 _) 4 _ (by first | rfl | simp [rarr, by8])⟩, ⟨(HB.out.setCell (by simp; omega) _).setCell (by simp; omega) _⟩⟩
    · subst h
      have hc0 := (blk_cell BB.out 1).trans rfl
      have hf0 := blk_frozen BB.out 1
      have hc4 := (blk_cell BB.out 5).trans rfl
      have hf4 := blk_frozen BB.out 5
      cases gk with
      | zero => exact absurd hx.1 (by omega)
      | succ gk =>
        clear hx
        go_wp2
        go_roundg gk
        case measure => omega
        case rel => exact ⟨2, rfl, rfl, rfl, ⟨by have := HX.out; omega, by omega⟩, ⟨blk_far (blk_far BR.out (by simp) _) (by simp) _⟩, ⟨blk_put (blk_set BB.out 1 _) 5 _ (by first | rfl | simp [rarr, by8])⟩, ⟨(HB.out.setCell (by simp; omega) _).setCell (by simp; omega) _⟩⟩
    · subst h
      have hc0 := (blk_cell BB.out 2).trans rfl
      have hf0 := blk_frozen BB.out 2
      have hc4 := (blk_cell BB.out 6).trans rfl
      have hf4 := blk_frozen BB.out 6
      cases gk with
      | zero => exact absurd hx.1 (by omega)
      | succ gk =>
        clear hx
        go_wp2
        go_roundg gk
        case measure => omega
        case rel => exact ⟨3, rfl, rfl, rfl, ⟨by have := HX.out; omega, by omega⟩, ⟨blk_far (blk_far BR.out (by simp) _) (by simp) _⟩, ⟨blk_put (blk_set BB.out 2 _) 6 _ (by first | rfl | simp [rarr, by8])⟩, ⟨(HB.out.setCell (by simp; omega) _).setCell (by simp; omega) _⟩⟩
    · subst h
      have hc0 := (blk_cell BB.out 3).trans rfl
      have hf0 := blk_frozen BB.out 3
      have hc4 := (blk_cell BB.out 7).trans rfl
      have hf4 := blk_frozen BB.out 7
      cases gk with
      | zero => exact absurd hx.1 (by omega)
      | succ gk =>
        clear hx
        go_wp2
        go_roundg gk
        case measure => omega
        case rel => exact ⟨4, rfl, rfl, rfl, ⟨by have := HX.out; omega, by omega⟩, ⟨blk_far (blk_far BR.out (by simp) _) (by simp) _⟩, ⟨blk_put (blk_set BB.out 3 _) 7 _ (by first | rfl | simp [rarr, by8])⟩, ⟨(HB.out.setCell (by simp; omega) _).setCell (by simp; omega) _⟩⟩
    · subst h
      clear hx
      have hx0 : wr.cell? ⟨w.heap.size + 1 + 1, 0, none⟩ = some (.int .u8 (by8 A 0)) := (blk_cell BB.out 0).trans rfl
      have hx1 : wr.cell? ⟨w.heap.size + 1 + 1, 1, none⟩ = some (.int .u8 (by8 A 1)) := (blk_cell BB.out 1).trans rfl
      have hx2 : wr.cell? ⟨w.heap.size + 1 + 1, 2, none⟩ = some (.int .u8 (by8 A 2)) := (blk_cell BB.out 2).trans rfl
      have hx3 : wr.cell? ⟨w.heap.size + 1 + 1, 3, none⟩ = some (.int .u8 (by8 A 3)) := (blk_cell BB.out 3).trans rfl
      have hx4 : wr.cell? ⟨w.heap.size + 1 + 1, 4, none⟩ = some (.int .u8 (by8 N 0)) := (blk_cell BB.out 4).trans rfl
      have hx5 : wr.cell? ⟨w.heap.size + 1 + 1, 5, none⟩ = some (.int .u8 (by8 N 1)) := (blk_cell BB.out 5).trans rfl
      have hx6 : wr.cell? ⟨w.heap.size + 1 + 1, 6, none⟩ = some (.int .u8 (by8 N 2)) := (blk_cell BB.out 6).trans rfl
      have hx7 : wr.cell? ⟨w.heap.size + 1 + 1, 7, none⟩ = some (.int .u8 (by8 N 3)) := (blk_cell BB.out 7).trans rfl
      have hc0 : wr.cell? ⟨w.heap.size + 1, 0, none⟩ = some (.int .u8 0) := (blk_cell BR.out 0).trans rfl
      have hf0 := blk_frozen BR.out 0
      have hc1 : wr.cell? ⟨w.heap.size + 1, 1, none⟩ = some (.int .u8 0) := (blk_cell BR.out 1).trans rfl
      have hf1 := blk_frozen BR.out 1
      have hc2 : wr.cell? ⟨w.heap.size + 1, 2, none⟩ = some (.int .u8 0) := (blk_cell BR.out 2).trans rfl
      have hf2 := blk_frozen BR.out 2
      have hc3 : wr.cell? ⟨w.heap.size + 1, 3, none⟩ = some (.int .u8 0) := (blk_cell BR.out 3).trans rfl
      have hf3 := blk_frozen BR.out 3
      have hc4 : wr.cell? ⟨w.heap.size + 1, 4, none⟩ = some (.int .u8 0) := (blk_cell BR.out 4).trans rfl
      have hf4 := blk_frozen BR.out 4
      have hc5 : wr.cell? ⟨w.heap.size + 1, 5, none⟩ = some (.int .u8 0) := (blk_cell BR.out 5).trans rfl
      have hf5 := blk_frozen BR.out 5
      have hc6 : wr.cell? ⟨w.heap.size + 1, 6, none⟩ = some (.int .u8 0) := (blk_cell BR.out 6).trans rfl
      have hf6 := blk_frozen BR.out 6
      have hc7 : wr.cell? ⟨w.heap.size + 1, 7, none⟩ = some (.int .u8 0) := (blk_cell BR.out 7).trans rfl
      have hf7 := blk_frozen BR.out 7
      go_wp2
      refine bodyPost_ret (results_cell_row rfl _ _ (w.heap.size + 1) 51 (rarr A N 4) (0, 0) _ rfl (put8 (g := w.heap.size + 1) (.int .u8 (by8 A 0)) (.int .u8 (by8 A 1)) (.int .u8 (by8 A 2)) (.int .u8 (by8 A 3)) (.int .u8 (by8 N 0)) (.int .u8 (by8 N 1)) (.int .u8 (by8 N 2)) (.int .u8 (by8 N 3)) BR.out) Try.underlying51 rfl (by kernel_rfl)) rfl ?_
      exact ⟨by rw [HA.out, HN.out], below8 _ _ _ _ _ _ _ _ HB.out (by simp)⟩
end Go.Proofs.Ytiiemfnaegapmaa.Q
