-- The capability of bytes (the reference): walked by hand. Lean checks it.
import Derived.Test.YtiiemfnaegapmaaG3
namespace Go.Proofs.Ytiiemfnaegapmaa.Q
open Go.RowKit Go.Proofs.YtiiemfnaegapmaaW.PrintWords Go.Proofs.YtiiemfnaegapmaaW.PrintLast Go.Proofs.YtiiemfnaegapmaaW.PrintMore
attribute [local go_sem] max2_int min2_int max_two min_two max_three min_three max_four min_four   -- for this text's walks alone
set_option linter.unusedVariables false
set_option linter.unusedSimpArgs false

/-- The number of four bytes, from the highest down, behind so many rounds. -/
def pk (y0 y1 y2 y3 : Int) : Nat → Int
  | 0 => y3
  | 1 => y2
  | 2 => y1
  | _ => y0
def rof (y0 y1 y2 y3 : Int) : Nat → Int
  | 0 => 0
  | r + 1 => IntKind.u64.wrap (IntKind.u64.wrap (256 * rof y0 y1 y2 y3 r) + IntKind.u64.wrap (pk y0 y1 y2 y3 r))
set_option maxHeartbeats 8000000 in
set_option maxRecDepth 100000 in
theorem bulwarkref03_Of.calls (x0 x1 x2 x3 x4 x5 x6 x7 : Int) (tag : Bool) (w : World) :
    Calls Try.prog 17 #[.agg #[.int .u8 x0, .int .u8 x1, .int .u8 x2, .int .u8 x3, .int .u8 x4, .int .u8 x5, .int .u8 x6, .int .u8 x7], .bool tag] w fun e' w' => e' = .returned (.agg #[.bool tag, .int .u32 ((rof x0 x1 x2 x3 4) % 4294967296), .int .u8 (Int.tmod (rof x4 x5 x6 x7 4) 128 % 256), .int .u8 (Int.tmod (IntKind.u64.wrap (Int.tdiv (rof x4 x5 x6 x7 4) 128)) 8 % 256), .int .u8 (Int.tmod (IntKind.u64.wrap (Int.tdiv (rof x4 x5 x6 x7 4) 1024)) 16 % 256), .int .u16 (IntKind.u16.wrap (Int.tmod (IntKind.u64.wrap (Int.tdiv (rof x4 x5 x6 x7 4) 16384)) 512)), .int .u16 (IntKind.u16.wrap (Int.tmod (IntKind.u64.wrap (Int.tdiv (rof x4 x5 x6 x7 4) 8388608)) 512))]) ∧ Below w.heap.size w w' := by
  have hu27 := Try.underlying30
  have hu48 := Try.underlying51
  go_enter Try.func17, Try.ntmps17
  go_wp2_with fail
  have bb : ((w.alloc (.cells #[.int .u8 x0, .int .u8 x1, .int .u8 x2, .int .u8 x3, .int .u8 x4, .int .u8 x5, .int .u8 x6, .int .u8 x7] 51)).alloc (.cells #[.bool false, .int .u32 0, .int .u8 0, .int .u8 0, .int .u8 0, .int .u16 0, .int .u16 0] 30)).heap[w.heap.size]? = some (.cells #[.int .u8 x0, .int .u8 x1, .int .u8 x2, .int .u8 x3, .int .u8 x4, .int .u8 x5, .int .u8 x6, .int .u8 x7] 51 (0, 0)) := by
    rw [heap_alloc_old _ _ (by simp)]; exact heap_alloc_new w _
  have br : ((w.alloc (.cells #[.int .u8 x0, .int .u8 x1, .int .u8 x2, .int .u8 x3, .int .u8 x4, .int .u8 x5, .int .u8 x6, .int .u8 x7] 51)).alloc (.cells #[.bool false, .int .u32 0, .int .u8 0, .int .u8 0, .int .u8 0, .int .u16 0, .int .u16 0] 30)).heap[w.heap.size + 1]? = some (.cells #[.bool false, .int .u32 0, .int .u8 0, .int .u8 0, .int .u8 0, .int .u16 0, .int .u16 0] 30 (0, 0)) := by
    have h := heap_alloc_new (w.alloc (.cells #[.int .u8 x0, .int .u8 x1, .int .u8 x2, .int .u8 x3, .int .u8 x4, .int .u8 x5, .int .u8 x6, .int .u8 x7] 51)) (.cells #[.bool false, .int .u32 0, .int .u8 0, .int .u8 0, .int .u8 0, .int .u16 0, .int .u16 0] 30)
    simpa using h
  have hb0 : Below w.heap.size w ((w.alloc (.cells #[.int .u8 x0, .int .u8 x1, .int .u8 x2, .int .u8 x3, .int .u8 x4, .int .u8 x5, .int .u8 x6, .int .u8 x7] 51)).alloc (.cells #[.bool false, .int .u32 0, .int .u8 0, .int .u8 0, .int .u8 0, .int .u16 0, .int .u16 0] 30)) := ((Below.refl w.heap.size w).alloc (Nat.le_refl _) _).alloc (by simp) _
  have BB0 := Aside0.mk bb
  have BR0 := Aside0.mk br
  have HB0 := Aside0.mk hb0
  clear bb br hb0
  go_loopg [5, 6, 7] 5 (fun kq v5 v6 v7 w' => ∃ (r : Nat), v5 = .int .u64 (rof x4 x5 x6 x7 r) ∧ v6 = .int .u64 (rof x0 x1 x2 x3 r) ∧ v7 = .int .i64 (3 - (r : Int)) ∧ Aside0 (r + kq = 5 ∧ r ≤ 4) ∧ Aside0 (w'.heap[w.heap.size]? = some (.cells #[.int .u8 x0, .int .u8 x1, .int .u8 x2, .int .u8 x3, .int .u8 x4, .int .u8 x5, .int .u8 x6, .int .u8 x7] 51 (0, 0))) ∧ Aside0 (w'.heap[w.heap.size + 1]? = some (.cells #[.bool false, .int .u32 0, .int .u8 0, .int .u8 0, .int .u8 0, .int .u16 0, .int .u16 0] 30 (0, 0))) ∧ Aside0 (Below w.heap.size w w'))
  case atStart => exact ⟨0, rfl, rfl, rfl, ⟨by omega, by omega⟩, BB0, BR0, HB0⟩
  case round =>
    clear BB0 BR0 HB0
    obtain ⟨r, rfl, rfl, rfl, HX, BB, BR, HB⟩ := hrel
    have hx := HX.out
    have : r = 0 ∨ r = 1 ∨ r = 2 ∨ r = 3 ∨ r = 4 := by omega
    rcases this with h | h | h | h | h
    · subst h
      have hi : (3 : Int) - (((0 : Nat) : Int)) = 3 := by omega
      rw [hi]
      have ha : wr.cell? ⟨w.heap.size, 3, none⟩ = some (.int .u8 x3) := (blk_cell BB.out 3).trans rfl
      have hn : wr.cell? ⟨w.heap.size, 7, none⟩ = some (.int .u8 x7) := (blk_cell BB.out 7).trans rfl
      cases gk with
      | zero => exact absurd hx.1 (by omega)
      | succ gk =>
        clear hx hi
        go_wp2
        go_roundg gk
        case measure => omega
        case rel => exact ⟨1, rfl, rfl, rfl, ⟨by have := HX.out; omega, by omega⟩, BB, BR, HB⟩
    · subst h
      have hi : (3 : Int) - (((1 : Nat) : Int)) = 2 := by omega
      rw [hi]
      have ha : wr.cell? ⟨w.heap.size, 2, none⟩ = some (.int .u8 x2) := (blk_cell BB.out 2).trans rfl
      have hn : wr.cell? ⟨w.heap.size, 6, none⟩ = some (.int .u8 x6) := (blk_cell BB.out 6).trans rfl
      cases gk with
      | zero => exact absurd hx.1 (by omega)
      | succ gk =>
        clear hx hi
        go_wp2
        go_roundg gk
        case measure => omega
        case rel => exact ⟨2, rfl, rfl, rfl, ⟨by have := HX.out; omega, by omega⟩, BB, BR, HB⟩
    · subst h
      have hi : (3 : Int) - (((2 : Nat) : Int)) = 1 := by omega
      rw [hi]
      have ha : wr.cell? ⟨w.heap.size, 1, none⟩ = some (.int .u8 x1) := (blk_cell BB.out 1).trans rfl
      have hn : wr.cell? ⟨w.heap.size, 5, none⟩ = some (.int .u8 x5) := (blk_cell BB.out 5).trans rfl
      cases gk with
      | zero => exact absurd hx.1 (by omega)
      | succ gk =>
        clear hx hi
        go_wp2
        go_roundg gk
        case measure => omega
        case rel => exact ⟨3, rfl, rfl, rfl, ⟨by have := HX.out; omega, by omega⟩, BB, BR, HB⟩
    · subst h
      have hi : (3 : Int) - (((3 : Nat) : Int)) = 0 := by omega
      rw [hi]
      have ha : wr.cell? ⟨w.heap.size, 0, none⟩ = some (.int .u8 x0) := (blk_cell BB.out 0).trans rfl
      have hn : wr.cell? ⟨w.heap.size, 4, none⟩ = some (.int .u8 x4) := (blk_cell BB.out 4).trans rfl
      cases gk with
      | zero => exact absurd hx.1 (by omega)
      | succ gk =>
        clear hx hi
        go_wp2
        go_roundg gk
        case measure => omega
        case rel => exact ⟨4, rfl, rfl, rfl, ⟨by have := HX.out; omega, by omega⟩, BB, BR, HB⟩
    · subst h
      have hi : (3 : Int) - (((4 : Nat) : Int)) = -1 := by omega
      rw [hi]
      clear hx hi
      have hc0 : wr.cell? ⟨w.heap.size + 1, 0, none⟩ = some (.bool false) := (blk_cell BR.out 0).trans rfl
      have hf0 := blk_frozen BR.out 0
      have hc1 : wr.cell? ⟨w.heap.size + 1, 1, none⟩ = some (.int .u32 0) := (blk_cell BR.out 1).trans rfl
      have hf1 := blk_frozen BR.out 1
      have hc2 : wr.cell? ⟨w.heap.size + 1, 2, none⟩ = some (.int .u8 0) := (blk_cell BR.out 2).trans rfl
      have hf2 := blk_frozen BR.out 2
      have hc3 : wr.cell? ⟨w.heap.size + 1, 3, none⟩ = some (.int .u8 0) := (blk_cell BR.out 3).trans rfl
      have hf3 := blk_frozen BR.out 3
      have hc4 : wr.cell? ⟨w.heap.size + 1, 4, none⟩ = some (.int .u8 0) := (blk_cell BR.out 4).trans rfl
      have hf4 := blk_frozen BR.out 4
      have hc5 : wr.cell? ⟨w.heap.size + 1, 5, none⟩ = some (.int .u16 0) := (blk_cell BR.out 5).trans rfl
      have hf5 := blk_frozen BR.out 5
      have hc6 : wr.cell? ⟨w.heap.size + 1, 6, none⟩ = some (.int .u16 0) := (blk_cell BR.out 6).trans rfl
      have hf6 := blk_frozen BR.out 6
      go_wp2
      refine bodyPost_ret (results_cell_row rfl _ _ (w.heap.size + 1) 30 #[.bool tag, .int .u32 ((rof x0 x1 x2 x3 4) % 4294967296), .int .u8 (Int.tmod (rof x4 x5 x6 x7 4) 128 % 256), .int .u8 (Int.tmod (IntKind.u64.wrap (Int.tdiv (rof x4 x5 x6 x7 4) 128)) 8 % 256), .int .u8 (Int.tmod (IntKind.u64.wrap (Int.tdiv (rof x4 x5 x6 x7 4) 1024)) 16 % 256), .int .u16 (IntKind.u16.wrap (Int.tmod (IntKind.u64.wrap (Int.tdiv (rof x4 x5 x6 x7 4) 16384)) 512)), .int .u16 (IntKind.u16.wrap (Int.tmod (IntKind.u64.wrap (Int.tdiv (rof x4 x5 x6 x7 4) 8388608)) 512))] (0, 0) _ rfl (put7 (g := w.heap.size + 1) (.bool tag) (.int .u32 ((rof x0 x1 x2 x3 4) % 4294967296)) (.int .u8 (Int.tmod (rof x4 x5 x6 x7 4) 128 % 256)) (.int .u8 (Int.tmod (IntKind.u64.wrap (Int.tdiv (rof x4 x5 x6 x7 4) 128)) 8 % 256)) (.int .u8 (Int.tmod (IntKind.u64.wrap (Int.tdiv (rof x4 x5 x6 x7 4) 1024)) 16 % 256)) (.int .u16 (IntKind.u16.wrap (Int.tmod (IntKind.u64.wrap (Int.tdiv (rof x4 x5 x6 x7 4) 16384)) 512))) (.int .u16 (IntKind.u16.wrap (Int.tmod (IntKind.u64.wrap (Int.tdiv (rof x4 x5 x6 x7 4) 8388608)) 512))) BR.out) Try.underlying30 rfl (by kernel_rfl)) rfl ?_
      exact ⟨rfl, below7 _ _ _ _ _ _ _ HB.out (by simp)⟩
end Go.Proofs.Ytiiemfnaegapmaa.Q
