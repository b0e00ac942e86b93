-- A walk, out of the kit's print program run by wip/ownprint.sh and turned by wip/qprune.py. Lean checks it.
import Derived.Test.YtegehkenmkmflaaQ0
import Derived.Test.YtegehkenmkmflaaQ9
import Derived.Test.YtegehkenmkmflaaQ17
import Derived.Test.YtegehkenmkmflaaQ18
import Derived.Test.YtegehkenmkmflaaQ19
import Derived.Test.YtegehkenmkmflaaQ20
namespace Go.Proofs.Ytegehkenmkmflaa.Q
open Go.RowKit Go.Proofs.YtegehkenmkmflaaW.PrintWords Go.Proofs.YtegehkenmkmflaaW.PrintLast Go.Proofs.YtegehkenmkmflaaW.PrintMore
attribute [local go_sem] max2_int min2_int max_two min_two max_three min_three max_four min_four   -- for this text's walks alone
set_option linter.unusedVariables false
set_option linter.unusedSimpArgs false

/-! ### tables_Entry: function 14 -/
-- by hand: rounds making
theorem cellk {W W2 : World} {g i : Nat} {v : Value} (h : W.cell? ⟨g, i, none⟩ = some v) (k : g < W.heap.size → W2.heap[g]? = W.heap[g]?) : W2.cell? ⟨g, i, none⟩ = some v :=
  (World.cell?_of_block (k (World.block_lt_of_cell? _ _ h))).trans h
theorem keepE {w W W2 : World} {g : Nat} {c0 c1 c2 c3 d0 d1 d2 d3 : Value} (h : Below w.heap.size w W ∧ g + 2 ≤ W.heap.size ∧ W.cell? ⟨g, 0, none⟩ = some (c0) ∧ W.cell? ⟨g, 1, none⟩ = some (c1) ∧ W.cell? ⟨g, 2, none⟩ = some (c2) ∧ W.cell? ⟨g, 3, none⟩ = some (c3) ∧ W.cell? ⟨g + 1, 0, none⟩ = some (d0) ∧ W.cell? ⟨g + 1, 1, none⟩ = some (d1) ∧ W.cell? ⟨g + 1, 2, none⟩ = some (d2) ∧ W.cell? ⟨g + 1, 3, none⟩ = some (d3)) (hb : Below w.heap.size w W2) (hl : W.heap.size ≤ W2.heap.size) (k : ∀ i, w.heap.size < i → i < g + 2 → i < W.heap.size → W2.heap[i]? = W.heap[i]?) (hg : w.heap.size < g) : Below w.heap.size w W2 ∧ g + 2 ≤ W2.heap.size ∧ W2.cell? ⟨g, 0, none⟩ = some (c0) ∧ W2.cell? ⟨g, 1, none⟩ = some (c1) ∧ W2.cell? ⟨g, 2, none⟩ = some (c2) ∧ W2.cell? ⟨g, 3, none⟩ = some (c3) ∧ W2.cell? ⟨g + 1, 0, none⟩ = some (d0) ∧ W2.cell? ⟨g + 1, 1, none⟩ = some (d1) ∧ W2.cell? ⟨g + 1, 2, none⟩ = some (d2) ∧ W2.cell? ⟨g + 1, 3, none⟩ = some (d3) := by
  obtain ⟨_, h2, h0, h1, h2, h3, h4, h5, h6, h7⟩ := h
  exact ⟨hb, by omega, cellk h0 (k _ (by omega) (by omega)), cellk h1 (k _ (by omega) (by omega)), cellk h2 (k _ (by omega) (by omega)), cellk h3 (k _ (by omega) (by omega)), cellk h4 (k _ (by omega) (by omega)), cellk h5 (k _ (by omega) (by omega)), cellk h6 (k _ (by omega) (by omega)), cellk h7 (k _ (by omega) (by omega))⟩
theorem keepK {w W W2 : World} {g : Nat} {c0 c1 c2 c3 d0 d1 d2 d3 : Value} (k : KeepBut W W2 w.heap.size none) (hb : Below w.heap.size w W2) (h : Below w.heap.size w W ∧ g + 2 ≤ W.heap.size ∧ W.cell? ⟨g, 0, none⟩ = some (c0) ∧ W.cell? ⟨g, 1, none⟩ = some (c1) ∧ W.cell? ⟨g, 2, none⟩ = some (c2) ∧ W.cell? ⟨g, 3, none⟩ = some (c3) ∧ W.cell? ⟨g + 1, 0, none⟩ = some (d0) ∧ W.cell? ⟨g + 1, 1, none⟩ = some (d1) ∧ W.cell? ⟨g + 1, 2, none⟩ = some (d2) ∧ W.cell? ⟨g + 1, 3, none⟩ = some (d3)) (hg : w.heap.size < g) : Below w.heap.size w W2 ∧ g + 2 ≤ W2.heap.size ∧ W2.cell? ⟨g, 0, none⟩ = some (c0) ∧ W2.cell? ⟨g, 1, none⟩ = some (c1) ∧ W2.cell? ⟨g, 2, none⟩ = some (c2) ∧ W2.cell? ⟨g, 3, none⟩ = some (c3) ∧ W2.cell? ⟨g + 1, 0, none⟩ = some (d0) ∧ W2.cell? ⟨g + 1, 1, none⟩ = some (d1) ∧ W2.cell? ⟨g + 1, 2, none⟩ = some (d2) ∧ W2.cell? ⟨g + 1, 3, none⟩ = some (d3) :=
  keepE h hb k.1 (fun i h1 _ h3 => k.2 i h3 (by omega) (by simp)) hg
theorem undrewK {W W2 : World} {g : Nat} {r : Option Nat} (h : KeepBut W.drew W2 g r) : KeepBut W W2 g r := h
theorem kcell {W W2 : World} {g : Nat} (k : KeepBut W W2 g none) : ∀ b o, b < W.heap.size → ¬ b = g → W2.cell? ⟨b, o, none⟩ = W.cell? ⟨b, o, none⟩ := fun b o h1 h2 => World.cell?_of_block (k.2 b h1 h2 (by simp))
theorem klt {W W2 : World} {g : Nat} (k : KeepBut W W2 g none) : ∀ b, b < W.heap.size → b < W2.heap.size := fun b h1 => Nat.lt_of_lt_of_le h1 k.1
theorem kfroz {W W2 : World} {g : Nat} (k : KeepBut W W2 g none) : ∀ b o, b < W.heap.size → ¬ b = g → W2.frozen? ⟨b, o, none⟩ = W.frozen? ⟨b, o, none⟩ := fun b o h1 h2 => by
  have h := k.2 b h1 h2 (by simp)
  unfold World.frozen?
  simp only [h]
theorem ballocE {w W : World} (o : Obj) (h : Below w.heap.size w W) : Below w.heap.size w (W.alloc o) := h.alloc h.size o
theorem IsF {w W : World} {g gx j : Nat} {f0 : List S25} {f1 : Int} (u : Value) (h : IsS62 w W g f0 f1) (hne : ¬ gx = g) : IsS62 w (W.setCell ⟨gx, j, none⟩ u) g f0 f1 := h.far (fun e => hne e.symm) u
theorem cell_same (W : World) (g j : Nat) (x : Value) : (W.setCell ⟨g, j, none⟩ x).cell? ⟨g, j, none⟩ = (W.cell? ⟨g, j, none⟩).map (fun _ => x) := by
  cases h : W.cell? ⟨g, j, none⟩ with
  | some v => rw [World.cell?_setCell_same _ _ _ h]; rfl
  | none =>
    unfold World.cell? at h ⊢
    unfold World.setCell
    simp only [Array.getElem?_modify, if_true] at h ⊢
    cases hg : W.heap[g]? with
    | none => rfl
    | some o => cases o <;> simp_all
theorem keepA {w W : World} {g : Nat} {c0 c1 c2 c3 d0 d1 d2 d3 : Value} (o : Obj) (h : Below w.heap.size w W ∧ g + 2 ≤ W.heap.size ∧ W.cell? ⟨g, 0, none⟩ = some (c0) ∧ W.cell? ⟨g, 1, none⟩ = some (c1) ∧ W.cell? ⟨g, 2, none⟩ = some (c2) ∧ W.cell? ⟨g, 3, none⟩ = some (c3) ∧ W.cell? ⟨g + 1, 0, none⟩ = some (d0) ∧ W.cell? ⟨g + 1, 1, none⟩ = some (d1) ∧ W.cell? ⟨g + 1, 2, none⟩ = some (d2) ∧ W.cell? ⟨g + 1, 3, none⟩ = some (d3)) (hg : w.heap.size < g) : Below w.heap.size w (W.alloc o) ∧ g + 2 ≤ (W.alloc o).heap.size ∧ (W.alloc o).cell? ⟨g, 0, none⟩ = some (c0) ∧ (W.alloc o).cell? ⟨g, 1, none⟩ = some (c1) ∧ (W.alloc o).cell? ⟨g, 2, none⟩ = some (c2) ∧ (W.alloc o).cell? ⟨g, 3, none⟩ = some (c3) ∧ (W.alloc o).cell? ⟨g + 1, 0, none⟩ = some (d0) ∧ (W.alloc o).cell? ⟨g + 1, 1, none⟩ = some (d1) ∧ (W.alloc o).cell? ⟨g + 1, 2, none⟩ = some (d2) ∧ (W.alloc o).cell? ⟨g + 1, 3, none⟩ = some (d3) :=
  keepE h (h.1.alloc h.1.size o) (by simp) (fun i _ _ h3 => heap_alloc_old W o h3) hg
theorem keepD {w W : World} {g : Nat} {c0 c1 c2 c3 d0 d1 d2 d3 : Value} (h : Below w.heap.size w W ∧ g + 2 ≤ W.heap.size ∧ W.cell? ⟨g, 0, none⟩ = some (c0) ∧ W.cell? ⟨g, 1, none⟩ = some (c1) ∧ W.cell? ⟨g, 2, none⟩ = some (c2) ∧ W.cell? ⟨g, 3, none⟩ = some (c3) ∧ W.cell? ⟨g + 1, 0, none⟩ = some (d0) ∧ W.cell? ⟨g + 1, 1, none⟩ = some (d1) ∧ W.cell? ⟨g + 1, 2, none⟩ = some (d2) ∧ W.cell? ⟨g + 1, 3, none⟩ = some (d3)) : Below w.heap.size w W.drew ∧ g + 2 ≤ W.drew.heap.size ∧ W.drew.cell? ⟨g, 0, none⟩ = some (c0) ∧ W.drew.cell? ⟨g, 1, none⟩ = some (c1) ∧ W.drew.cell? ⟨g, 2, none⟩ = some (c2) ∧ W.drew.cell? ⟨g, 3, none⟩ = some (c3) ∧ W.drew.cell? ⟨g + 1, 0, none⟩ = some (d0) ∧ W.drew.cell? ⟨g + 1, 1, none⟩ = some (d1) ∧ W.drew.cell? ⟨g + 1, 2, none⟩ = some (d2) ∧ W.drew.cell? ⟨g + 1, 3, none⟩ = some (d3) := ⟨h.1.drew, h.2⟩
theorem keepS {w W : World} {g : Nat} {c0 c1 c2 c3 d0 d1 d2 d3 : Value} {gx j : Nat} (u : Value) (h : Below w.heap.size w W ∧ g + 2 ≤ W.heap.size ∧ W.cell? ⟨g, 0, none⟩ = some (c0) ∧ W.cell? ⟨g, 1, none⟩ = some (c1) ∧ W.cell? ⟨g, 2, none⟩ = some (c2) ∧ W.cell? ⟨g, 3, none⟩ = some (c3) ∧ W.cell? ⟨g + 1, 0, none⟩ = some (d0) ∧ W.cell? ⟨g + 1, 1, none⟩ = some (d1) ∧ W.cell? ⟨g + 1, 2, none⟩ = some (d2) ∧ W.cell? ⟨g + 1, 3, none⟩ = some (d3)) (hx : g + 2 ≤ gx) (hg : w.heap.size < g) : Below w.heap.size w (W.setCell ⟨gx, j, none⟩ u) ∧ g + 2 ≤ (W.setCell ⟨gx, j, none⟩ u).heap.size ∧ (W.setCell ⟨gx, j, none⟩ u).cell? ⟨g, 0, none⟩ = some (c0) ∧ (W.setCell ⟨gx, j, none⟩ u).cell? ⟨g, 1, none⟩ = some (c1) ∧ (W.setCell ⟨gx, j, none⟩ u).cell? ⟨g, 2, none⟩ = some (c2) ∧ (W.setCell ⟨gx, j, none⟩ u).cell? ⟨g, 3, none⟩ = some (c3) ∧ (W.setCell ⟨gx, j, none⟩ u).cell? ⟨g + 1, 0, none⟩ = some (d0) ∧ (W.setCell ⟨gx, j, none⟩ u).cell? ⟨g + 1, 1, none⟩ = some (d1) ∧ (W.setCell ⟨gx, j, none⟩ u).cell? ⟨g + 1, 2, none⟩ = some (d2) ∧ (W.setCell ⟨gx, j, none⟩ u).cell? ⟨g + 1, 3, none⟩ = some (d3) :=
  keepE h (h.1.setCell (by show w.heap.size ≤ gx; omega) u) (by simp [World.setCell]) (fun i _ h2 _ => Below.heap_setCell W ⟨gx, j, none⟩ u i (by show i ≠ gx; omega)) hg
section
variable {w W W2 : World} {gx gy : Nat} {x1 y1 : Bool} {x2 x3 x4 x5 x6 x7 y2 y3 y4 y5 y6 y7 : Int}
theorem keepD8 (h : Below w.heap.size w W ∧ W.cell? ⟨gx, 0, none⟩ = some (.bool x1) ∧ W.cell? ⟨gx, 1, none⟩ = some (.int .u32 x2) ∧ W.cell? ⟨gx, 2, none⟩ = some (.int .u8 x3) ∧ W.cell? ⟨gx, 3, none⟩ = some (.int .u8 x4) ∧ W.cell? ⟨gx, 4, none⟩ = some (.int .u8 x5) ∧ W.cell? ⟨gx, 5, none⟩ = some (.int .u16 x6) ∧ W.cell? ⟨gx, 6, none⟩ = some (.int .u16 x7) ∧ W.cell? ⟨gy, 0, none⟩ = some (.bool y1) ∧ W.cell? ⟨gy, 1, none⟩ = some (.int .u32 y2) ∧ W.cell? ⟨gy, 2, none⟩ = some (.int .u8 y3) ∧ W.cell? ⟨gy, 3, none⟩ = some (.int .u8 y4) ∧ W.cell? ⟨gy, 4, none⟩ = some (.int .u8 y5) ∧ W.cell? ⟨gy, 5, none⟩ = some (.int .u16 y6) ∧ W.cell? ⟨gy, 6, none⟩ = some (.int .u16 y7)) : Below w.heap.size w W.drew ∧ W.drew.cell? ⟨gx, 0, none⟩ = some (.bool x1) ∧ W.drew.cell? ⟨gx, 1, none⟩ = some (.int .u32 x2) ∧ W.drew.cell? ⟨gx, 2, none⟩ = some (.int .u8 x3) ∧ W.drew.cell? ⟨gx, 3, none⟩ = some (.int .u8 x4) ∧ W.drew.cell? ⟨gx, 4, none⟩ = some (.int .u8 x5) ∧ W.drew.cell? ⟨gx, 5, none⟩ = some (.int .u16 x6) ∧ W.drew.cell? ⟨gx, 6, none⟩ = some (.int .u16 x7) ∧ W.drew.cell? ⟨gy, 0, none⟩ = some (.bool y1) ∧ W.drew.cell? ⟨gy, 1, none⟩ = some (.int .u32 y2) ∧ W.drew.cell? ⟨gy, 2, none⟩ = some (.int .u8 y3) ∧ W.drew.cell? ⟨gy, 3, none⟩ = some (.int .u8 y4) ∧ W.drew.cell? ⟨gy, 4, none⟩ = some (.int .u8 y5) ∧ W.drew.cell? ⟨gy, 5, none⟩ = some (.int .u16 y6) ∧ W.drew.cell? ⟨gy, 6, none⟩ = some (.int .u16 y7) := ⟨h.1.drew, h.2⟩
theorem keepB8 (hb : Below W.heap.size W W2) (h : Below w.heap.size w W ∧ W.cell? ⟨gx, 0, none⟩ = some (.bool x1) ∧ W.cell? ⟨gx, 1, none⟩ = some (.int .u32 x2) ∧ W.cell? ⟨gx, 2, none⟩ = some (.int .u8 x3) ∧ W.cell? ⟨gx, 3, none⟩ = some (.int .u8 x4) ∧ W.cell? ⟨gx, 4, none⟩ = some (.int .u8 x5) ∧ W.cell? ⟨gx, 5, none⟩ = some (.int .u16 x6) ∧ W.cell? ⟨gx, 6, none⟩ = some (.int .u16 x7) ∧ W.cell? ⟨gy, 0, none⟩ = some (.bool y1) ∧ W.cell? ⟨gy, 1, none⟩ = some (.int .u32 y2) ∧ W.cell? ⟨gy, 2, none⟩ = some (.int .u8 y3) ∧ W.cell? ⟨gy, 3, none⟩ = some (.int .u8 y4) ∧ W.cell? ⟨gy, 4, none⟩ = some (.int .u8 y5) ∧ W.cell? ⟨gy, 5, none⟩ = some (.int .u16 y6) ∧ W.cell? ⟨gy, 6, none⟩ = some (.int .u16 y7)) : Below w.heap.size w W2 ∧ W2.cell? ⟨gx, 0, none⟩ = some (.bool x1) ∧ W2.cell? ⟨gx, 1, none⟩ = some (.int .u32 x2) ∧ W2.cell? ⟨gx, 2, none⟩ = some (.int .u8 x3) ∧ W2.cell? ⟨gx, 3, none⟩ = some (.int .u8 x4) ∧ W2.cell? ⟨gx, 4, none⟩ = some (.int .u8 x5) ∧ W2.cell? ⟨gx, 5, none⟩ = some (.int .u16 x6) ∧ W2.cell? ⟨gx, 6, none⟩ = some (.int .u16 x7) ∧ W2.cell? ⟨gy, 0, none⟩ = some (.bool y1) ∧ W2.cell? ⟨gy, 1, none⟩ = some (.int .u32 y2) ∧ W2.cell? ⟨gy, 2, none⟩ = some (.int .u8 y3) ∧ W2.cell? ⟨gy, 3, none⟩ = some (.int .u8 y4) ∧ W2.cell? ⟨gy, 4, none⟩ = some (.int .u8 y5) ∧ W2.cell? ⟨gy, 5, none⟩ = some (.int .u16 y6) ∧ W2.cell? ⟨gy, 6, none⟩ = some (.int .u16 y7) := by
  obtain ⟨h0, h1, h2, h3, h4, h5, h6, h7, h8, h9, h10, h11, h12, h13, h14⟩ := h
  exact ⟨below_step h0 hb, (hb.cell (World.block_lt_of_cell? _ _ h1)).trans h1, (hb.cell (World.block_lt_of_cell? _ _ h2)).trans h2, (hb.cell (World.block_lt_of_cell? _ _ h3)).trans h3, (hb.cell (World.block_lt_of_cell? _ _ h4)).trans h4, (hb.cell (World.block_lt_of_cell? _ _ h5)).trans h5, (hb.cell (World.block_lt_of_cell? _ _ h6)).trans h6, (hb.cell (World.block_lt_of_cell? _ _ h7)).trans h7, (hb.cell (World.block_lt_of_cell? _ _ h8)).trans h8, (hb.cell (World.block_lt_of_cell? _ _ h9)).trans h9, (hb.cell (World.block_lt_of_cell? _ _ h10)).trans h10, (hb.cell (World.block_lt_of_cell? _ _ h11)).trans h11, (hb.cell (World.block_lt_of_cell? _ _ h12)).trans h12, (hb.cell (World.block_lt_of_cell? _ _ h13)).trans h13, (hb.cell (World.block_lt_of_cell? _ _ h14)).trans h14⟩
theorem keepA8 (o : Obj) (h : Below w.heap.size w W ∧ W.cell? ⟨gx, 0, none⟩ = some (.bool x1) ∧ W.cell? ⟨gx, 1, none⟩ = some (.int .u32 x2) ∧ W.cell? ⟨gx, 2, none⟩ = some (.int .u8 x3) ∧ W.cell? ⟨gx, 3, none⟩ = some (.int .u8 x4) ∧ W.cell? ⟨gx, 4, none⟩ = some (.int .u8 x5) ∧ W.cell? ⟨gx, 5, none⟩ = some (.int .u16 x6) ∧ W.cell? ⟨gx, 6, none⟩ = some (.int .u16 x7) ∧ W.cell? ⟨gy, 0, none⟩ = some (.bool y1) ∧ W.cell? ⟨gy, 1, none⟩ = some (.int .u32 y2) ∧ W.cell? ⟨gy, 2, none⟩ = some (.int .u8 y3) ∧ W.cell? ⟨gy, 3, none⟩ = some (.int .u8 y4) ∧ W.cell? ⟨gy, 4, none⟩ = some (.int .u8 y5) ∧ W.cell? ⟨gy, 5, none⟩ = some (.int .u16 y6) ∧ W.cell? ⟨gy, 6, none⟩ = some (.int .u16 y7)) : Below w.heap.size w (W.alloc o) ∧ (W.alloc o).cell? ⟨gx, 0, none⟩ = some (.bool x1) ∧ (W.alloc o).cell? ⟨gx, 1, none⟩ = some (.int .u32 x2) ∧ (W.alloc o).cell? ⟨gx, 2, none⟩ = some (.int .u8 x3) ∧ (W.alloc o).cell? ⟨gx, 3, none⟩ = some (.int .u8 x4) ∧ (W.alloc o).cell? ⟨gx, 4, none⟩ = some (.int .u8 x5) ∧ (W.alloc o).cell? ⟨gx, 5, none⟩ = some (.int .u16 x6) ∧ (W.alloc o).cell? ⟨gx, 6, none⟩ = some (.int .u16 x7) ∧ (W.alloc o).cell? ⟨gy, 0, none⟩ = some (.bool y1) ∧ (W.alloc o).cell? ⟨gy, 1, none⟩ = some (.int .u32 y2) ∧ (W.alloc o).cell? ⟨gy, 2, none⟩ = some (.int .u8 y3) ∧ (W.alloc o).cell? ⟨gy, 3, none⟩ = some (.int .u8 y4) ∧ (W.alloc o).cell? ⟨gy, 4, none⟩ = some (.int .u8 y5) ∧ (W.alloc o).cell? ⟨gy, 5, none⟩ = some (.int .u16 y6) ∧ (W.alloc o).cell? ⟨gy, 6, none⟩ = some (.int .u16 y7) := keepB8 ((Below.refl W.heap.size W).alloc (Nat.le_refl _) o) h
end
theorem R_two {w' : World} {base h : Nat} (x y : S66) (hb : w'.heap[h]? = some (.cells #[.int .u32 x.f0, .bool x.f1.f0, .int .u32 x.f1.f1, .int .u8 x.f1.f2, .int .u8 x.f1.f3, .int .u8 x.f1.f4.f0, .int .u16 x.f1.f4.f1, .int .u16 x.f1.f4.f2, .int .u32 y.f0, .bool y.f1.f0, .int .u32 y.f1.f1, .int .u8 y.f1.f2, .int .u8 y.f1.f3, .int .u8 y.f1.f4.f0, .int .u16 y.f1.f4.f1, .int .u16 y.f1.f4.f2] 66 (0, 0))) (hge : base ≤ h) : Kd.R k66 66 w' base (fun _ => True) (.slice (some ⟨h, 0, none⟩) 2 2) [x, y] := by
  refine ⟨fun _ _ => trivial, _, ⟨rfl, .inr ⟨h, 2, _, rfl, hge, hb, Nat.le_refl _, by unfold maxLen; omega, rfl, rfl⟩⟩, rfl, ?_⟩
  intro j p hj
  match j, hj with
  | 0, hj => obtain rfl := Option.some.inj hj; exact k66_mkM _ _ _ _
  | 1, hj => obtain rfl := Option.some.inj hj; exact k66_mkM _ _ _ _
def tables_Entry.f (k : Nat) (l0 : List (S25)) (a1 : Int) (a2 : Int) (a3 : Int) (a4 : Int) : Option ((List (S66)) × Int × Int) :=
  (tables_maker_region.f l0 0 6 a1).bind fun c => (tables_maker_region.f l0 c.2.2.2.2 7 a1).bind fun d =>
    (tables_maker_cap.f k l0 d.2.2.2.2 c.1 c.2.1 c.2.2.1 c.2.2.2.1 29).bind fun x => (tables_maker_cap.f k l0 x.2.2.2.2.2.2.2 d.1 d.2.1 d.2.2.1 d.2.2.2.1 23).bind fun y =>
      if y.2.2.2.2.2.2.2 = 0 then
        (if a2 < c.2.2.1 ∨ c.2.2.2.1 ≤ IntKind.u32.wrap (a2 - c.2.2.1) ∨ a3 < 0 ∨ 6 < a3 ∨ a4 < 0 ∨ 4088 < a4 then some ([], 0, 2)
         else (capa_SetAddr.f x.1 x.2.1 x.2.2.1 x.2.2.2.1 x.2.2.2.2.1 x.2.2.2.2.2.1 x.2.2.2.2.2.2.1 a2).bind fun s => (capa_Seal.f s.1 s.2.1 s.2.2.1 s.2.2.2.1 s.2.2.2.2.1 s.2.2.2.2.2.1 s.2.2.2.2.2.2 3).bind fun q =>
           some ([⟨0, ⟨q.1, q.2.1, q.2.2.1, q.2.2.2.1, ⟨q.2.2.2.2.1, q.2.2.2.2.2.1, q.2.2.2.2.2.2⟩⟩⟩, ⟨8, ⟨y.1, y.2.1, y.2.2.1, y.2.2.2.1, ⟨y.2.2.2.2.1, y.2.2.2.2.2.1, y.2.2.2.2.2.2.1⟩⟩⟩], (wrap64 (a3 + (wrap64 (256 * a4)))) % 4294967296, 0))
      else some ([], 0, y.2.2.2.2.2.2.2)
theorem tables_Entry.mono : ∀ a0 a1 a2 a3 a4 k, LeO (tables_Entry.f k a0 a1 a2 a3 a4) (tables_Entry.f (k + 1) a0 a1 a2 a3 a4) := by
  intro a0 a1 a2 a3 a4 k
  unfold tables_Entry.f
  refine LeO.bind (LeO.refl _) (fun _ => LeO.bind (LeO.refl _) (fun _ => LeO.bind (tables_maker_cap.mono _ _ _ _ _ _ _ _) (fun _ => LeO.bind (tables_maker_cap.mono _ _ _ _ _ _ _ _) (fun _ => LeO.refl _))))
section
attribute [local go_sem high] cell_same
set_option maxHeartbeats 8000000 in
set_option maxRecDepth 100000 in
theorem tables_Entry.calls (k : Nat) (A0 : Option Addr) (c0 : Nat) (l0 : List (S25)) (a1 a2 a3 a4 : Int) (r1 : List (S66)) (r2 : Int) (r3 : Int) (w : World) (hr0 : Kd.C k25 w A0 l0.length l0) (hc0 : l0.length ≤ c0) (h : tables_Entry.f k l0 a1 a2 a3 a4 = some (r1, r2, r3)) :
    Calls Try.prog 14 #[.slice A0 l0.length c0, .int .i64 a1, .int .u32 a2, .int .i64 a3, .int .i64 a4] w fun e w' => ∃ v0_ : Value, e = .returned (.tuple #[v0_, .int .u32 r2, .int .i64 r3]) ∧ Kd.R k66 66 w' w.heap.size (fun _ => True) v0_ r1 ∧ Below w.heap.size w w' := by
  have hu25 := Try.underlying25
  have hu62 := Try.underlying62
  unfold tables_Entry.f at h
  obtain ⟨⟨p1, p2, p3, p4, p5⟩, h1, h⟩ := Option.bind_eq_some_iff.mp h
  obtain ⟨⟨q1, q2, q3, q4, q5⟩, h2, h⟩ := Option.bind_eq_some_iff.mp h
  obtain ⟨⟨x1, x2, x3, x4, x5, x6, x7, x8⟩, h3, h⟩ := Option.bind_eq_some_iff.mp h
  obtain ⟨⟨y1, y2, y3, y4, y5, y6, y7, y8⟩, h4, h⟩ := Option.bind_eq_some_iff.mp h
  simp only at h1 h2 h3 h4 h
  have H1 := Aside0.mk h1
  have H2 := Aside0.mk h2
  have H3 := Aside0.mk h3
  have H4 := Aside0.mk h4
  have HH := Aside0.mk h
  have hi := IsS62.new w w A0 c0 l0 0 (Below.refl _ _) hr0
  have HI := Aside0.mk hi
  have HB : Aside0 (Below w.heap.size w (w.alloc (.cells #[.slice A0 l0.length c0, .int .i64 0] 62))) := ⟨(Below.refl w.heap.size w).alloc (Nat.le_refl _) _⟩
  clear hr0 hc0 h1 h2 h3 h4 h hi
  go_enter Try.func14, Try.ntmps14
  go_wp2_with fail
  refine (tables_maker_region.calls w.heap.size l0 0 6 a1 p1 p2 p3 p4 p5 w _ HI.out HB.out H1.out).mono ?_
  rintro e w1 ⟨rfl, hi, hb, hk⟩
  replace HI := Aside0.mk hi
  replace HB := Aside0.mk hb
  clear hi hb hk
  go_wp2_with fail
  refine (tables_maker_region.calls w.heap.size l0 p5 7 a1 q1 q2 q3 q4 q5 w _ HI.out HB.out H2.out).mono ?_
  rintro e w2 ⟨rfl, hi, hb, hk⟩
  replace HI := Aside0.mk hi
  replace HB := Aside0.mk hb
  clear hi hb hk
  go_upto_region 4 with (fail)
  go_cut [14, 15, 16, 17] (fun v14 v15 v16 v17 wc => ∃ gx gy : Nat, v14 = .pointer (some ⟨w2.heap.size, 0, none⟩) ∧ v15 = .pointer (some ⟨w2.heap.size + 1, 0, none⟩) ∧ v16 = .pointer (some ⟨gx, 0, none⟩) ∧ v17 = .pointer (some ⟨gy, 0, none⟩) ∧
    Aside0 (Below w.heap.size w wc ∧ w2.heap.size + 2 ≤ wc.heap.size ∧ wc.cell? ⟨w2.heap.size, 0, none⟩ = some (.int .u8 p1) ∧ wc.cell? ⟨w2.heap.size, 1, none⟩ = some (.int .i64 p2) ∧ wc.cell? ⟨w2.heap.size, 2, none⟩ = some (.int .u32 p3) ∧ wc.cell? ⟨w2.heap.size, 3, none⟩ = some (.int .u32 p4) ∧ wc.cell? ⟨w2.heap.size + 1, 0, none⟩ = some (.int .u8 q1) ∧ wc.cell? ⟨w2.heap.size + 1, 1, none⟩ = some (.int .i64 q2) ∧ wc.cell? ⟨w2.heap.size + 1, 2, none⟩ = some (.int .u32 q3) ∧ wc.cell? ⟨w2.heap.size + 1, 3, none⟩ = some (.int .u32 q4)) ∧ Aside0 (wc.cell? ⟨gx, 0, none⟩ = some (.bool x1) ∧ wc.cell? ⟨gx, 1, none⟩ = some (.int .u32 x2) ∧ wc.cell? ⟨gx, 2, none⟩ = some (.int .u8 x3) ∧ wc.cell? ⟨gx, 3, none⟩ = some (.int .u8 x4) ∧ wc.cell? ⟨gx, 4, none⟩ = some (.int .u8 x5) ∧ wc.cell? ⟨gx, 5, none⟩ = some (.int .u16 x6) ∧ wc.cell? ⟨gx, 6, none⟩ = some (.int .u16 x7) ∧ wc.cell? ⟨gy, 0, none⟩ = some (.bool y1) ∧ wc.cell? ⟨gy, 1, none⟩ = some (.int .u32 y2) ∧ wc.cell? ⟨gy, 2, none⟩ = some (.int .u8 y3) ∧ wc.cell? ⟨gy, 3, none⟩ = some (.int .u8 y4) ∧ wc.cell? ⟨gy, 4, none⟩ = some (.int .u8 y5) ∧ wc.cell? ⟨gy, 5, none⟩ = some (.int .u16 y6) ∧ wc.cell? ⟨gy, 6, none⟩ = some (.int .u16 y7)) ∧ Aside0 (IsS62 w wc w.heap.size l0 y8))
  case first =>
    have hg2 : w.heap.size < w2.heap.size := IsS62.lt HI.out
    have hi2 := (HI.out.alloc (.cells #[.int .u8 p1, .int .i64 p2, .int .u32 p3, .int .u32 p4] 25)).alloc (.cells #[.int .u8 q1, .int .i64 q2, .int .u32 q3, .int .u32 q4] 25)
    have bc : ((w2.alloc (.cells #[.int .u8 p1, .int .i64 p2, .int .u32 p3, .int .u32 p4] 25)).alloc (.cells #[.int .u8 q1, .int .i64 q2, .int .u32 q3, .int .u32 q4] 25)).heap[w2.heap.size]? = some (.cells #[.int .u8 p1, .int .i64 p2, .int .u32 p3, .int .u32 p4] 25 (0, 0)) := by
      rw [heap_alloc_old _ _ (by simp)]; exact heap_alloc_new w2 _
    have bd : ((w2.alloc (.cells #[.int .u8 p1, .int .i64 p2, .int .u32 p3, .int .u32 p4] 25)).alloc (.cells #[.int .u8 q1, .int .i64 q2, .int .u32 q3, .int .u32 q4] 25)).heap[w2.heap.size + 1]? = some (.cells #[.int .u8 q1, .int .i64 q2, .int .u32 q3, .int .u32 q4] 25 (0, 0)) := by
      have h := heap_alloc_new (w2.alloc (.cells #[.int .u8 p1, .int .i64 p2, .int .u32 p3, .int .u32 p4] 25)) (.cells #[.int .u8 q1, .int .i64 q2, .int .u32 q3, .int .u32 q4] 25)
      simpa using h
    have hs : Below w.heap.size w ((w2.alloc (.cells #[.int .u8 p1, .int .i64 p2, .int .u32 p3, .int .u32 p4] 25)).alloc (.cells #[.int .u8 q1, .int .i64 q2, .int .u32 q3, .int .u32 q4] 25)) ∧ w2.heap.size + 2 ≤ ((w2.alloc (.cells #[.int .u8 p1, .int .i64 p2, .int .u32 p3, .int .u32 p4] 25)).alloc (.cells #[.int .u8 q1, .int .i64 q2, .int .u32 q3, .int .u32 q4] 25)).heap.size ∧ ((w2.alloc (.cells #[.int .u8 p1, .int .i64 p2, .int .u32 p3, .int .u32 p4] 25)).alloc (.cells #[.int .u8 q1, .int .i64 q2, .int .u32 q3, .int .u32 q4] 25)).cell? ⟨w2.heap.size, 0, none⟩ = some (.int .u8 p1) ∧ ((w2.alloc (.cells #[.int .u8 p1, .int .i64 p2, .int .u32 p3, .int .u32 p4] 25)).alloc (.cells #[.int .u8 q1, .int .i64 q2, .int .u32 q3, .int .u32 q4] 25)).cell? ⟨w2.heap.size, 1, none⟩ = some (.int .i64 p2) ∧ ((w2.alloc (.cells #[.int .u8 p1, .int .i64 p2, .int .u32 p3, .int .u32 p4] 25)).alloc (.cells #[.int .u8 q1, .int .i64 q2, .int .u32 q3, .int .u32 q4] 25)).cell? ⟨w2.heap.size, 2, none⟩ = some (.int .u32 p3) ∧ ((w2.alloc (.cells #[.int .u8 p1, .int .i64 p2, .int .u32 p3, .int .u32 p4] 25)).alloc (.cells #[.int .u8 q1, .int .i64 q2, .int .u32 q3, .int .u32 q4] 25)).cell? ⟨w2.heap.size, 3, none⟩ = some (.int .u32 p4) ∧ ((w2.alloc (.cells #[.int .u8 p1, .int .i64 p2, .int .u32 p3, .int .u32 p4] 25)).alloc (.cells #[.int .u8 q1, .int .i64 q2, .int .u32 q3, .int .u32 q4] 25)).cell? ⟨w2.heap.size + 1, 0, none⟩ = some (.int .u8 q1) ∧ ((w2.alloc (.cells #[.int .u8 p1, .int .i64 p2, .int .u32 p3, .int .u32 p4] 25)).alloc (.cells #[.int .u8 q1, .int .i64 q2, .int .u32 q3, .int .u32 q4] 25)).cell? ⟨w2.heap.size + 1, 1, none⟩ = some (.int .i64 q2) ∧ ((w2.alloc (.cells #[.int .u8 p1, .int .i64 p2, .int .u32 p3, .int .u32 p4] 25)).alloc (.cells #[.int .u8 q1, .int .i64 q2, .int .u32 q3, .int .u32 q4] 25)).cell? ⟨w2.heap.size + 1, 2, none⟩ = some (.int .u32 q3) ∧ ((w2.alloc (.cells #[.int .u8 p1, .int .i64 p2, .int .u32 p3, .int .u32 p4] 25)).alloc (.cells #[.int .u8 q1, .int .i64 q2, .int .u32 q3, .int .u32 q4] 25)).cell? ⟨w2.heap.size + 1, 3, none⟩ = some (.int .u32 q4) := ⟨(HB.out.alloc HB.out.size _).alloc (by have := HB.out.size; simp; omega) _, by simp, (blk_cell bc 0).trans rfl, (blk_cell bc 1).trans rfl, (blk_cell bc 2).trans rfl, (blk_cell bc 3).trans rfl, (blk_cell bd 0).trans rfl, (blk_cell bd 1).trans rfl, (blk_cell bd 2).trans rfl, (blk_cell bd 3).trans rfl⟩
    have hb2 := hs.1
    clear bc bd
    generalize ((w2.alloc (.cells #[.int .u8 p1, .int .i64 p2, .int .u32 p3, .int .u32 p4] 25)).alloc (.cells #[.int .u8 q1, .int .i64 q2, .int .u32 q3, .int .u32 q4] 25)) = w3 at hs hi2 hb2 ⊢
    have hs3_ : Aside0 (Below w.heap.size w w3 ∧ w2.heap.size + 2 ≤ w3.heap.size ∧ w3.cell? ⟨w2.heap.size, 0, none⟩ = some (.int .u8 p1) ∧ w3.cell? ⟨w2.heap.size, 1, none⟩ = some (.int .i64 p2) ∧ w3.cell? ⟨w2.heap.size, 2, none⟩ = some (.int .u32 p3) ∧ w3.cell? ⟨w2.heap.size, 3, none⟩ = some (.int .u32 p4) ∧ w3.cell? ⟨w2.heap.size + 1, 0, none⟩ = some (.int .u8 q1) ∧ w3.cell? ⟨w2.heap.size + 1, 1, none⟩ = some (.int .i64 q2) ∧ w3.cell? ⟨w2.heap.size + 1, 2, none⟩ = some (.int .u32 q3) ∧ w3.cell? ⟨w2.heap.size + 1, 3, none⟩ = some (.int .u32 q4)) := ⟨hs⟩
    have hz3_ := hs.2.1
    have hn30_ : ¬ w3.heap.size = w.heap.size := by omega
    have hn31_ : ¬ w3.heap.size + 1 = w.heap.size := by omega
    go_region_held3 (fun w' => Below w.heap.size w w' ∧ w2.heap.size + 2 ≤ w'.heap.size ∧ w'.cell? ⟨w2.heap.size, 0, none⟩ = some (.int .u8 p1) ∧ w'.cell? ⟨w2.heap.size, 1, none⟩ = some (.int .i64 p2) ∧ w'.cell? ⟨w2.heap.size, 2, none⟩ = some (.int .u32 p3) ∧ w'.cell? ⟨w2.heap.size, 3, none⟩ = some (.int .u32 p4) ∧ w'.cell? ⟨w2.heap.size + 1, 0, none⟩ = some (.int .u8 q1) ∧ w'.cell? ⟨w2.heap.size + 1, 1, none⟩ = some (.int .i64 q2) ∧ w'.cell? ⟨w2.heap.size + 1, 2, none⟩ = some (.int .u32 q3) ∧ w'.cell? ⟨w2.heap.size + 1, 3, none⟩ = some (.int .u32 q4)) (first | (with_reducible exact keepK (by with_reducible assumption) (by with_reducible assumption) (by with_reducible assumption) (by with_reducible assumption)) | (repeat (first | with_reducible assumption | with_reducible exact Aside0.out (by with_reducible assumption) | (with_reducible refine keepD ?_) | (with_reducible refine keepA _ ?_ (by with_reducible assumption)) | (with_reducible refine keepS _ ?_ (by omega) (by with_reducible assumption))))) (first | (go_at_call 31; ((with_reducible refine (tables_maker_cap.calls k w.heap.size l0 q5 p1 p2 p3 p4 29 x1 x2 x3 x4 x5 x6 x7 x8 w _ ?_ ?_ H3.out).mono ?_)); (focus (repeat (first | with_reducible assumption | with_reducible apply IsS62.alloc | with_reducible apply IsS62.drew))); (focus (repeat (first | with_reducible assumption | with_reducible refine Below.drew ?_ | with_reducible refine ballocE _ ?_))); rintro e w' ⟨rfl, hi, hb, hk⟩; have kc_ := kcell hk; have kl_ := klt hk; have zk_ := hk.1; (try simp at zk_); (try (have z0_ : w3.heap.size < w'.heap.size := (by omega))); (try (have z1_ : w3.heap.size + 1 < w'.heap.size := (by omega))); have kf_ := kfroz hk; have hn0_ : ¬ w'.heap.size = w.heap.size := (by have := hb.size; have := hi.lt; omega); have hn1_ : ¬ w'.heap.size + 1 = w.heap.size := (by have := hb.size; have := hi.lt; omega); have hs_ : Aside0 (Below w.heap.size w w' ∧ w2.heap.size + 2 ≤ w'.heap.size ∧ w'.cell? ⟨w2.heap.size, 0, none⟩ = some (.int .u8 p1) ∧ w'.cell? ⟨w2.heap.size, 1, none⟩ = some (.int .i64 p2) ∧ w'.cell? ⟨w2.heap.size, 2, none⟩ = some (.int .u32 p3) ∧ w'.cell? ⟨w2.heap.size, 3, none⟩ = some (.int .u32 p4) ∧ w'.cell? ⟨w2.heap.size + 1, 0, none⟩ = some (.int .u8 q1) ∧ w'.cell? ⟨w2.heap.size + 1, 1, none⟩ = some (.int .i64 q2) ∧ w'.cell? ⟨w2.heap.size + 1, 2, none⟩ = some (.int .u32 q3) ∧ w'.cell? ⟨w2.heap.size + 1, 3, none⟩ = some (.int .u32 q4)) := ⟨keepK (by assumption) (by assumption) (by assumption) (by assumption)⟩; have hz2_ := hs_.out.2.1) | (go_at_call 31; ((with_reducible refine (tables_maker_cap.calls k w.heap.size l0 x8 q1 q2 q3 q4 23 y1 y2 y3 y4 y5 y6 y7 y8 w _ ?_ ?_ H4.out).mono ?_)); (focus (repeat (first | with_reducible assumption | with_reducible apply IsS62.alloc | with_reducible apply IsS62.drew))); (focus (repeat (first | with_reducible assumption | with_reducible refine Below.drew ?_ | with_reducible refine ballocE _ ?_))); rintro e w' ⟨rfl, hi, hb, hk⟩; have kc_ := kcell hk; have kl_ := klt hk; have zk_ := hk.1; (try simp at zk_); (try (have z0_ : w3.heap.size < w'.heap.size := (by omega))); (try (have z1_ : w3.heap.size + 1 < w'.heap.size := (by omega))); have kf_ := kfroz hk; have hn0_ : ¬ w'.heap.size = w.heap.size := (by have := hb.size; have := hi.lt; omega); have hn1_ : ¬ w'.heap.size + 1 = w.heap.size := (by have := hb.size; have := hi.lt; omega); have hs_ : Aside0 (Below w.heap.size w w' ∧ w2.heap.size + 2 ≤ w'.heap.size ∧ w'.cell? ⟨w2.heap.size, 0, none⟩ = some (.int .u8 p1) ∧ w'.cell? ⟨w2.heap.size, 1, none⟩ = some (.int .i64 p2) ∧ w'.cell? ⟨w2.heap.size, 2, none⟩ = some (.int .u32 p3) ∧ w'.cell? ⟨w2.heap.size, 3, none⟩ = some (.int .u32 p4) ∧ w'.cell? ⟨w2.heap.size + 1, 0, none⟩ = some (.int .u8 q1) ∧ w'.cell? ⟨w2.heap.size + 1, 1, none⟩ = some (.int .i64 q2) ∧ w'.cell? ⟨w2.heap.size + 1, 2, none⟩ = some (.int .u32 q3) ∧ w'.cell? ⟨w2.heap.size + 1, 3, none⟩ = some (.int .u32 q4)) := ⟨keepK (by assumption) (by assumption) (by assumption) (by assumption)⟩; have hz2_ := hs_.out.2.1))
    all_goals
      rename_i hH_
      have HH_ := Aside0.mk hH_
      clear hH_
      go_wp2
      go_meet
      case rel => exact ⟨_, _, rfl, rfl, rfl, rfl, HH_, ⟨by go_simp⟩, ⟨by repeat (first | with_reducible assumption | with_reducible apply IsS62.alloc | with_reducible apply IsS62.drew | with_reducible refine IsF _ ?_ (by omega))⟩⟩
  case rest =>
    obtain ⟨gx, gy, rfl, rfl, rfl, rfl, HS, HC, HM⟩ := hcut
    have hS := HS.out
    have hM := HM.out
    obtain ⟨A9, c9, hb9, hg9, hr9⟩ := hM
    have hcl1 := cellS62_1 hb9
    obtain ⟨hBl, hsz, hk0, hk1, hk2, hk3, _⟩ := hS
    have HBl := Aside0.mk hBl
    clear HI HB hb9 hg9 hr9 hsz hk0 hk1 hBl H1 H2 H3 H4
    by_cases e8 : y8 = 0
    · have HHo := HH.out
      rw [if_pos e8] at HHo
      subst e8
      by_cases c : a2 < p3 ∨ p4 ≤ IntKind.u32.wrap (a2 - p3) ∨ a3 < 0 ∨ 6 < a3 ∨ a4 < 0 ∨ 4088 < a4
      · rw [if_pos c] at HHo
        simp only [Option.some.injEq, Prod.mk.injEq] at HHo
        obtain ⟨rfl, rfl, rfl⟩ := HHo
        clear HH
        rw [show IntKind.u32.wrap (a2 - p3) = (a2 - p3) % 4294967296 from rfl] at c
        have hpost : ∀ W : World, Below w.heap.size w W → ∃ v0_ : Value, Ending.returned (.tuple #[.slice none 0 0, .int .u32 0, .int .i64 2]) = .returned (.tuple #[v0_, .int .u32 0, .int .i64 2]) ∧ Kd.R k66 66 W w.heap.size (fun _ => True) v0_ [] ∧ Below w.heap.size w W := fun W hW => ⟨_, rfl, Kd.R_nil _ _ _ _ _, hW⟩
        have HP := Aside0.mk hpost
        clear hpost
        by_cases c1 : a2 < p3
        · have d1 : decide (a2 < p3) = true := decide_eq_true c1
          clear c c1 
          go_wp2
          go_ret3
          exact HP.out _ HBl.out
        have n1 : (a2 < p3) = False := eq_false c1
        have d1 : decide (a2 < p3) = false := decide_eq_false c1
        clear c1
        by_cases c2 : p4 ≤ (a2 - p3) % 4294967296
        · have d2 : decide (p4 ≤ (a2 - p3) % 4294967296) = true := decide_eq_true c2
          clear c c2 n1
          go_wp2
          go_ret3
          exact HP.out _ HBl.out
        have n2 : (p4 ≤ (a2 - p3) % 4294967296) = False := eq_false c2
        have d2 : decide (p4 ≤ (a2 - p3) % 4294967296) = false := decide_eq_false c2
        clear c2
        by_cases c3 : a3 < 0
        · have d3 : decide (a3 < 0) = true := decide_eq_true c3
          clear c c3 n1 n2
          go_wp2
          go_ret3
          exact HP.out _ HBl.out
        have n3 : (a3 < 0) = False := eq_false c3
        have d3 : decide (a3 < 0) = false := decide_eq_false c3
        clear c3
        by_cases c4 : 6 < a3
        · have d4 : decide (6 < a3) = true := decide_eq_true c4
          clear c c4 n1 n2 n3
          go_wp2
          go_ret3
          exact HP.out _ HBl.out
        have n4 : (6 < a3) = False := eq_false c4
        have d4 : decide (6 < a3) = false := decide_eq_false c4
        clear c4
        by_cases c5 : a4 < 0
        · have d5 : decide (a4 < 0) = true := decide_eq_true c5
          clear c c5 n1 n2 n3 n4
          go_wp2
          go_ret3
          exact HP.out _ HBl.out
        have n5 : (a4 < 0) = False := eq_false c5
        have d5 : decide (a4 < 0) = false := decide_eq_false c5
        clear c5
        by_cases c6 : 4088 < a4
        · have d6 : decide (4088 < a4) = true := decide_eq_true c6
          clear c c6 n1 n2 n3 n4 n5
          go_wp2
          go_ret3
          exact HP.out _ HBl.out
        have n6 : (4088 < a4) = False := eq_false c6
        have d6 : decide (4088 < a4) = false := decide_eq_false c6
        clear c6
        exact absurd c (by simp only [n1, n2, n3, n4, n5, n6, or_self, not_false_eq_true])
      · rw [if_neg c] at HHo
        simp only [not_or] at c
        rw [show IntKind.u32.wrap (a2 - p3) = (a2 - p3) % 4294967296 from rfl] at c
        obtain ⟨⟨s1, s2, s3, s4, s5, s6, s7⟩, hs, HHo⟩ := Option.bind_eq_some_iff.mp HHo
        obtain ⟨⟨t1, t2, t3, t4, t5, t6, t7⟩, ht, HHo⟩ := Option.bind_eq_some_iff.mp HHo
        simp only at hs ht HHo
        have ew : (wrap64 (a3 + wrap64 (256 * a4))) % 4294967296 = IntKind.u32.wrap (IntKind.i64.wrap (a3 + IntKind.i64.wrap (256 * a4))) := by rw [i64_w, i64_w]; rfl
        rw [ew] at HHo
        clear ew
        simp only [Option.some.injEq, Prod.mk.injEq] at HHo
        obtain ⟨rfl, rfl, rfl⟩ := HHo
        have HSA := Aside0.mk hs
        have HTA := Aside0.mk ht
        obtain ⟨c1, c2, c3, c4, c5, c6⟩ := c
        have d1 : decide (a2 < p3) = false := decide_eq_false c1
        have d2 : decide (p4 ≤ (a2 - p3) % 4294967296) = false := decide_eq_false c2
        have d3 : decide (a3 < 0) = false := decide_eq_false c3
        have d4 : decide (6 < a3) = false := decide_eq_false c4
        have d5 : decide (a4 < 0) = false := decide_eq_false c5
        have d6 : decide (4088 < a4) = false := decide_eq_false c6
        clear HH hs ht c1 c2 c3 c4 c5 c6
        go_wp2
        have hs8 : Below w.heap.size w wc ∧ wc.cell? ⟨gx, 0, none⟩ = some (.bool x1) ∧ wc.cell? ⟨gx, 1, none⟩ = some (.int .u32 x2) ∧ wc.cell? ⟨gx, 2, none⟩ = some (.int .u8 x3) ∧ wc.cell? ⟨gx, 3, none⟩ = some (.int .u8 x4) ∧ wc.cell? ⟨gx, 4, none⟩ = some (.int .u8 x5) ∧ wc.cell? ⟨gx, 5, none⟩ = some (.int .u16 x6) ∧ wc.cell? ⟨gx, 6, none⟩ = some (.int .u16 x7) ∧ wc.cell? ⟨gy, 0, none⟩ = some (.bool y1) ∧ wc.cell? ⟨gy, 1, none⟩ = some (.int .u32 y2) ∧ wc.cell? ⟨gy, 2, none⟩ = some (.int .u8 y3) ∧ wc.cell? ⟨gy, 3, none⟩ = some (.int .u8 y4) ∧ wc.cell? ⟨gy, 4, none⟩ = some (.int .u8 y5) ∧ wc.cell? ⟨gy, 5, none⟩ = some (.int .u16 y6) ∧ wc.cell? ⟨gy, 6, none⟩ = some (.int .u16 y7) := ⟨HBl.out, HC.out⟩
        go_region_held3 (fun w' => Below w.heap.size w w' ∧ w'.cell? ⟨gx, 0, none⟩ = some (.bool x1) ∧ w'.cell? ⟨gx, 1, none⟩ = some (.int .u32 x2) ∧ w'.cell? ⟨gx, 2, none⟩ = some (.int .u8 x3) ∧ w'.cell? ⟨gx, 3, none⟩ = some (.int .u8 x4) ∧ w'.cell? ⟨gx, 4, none⟩ = some (.int .u8 x5) ∧ w'.cell? ⟨gx, 5, none⟩ = some (.int .u16 x6) ∧ w'.cell? ⟨gx, 6, none⟩ = some (.int .u16 x7) ∧ w'.cell? ⟨gy, 0, none⟩ = some (.bool y1) ∧ w'.cell? ⟨gy, 1, none⟩ = some (.int .u32 y2) ∧ w'.cell? ⟨gy, 2, none⟩ = some (.int .u8 y3) ∧ w'.cell? ⟨gy, 3, none⟩ = some (.int .u8 y4) ∧ w'.cell? ⟨gy, 4, none⟩ = some (.int .u8 y5) ∧ w'.cell? ⟨gy, 5, none⟩ = some (.int .u16 y6) ∧ w'.cell? ⟨gy, 6, none⟩ = some (.int .u16 y7)) (first | (refine keepD8 ?_; with_reducible assumption) | (with_reducible exact keepB8 (by with_reducible assumption) (by with_reducible assumption)) | (with_reducible refine keepA8 _ ?_; with_reducible assumption)) (first | (go_at_call 26; ((with_reducible refine (capa_SetAddr.calls _ _ _ _ _ _ _ _ _ _ _ _ _ _ _ _ HSA.out).mono ?_)); rintro e w' ⟨rfl, hb⟩; have hz_ : w.heap.size ≤ w'.heap.size := Nat.le_trans HBl.out.size hb.size) | (go_at_call 32; ((with_reducible refine (capa_Seal.calls _ _ _ _ _ _ _ _ _ _ _ _ _ _ _ _ HTA.out).mono ?_)); rintro e w' ⟨rfl, hb⟩; have hz_ : w.heap.size ≤ w'.heap.size := Nat.le_trans hz_ hb.size))
        rename_i hH_
        have HH_ := Aside0.mk hH_.1
        clear hH_
        go_wp2
        go_ret3
        exact ⟨_, rfl, R_two ⟨0, ⟨t1, t2, t3, t4, ⟨t5, t6, t7⟩⟩⟩ ⟨8, ⟨y1, y2, y3, y4, ⟨y5, y6, y7⟩⟩⟩ (heap_alloc_new _ _) hz_, HH_.out⟩
    · have HHo := HH.out
      rw [if_neg e8] at HHo
      simp only [Option.some.injEq, Prod.mk.injEq] at HHo
      obtain ⟨rfl, rfl, rfl⟩ := HHo
      have d1 : (y8 == 0) = false := by simpa using e8
      have d2 : (y8 != 0) = true := by simpa using e8
      clear HH e8
      go_wp2
      go_quiet (fail)
      go_wp2
      go_ret3
      exact ⟨_, rfl, Kd.R_nil _ _ _ _ _, pw_below_drewN HBl.out _⟩
end

end Go.Proofs.Ytegehkenmkmflaa.Q
