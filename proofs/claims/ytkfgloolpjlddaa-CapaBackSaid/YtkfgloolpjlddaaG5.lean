-- The two laws on bytes, walked by hand. Lean checks it.
import Derived.Test.YtkfgloolpjlddaaPureBytes
import Derived.Test.YtkfgloolpjlddaaQ1
import Derived.Test.YtkfgloolpjlddaaQ26
import Derived.Test.YtkfgloolpjlddaaQ28
import Derived.ChangeKeysEq
import Derived.Deep.RegionHeld3
namespace Go.Proofs.Ytkfgloolpjlddaa.Q
open Go.Proofs.Ytkfgloolpjlddaa.Pure
open Go.RowKit Go.Proofs.YtkfgloolpjlddaaW.PrintWords Go.Proofs.YtkfgloolpjlddaaW.PrintLast Go.Proofs.YtkfgloolpjlddaaW.PrintMore
attribute [local go_sem] max2_int min2_int max_two min_two max_three min_three max_four min_four   -- for this text's walks alone
set_option linter.unusedVariables false
set_option linter.unusedSimpArgs false

theorem eqS48 (d : Nat) (w : World) (x0 x1 x2 x3 x4 x5 x6 x7 : Int) : (Op.equalIn (d + 2) 48 (.agg #[.int .u8 x0, .int .u8 x1, .int .u8 x2, .int .u8 x3, .int .u8 x4, .int .u8 x5, .int .u8 x6, .int .u8 x7]) (.agg #[.int .u8 x0, .int .u8 x1, .int .u8 x2, .int .u8 x3, .int .u8 x4, .int .u8 x5, .int .u8 x6, .int .u8 x7])).run Try.prog w = .ok true w := by
  obtain ⟨i0, hi0, hz0⟩ := Option.map_eq_some_iff.1 info5
  rw [run_equalIn_array w (d + 1) _ _ Try.underlying48 hi0]
  have hc : Try.prog.cellsOf 5 = 1 := by kernel_rfl
  rw [hc, show List.range 8 = [0, 1, 2, 3, 4, 5, 6, 7] from rfl]
  simp only [Op.eqItems]
  go_simp
theorem eqS27 (d : Nat) (w : World) (x0 : Bool) (x1 x2 x3 x4 x5 x6 : Int) :
    (Op.equalIn (d + 3) 27 (.agg #[.bool x0, .int .u32 x1, .int .u8 x2, .int .u8 x3, .int .u8 x4, .int .u16 x5, .int .u16 x6]) (.agg #[.bool x0, .int .u32 x1, .int .u8 x2, .int .u8 x3, .int .u8 x4, .int .u16 x5, .int .u16 x6])).run Try.prog w = .ok true w := by
  rw [eqA27]; simp
attribute [local go_sem high] eqS48 eqS27
theorem undrew {B : Nat} {w w' : World} (h : Below B w.drew w') : Below B w w' := ⟨h.os, h.tape, h.output, h.size, h.block⟩
theorem stepB {w W w2 : World} (k : Below W.heap.size W w2) (h : Below w.heap.size w W) : Below w.heap.size w w2 := below_step h k
def lx (l : List Int) (i j : Nat) : Int := if j < i then rd l (j : Int) else 0
theorem lx_byte {l : List Int} (h : AllBytes l) (i j : Nat) (hi : i ≤ l.length) : 0 ≤ lx l i j ∧ lx l i j ≤ 255 := by
  unfold lx
  split
  · rw [rd_at l _ (by omega) (by omega)]
    exact h _ (List.getElem_mem _)
  · omega
theorem lx8 {l : List Int} (h : AllBytes l) (i : Nat) (hi : i ≤ l.length) : AllBytes [lx l i 0, lx l i 1, lx l i 2, lx l i 3, lx l i 4, lx l i 5, lx l i 6, lx l i 7] := by
  intro x hx
  simp only [List.mem_cons, List.not_mem_nil, or_false] at hx
  rcases hx with rfl | rfl | rfl | rfl | rfl | rfl | rfl | rfl <;> exact lx_byte h i _ hi
theorem bytes_callsE (g : Bool) (a p t e b u : Int) (ha : 0 ≤ a ∧ a < 4294967296) (hp : 0 ≤ p ∧ p ≤ 255) (ht : 0 ≤ t ∧ t ≤ 255) (he : 0 ≤ e ∧ e ≤ 255) (hb : 0 ≤ b ∧ b ≤ 65535) (hu : 0 ≤ u ∧ u ≤ 65535) (w : World) : Calls Try.prog 37 #[.agg #[.bool g, .int .u32 a, .int .u8 p, .int .u8 t, .int .u8 e, .int .u16 b, .int .u16 u]] w fun x w' => x = .returned (.agg #[.int .u8 (nth a 0), .int .u8 (nth a 1), .int .u8 (nth a 2), .int .u8 (nth a 3), .int .u8 (nth (num2 p t e b u) 0), .int .u8 (nth (num2 p t e b u) 1), .int .u8 (nth (num2 p t e b u) 2), .int .u8 (nth (num2 p t e b u) 3)]) ∧ Below w.heap.size w w' := bytes_calls g a p t e b u ha hp ht he hb hu w
theorem rbytes_callsE (g : Bool) (a p t e b u : Int) (ha : 0 ≤ a ∧ a < 4294967296) (hp : 0 ≤ p ∧ p ≤ 255) (ht : 0 ≤ t ∧ t ≤ 255) (he : 0 ≤ e ∧ e ≤ 255) (hb : 0 ≤ b ∧ b ≤ 65535) (hu : 0 ≤ u ∧ u ≤ 65535) (w : World) : Calls Try.prog 38 #[.agg #[.bool g, .int .u32 a, .int .u8 p, .int .u8 t, .int .u8 e, .int .u16 b, .int .u16 u]] w fun x w' => x = .returned (.agg #[.int .u8 (nth a 0), .int .u8 (nth a 1), .int .u8 (nth a 2), .int .u8 (nth a 3), .int .u8 (nth (num2 p t e b u) 0), .int .u8 (nth (num2 p t e b u) 1), .int .u8 (nth (num2 p t e b u) 2), .int .u8 (nth (num2 p t e b u) 3)]) ∧ Below w.heap.size w w' := rbytes_calls g a p t e b u ha hp ht he hb hu w
theorem of_callsE (x0 x1 x2 x3 x4 x5 x6 x7 : Int) (hb : AllBytes [x0, x1, x2, x3, x4, x5, x6, x7]) (tag : Bool) (w : World) : Calls Try.prog 39 #[.agg #[.int .u8 x0, .int .u8 x1, .int .u8 x2, .int .u8 x3, .int .u8 x4, .int .u8 x5, .int .u8 x6, .int .u8 x7], .bool tag] w fun x w' => x = .returned (.agg #[.bool tag, .int .u32 (numOf [x0, x1, x2, x3]), .int .u8 (numOf [x4, x5, x6, x7] % 128), .int .u8 (numOf [x4, x5, x6, x7] / 128 % 8), .int .u8 (numOf [x4, x5, x6, x7] / 1024 % 16), .int .u16 (numOf [x4, x5, x6, x7] / 16384 % 512), .int .u16 (numOf [x4, x5, x6, x7] / 8388608 % 512)]) ∧ Below w.heap.size w w' := of_calls x0 x1 x2 x3 x4 x5 x6 x7 hb tag w
theorem rof_callsE (x0 x1 x2 x3 x4 x5 x6 x7 : Int) (hb : AllBytes [x0, x1, x2, x3, x4, x5, x6, x7]) (tag : Bool) (w : World) : Calls Try.prog 40 #[.agg #[.int .u8 x0, .int .u8 x1, .int .u8 x2, .int .u8 x3, .int .u8 x4, .int .u8 x5, .int .u8 x6, .int .u8 x7], .bool tag] w fun x w' => x = .returned (.agg #[.bool tag, .int .u32 (numOf [x0, x1, x2, x3]), .int .u8 (numOf [x4, x5, x6, x7] % 128), .int .u8 (numOf [x4, x5, x6, x7] / 128 % 8), .int .u8 (numOf [x4, x5, x6, x7] / 1024 % 16), .int .u16 (numOf [x4, x5, x6, x7] / 16384 % 512), .int .u16 (numOf [x4, x5, x6, x7] / 8388608 % 512)]) ∧ Below w.heap.size w w' := rof_calls x0 x1 x2 x3 x4 x5 x6 x7 hb tag w
theorem keep15 {w W w2 : World} {g1 g2 : Nat} {v0 v1 v2 v3 v4 v5 v6 x0 x1 x2 x3 x4 x5 x6 x7 : Value} (k : Below W.heap.size W w2) (h : Below w.heap.size w W ∧ W.cell? ⟨g1, 0, none⟩ = some v0 ∧ W.cell? ⟨g1, 1, none⟩ = some v1 ∧ W.cell? ⟨g1, 2, none⟩ = some v2 ∧ W.cell? ⟨g1, 3, none⟩ = some v3 ∧ W.cell? ⟨g1, 4, none⟩ = some v4 ∧ W.cell? ⟨g1, 5, none⟩ = some v5 ∧ W.cell? ⟨g1, 6, none⟩ = some v6 ∧ W.cell? ⟨g2, 0, none⟩ = some x0 ∧ W.cell? ⟨g2, 1, none⟩ = some x1 ∧ W.cell? ⟨g2, 2, none⟩ = some x2 ∧ W.cell? ⟨g2, 3, none⟩ = some x3 ∧ W.cell? ⟨g2, 4, none⟩ = some x4 ∧ W.cell? ⟨g2, 5, none⟩ = some x5 ∧ W.cell? ⟨g2, 6, none⟩ = some x6 ∧ W.cell? ⟨g2, 7, none⟩ = some x7) : Below w.heap.size w w2 ∧ w2.cell? ⟨g1, 0, none⟩ = some v0 ∧ w2.cell? ⟨g1, 1, none⟩ = some v1 ∧ w2.cell? ⟨g1, 2, none⟩ = some v2 ∧ w2.cell? ⟨g1, 3, none⟩ = some v3 ∧ w2.cell? ⟨g1, 4, none⟩ = some v4 ∧ w2.cell? ⟨g1, 5, none⟩ = some v5 ∧ w2.cell? ⟨g1, 6, none⟩ = some v6 ∧ w2.cell? ⟨g2, 0, none⟩ = some x0 ∧ w2.cell? ⟨g2, 1, none⟩ = some x1 ∧ w2.cell? ⟨g2, 2, none⟩ = some x2 ∧ w2.cell? ⟨g2, 3, none⟩ = some x3 ∧ w2.cell? ⟨g2, 4, none⟩ = some x4 ∧ w2.cell? ⟨g2, 5, none⟩ = some x5 ∧ w2.cell? ⟨g2, 6, none⟩ = some x6 ∧ w2.cell? ⟨g2, 7, none⟩ = some x7 := by
  obtain ⟨h, h0, h1, h2, h3, h4, h5, h6, h7, h8, h9, h10, h11, h12, h13, h14⟩ := h
  exact ⟨below_step h k, (k.cell (World.block_lt_of_cell? _ _ h0)).trans h0, (k.cell (World.block_lt_of_cell? _ _ h1)).trans h1, (k.cell (World.block_lt_of_cell? _ _ h2)).trans h2, (k.cell (World.block_lt_of_cell? _ _ h3)).trans h3, (k.cell (World.block_lt_of_cell? _ _ h4)).trans h4, (k.cell (World.block_lt_of_cell? _ _ h5)).trans h5, (k.cell (World.block_lt_of_cell? _ _ h6)).trans h6, (k.cell (World.block_lt_of_cell? _ _ h7)).trans h7, (k.cell (World.block_lt_of_cell? _ _ h8)).trans h8, (k.cell (World.block_lt_of_cell? _ _ h9)).trans h9, (k.cell (World.block_lt_of_cell? _ _ h10)).trans h10, (k.cell (World.block_lt_of_cell? _ _ h11)).trans h11, (k.cell (World.block_lt_of_cell? _ _ h12)).trans h12, (k.cell (World.block_lt_of_cell? _ _ h13)).trans h13, (k.cell (World.block_lt_of_cell? _ _ h14)).trans h14⟩
theorem larr_step (l : List Int) (i : Nat) (hi : i < 8) : (#[.int .u8 (lx l i 0), .int .u8 (lx l i 1), .int .u8 (lx l i 2), .int .u8 (lx l i 3), .int .u8 (lx l i 4), .int .u8 (lx l i 5), .int .u8 (lx l i 6), .int .u8 (lx l i 7)] : Array Value).setIfInBounds i (.int .u8 (rd l (i : Int))) = #[.int .u8 (lx l (i + 1) 0), .int .u8 (lx l (i + 1) 1), .int .u8 (lx l (i + 1) 2), .int .u8 (lx l (i + 1) 3), .int .u8 (lx l (i + 1) 4), .int .u8 (lx l (i + 1) 5), .int .u8 (lx l (i + 1) 6), .int .u8 (lx l (i + 1) 7)] := by
  have : i = 0 ∨ i = 1 ∨ i = 2 ∨ i = 3 ∨ i = 4 ∨ i = 5 ∨ i = 6 ∨ i = 7 := by omega
  rcases this with h | h | h | h | h | h | h | h <;> subst h <;> rfl
set_option maxHeartbeats 8000000 in
set_option maxRecDepth 100000 in
theorem bulwarklaw03_CapaBytes.calls (k : Nat) (g : Bool) (a p t e b u : Int) (A0 : Option Addr) (c0 : Nat) (l : List Int) (n : Int) (tag : Bool) (w : World) (ha : 0 ≤ a ∧ a < 4294967296) (hp : 0 ≤ p ∧ p ≤ 255) (ht : 0 ≤ t ∧ t ≤ 255) (he : 0 ≤ e ∧ e ≤ 255) (hb : 0 ≤ b ∧ b ≤ 65535) (hu : 0 ≤ u ∧ u ≤ 65535)
    (hr0 : Kd.C (Kd.int .u8) w A0 l.length l) (hc0 : l.length ≤ c0) (hlb : AllBytes l) (hL : bulwarklaw03_lives.f k = some true) :
    Calls Try.prog 9 #[.agg #[.bool g, .int .u32 a, .int .u8 p, .int .u8 t, .int .u8 e, .int .u16 b, .int .u16 u], .slice A0 l.length c0, .int .u32 n, .bool tag] w fun e w' => e = .returned (.bool true) ∧ Below w.heap.size w w' := by
  have hu27 := Try.underlying27
  have hu48 := Try.underlying48
  have HR0 := Aside0.mk hr0
  have HC0 := Aside0.mk hc0
  have HL := Aside0.mk hL
  have HLB := Aside0.mk hlb
  have HLM := Aside0.mk hr0.2.1
  have HN := Aside0.mk (And.intro ha (And.intro hp (And.intro ht (And.intro he (And.intro hb hu)))))
  clear hr0 hc0 hL hlb ha hp ht he hb hu
  go_enter Try.func9, Try.ntmps9
  go_wp2
  have bb : ((w.alloc (.cells #[.bool g, .int .u32 a, .int .u8 p, .int .u8 t, .int .u8 e, .int .u16 b, .int .u16 u] 27)).alloc (.cells #[.int .u8 0, .int .u8 0, .int .u8 0, .int .u8 0, .int .u8 0, .int .u8 0, .int .u8 0, .int .u8 0] 48)).heap[w.heap.size]? = some (.cells #[.bool g, .int .u32 a, .int .u8 p, .int .u8 t, .int .u8 e, .int .u16 b, .int .u16 u] 27 (0, 0)) := by
    rw [heap_alloc_old _ _ (by simp)]; exact heap_alloc_new w _
  have br : ((w.alloc (.cells #[.bool g, .int .u32 a, .int .u8 p, .int .u8 t, .int .u8 e, .int .u16 b, .int .u16 u] 27)).alloc (.cells #[.int .u8 0, .int .u8 0, .int .u8 0, .int .u8 0, .int .u8 0, .int .u8 0, .int .u8 0, .int .u8 0] 48)).heap[w.heap.size + 1]? = some (.cells #[.int .u8 0, .int .u8 0, .int .u8 0, .int .u8 0, .int .u8 0, .int .u8 0, .int .u8 0, .int .u8 0] 48 (0, 0)) := by
    have h := heap_alloc_new (w.alloc (.cells #[.bool g, .int .u32 a, .int .u8 p, .int .u8 t, .int .u8 e, .int .u16 b, .int .u16 u] 27)) (.cells #[.int .u8 0, .int .u8 0, .int .u8 0, .int .u8 0, .int .u8 0, .int .u8 0, .int .u8 0, .int .u8 0] 48)
    simpa using h
  have hb0 : Below w.heap.size w ((w.alloc (.cells #[.bool g, .int .u32 a, .int .u8 p, .int .u8 t, .int .u8 e, .int .u16 b, .int .u16 u] 27)).alloc (.cells #[.int .u8 0, .int .u8 0, .int .u8 0, .int .u8 0, .int .u8 0, .int .u8 0, .int .u8 0, .int .u8 0] 48)) := ((Below.refl w.heap.size w).alloc (Nat.le_refl _) _).alloc (by simp) _
  have BC0 := Aside0.mk bb
  have BX0 : Aside0 (((w.alloc (.cells #[.bool g, .int .u32 a, .int .u8 p, .int .u8 t, .int .u8 e, .int .u16 b, .int .u16 u] 27)).alloc (.cells #[.int .u8 0, .int .u8 0, .int .u8 0, .int .u8 0, .int .u8 0, .int .u8 0, .int .u8 0, .int .u8 0] 48)).heap[w.heap.size + 1]? = some (.cells #[.int .u8 (lx l 0 0), .int .u8 (lx l 0 1), .int .u8 (lx l 0 2), .int .u8 (lx l 0 3), .int .u8 (lx l 0 4), .int .u8 (lx l 0 5), .int .u8 (lx l 0 6), .int .u8 (lx l 0 7)] 48 (0, 0))) := ⟨br⟩
  have HB0 := Aside0.mk hb0
  clear bb br hb0
  go_loopg [10] 9 (fun kq v10 w' => ∃ (i : Nat), v10 = .int .i64 (i : Int) ∧ Aside0 (i + kq = 9 ∧ i ≤ 8 ∧ i ≤ l.length) ∧ Aside0 (w'.heap[w.heap.size]? = some (.cells #[.bool g, .int .u32 a, .int .u8 p, .int .u8 t, .int .u8 e, .int .u16 b, .int .u16 u] 27 (0, 0))) ∧ Aside0 (w'.heap[w.heap.size + 1]? = some (.cells #[.int .u8 (lx l i 0), .int .u8 (lx l i 1), .int .u8 (lx l i 2), .int .u8 (lx l i 3), .int .u8 (lx l i 4), .int .u8 (lx l i 5), .int .u8 (lx l i 6), .int .u8 (lx l i 7)] 48 (0, 0))) ∧ Aside0 (Below w.heap.size w w'))
  case atStart => exact ⟨0, rfl, ⟨by omega, by omega, by omega⟩, BC0, BX0, HB0⟩
  case round =>
    clear BC0 BX0 HB0
    obtain ⟨i, rfl, HX, BC, BX, HB⟩ := hrel
    have hx := HX.out
    by_cases c : i < 8 ∧ i < l.length
    · obtain ⟨c8, cl⟩ := c
      cases gk with
      | zero => exact absurd hx.1 (by omega)
      | succ gk =>
        have CL := Aside0.mk cl
        have p1 : 0 ≤ (i : Int) := by omega
        have q1 : (i : Int) < (l.length : Int) := by omega
        obtain ⟨ad, ea, hx0⟩ := Kd.at_int HR0.out (i : Int) p1 q1
        cases ea
        replace hx0 := (HB.out.cell (World.block_lt_of_cell? w _ hx0)).trans hx0
        have hx1 : wr.cell? (ad.add i) = some (.int .u8 (rd l (i : Int))) := by rw [Int.toNat_natCast] at hx0; exact hx0
        obtain ⟨vv, hvv⟩ : ∃ vv, wr.cell? ⟨w.heap.size + 1, i, none⟩ = some vv := by
          rw [blk_cell BX.out i]
          exact ⟨_, Array.getElem?_eq_getElem (show i < 8 from c8)⟩
        have hf := blk_frozen BX.out i
        have d0 : (i < 8) = True := eq_true c8
        have d1 : (i < l.length) = True := eq_true cl
        have d2 : ((i : Int) < 8) = True := eq_true (by omega)
        have d3 : ((i : Int) < (l.length : Int)) = True := eq_true q1
        have C8 := Aside0.mk c8
        clear c8 cl hx p1 q1 hx0
        go_wp2
        go_roundg gk
        case measure => omega
        case rel => exact ⟨i + 1, by simp [wrap64]; have := C8.out; omega, ⟨by have := HX.out; omega, by have := C8.out; omega, by have := CL.out; omega⟩, ⟨blk_far BC.out (by simp) _⟩, ⟨blk_put BX.out i _ (larr_step l i C8.out)⟩, ⟨HB.out.setCell (by simp) _⟩⟩
    · have e1 : decide (((i : Nat) : Int) < 8 ∧ ((i : Nat) : Int) < (l.length : Int)) = false := decide_eq_false (by omega)
      by_cases c8 : ((i : Nat) : Int) < 8
      · have d0 : decide (((i : Nat) : Int) < 8) = true := decide_eq_true c8
        have d1 : decide (((i : Nat) : Int) < (l.length : Int)) = false := decide_eq_false (by omega)
        have d2 : decide (i < l.length) = false := decide_eq_false (by omega)
        have d3 : decide (i < 8) = true := decide_eq_true (by omega)
        clear c hx e1 c8
        go_wp2
        have HN' := HN.out
        have H8 := Aside0.mk (lx8 HLB.out i (by have := HX.out; omega))
        have hs : Below w.heap.size w wr ∧ wr.cell? ⟨w.heap.size, 0, none⟩ = some (.bool g) ∧ wr.cell? ⟨w.heap.size, 1, none⟩ = some (.int .u32 a) ∧ wr.cell? ⟨w.heap.size, 2, none⟩ = some (.int .u8 p) ∧ wr.cell? ⟨w.heap.size, 3, none⟩ = some (.int .u8 t) ∧ wr.cell? ⟨w.heap.size, 4, none⟩ = some (.int .u8 e) ∧ wr.cell? ⟨w.heap.size, 5, none⟩ = some (.int .u16 b) ∧ wr.cell? ⟨w.heap.size, 6, none⟩ = some (.int .u16 u) ∧ wr.cell? ⟨w.heap.size + 1, 0, none⟩ = some (.int .u8 (lx l i 0)) ∧ wr.cell? ⟨w.heap.size + 1, 1, none⟩ = some (.int .u8 (lx l i 1)) ∧ wr.cell? ⟨w.heap.size + 1, 2, none⟩ = some (.int .u8 (lx l i 2)) ∧ wr.cell? ⟨w.heap.size + 1, 3, none⟩ = some (.int .u8 (lx l i 3)) ∧ wr.cell? ⟨w.heap.size + 1, 4, none⟩ = some (.int .u8 (lx l i 4)) ∧ wr.cell? ⟨w.heap.size + 1, 5, none⟩ = some (.int .u8 (lx l i 5)) ∧ wr.cell? ⟨w.heap.size + 1, 6, none⟩ = some (.int .u8 (lx l i 6)) ∧ wr.cell? ⟨w.heap.size + 1, 7, none⟩ = some (.int .u8 (lx l i 7)) := ⟨HB.out, (blk_cell BC.out 0).trans rfl, (blk_cell BC.out 1).trans rfl, (blk_cell BC.out 2).trans rfl, (blk_cell BC.out 3).trans rfl, (blk_cell BC.out 4).trans rfl, (blk_cell BC.out 5).trans rfl, (blk_cell BC.out 6).trans rfl, (blk_cell BX.out 0).trans rfl, (blk_cell BX.out 1).trans rfl, (blk_cell BX.out 2).trans rfl, (blk_cell BX.out 3).trans rfl, (blk_cell BX.out 4).trans rfl, (blk_cell BX.out 5).trans rfl, (blk_cell BX.out 6).trans rfl, (blk_cell BX.out 7).trans rfl⟩
        go_region_held3 (fun w' => Below w.heap.size w w' ∧ w'.cell? ⟨w.heap.size, 0, none⟩ = some (.bool g) ∧ w'.cell? ⟨w.heap.size, 1, none⟩ = some (.int .u32 a) ∧ w'.cell? ⟨w.heap.size, 2, none⟩ = some (.int .u8 p) ∧ w'.cell? ⟨w.heap.size, 3, none⟩ = some (.int .u8 t) ∧ w'.cell? ⟨w.heap.size, 4, none⟩ = some (.int .u8 e) ∧ w'.cell? ⟨w.heap.size, 5, none⟩ = some (.int .u16 b) ∧ w'.cell? ⟨w.heap.size, 6, none⟩ = some (.int .u16 u) ∧ w'.cell? ⟨w.heap.size + 1, 0, none⟩ = some (.int .u8 (lx l i 0)) ∧ w'.cell? ⟨w.heap.size + 1, 1, none⟩ = some (.int .u8 (lx l i 1)) ∧ w'.cell? ⟨w.heap.size + 1, 2, none⟩ = some (.int .u8 (lx l i 2)) ∧ w'.cell? ⟨w.heap.size + 1, 3, none⟩ = some (.int .u8 (lx l i 3)) ∧ w'.cell? ⟨w.heap.size + 1, 4, none⟩ = some (.int .u8 (lx l i 4)) ∧ w'.cell? ⟨w.heap.size + 1, 5, none⟩ = some (.int .u8 (lx l i 5)) ∧ w'.cell? ⟨w.heap.size + 1, 6, none⟩ = some (.int .u8 (lx l i 6)) ∧ w'.cell? ⟨w.heap.size + 1, 7, none⟩ = some (.int .u8 (lx l i 7))) (exact keep15 (by first | assumption | exact undrew (by assumption) | exact (Below.refl _ _).drew) (by assumption)) (first | (go_at_call 37; refine (bytes_callsE g a p t e b u (by omega) (by omega) (by omega) (by omega) (by omega) (by omega) _).mono ?_; rintro e w' ⟨rfl, hb⟩) | (go_at_call 38; refine (rbytes_callsE g a p t e b u (by omega) (by omega) (by omega) (by omega) (by omega) (by omega) _).mono ?_; rintro e w' ⟨rfl, hb⟩) | (go_at_call 39; refine (of_callsE (lx l i 0) (lx l i 1) (lx l i 2) (lx l i 3) (lx l i 4) (lx l i 5) (lx l i 6) (lx l i 7) H8.out tag _).mono ?_; rintro e w' ⟨rfl, hb⟩) | (go_at_call 40; refine (rof_callsE (lx l i 0) (lx l i 1) (lx l i 2) (lx l i 3) (lx l i 4) (lx l i 5) (lx l i 6) (lx l i 7) H8.out tag _).mono ?_; rintro e w' ⟨rfl, hb⟩) | (go_at_call 41; refine (capa_Int.calls n false n 0 0 0 0 0 _ rfl).mono ?_; rintro e w' ⟨rfl, hb⟩) | (go_at_call 42; refine (bulwarkref03_Int.calls n false n 0 0 0 0 0 _ rfl).mono ?_; rintro e w' ⟨rfl, hb⟩) | (go_at_call 21; refine (bulwarklaw03_lives.calls k true _ HL.out).mono ?_; rintro e w' ⟨rfl, hb⟩))
        rename_i hH
        have HE := Aside0.mk hH.1
        clear hH hs
        go_wp2
        go_ret
        exact ⟨rfl, HE.out⟩
      · have d0 : decide (((i : Nat) : Int) < 8) = false := decide_eq_false c8
        have d3 : decide (i < 8) = false := decide_eq_false (by omega)
        clear c hx e1 c8
        go_wp2
        have HN' := HN.out
        have H8 := Aside0.mk (lx8 HLB.out i (by have := HX.out; omega))
        have hs : Below w.heap.size w wr ∧ wr.cell? ⟨w.heap.size, 0, none⟩ = some (.bool g) ∧ wr.cell? ⟨w.heap.size, 1, none⟩ = some (.int .u32 a) ∧ wr.cell? ⟨w.heap.size, 2, none⟩ = some (.int .u8 p) ∧ wr.cell? ⟨w.heap.size, 3, none⟩ = some (.int .u8 t) ∧ wr.cell? ⟨w.heap.size, 4, none⟩ = some (.int .u8 e) ∧ wr.cell? ⟨w.heap.size, 5, none⟩ = some (.int .u16 b) ∧ wr.cell? ⟨w.heap.size, 6, none⟩ = some (.int .u16 u) ∧ wr.cell? ⟨w.heap.size + 1, 0, none⟩ = some (.int .u8 (lx l i 0)) ∧ wr.cell? ⟨w.heap.size + 1, 1, none⟩ = some (.int .u8 (lx l i 1)) ∧ wr.cell? ⟨w.heap.size + 1, 2, none⟩ = some (.int .u8 (lx l i 2)) ∧ wr.cell? ⟨w.heap.size + 1, 3, none⟩ = some (.int .u8 (lx l i 3)) ∧ wr.cell? ⟨w.heap.size + 1, 4, none⟩ = some (.int .u8 (lx l i 4)) ∧ wr.cell? ⟨w.heap.size + 1, 5, none⟩ = some (.int .u8 (lx l i 5)) ∧ wr.cell? ⟨w.heap.size + 1, 6, none⟩ = some (.int .u8 (lx l i 6)) ∧ wr.cell? ⟨w.heap.size + 1, 7, none⟩ = some (.int .u8 (lx l i 7)) := ⟨HB.out, (blk_cell BC.out 0).trans rfl, (blk_cell BC.out 1).trans rfl, (blk_cell BC.out 2).trans rfl, (blk_cell BC.out 3).trans rfl, (blk_cell BC.out 4).trans rfl, (blk_cell BC.out 5).trans rfl, (blk_cell BC.out 6).trans rfl, (blk_cell BX.out 0).trans rfl, (blk_cell BX.out 1).trans rfl, (blk_cell BX.out 2).trans rfl, (blk_cell BX.out 3).trans rfl, (blk_cell BX.out 4).trans rfl, (blk_cell BX.out 5).trans rfl, (blk_cell BX.out 6).trans rfl, (blk_cell BX.out 7).trans rfl⟩
        go_region_held3 (fun w' => Below w.heap.size w w' ∧ w'.cell? ⟨w.heap.size, 0, none⟩ = some (.bool g) ∧ w'.cell? ⟨w.heap.size, 1, none⟩ = some (.int .u32 a) ∧ w'.cell? ⟨w.heap.size, 2, none⟩ = some (.int .u8 p) ∧ w'.cell? ⟨w.heap.size, 3, none⟩ = some (.int .u8 t) ∧ w'.cell? ⟨w.heap.size, 4, none⟩ = some (.int .u8 e) ∧ w'.cell? ⟨w.heap.size, 5, none⟩ = some (.int .u16 b) ∧ w'.cell? ⟨w.heap.size, 6, none⟩ = some (.int .u16 u) ∧ w'.cell? ⟨w.heap.size + 1, 0, none⟩ = some (.int .u8 (lx l i 0)) ∧ w'.cell? ⟨w.heap.size + 1, 1, none⟩ = some (.int .u8 (lx l i 1)) ∧ w'.cell? ⟨w.heap.size + 1, 2, none⟩ = some (.int .u8 (lx l i 2)) ∧ w'.cell? ⟨w.heap.size + 1, 3, none⟩ = some (.int .u8 (lx l i 3)) ∧ w'.cell? ⟨w.heap.size + 1, 4, none⟩ = some (.int .u8 (lx l i 4)) ∧ w'.cell? ⟨w.heap.size + 1, 5, none⟩ = some (.int .u8 (lx l i 5)) ∧ w'.cell? ⟨w.heap.size + 1, 6, none⟩ = some (.int .u8 (lx l i 6)) ∧ w'.cell? ⟨w.heap.size + 1, 7, none⟩ = some (.int .u8 (lx l i 7))) (exact keep15 (by first | assumption | exact undrew (by assumption) | exact (Below.refl _ _).drew) (by assumption)) (first | (go_at_call 37; refine (bytes_callsE g a p t e b u (by omega) (by omega) (by omega) (by omega) (by omega) (by omega) _).mono ?_; rintro e w' ⟨rfl, hb⟩) | (go_at_call 38; refine (rbytes_callsE g a p t e b u (by omega) (by omega) (by omega) (by omega) (by omega) (by omega) _).mono ?_; rintro e w' ⟨rfl, hb⟩) | (go_at_call 39; refine (of_callsE (lx l i 0) (lx l i 1) (lx l i 2) (lx l i 3) (lx l i 4) (lx l i 5) (lx l i 6) (lx l i 7) H8.out tag _).mono ?_; rintro e w' ⟨rfl, hb⟩) | (go_at_call 40; refine (rof_callsE (lx l i 0) (lx l i 1) (lx l i 2) (lx l i 3) (lx l i 4) (lx l i 5) (lx l i 6) (lx l i 7) H8.out tag _).mono ?_; rintro e w' ⟨rfl, hb⟩) | (go_at_call 41; refine (capa_Int.calls n false n 0 0 0 0 0 _ rfl).mono ?_; rintro e w' ⟨rfl, hb⟩) | (go_at_call 42; refine (bulwarkref03_Int.calls n false n 0 0 0 0 0 _ rfl).mono ?_; rintro e w' ⟨rfl, hb⟩) | (go_at_call 21; refine (bulwarklaw03_lives.calls k true _ HL.out).mono ?_; rintro e w' ⟨rfl, hb⟩))
        rename_i hH
        have HE := Aside0.mk hH.1
        clear hH hs
        go_wp2
        go_ret
        exact ⟨rfl, HE.out⟩

end Go.Proofs.Ytkfgloolpjlddaa.Q
