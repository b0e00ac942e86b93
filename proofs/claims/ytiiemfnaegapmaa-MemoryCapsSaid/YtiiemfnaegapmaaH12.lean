-- The reference's memory: LoadCap, by hand. Lean checks it.
import Derived.Test.YtiiemfnaegapmaaH11
namespace Go.Proofs.Ytiiemfnaegapmaa.Q
open Go.Proofs.Ytiiemfnaegapmaa.Pure Go.Proofs.Ytiiemfnaegapmaa.Z
open Go.RowKit Go.Proofs.YtiiemfnaegapmaaW.PrintWords Go.Proofs.YtiiemfnaegapmaaW.PrintLast Go.Proofs.YtiiemfnaegapmaaW.PrintMore
set_option linter.unusedVariables false
set_option linter.unusedSimpArgs false
def arrK (B : Nat → Int) (n j : Nat) : Array Value := #[.int .u8 (if 0 < j then B n else 0), .int .u8 (if 1 < j then B (n + 1) else 0), .int .u8 (if 2 < j then B (n + 2) else 0), .int .u8 (if 3 < j then B (n + 3) else 0), .int .u8 (if 4 < j then B (n + 4) else 0), .int .u8 (if 5 < j then B (n + 5) else 0), .int .u8 (if 6 < j then B (n + 6) else 0), .int .u8 (if 7 < j then B (n + 7) else 0)]
theorem arrK_step (B : Nat → Int) (n j : Nat) (hj : j < 8) : (arrK B n j).setIfInBounds j (.int .u8 (B (n + j))) = arrK B n (j + 1) := by
  have : j = 0 ∨ j = 1 ∨ j = 2 ∨ j = 3 ∨ j = 4 ∨ j = 5 ∨ j = 6 ∨ j = 7 := by omega
  rcases this with h | h | h | h | h | h | h | h <;> subst h <;> rfl
section
variable {w W W2 : World} {g h gt n : Nat} {B : Nat → Int} {T : Nat → Bool}
theorem keepRL (k : Below W.heap.size W W2) (hh : W.cell? ⟨g, 0, none⟩ = some (.int .u8 (B n)) ∧ W.cell? ⟨g, 1, none⟩ = some (.int .u8 (B (n + 1))) ∧ W.cell? ⟨g, 2, none⟩ = some (.int .u8 (B (n + 2))) ∧ W.cell? ⟨g, 3, none⟩ = some (.int .u8 (B (n + 3))) ∧ W.cell? ⟨g, 4, none⟩ = some (.int .u8 (B (n + 4))) ∧ W.cell? ⟨g, 5, none⟩ = some (.int .u8 (B (n + 5))) ∧ W.cell? ⟨g, 6, none⟩ = some (.int .u8 (B (n + 6))) ∧ W.cell? ⟨g, 7, none⟩ = some (.int .u8 (B (n + 7))) ∧ W.cell? ⟨h, 1, none⟩ = some (.slice (some ⟨gt, 0, none⟩) 8192 8192) ∧ W.cell? ⟨gt, n / 8, none⟩ = some (.bool (T (n / 8))) ∧ Below w.heap.size w W ∧ w.heap.size < W.heap.size) : W2.cell? ⟨g, 0, none⟩ = some (.int .u8 (B n)) ∧ W2.cell? ⟨g, 1, none⟩ = some (.int .u8 (B (n + 1))) ∧ W2.cell? ⟨g, 2, none⟩ = some (.int .u8 (B (n + 2))) ∧ W2.cell? ⟨g, 3, none⟩ = some (.int .u8 (B (n + 3))) ∧ W2.cell? ⟨g, 4, none⟩ = some (.int .u8 (B (n + 4))) ∧ W2.cell? ⟨g, 5, none⟩ = some (.int .u8 (B (n + 5))) ∧ W2.cell? ⟨g, 6, none⟩ = some (.int .u8 (B (n + 6))) ∧ W2.cell? ⟨g, 7, none⟩ = some (.int .u8 (B (n + 7))) ∧ W2.cell? ⟨h, 1, none⟩ = some (.slice (some ⟨gt, 0, none⟩) 8192 8192) ∧ W2.cell? ⟨gt, n / 8, none⟩ = some (.bool (T (n / 8))) ∧ Below w.heap.size w W2 ∧ w.heap.size < W2.heap.size := by
  obtain ⟨h0, h1, h2, h3, h4, h5, h6, h7, h8, h9, h10, h11⟩ := hh
  exact ⟨(k.cell (World.block_lt_of_cell? _ _ h0)).trans h0, (k.cell (World.block_lt_of_cell? _ _ h1)).trans h1, (k.cell (World.block_lt_of_cell? _ _ h2)).trans h2, (k.cell (World.block_lt_of_cell? _ _ h3)).trans h3, (k.cell (World.block_lt_of_cell? _ _ h4)).trans h4, (k.cell (World.block_lt_of_cell? _ _ h5)).trans h5, (k.cell (World.block_lt_of_cell? _ _ h6)).trans h6, (k.cell (World.block_lt_of_cell? _ _ h7)).trans h7, (k.cell (World.block_lt_of_cell? _ _ h8)).trans h8, (k.cell (World.block_lt_of_cell? _ _ h9)).trans h9, below_step h10 k, Nat.lt_of_lt_of_le h11 k.size⟩
theorem keepRD (hh : W.cell? ⟨g, 0, none⟩ = some (.int .u8 (B n)) ∧ W.cell? ⟨g, 1, none⟩ = some (.int .u8 (B (n + 1))) ∧ W.cell? ⟨g, 2, none⟩ = some (.int .u8 (B (n + 2))) ∧ W.cell? ⟨g, 3, none⟩ = some (.int .u8 (B (n + 3))) ∧ W.cell? ⟨g, 4, none⟩ = some (.int .u8 (B (n + 4))) ∧ W.cell? ⟨g, 5, none⟩ = some (.int .u8 (B (n + 5))) ∧ W.cell? ⟨g, 6, none⟩ = some (.int .u8 (B (n + 6))) ∧ W.cell? ⟨g, 7, none⟩ = some (.int .u8 (B (n + 7))) ∧ W.cell? ⟨h, 1, none⟩ = some (.slice (some ⟨gt, 0, none⟩) 8192 8192) ∧ W.cell? ⟨gt, n / 8, none⟩ = some (.bool (T (n / 8))) ∧ Below w.heap.size w W ∧ w.heap.size < W.heap.size) : W.drew.cell? ⟨g, 0, none⟩ = some (.int .u8 (B n)) ∧ W.drew.cell? ⟨g, 1, none⟩ = some (.int .u8 (B (n + 1))) ∧ W.drew.cell? ⟨g, 2, none⟩ = some (.int .u8 (B (n + 2))) ∧ W.drew.cell? ⟨g, 3, none⟩ = some (.int .u8 (B (n + 3))) ∧ W.drew.cell? ⟨g, 4, none⟩ = some (.int .u8 (B (n + 4))) ∧ W.drew.cell? ⟨g, 5, none⟩ = some (.int .u8 (B (n + 5))) ∧ W.drew.cell? ⟨g, 6, none⟩ = some (.int .u8 (B (n + 6))) ∧ W.drew.cell? ⟨g, 7, none⟩ = some (.int .u8 (B (n + 7))) ∧ W.drew.cell? ⟨h, 1, none⟩ = some (.slice (some ⟨gt, 0, none⟩) 8192 8192) ∧ W.drew.cell? ⟨gt, n / 8, none⟩ = some (.bool (T (n / 8))) ∧ Below w.heap.size w W.drew ∧ w.heap.size < W.drew.heap.size := by
  obtain ⟨h0, h1, h2, h3, h4, h5, h6, h7, h8, h9, h10, h11⟩ := hh
  exact ⟨h0, h1, h2, h3, h4, h5, h6, h7, h8, h9, h10.drew, h11⟩
theorem keepRS {j : Nat} (u : Value) (hh : W.cell? ⟨g, 0, none⟩ = some (.int .u8 (B n)) ∧ W.cell? ⟨g, 1, none⟩ = some (.int .u8 (B (n + 1))) ∧ W.cell? ⟨g, 2, none⟩ = some (.int .u8 (B (n + 2))) ∧ W.cell? ⟨g, 3, none⟩ = some (.int .u8 (B (n + 3))) ∧ W.cell? ⟨g, 4, none⟩ = some (.int .u8 (B (n + 4))) ∧ W.cell? ⟨g, 5, none⟩ = some (.int .u8 (B (n + 5))) ∧ W.cell? ⟨g, 6, none⟩ = some (.int .u8 (B (n + 6))) ∧ W.cell? ⟨g, 7, none⟩ = some (.int .u8 (B (n + 7))) ∧ W.cell? ⟨h, 1, none⟩ = some (.slice (some ⟨gt, 0, none⟩) 8192 8192) ∧ W.cell? ⟨gt, n / 8, none⟩ = some (.bool (T (n / 8))) ∧ Below w.heap.size w W ∧ w.heap.size < W.heap.size) (hg : g ≠ w.heap.size ∧ h ≠ w.heap.size ∧ gt ≠ w.heap.size) : (W.setCell ⟨w.heap.size, j, none⟩ u).cell? ⟨g, 0, none⟩ = some (.int .u8 (B n)) ∧ (W.setCell ⟨w.heap.size, j, none⟩ u).cell? ⟨g, 1, none⟩ = some (.int .u8 (B (n + 1))) ∧ (W.setCell ⟨w.heap.size, j, none⟩ u).cell? ⟨g, 2, none⟩ = some (.int .u8 (B (n + 2))) ∧ (W.setCell ⟨w.heap.size, j, none⟩ u).cell? ⟨g, 3, none⟩ = some (.int .u8 (B (n + 3))) ∧ (W.setCell ⟨w.heap.size, j, none⟩ u).cell? ⟨g, 4, none⟩ = some (.int .u8 (B (n + 4))) ∧ (W.setCell ⟨w.heap.size, j, none⟩ u).cell? ⟨g, 5, none⟩ = some (.int .u8 (B (n + 5))) ∧ (W.setCell ⟨w.heap.size, j, none⟩ u).cell? ⟨g, 6, none⟩ = some (.int .u8 (B (n + 6))) ∧ (W.setCell ⟨w.heap.size, j, none⟩ u).cell? ⟨g, 7, none⟩ = some (.int .u8 (B (n + 7))) ∧ (W.setCell ⟨w.heap.size, j, none⟩ u).cell? ⟨h, 1, none⟩ = some (.slice (some ⟨gt, 0, none⟩) 8192 8192) ∧ (W.setCell ⟨w.heap.size, j, none⟩ u).cell? ⟨gt, n / 8, none⟩ = some (.bool (T (n / 8))) ∧ Below w.heap.size w (W.setCell ⟨w.heap.size, j, none⟩ u) ∧ w.heap.size < (W.setCell ⟨w.heap.size, j, none⟩ u).heap.size := by
  obtain ⟨h0, h1, h2, h3, h4, h5, h6, h7, h8, h9, h10, h11⟩ := hh
  have hc : ∀ b, b ≠ w.heap.size → ∀ i, (W.setCell ⟨w.heap.size, j, none⟩ u).cell? ⟨b, i, none⟩ = W.cell? ⟨b, i, none⟩ := fun b hb i => World.cell?_of_block (Below.heap_setCell W ⟨w.heap.size, j, none⟩ u b hb)
  exact ⟨(hc _ hg.1 _).trans h0, (hc _ hg.1 _).trans h1, (hc _ hg.1 _).trans h2, (hc _ hg.1 _).trans h3, (hc _ hg.1 _).trans h4, (hc _ hg.1 _).trans h5, (hc _ hg.1 _).trans h6, (hc _ hg.1 _).trans h7, (hc _ hg.2.1 _).trans h8, (hc _ hg.2.2 _).trans h9, h10.setCell (Nat.le_refl _) u, by simpa [World.setCell] using h11⟩
end
set_option maxRecDepth 100000 in
set_option maxHeartbeats 8000000 in
theorem rLoadCap_ok {h gb gt : Nat} {B : Nat → Int} {T : Nat → Bool} (hB : ∀ i, 0 ≤ B i ∧ B i ≤ 255) (n : Nat) (w : World) (hM : RMem w h gb gt B T) (hd : n % 8 = 0) (hn : n + 8 ≤ 65536) :
    Calls Try.prog 36 #[.pointer (some ⟨h, 0, none⟩), .int .u32 n] w fun e w' => e = .returned (.tuple #[.agg #[.bool (T (n / 8)), .int .u32 (ldA B n), .int .u8 (ldN B n % 128), .int .u8 (ldN B n / 128 % 8), .int .u8 (ldN B n / 1024 % 16), .int .u16 (ldN B n / 16384 % 512), .int .u16 (ldN B n / 8388608 % 512)], .int .i64 0]) ∧ Below w.heap.size w w' := by
  have HM := Aside0.mk hM
  have HBY := Aside0.mk hB
  have HN := Aside0.mk hn
  have hu30 := Try.underlying30
  have hu51 := Try.underlying51
  have ht : Int.tmod (n : Int) 8 = 0 := by rw [Int.tmod_eq_emod_of_nonneg (by omega)]; omega
  have d1 : decide (65536 ≤ (n : Int)) = false := decide_eq_false (by omega)
  have HB0 : Aside0 (Below w.heap.size w ((w.alloc (.cells #[.bool false, .int .u32 0, .int .u8 0, .int .u8 0, .int .u8 0, .int .u16 0, .int .u16 0] 30)).alloc (.cells (arrK B n 0) 51))) := ⟨((Below.refl _ _).alloc (Nat.le_refl _) _).alloc (by simp) _⟩
  have HM0 := Aside0.mk (HM.out.below HB0.out)
  have BZ0 : Aside0 (((w.alloc (.cells #[.bool false, .int .u32 0, .int .u8 0, .int .u8 0, .int .u8 0, .int .u16 0, .int .u16 0] 30)).alloc (.cells (arrK B n 0) 51)).heap[w.heap.size]? = some (.cells #[.bool false, .int .u32 0, .int .u8 0, .int .u8 0, .int .u8 0, .int .u16 0, .int .u16 0] 30 (0, 0))) := ⟨(heap_alloc_old _ _ (by simp)).trans (heap_alloc_new _ _)⟩
  have BA0 : Aside0 (((w.alloc (.cells #[.bool false, .int .u32 0, .int .u8 0, .int .u8 0, .int .u8 0, .int .u16 0, .int .u16 0] 30)).alloc (.cells (arrK B n 0) 51)).heap[w.heap.size + 1]? = some (.cells (arrK B n 0) 51 (0, 0))) := ⟨by have h := heap_alloc_new (w.alloc (.cells #[.bool false, .int .u32 0, .int .u8 0, .int .u8 0, .int .u8 0, .int .u16 0, .int .u16 0] 30)) (.cells (arrK B n 0) 51); simpa using h⟩
  clear hM hd hn hB
  go_enter Try.func36, Try.ntmps36
  go_wp2_with fail
  show Code.wp _ _ _ _ ((w.alloc (.cells #[.bool false, .int .u32 0, .int .u8 0, .int .u8 0, .int .u8 0, .int .u16 0, .int .u16 0] 30)).alloc (.cells (arrK B n 0) 51))
  obtain ⟨w4, hw4⟩ : ∃ w4, w4 = ((w.alloc (.cells #[.bool false, .int .u32 0, .int .u8 0, .int .u8 0, .int .u8 0, .int .u16 0, .int .u16 0] 30)).alloc (.cells (arrK B n 0) 51)) := ⟨_, rfl⟩
  rw [← hw4] at HM0 HB0 BA0 BZ0 ⊢
  have HSZ : Aside0 (w.heap.size + 1 < w4.heap.size) := ⟨by rw [hw4]; simp⟩
  clear hw4 ht d1
  have NE : Aside0 ((h ≠ w.heap.size ∧ gt ≠ w.heap.size ∧ gb ≠ w.heap.size) ∧ h ≠ w.heap.size + 1 ∧ gt ≠ w.heap.size + 1 ∧ gb ≠ w.heap.size + 1) := ⟨by have h1 := HM.out.lt; omega⟩
  go_loopg [7] (9) (fun kq v7 w' => ∃ j : Nat, v7 = .int .i64 (j : Int) ∧ Aside0 (j + kq = 9) ∧ Aside0 (j ≤ 8) ∧ Aside0 (RMem w' h gb gt B T) ∧ Aside0 (w'.heap[w.heap.size]? = some (.cells #[.bool false, .int .u32 0, .int .u8 0, .int .u8 0, .int .u8 0, .int .u16 0, .int .u16 0] 30 (0, 0))) ∧ Aside0 (w'.heap[w.heap.size + 1]? = some (.cells (arrK B n j) 51 (0, 0))) ∧ Aside0 (Below w.heap.size w w') ∧ Aside0 (w.heap.size + 1 < w'.heap.size))
  case atStart => exact ⟨0, rfl, ⟨rfl⟩, ⟨by omega⟩, HM0, BZ0, BA0, HB0, HSZ⟩
  case round =>
    clear HM0 BZ0 BA0 HB0 HSZ
    obtain ⟨j, rfl, HK, HJ, HM5, BZ, BA, HB, HSZ⟩ := hrel
    by_cases c : j < 8
    · cases gk with
      | zero => exact absurd HK.out (by have := HJ.out; omega)
      | succ gk =>
        have hn2 : n + j < 65536 := by have := HN.out; omega
        have hc0 := HM5.out.c0
        have hcell := HM5.out.byte (n + j) hn2
        obtain ⟨vv, hca⟩ : ∃ vv, wr.cell? ⟨w.heap.size + 1, j, none⟩ = some vv := by
          rw [blk_cell BA.out j]
          exact ⟨_, Array.getElem?_eq_getElem (show j < 8 from c)⟩
        have hfa := blk_frozen BA.out j
        have BA2 : Aside0 ((wr.setCell ⟨w.heap.size + 1, j, none⟩ (.int .u8 (B (n + j)))).heap[w.heap.size + 1]? = some (.cells (arrK B n (j + 1)) 51 (0, 0))) := ⟨blk_put BA.out j _ (arrK_step B n j c)⟩
        have HF2 : Aside0 (Fr (fun k => k = w.heap.size + 1) wr (wr.setCell ⟨w.heap.size + 1, j, none⟩ (.int .u8 (B (n + j))))) := ⟨(Fr.refl (fun k => k = w.heap.size + 1) wr).setCell (p := ⟨w.heap.size + 1, j, none⟩) rfl _⟩
        obtain ⟨y, hy⟩ : ∃ y, y = B (n + j) := ⟨_, rfl⟩
        rw [← hy] at hcell BA2 HF2
        clear hy
        have HC := Aside0.mk c
        have d5 : decide ((j : Int) < 8) = true := decide_eq_true (by omega)
        have i2 : ((j : Int) < 8) = True := eq_true (by omega)
        have i3 : (j < 8) = True := eq_true c
        clear c
        go_wp2
        go_roundg gk
        case measure => omega
        case rel => exact ⟨j + 1, by go_num, ⟨by have := HK.out; omega⟩, ⟨by have := HC.out; omega⟩, ⟨HM5.out.fr HF2.out NE.out.2.1 NE.out.2.2.2 NE.out.2.2.1⟩, ⟨blk_far BZ.out (by simp) _⟩, BA2, ⟨HB.out.setCell (by simp) _⟩, ⟨by have := HSZ.out; simpa [World.setCell] using this⟩⟩
    · have hj : j = 8 := by have := HJ.out; omega
      subst hj
      have hr2 : n / 8 < 8192 := by have := HN.out; omega
      have q1' : Int.tdiv (n : Int) 8 = (n : Int) / 8 := Int.tdiv_eq_ediv_of_nonneg (by omega)
      have q2' : IntKind.u32.wrap ((n : Int) / 8) = (n : Int) / 8 := by have := HN.out; simp [IntKind.wrap, IntKind.bits, IntKind.signed]; omega
      have q3' : (0 : Int) ≤ (n : Int) / 8 := by omega
      have q4' : (n : Int) / 8 < 8192 := by omega
      have q5' : ((n : Int) / 8).toNat = n / 8 := by omega
      have hne : w.heap.size + 1 ≠ w.heap.size ∧ h ≠ w.heap.size ∧ gt ≠ w.heap.size := ⟨by omega, NE.out.1.1, NE.out.1.2.1⟩
      have hs : wr.cell? ⟨w.heap.size + 1, 0, none⟩ = some (.int .u8 (B n)) ∧ wr.cell? ⟨w.heap.size + 1, 1, none⟩ = some (.int .u8 (B (n + 1))) ∧ wr.cell? ⟨w.heap.size + 1, 2, none⟩ = some (.int .u8 (B (n + 2))) ∧ wr.cell? ⟨w.heap.size + 1, 3, none⟩ = some (.int .u8 (B (n + 3))) ∧ wr.cell? ⟨w.heap.size + 1, 4, none⟩ = some (.int .u8 (B (n + 4))) ∧ wr.cell? ⟨w.heap.size + 1, 5, none⟩ = some (.int .u8 (B (n + 5))) ∧ wr.cell? ⟨w.heap.size + 1, 6, none⟩ = some (.int .u8 (B (n + 6))) ∧ wr.cell? ⟨w.heap.size + 1, 7, none⟩ = some (.int .u8 (B (n + 7))) ∧ wr.cell? ⟨h, 1, none⟩ = some (.slice (some ⟨gt, 0, none⟩) 8192 8192) ∧ wr.cell? ⟨gt, n / 8, none⟩ = some (.bool (T (n / 8))) ∧ Below w.heap.size w wr ∧ w.heap.size < wr.heap.size := ⟨(blk_cell BA.out 0).trans rfl, (blk_cell BA.out 1).trans rfl, (blk_cell BA.out 2).trans rfl, (blk_cell BA.out 3).trans rfl, (blk_cell BA.out 4).trans rfl, (blk_cell BA.out 5).trans rfl, (blk_cell BA.out 6).trans rfl, (blk_cell BA.out 7).trans rfl, HM5.out.c1, HM5.out.tag _ hr2, HB.out, by have := HSZ.out; omega⟩
      have HO := Aside0.mk (rof_callsE (B n) (B (n + 1)) (B (n + 2)) (B (n + 3)) (B (n + 4)) (B (n + 5)) (B (n + 6)) (B (n + 7)) (row8_bytes HBY.out n) (T (n / 8)))
      have hzl : w.heap.size < wr.heap.size := by have := HSZ.out; omega
      have hcz0 : wr.cell? ⟨w.heap.size, 0, none⟩ = some (.bool false) := (blk_cell BZ.out 0).trans rfl
      have hcz1 : wr.cell? ⟨w.heap.size, 1, none⟩ = some (.int .u32 0) := (blk_cell BZ.out 1).trans rfl
      have hcz2 : wr.cell? ⟨w.heap.size, 2, none⟩ = some (.int .u8 0) := (blk_cell BZ.out 2).trans rfl
      have hcz3 : wr.cell? ⟨w.heap.size, 3, none⟩ = some (.int .u8 0) := (blk_cell BZ.out 3).trans rfl
      have hcz4 : wr.cell? ⟨w.heap.size, 4, none⟩ = some (.int .u8 0) := (blk_cell BZ.out 4).trans rfl
      have hcz5 : wr.cell? ⟨w.heap.size, 5, none⟩ = some (.int .u16 0) := (blk_cell BZ.out 5).trans rfl
      have hcz6 : wr.cell? ⟨w.heap.size, 6, none⟩ = some (.int .u16 0) := (blk_cell BZ.out 6).trans rfl
      have hfz0 := blk_frozen BZ.out 0
      have hfz1 := blk_frozen BZ.out 1
      have hfz2 := blk_frozen BZ.out 2
      have hfz3 := blk_frozen BZ.out 3
      have hfz4 := blk_frozen BZ.out 4
      have hfz5 := blk_frozen BZ.out 5
      have hfz6 := blk_frozen BZ.out 6
      clear c
      go_wp2
      go_region_held3 (fun w' => w'.cell? ⟨w.heap.size + 1, 0, none⟩ = some (.int .u8 (B n)) ∧ w'.cell? ⟨w.heap.size + 1, 1, none⟩ = some (.int .u8 (B (n + 1))) ∧ w'.cell? ⟨w.heap.size + 1, 2, none⟩ = some (.int .u8 (B (n + 2))) ∧ w'.cell? ⟨w.heap.size + 1, 3, none⟩ = some (.int .u8 (B (n + 3))) ∧ w'.cell? ⟨w.heap.size + 1, 4, none⟩ = some (.int .u8 (B (n + 4))) ∧ w'.cell? ⟨w.heap.size + 1, 5, none⟩ = some (.int .u8 (B (n + 5))) ∧ w'.cell? ⟨w.heap.size + 1, 6, none⟩ = some (.int .u8 (B (n + 6))) ∧ w'.cell? ⟨w.heap.size + 1, 7, none⟩ = some (.int .u8 (B (n + 7))) ∧ w'.cell? ⟨h, 1, none⟩ = some (.slice (some ⟨gt, 0, none⟩) 8192 8192) ∧ w'.cell? ⟨gt, n / 8, none⟩ = some (.bool (T (n / 8))) ∧ Below w.heap.size w w' ∧ w.heap.size < w'.heap.size) (first | (with_reducible refine keepRD ?_; with_reducible assumption) | (with_reducible exact keepRL (by with_reducible assumption) (by with_reducible assumption)) | (repeat (first | with_reducible assumption | with_reducible refine keepRS _ ?_ (by with_reducible assumption)))) (first | (go_at_call 17; ((with_reducible refine (HO.out _).mono ?_)); rintro e w' ⟨rfl, hb⟩; have hy0 := ((bcell hb).1 w.heap.size 0 hzl).trans hcz0; have hz0 := ((bcell hb).2 w.heap.size 0 hzl).trans hfz0; have hy1 := ((bcell hb).1 w.heap.size 1 hzl).trans hcz1; have hz1 := ((bcell hb).2 w.heap.size 1 hzl).trans hfz1; have hy2 := ((bcell hb).1 w.heap.size 2 hzl).trans hcz2; have hz2 := ((bcell hb).2 w.heap.size 2 hzl).trans hfz2; have hy3 := ((bcell hb).1 w.heap.size 3 hzl).trans hcz3; have hz3 := ((bcell hb).2 w.heap.size 3 hzl).trans hfz3; have hy4 := ((bcell hb).1 w.heap.size 4 hzl).trans hcz4; have hz4 := ((bcell hb).2 w.heap.size 4 hzl).trans hfz4; have hy5 := ((bcell hb).1 w.heap.size 5 hzl).trans hcz5; have hz5 := ((bcell hb).2 w.heap.size 5 hzl).trans hfz5; have hy6 := ((bcell hb).1 w.heap.size 6 hzl).trans hcz6; have hz6 := ((bcell hb).2 w.heap.size 6 hzl).trans hfz6))
      rename_i hH_
      have HE := Aside0.mk hH_.2.2.2.2.2.2.2.2.2.2.1
      have BZ1 := Aside0.mk (blk_below (blk_below BZ.out ((Below.refl _ _).drew)) hb)
      clear hH_ hs hy0 hz0 hy1 hz1 hy2 hz2 hy3 hz3 hy4 hz4 hy5 hz5 hy6 hz6 hcz0 hcz1 hcz2 hcz3 hcz4 hcz5 hcz6 hfz0 hfz1 hfz2 hfz3 hfz4 hfz5 hfz6
      go_wp2
      refine bodyPost_ret (results_cell_tmp rfl _ _ w.heap.size 30 #[.bool (T (n / 8)), .int .u32 (ldA B n), .int .u8 (ldN B n % 128), .int .u8 (ldN B n / 128 % 8), .int .u8 (ldN B n / 1024 % 16), .int .u16 (ldN B n / 16384 % 512), .int .u16 (ldN B n / 8388608 % 512)] (0, 0) _ rfl (put7 (.bool (T (n / 8))) (.int .u32 (ldA B n)) (.int .u8 (ldN B n % 128)) (.int .u8 (ldN B n / 128 % 8)) (.int .u8 (ldN B n / 1024 % 16)) (.int .u16 (ldN B n / 16384 % 512)) (.int .u16 (ldN B n / 8388608 % 512)) BZ1.out) rfl Try.underlying30 (by kernel_rfl)) rfl ?_
      exact ⟨rfl, HE.out⟩
end Go.Proofs.Ytiiemfnaegapmaa.Q
