-- The law on capabilities in memory. Lean checks it.
import Derived.Test.YtiiemfnaegapmaaH14
import Derived.ChangeKeysEq
namespace Go.Proofs.Ytiiemfnaegapmaa.Q
open Go.Proofs.Ytiiemfnaegapmaa.Pure Go.Proofs.Ytiiemfnaegapmaa.Z
open Go.RowKit Go.Proofs.YtiiemfnaegapmaaW.PrintWords Go.Proofs.YtiiemfnaegapmaaW.PrintLast Go.Proofs.YtiiemfnaegapmaaW.PrintMore
set_option linter.unusedVariables false
set_option linter.unusedSimpArgs false
theorem eqA28 (d : Nat) (w : World) (x0 y0 : Int) (x1 y1 : Int) (x2 y2 : Int) :
    (Op.equalIn (d + 2) 28 (.agg #[.int .u8 x0, .int .u16 x1, .int .u16 x2]) (.agg #[.int .u8 y0, .int .u16 y1, .int .u16 y2])).run Try.prog w = .ok (x0 == y0 && (x1 == y1 && (x2 == y2))) w := by
  refine eqA_of Try.underlying28 (by kernel_rfl) ?_
  refine eqf_cons (by rfl) (by go_simp; rfl) (by go_simp; rfl) (by go_simp) ?_
  refine eqf_cons (by rfl) (by go_simp; rfl) (by go_simp; rfl) (by go_simp) ?_
  exact eqf_last (by rfl) (by go_simp; rfl) (by go_simp; rfl) (by go_simp)
theorem eqA30 (d : Nat) (w : World) (x0 y0 : Bool) (x1 y1 : Int) (x2 y2 : Int) (x3 y3 : Int) (x4 y4 : Int) (x5 y5 : Int) (x6 y6 : Int) :
    (Op.equalIn (d + 3) 30 (.agg #[.bool x0, .int .u32 x1, .int .u8 x2, .int .u8 x3, .int .u8 x4, .int .u16 x5, .int .u16 x6]) (.agg #[.bool y0, .int .u32 y1, .int .u8 y2, .int .u8 y3, .int .u8 y4, .int .u16 y5, .int .u16 y6])).run Try.prog w = .ok (x0 == y0 && (x1 == y1 && (x2 == y2 && (x3 == y3 && ((x4 == y4 && (x5 == y5 && (x6 == y6)))))))) w := by
  refine eqA_of Try.underlying30 (by kernel_rfl) ?_
  refine eqf_cons (by rfl) (by go_simp; rfl) (by go_simp; rfl) (by go_simp) ?_
  refine eqf_cons (by rfl) (by go_simp; rfl) (by go_simp; rfl) (by go_simp) ?_
  refine eqf_cons (by rfl) (by go_simp; rfl) (by go_simp; rfl) (by go_simp) ?_
  refine eqf_cons (by rfl) (by go_simp; rfl) (by go_simp; rfl) (by go_simp) ?_
  exact eqf_last (by rfl) (by go_simp) (by go_simp) (eqA28 (d + 0) w _ _ _ _ _ _)
theorem eqS30 (d : Nat) (w : World) (x0 : Bool) (x1 x2 x3 x4 x5 x6 : Int) :
    (Op.equalIn (d + 3) 30 (.agg #[.bool x0, .int .u32 x1, .int .u8 x2, .int .u8 x3, .int .u8 x4, .int .u16 x5, .int .u16 x6]) (.agg #[.bool x0, .int .u32 x1, .int .u8 x2, .int .u8 x3, .int .u8 x4, .int .u16 x5, .int .u16 x6])).run Try.prog w = .ok true w := by
  rw [eqA30]; simp
attribute [local go_sem high] eqS30
/-- What stands in memory of a capability's address, and of the rest. -/
def capA (q1 : Int) : Int := numOf [nth q1 0, nth q1 1, nth q1 2, nth q1 3]
def capN (q2 q3 q4 q5 q6 : Int) : Int := numOf [nth (num2 q2 q3 q4 q5 q6) 0, nth (num2 q2 q3 q4 q5 q6) 1, nth (num2 q2 q3 q4 q5 q6) 2, nth (num2 q2 q3 q4 q5 q6) 3]
theorem lA_cB (B : Nat → Int) (a q1 q2 q3 q4 q5 q6 : Int) (h : isThere a 8 = true) : lA (cB B a q1 q2 q3 q4 q5 q6) a = capA q1 := by
  unfold lA cB ldA stC capA
  simp only [h, if_true]
  rw [if_pos (by omega), if_pos (by omega), if_pos (by omega), if_pos (by omega)]
  simp
theorem lN_cB (B : Nat → Int) (a q1 q2 q3 q4 q5 q6 : Int) (h : isThere a 8 = true) : lN (cB B a q1 q2 q3 q4 q5 q6) a = capN q2 q3 q4 q5 q6 := by
  unfold lN cB ldN stC capN
  simp only [h, if_true]
  rw [if_neg (by omega), if_pos (by omega), if_neg (by omega), if_pos (by omega), if_neg (by omega), if_pos (by omega), if_neg (by omega), if_pos (by omega)]
  rw [show a.toNat + 4 - (a.toNat + 4) = 0 by omega, show a.toNat + 5 - (a.toNat + 4) = 1 by omega, show a.toNat + 6 - (a.toNat + 4) = 2 by omega, show a.toNat + 7 - (a.toNat + 4) = 3 by omega]
theorem lT_cT (T : Nat → Bool) (a : Int) (q0 : Bool) (h : isThere a 8 = true) : lT (cT T a q0) a = q0 := by
  unfold lT cT upT
  simp [h]
theorem ok4 {a : Int} (h : isThere a 8 = true) : okS a 4 = true := by
  have h2 := of_decide_eq_true h
  unfold okS isNum isThere
  rw [Bool.and_eq_true]
  exact ⟨by decide, decide_eq_true ⟨by omega, by omega⟩⟩
theorem nth4 (v : Int) (hv : 0 ≤ v ∧ v < 4294967296) : numOf [nth v 0, nth v 1, nth v 2, nth v 3] = v := by
  rw [num4]; unfold nth; simp only [Nat.mul_zero, Nat.mul_one, Nat.reduceMul]; omega
theorem lA_sB (B : Nat → Int) (a v : Int) (hv : 0 ≤ v ∧ v < 4294967296) (h : isThere a 8 = true) : lA (sB B a 4 v) a = v := by
  unfold lA sB ldA stB
  simp only [h, ok4 h, if_true]
  have : (4 : Int).toNat = 4 := rfl
  rw [this, if_pos (by omega), if_pos (by omega), if_pos (by omega), if_pos (by omega)]
  simp only [Nat.sub_self, Nat.add_sub_cancel_left]
  exact nth4 v hv
theorem lT_sT (T : Nat → Bool) (a : Int) (h : isThere a 8 = true) : lT (sT T a 4) a = false := by
  unfold lT sT upT
  simp [h, ok4 h]
theorem keepK {w W W2 : World} {b4 b8 b12 b14 : Nat} {q0 : Bool} {q1 q2 q3 q4 q5 q6 A n1 n2 n3 n4 n5 v : Int} (k : Below W.heap.size W W2) (h : W.cell? ⟨b4, 0, none⟩ = some (.bool q0) ∧ W.cell? ⟨b4, 1, none⟩ = some (.int .u32 q1) ∧ W.cell? ⟨b4, 2, none⟩ = some (.int .u8 q2) ∧ W.cell? ⟨b4, 3, none⟩ = some (.int .u8 q3) ∧ W.cell? ⟨b4, 4, none⟩ = some (.int .u8 q4) ∧ W.cell? ⟨b4, 5, none⟩ = some (.int .u16 q5) ∧ W.cell? ⟨b4, 6, none⟩ = some (.int .u16 q6) ∧ W.cell? ⟨b8, 0, none⟩ = some (.bool q0) ∧ W.cell? ⟨b8, 1, none⟩ = some (.int .u32 A) ∧ W.cell? ⟨b8, 2, none⟩ = some (.int .u8 n1) ∧ W.cell? ⟨b8, 3, none⟩ = some (.int .u8 n2) ∧ W.cell? ⟨b8, 4, none⟩ = some (.int .u8 n3) ∧ W.cell? ⟨b8, 5, none⟩ = some (.int .u16 n4) ∧ W.cell? ⟨b8, 6, none⟩ = some (.int .u16 n5) ∧ W.cell? ⟨b12, 0, none⟩ = some (.bool q0) ∧ W.cell? ⟨b12, 1, none⟩ = some (.int .u32 A) ∧ W.cell? ⟨b12, 2, none⟩ = some (.int .u8 n1) ∧ W.cell? ⟨b12, 3, none⟩ = some (.int .u8 n2) ∧ W.cell? ⟨b12, 4, none⟩ = some (.int .u8 n3) ∧ W.cell? ⟨b12, 5, none⟩ = some (.int .u16 n4) ∧ W.cell? ⟨b12, 6, none⟩ = some (.int .u16 n5) ∧ W.cell? ⟨b14, 0, none⟩ = some (.bool false) ∧ W.cell? ⟨b14, 1, none⟩ = some (.int .u32 v) ∧ Below w.heap.size w W) : W2.cell? ⟨b4, 0, none⟩ = some (.bool q0) ∧ W2.cell? ⟨b4, 1, none⟩ = some (.int .u32 q1) ∧ W2.cell? ⟨b4, 2, none⟩ = some (.int .u8 q2) ∧ W2.cell? ⟨b4, 3, none⟩ = some (.int .u8 q3) ∧ W2.cell? ⟨b4, 4, none⟩ = some (.int .u8 q4) ∧ W2.cell? ⟨b4, 5, none⟩ = some (.int .u16 q5) ∧ W2.cell? ⟨b4, 6, none⟩ = some (.int .u16 q6) ∧ W2.cell? ⟨b8, 0, none⟩ = some (.bool q0) ∧ W2.cell? ⟨b8, 1, none⟩ = some (.int .u32 A) ∧ W2.cell? ⟨b8, 2, none⟩ = some (.int .u8 n1) ∧ W2.cell? ⟨b8, 3, none⟩ = some (.int .u8 n2) ∧ W2.cell? ⟨b8, 4, none⟩ = some (.int .u8 n3) ∧ W2.cell? ⟨b8, 5, none⟩ = some (.int .u16 n4) ∧ W2.cell? ⟨b8, 6, none⟩ = some (.int .u16 n5) ∧ W2.cell? ⟨b12, 0, none⟩ = some (.bool q0) ∧ W2.cell? ⟨b12, 1, none⟩ = some (.int .u32 A) ∧ W2.cell? ⟨b12, 2, none⟩ = some (.int .u8 n1) ∧ W2.cell? ⟨b12, 3, none⟩ = some (.int .u8 n2) ∧ W2.cell? ⟨b12, 4, none⟩ = some (.int .u8 n3) ∧ W2.cell? ⟨b12, 5, none⟩ = some (.int .u16 n4) ∧ W2.cell? ⟨b12, 6, none⟩ = some (.int .u16 n5) ∧ W2.cell? ⟨b14, 0, none⟩ = some (.bool false) ∧ W2.cell? ⟨b14, 1, none⟩ = some (.int .u32 v) ∧ Below w.heap.size w W2 := by
  obtain ⟨h0, h1, h2, h3, h4, h5, h6, h7, h8, h9, h10, h11, h12, h13, h14, h15, h16, h17, h18, h19, h20, h21, h22, hb⟩ := h
  exact ⟨(k.cell (World.block_lt_of_cell? _ _ h0)).trans h0, (k.cell (World.block_lt_of_cell? _ _ h1)).trans h1, (k.cell (World.block_lt_of_cell? _ _ h2)).trans h2, (k.cell (World.block_lt_of_cell? _ _ h3)).trans h3, (k.cell (World.block_lt_of_cell? _ _ h4)).trans h4, (k.cell (World.block_lt_of_cell? _ _ h5)).trans h5, (k.cell (World.block_lt_of_cell? _ _ h6)).trans h6, (k.cell (World.block_lt_of_cell? _ _ h7)).trans h7, (k.cell (World.block_lt_of_cell? _ _ h8)).trans h8, (k.cell (World.block_lt_of_cell? _ _ h9)).trans h9, (k.cell (World.block_lt_of_cell? _ _ h10)).trans h10, (k.cell (World.block_lt_of_cell? _ _ h11)).trans h11, (k.cell (World.block_lt_of_cell? _ _ h12)).trans h12, (k.cell (World.block_lt_of_cell? _ _ h13)).trans h13, (k.cell (World.block_lt_of_cell? _ _ h14)).trans h14, (k.cell (World.block_lt_of_cell? _ _ h15)).trans h15, (k.cell (World.block_lt_of_cell? _ _ h16)).trans h16, (k.cell (World.block_lt_of_cell? _ _ h17)).trans h17, (k.cell (World.block_lt_of_cell? _ _ h18)).trans h18, (k.cell (World.block_lt_of_cell? _ _ h19)).trans h19, (k.cell (World.block_lt_of_cell? _ _ h20)).trans h20, (k.cell (World.block_lt_of_cell? _ _ h21)).trans h21, (k.cell (World.block_lt_of_cell? _ _ h22)).trans h22, below_step hb k⟩
theorem keepKD {w W : World} {b4 b8 b12 b14 : Nat} {q0 : Bool} {q1 q2 q3 q4 q5 q6 A n1 n2 n3 n4 n5 v : Int} (h : W.cell? ⟨b4, 0, none⟩ = some (.bool q0) ∧ W.cell? ⟨b4, 1, none⟩ = some (.int .u32 q1) ∧ W.cell? ⟨b4, 2, none⟩ = some (.int .u8 q2) ∧ W.cell? ⟨b4, 3, none⟩ = some (.int .u8 q3) ∧ W.cell? ⟨b4, 4, none⟩ = some (.int .u8 q4) ∧ W.cell? ⟨b4, 5, none⟩ = some (.int .u16 q5) ∧ W.cell? ⟨b4, 6, none⟩ = some (.int .u16 q6) ∧ W.cell? ⟨b8, 0, none⟩ = some (.bool q0) ∧ W.cell? ⟨b8, 1, none⟩ = some (.int .u32 A) ∧ W.cell? ⟨b8, 2, none⟩ = some (.int .u8 n1) ∧ W.cell? ⟨b8, 3, none⟩ = some (.int .u8 n2) ∧ W.cell? ⟨b8, 4, none⟩ = some (.int .u8 n3) ∧ W.cell? ⟨b8, 5, none⟩ = some (.int .u16 n4) ∧ W.cell? ⟨b8, 6, none⟩ = some (.int .u16 n5) ∧ W.cell? ⟨b12, 0, none⟩ = some (.bool q0) ∧ W.cell? ⟨b12, 1, none⟩ = some (.int .u32 A) ∧ W.cell? ⟨b12, 2, none⟩ = some (.int .u8 n1) ∧ W.cell? ⟨b12, 3, none⟩ = some (.int .u8 n2) ∧ W.cell? ⟨b12, 4, none⟩ = some (.int .u8 n3) ∧ W.cell? ⟨b12, 5, none⟩ = some (.int .u16 n4) ∧ W.cell? ⟨b12, 6, none⟩ = some (.int .u16 n5) ∧ W.cell? ⟨b14, 0, none⟩ = some (.bool false) ∧ W.cell? ⟨b14, 1, none⟩ = some (.int .u32 v) ∧ Below w.heap.size w W) : W.drew.cell? ⟨b4, 0, none⟩ = some (.bool q0) ∧ W.drew.cell? ⟨b4, 1, none⟩ = some (.int .u32 q1) ∧ W.drew.cell? ⟨b4, 2, none⟩ = some (.int .u8 q2) ∧ W.drew.cell? ⟨b4, 3, none⟩ = some (.int .u8 q3) ∧ W.drew.cell? ⟨b4, 4, none⟩ = some (.int .u8 q4) ∧ W.drew.cell? ⟨b4, 5, none⟩ = some (.int .u16 q5) ∧ W.drew.cell? ⟨b4, 6, none⟩ = some (.int .u16 q6) ∧ W.drew.cell? ⟨b8, 0, none⟩ = some (.bool q0) ∧ W.drew.cell? ⟨b8, 1, none⟩ = some (.int .u32 A) ∧ W.drew.cell? ⟨b8, 2, none⟩ = some (.int .u8 n1) ∧ W.drew.cell? ⟨b8, 3, none⟩ = some (.int .u8 n2) ∧ W.drew.cell? ⟨b8, 4, none⟩ = some (.int .u8 n3) ∧ W.drew.cell? ⟨b8, 5, none⟩ = some (.int .u16 n4) ∧ W.drew.cell? ⟨b8, 6, none⟩ = some (.int .u16 n5) ∧ W.drew.cell? ⟨b12, 0, none⟩ = some (.bool q0) ∧ W.drew.cell? ⟨b12, 1, none⟩ = some (.int .u32 A) ∧ W.drew.cell? ⟨b12, 2, none⟩ = some (.int .u8 n1) ∧ W.drew.cell? ⟨b12, 3, none⟩ = some (.int .u8 n2) ∧ W.drew.cell? ⟨b12, 4, none⟩ = some (.int .u8 n3) ∧ W.drew.cell? ⟨b12, 5, none⟩ = some (.int .u16 n4) ∧ W.drew.cell? ⟨b12, 6, none⟩ = some (.int .u16 n5) ∧ W.drew.cell? ⟨b14, 0, none⟩ = some (.bool false) ∧ W.drew.cell? ⟨b14, 1, none⟩ = some (.int .u32 v) ∧ Below w.heap.size w W.drew := by
  obtain ⟨h0, h1, h2, h3, h4, h5, h6, h7, h8, h9, h10, h11, h12, h13, h14, h15, h16, h17, h18, h19, h20, h21, h22, hb⟩ := h
  exact ⟨h0, h1, h2, h3, h4, h5, h6, h7, h8, h9, h10, h11, h12, h13, h14, h15, h16, h17, h18, h19, h20, h21, h22, hb.drew⟩

theorem LoadCap_st {g : Nat} {B : Nat → Int} {T : Nat → Bool} (hB : ∀ i, 0 ≤ B i ∧ B i ≤ 255) (a : Int) (ha : 0 ≤ a ∧ a < 4294967296) (h : isThere a 8 = true) (q0 : Bool) (q1 q2 q3 q4 q5 q6 : Int) (hq : 0 ≤ q1) (w : World) (hM : Mem w g true (cB B a q1 q2 q3 q4 q5 q6) (cT T a q0)) :
    Calls Try.prog 15 #[.pointer (some ⟨g, 0, none⟩), .int .u32 a] w fun e w' => e = .returned (.tuple #[.agg #[.bool q0, .int .u32 (capA q1), .int .u8 (capN q2 q3 q4 q5 q6 % 128), .int .u8 (capN q2 q3 q4 q5 q6 / 128 % 8), .int .u8 (capN q2 q3 q4 q5 q6 / 1024 % 16), .int .u16 (capN q2 q3 q4 q5 q6 / 16384 % 512), .int .u16 (capN q2 q3 q4 q5 q6 / 8388608 % 512)], .int .i64 0]) ∧ Below w.heap.size w w' := by
  have h1 := LoadCap_any (cB_range hB a q1 q2 q3 q4 q5 q6 hq) a ha w hM
  rw [lT_cT _ _ _ h, lA_cB _ _ _ _ _ _ _ _ h, lN_cB _ _ _ _ _ _ _ _ h, show cE a = 0 from if_pos h] at h1
  exact h1
set_option maxRecDepth 100000 in
set_option maxHeartbeats 8000000 in
theorem MemoryCaps_calls (a : Int) (ha : 0 ≤ a ∧ a < 4294967296) (q0 : Bool) (q1 q2 q3 q4 q5 q6 : Int) (h1 : 0 ≤ q1 ∧ q1 < 4294967296) (h2 : 0 ≤ q2 ∧ q2 ≤ 255) (h3 : 0 ≤ q3 ∧ q3 ≤ 255) (h4 : 0 ≤ q4 ∧ q4 ≤ 255) (h5 : 0 ≤ q5 ∧ q5 ≤ 65535) (h6 : 0 ≤ q6 ∧ q6 ≤ 65535) (v : Int) (hv : 0 ≤ v ∧ v < 4294967296) (w : World) :
    Calls Try.prog 4 #[.int .u32 a, .agg #[.bool q0, .int .u32 q1, .int .u8 q2, .int .u8 q3, .int .u8 q4, .int .u16 q5, .int .u16 q6], .int .u32 v] w fun e w' => e = .returned (.bool true) ∧ Below w.heap.size w w' := by
  have hu30 := Try.underlying30
  have HA := Aside0.mk ha
  have HV := Aside0.mk hv
  have HQ := Aside0.mk (And.intro h1 (And.intro h2 (And.intro h3 (And.intro h4 (And.intro h5 h6)))))
  clear ha hv h1 h2 h3 h4 h5 h6
  have C4 : Aside0 ((w.alloc (.cells #[.bool q0, .int .u32 q1, .int .u8 q2, .int .u8 q3, .int .u8 q4, .int .u16 q5, .int .u16 q6] 30)).heap[w.heap.size]? = some (.cells #[.bool q0, .int .u32 q1, .int .u8 q2, .int .u8 q3, .int .u8 q4, .int .u16 q5, .int .u16 q6] 30 (0, 0))) := ⟨heap_alloc_new _ _⟩
  have HB : Aside0 (Below w.heap.size w (w.alloc (.cells #[.bool q0, .int .u32 q1, .int .u8 q2, .int .u8 q3, .int .u8 q4, .int .u16 q5, .int .u16 q6] 30))) := ⟨(Below.refl _ _).alloc (Nat.le_refl _) _⟩
  obtain ⟨g, HG⟩ : ∃ g, Aside0 (g = w.heap.size + 1) := ⟨_, ⟨rfl⟩⟩
  have NE : Aside0 (¬ w.heap.size = g) := ⟨by have := HG.out; omega⟩
  go_enter Try.func4, Try.ntmps4
  go_wp2_with fail
  refine (New_calls _).mono ?_
  rintro e w1 ⟨rfl, hm, hb⟩
  have hsz : (w.alloc (.cells #[.bool q0, .int .u32 q1, .int .u8 q2, .int .u8 q3, .int .u8 q4, .int .u16 q5, .int .u16 q6] 30)).heap.size = w.heap.size + 1 := by simp
  rw [hsz, ← HG.out] at hm ⊢
  have HS : Aside0 (St w w1 g (fun _ => 0) (fun _ => false)) := ⟨hm, below_step HB.out hb, by have := HG.out; omega⟩
  replace C4 := Aside0.mk (blk_below C4.out hb)
  clear hm hb hsz HB
  have hc0 := (blk_cell C4.out 0).trans rfl
  have hc1 := (blk_cell C4.out 1).trans rfl
  have hc2 := (blk_cell C4.out 2).trans rfl
  have hc3 := (blk_cell C4.out 3).trans rfl
  have hc4 := (blk_cell C4.out 4).trans rfl
  have hc5 := (blk_cell C4.out 5).trans rfl
  have hc6 := (blk_cell C4.out 6).trans rfl
  go_wp2_with fail
  clear hc0 hc1 hc2 hc3 hc4 hc5 hc6
  refine (StoreCap_any a HA.out q0 q1 q2 q3 q4 q5 q6 HQ.out.1 HQ.out.2.1 HQ.out.2.2.1 HQ.out.2.2.2.1 HQ.out.2.2.2.2.1 HQ.out.2.2.2.2.2 _ HS.out.m).mono ?_
  rintro e w2 ⟨rfl, hm, hf⟩
  replace HS := Aside0.mk (HS.out.step hm hf)
  replace C4 := Aside0.mk (hf.blk C4.out NE.out)
  clear hm hf
  cases hth : isThere a 8 with
  | false =>
    rw [show cE a = 2 from if_neg (by simp [hth])]
    by_cases h8 : Int.tmod a 8 = 0
    · have h9 : decide (65536 ≤ a) = true := by
        have ha := HA.out
        have h2 := of_decide_eq_false hth
        rw [Int.tmod_eq_emod_of_nonneg (by omega)] at h8
        exact decide_eq_true (by omega)
      have h8' : (Int.tmod a 8 != 0) = false := by simp [h8]
      clear hth h8
      go_wp2_with fail
      refine (lives_calls _).mono ?_
      rintro e w3 ⟨rfl, hb⟩
      have HE := Aside0.mk (below_step HS.out.b hb)
      clear hb
      go_wp2
      go_ret
      exact ⟨rfl, HE.out⟩
    · have h8' : (Int.tmod a 8 != 0) = true := by simp [h8]
      clear hth h8
      go_wp2_with fail
      refine (lives_calls _).mono ?_
      rintro e w3 ⟨rfl, hb⟩
      have HE := Aside0.mk (below_step HS.out.b hb)
      clear hb
      go_wp2
      go_ret
      exact ⟨rfl, HE.out⟩
  | true =>
    rw [show cE a = 0 from if_pos hth]
    have HT := Aside0.mk hth
    clear hth
    go_wp2_with fail
    refine (LoadCap_st zero_range a HA.out HT.out q0 q1 q2 q3 q4 q5 q6 HQ.out.1.1 _ HS.out.m).mono ?_
    obtain ⟨A, hA⟩ : ∃ A, capA q1 = A := ⟨_, rfl⟩
    obtain ⟨n1, hn1⟩ : ∃ A, capN q2 q3 q4 q5 q6 % 128 = A := ⟨_, rfl⟩
    obtain ⟨n2, hn2⟩ : ∃ A, capN q2 q3 q4 q5 q6 / 128 % 8 = A := ⟨_, rfl⟩
    obtain ⟨n3, hn3⟩ : ∃ A, capN q2 q3 q4 q5 q6 / 1024 % 16 = A := ⟨_, rfl⟩
    obtain ⟨n4, hn4⟩ : ∃ A, capN q2 q3 q4 q5 q6 / 16384 % 512 = A := ⟨_, rfl⟩
    obtain ⟨n5, hn5⟩ : ∃ A, capN q2 q3 q4 q5 q6 / 8388608 % 512 = A := ⟨_, rfl⟩
    have HL := fun (B : Nat → Int) (hB : ∀ i, 0 ≤ B i ∧ B i ≤ 255) (T : Nat → Bool) (g : Nat) => LoadCap_st (g := g) (T := T) hB a HA.out HT.out q0 q1 q2 q3 q4 q5 q6 HQ.out.1.1
    have HO := rof_callsE (nth q1 0) (nth q1 1) (nth q1 2) (nth q1 3) (nth (num2 q2 q3 q4 q5 q6) 0) (nth (num2 q2 q3 q4 q5 q6) 1) (nth (num2 q2 q3 q4 q5 q6) 2) (nth (num2 q2 q3 q4 q5 q6) 3) (by
      intro x hx
      simp only [List.mem_cons, List.not_mem_nil, or_false] at hx
      rcases hx with rfl | rfl | rfl | rfl | rfl | rfl | rfl | rfl <;> first | exact nth_u8 _ _ HQ.out.1.1 | exact nth_u8 _ _ (num2_range _ _ _ _ _).1) q0
    rw [show numOf [nth q1 0, nth q1 1, nth q1 2, nth q1 3] = capA q1 from rfl, show numOf [nth (num2 q2 q3 q4 q5 q6) 0, nth (num2 q2 q3 q4 q5 q6) 1, nth (num2 q2 q3 q4 q5 q6) 2, nth (num2 q2 q3 q4 q5 q6) 3] = capN q2 q3 q4 q5 q6 from rfl] at HO
    rw [hA, hn1, hn2, hn3, hn4, hn5] at HL HO ⊢
    replace HO := Aside0.mk HO
    replace HL := Aside0.mk HL
    clear hA hn1 hn2 hn3 hn4 hn5
    rintro e w3 ⟨rfl, hb⟩
    replace HS := Aside0.mk (HS.out.below hb)
    replace C4 := Aside0.mk (blk_below C4.out hb)
    clear hb
    have NE8 : Aside0 (¬ w3.heap.size = g) := ⟨by have := HS.out.m.lt; omega⟩
    go_wp2_with fail
    have hbl := (Below.refl w3.heap.size w3).alloc (Nat.le_refl _) (.cells #[.bool q0, .int .u32 A, .int .u8 n1, .int .u8 n2, .int .u8 n3, .int .u16 n4, .int .u16 n5] 30)
    replace HS := Aside0.mk (HS.out.below hbl)
    replace C4 := Aside0.mk (blk_below C4.out hbl)
    have C8 := Aside0.mk (heap_alloc_new w3 (.cells #[.bool q0, .int .u32 A, .int .u8 n1, .int .u8 n2, .int .u8 n3, .int .u16 n4, .int .u16 n5] 30))
    clear hbl
    generalize (w3.alloc (.cells #[.bool q0, .int .u32 A, .int .u8 n1, .int .u8 n2, .int .u8 n3, .int .u16 n4, .int .u16 n5] 30)) = w4 at *
    generalize w3.heap.size = b8 at *
    refine (Copy_ok _ HS.out.m).mono ?_
    rintro e w5 ⟨rfl, hm, hb⟩
    have NED : Aside0 (¬ w4.heap.size = g) := ⟨by have := HS.out.m.lt; omega⟩
    have HD := Aside0.mk hm
    replace HS := Aside0.mk (HS.out.below hb)
    replace C4 := Aside0.mk (blk_below C4.out hb)
    replace C8 := Aside0.mk (blk_below C8.out hb)
    clear hm hb
    generalize w4.heap.size = dd at *
    go_wp2_with fail
    refine (Store_any a 4 v HA.out HV.out _ HS.out.m).mono ?_
    rw [show stE a 4 = 0 from if_pos (ok4 HT.out)]
    rintro e w6 ⟨rfl, hm, hf⟩
    replace HS := Aside0.mk (HS.out.step hm hf)
    replace C4 := Aside0.mk (hf.blk C4.out NE.out)
    replace C8 := Aside0.mk (hf.blk C8.out NE8.out)
    replace HD := Aside0.mk (HD.out.fr hf NED.out)
    clear hm hf NE NE8 NED
    go_wp2_with fail
    refine (HL.out _ zero_range _ _ _ HD.out).mono ?_
    rintro e w7 ⟨rfl, hb⟩
    replace HS := Aside0.mk (HS.out.below hb)
    replace C4 := Aside0.mk (blk_below C4.out hb)
    replace C8 := Aside0.mk (blk_below C8.out hb)
    clear hb HD HL
    go_wp2_with fail
    have hbl := (Below.refl w7.heap.size w7).alloc (Nat.le_refl _) (.cells #[.bool q0, .int .u32 A, .int .u8 n1, .int .u8 n2, .int .u8 n3, .int .u16 n4, .int .u16 n5] 30)
    replace HS := Aside0.mk (HS.out.below hbl)
    replace C4 := Aside0.mk (blk_below C4.out hbl)
    replace C8 := Aside0.mk (blk_below C8.out hbl)
    have C12 := Aside0.mk (heap_alloc_new w7 (.cells #[.bool q0, .int .u32 A, .int .u8 n1, .int .u8 n2, .int .u8 n3, .int .u16 n4, .int .u16 n5] 30))
    clear hbl
    generalize (w7.alloc (.cells #[.bool q0, .int .u32 A, .int .u8 n1, .int .u8 n2, .int .u8 n3, .int .u16 n4, .int .u16 n5] 30)) = w8 at *
    generalize w7.heap.size = b12 at *
    refine (LoadCap_any (sB_range (cB_range zero_range _ _ _ _ _ _ _ HQ.out.1.1) _ _ _ HV.out.1) a HA.out _ HS.out.m).mono ?_
    rw [lT_sT _ _ HT.out, lA_sB _ _ _ HV.out HT.out, show cE a = 0 from if_pos HT.out]
    generalize lN (sB (cB (fun x => 0) a q1 q2 q3 q4 q5 q6) a 4 v) a = nn
    rintro e w9 ⟨rfl, hb⟩
    replace HS := Aside0.mk (HS.out.below hb)
    replace C4 := Aside0.mk (blk_below C4.out hb)
    replace C8 := Aside0.mk (blk_below C8.out hb)
    replace C12 := Aside0.mk (blk_below C12.out hb)
    clear hb
    go_wp2_with fail
    have hbl := (Below.refl w9.heap.size w9).alloc (Nat.le_refl _) (.cells #[.bool false, .int .u32 v, .int .u8 (nn % 128), .int .u8 (nn / 128 % 8), .int .u8 (nn / 1024 % 16), .int .u16 (nn / 16384 % 512), .int .u16 (nn / 8388608 % 512)] 30)
    replace HS := Aside0.mk (below_step HS.out.b hbl)
    replace C4 := Aside0.mk (blk_below C4.out hbl)
    replace C8 := Aside0.mk (blk_below C8.out hbl)
    replace C12 := Aside0.mk (blk_below C12.out hbl)
    have C14 := Aside0.mk (heap_alloc_new w9 (.cells #[.bool false, .int .u32 v, .int .u8 (nn % 128), .int .u8 (nn / 128 % 8), .int .u8 (nn / 1024 % 16), .int .u16 (nn / 16384 % 512), .int .u16 (nn / 8388608 % 512)] 30))
    clear hbl HG HT HV
    generalize (w9.alloc (.cells #[.bool false, .int .u32 v, .int .u8 (nn % 128), .int .u8 (nn / 128 % 8), .int .u8 (nn / 1024 % 16), .int .u16 (nn / 16384 % 512), .int .u16 (nn / 8388608 % 512)] 30)) = w10 at *
    generalize w9.heap.size = b14 at *
    generalize hb4 : w.heap.size = b4 at C4 ⊢
    have hs : w10.cell? ⟨b4, 0, none⟩ = some (.bool q0) ∧ w10.cell? ⟨b4, 1, none⟩ = some (.int .u32 q1) ∧ w10.cell? ⟨b4, 2, none⟩ = some (.int .u8 q2) ∧ w10.cell? ⟨b4, 3, none⟩ = some (.int .u8 q3) ∧ w10.cell? ⟨b4, 4, none⟩ = some (.int .u8 q4) ∧ w10.cell? ⟨b4, 5, none⟩ = some (.int .u16 q5) ∧ w10.cell? ⟨b4, 6, none⟩ = some (.int .u16 q6) ∧ w10.cell? ⟨b8, 0, none⟩ = some (.bool q0) ∧ w10.cell? ⟨b8, 1, none⟩ = some (.int .u32 A) ∧ w10.cell? ⟨b8, 2, none⟩ = some (.int .u8 n1) ∧ w10.cell? ⟨b8, 3, none⟩ = some (.int .u8 n2) ∧ w10.cell? ⟨b8, 4, none⟩ = some (.int .u8 n3) ∧ w10.cell? ⟨b8, 5, none⟩ = some (.int .u16 n4) ∧ w10.cell? ⟨b8, 6, none⟩ = some (.int .u16 n5) ∧ w10.cell? ⟨b12, 0, none⟩ = some (.bool q0) ∧ w10.cell? ⟨b12, 1, none⟩ = some (.int .u32 A) ∧ w10.cell? ⟨b12, 2, none⟩ = some (.int .u8 n1) ∧ w10.cell? ⟨b12, 3, none⟩ = some (.int .u8 n2) ∧ w10.cell? ⟨b12, 4, none⟩ = some (.int .u8 n3) ∧ w10.cell? ⟨b12, 5, none⟩ = some (.int .u16 n4) ∧ w10.cell? ⟨b12, 6, none⟩ = some (.int .u16 n5) ∧ w10.cell? ⟨b14, 0, none⟩ = some (.bool false) ∧ w10.cell? ⟨b14, 1, none⟩ = some (.int .u32 v) ∧ Below w.heap.size w w10 := ⟨(blk_cell C4.out 0).trans rfl, (blk_cell C4.out 1).trans rfl, (blk_cell C4.out 2).trans rfl, (blk_cell C4.out 3).trans rfl, (blk_cell C4.out 4).trans rfl, (blk_cell C4.out 5).trans rfl, (blk_cell C4.out 6).trans rfl, (blk_cell C8.out 0).trans rfl, (blk_cell C8.out 1).trans rfl, (blk_cell C8.out 2).trans rfl, (blk_cell C8.out 3).trans rfl, (blk_cell C8.out 4).trans rfl, (blk_cell C8.out 5).trans rfl, (blk_cell C8.out 6).trans rfl, (blk_cell C12.out 0).trans rfl, (blk_cell C12.out 1).trans rfl, (blk_cell C12.out 2).trans rfl, (blk_cell C12.out 3).trans rfl, (blk_cell C12.out 4).trans rfl, (blk_cell C12.out 5).trans rfl, (blk_cell C12.out 6).trans rfl, (blk_cell C14.out 0).trans rfl, (blk_cell C14.out 1).trans rfl, HS.out⟩
    have HBY := Aside0.mk (rbytes_callsE q0 q1 q2 q3 q4 q5 q6 HQ.out.1 HQ.out.2.1 HQ.out.2.2.1 HQ.out.2.2.2.1 HQ.out.2.2.2.2.1 HQ.out.2.2.2.2.2)
    go_region_held3 (fun w' => w'.cell? ⟨b4, 0, none⟩ = some (.bool q0) ∧ w'.cell? ⟨b4, 1, none⟩ = some (.int .u32 q1) ∧ w'.cell? ⟨b4, 2, none⟩ = some (.int .u8 q2) ∧ w'.cell? ⟨b4, 3, none⟩ = some (.int .u8 q3) ∧ w'.cell? ⟨b4, 4, none⟩ = some (.int .u8 q4) ∧ w'.cell? ⟨b4, 5, none⟩ = some (.int .u16 q5) ∧ w'.cell? ⟨b4, 6, none⟩ = some (.int .u16 q6) ∧ w'.cell? ⟨b8, 0, none⟩ = some (.bool q0) ∧ w'.cell? ⟨b8, 1, none⟩ = some (.int .u32 A) ∧ w'.cell? ⟨b8, 2, none⟩ = some (.int .u8 n1) ∧ w'.cell? ⟨b8, 3, none⟩ = some (.int .u8 n2) ∧ w'.cell? ⟨b8, 4, none⟩ = some (.int .u8 n3) ∧ w'.cell? ⟨b8, 5, none⟩ = some (.int .u16 n4) ∧ w'.cell? ⟨b8, 6, none⟩ = some (.int .u16 n5) ∧ w'.cell? ⟨b12, 0, none⟩ = some (.bool q0) ∧ w'.cell? ⟨b12, 1, none⟩ = some (.int .u32 A) ∧ w'.cell? ⟨b12, 2, none⟩ = some (.int .u8 n1) ∧ w'.cell? ⟨b12, 3, none⟩ = some (.int .u8 n2) ∧ w'.cell? ⟨b12, 4, none⟩ = some (.int .u8 n3) ∧ w'.cell? ⟨b12, 5, none⟩ = some (.int .u16 n4) ∧ w'.cell? ⟨b12, 6, none⟩ = some (.int .u16 n5) ∧ w'.cell? ⟨b14, 0, none⟩ = some (.bool false) ∧ w'.cell? ⟨b14, 1, none⟩ = some (.int .u32 v) ∧ Below w.heap.size w w') (first | (with_reducible refine keepKD ?_; with_reducible assumption) | (with_reducible exact keepK (by with_reducible assumption) (by with_reducible assumption))) (first | (go_at_call 18; ((with_reducible refine (HBY.out _).mono ?_)); rintro e w' ⟨rfl, hb⟩) | (go_at_call 17; ((with_reducible refine (HO.out _).mono ?_)); rintro e w' ⟨rfl, hb⟩) | (go_at_call 13; ((with_reducible refine (lives_calls _).mono ?_)); rintro e w' ⟨rfl, hb⟩))
    rename_i hH_
    have HE := Aside0.mk hH_.2.2.2.2.2.2.2.2.2.2.2.2.2.2.2.2.2.2.2.2.2.2.2
    clear hH_ hs
    go_wp2
    go_ret
    exact ⟨rfl, HE.out⟩
end Go.Proofs.Ytiiemfnaegapmaa.Q
