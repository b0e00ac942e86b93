-- The memory's functions: LoadCap, StoreCap, Copy, by hand. Lean checks it.
import Derived.Test.YtiiemfnaegapmaaH3
namespace Go.Proofs.Ytiiemfnaegapmaa.Q
open Go.Proofs.Ytiiemfnaegapmaa.Pure Go.Proofs.Ytiiemfnaegapmaa.Z
open Go.RowKit Go.Proofs.YtiiemfnaegapmaaW.PrintWords Go.Proofs.YtiiemfnaegapmaaW.PrintLast Go.Proofs.YtiiemfnaegapmaaW.PrintMore
set_option linter.unusedVariables false
set_option linter.unusedSimpArgs false
theorem bytes_callsE (g : Bool) (a p t e b u : Int) (ha : 0 ≤ a ∧ a < 4294967296) (hp : 0 ≤ p ∧ p ≤ 255) (ht : 0 ≤ t ∧ t ≤ 255) (he : 0 ≤ e ∧ e ≤ 255) (hb : 0 ≤ b ∧ b ≤ 65535) (hu : 0 ≤ u ∧ u ≤ 65535) (w : World) : Calls Try.prog 25 #[.agg #[.bool g, .int .u32 a, .int .u8 p, .int .u8 t, .int .u8 e, .int .u16 b, .int .u16 u]] w fun x w' => x = .returned (.agg #[.int .u8 (nth a 0), .int .u8 (nth a 1), .int .u8 (nth a 2), .int .u8 (nth a 3), .int .u8 (nth (num2 p t e b u) 0), .int .u8 (nth (num2 p t e b u) 1), .int .u8 (nth (num2 p t e b u) 2), .int .u8 (nth (num2 p t e b u) 3)]) ∧ Below w.heap.size w w' := bytes_calls g a p t e b u ha hp ht he hb hu w
theorem rbytes_callsE (g : Bool) (a p t e b u : Int) (ha : 0 ≤ a ∧ a < 4294967296) (hp : 0 ≤ p ∧ p ≤ 255) (ht : 0 ≤ t ∧ t ≤ 255) (he : 0 ≤ e ∧ e ≤ 255) (hb : 0 ≤ b ∧ b ≤ 65535) (hu : 0 ≤ u ∧ u ≤ 65535) (w : World) : Calls Try.prog 18 #[.agg #[.bool g, .int .u32 a, .int .u8 p, .int .u8 t, .int .u8 e, .int .u16 b, .int .u16 u]] w fun x w' => x = .returned (.agg #[.int .u8 (nth a 0), .int .u8 (nth a 1), .int .u8 (nth a 2), .int .u8 (nth a 3), .int .u8 (nth (num2 p t e b u) 0), .int .u8 (nth (num2 p t e b u) 1), .int .u8 (nth (num2 p t e b u) 2), .int .u8 (nth (num2 p t e b u) 3)]) ∧ Below w.heap.size w w' := rbytes_calls g a p t e b u ha hp ht he hb hu w
theorem of_callsE (x0 x1 x2 x3 x4 x5 x6 x7 : Int) (hb : AllBytes [x0, x1, x2, x3, x4, x5, x6, x7]) (tag : Bool) (w : World) : Calls Try.prog 30 #[.agg #[.int .u8 x0, .int .u8 x1, .int .u8 x2, .int .u8 x3, .int .u8 x4, .int .u8 x5, .int .u8 x6, .int .u8 x7], .bool tag] w fun x w' => x = .returned (.agg #[.bool tag, .int .u32 (numOf [x0, x1, x2, x3]), .int .u8 (numOf [x4, x5, x6, x7] % 128), .int .u8 (numOf [x4, x5, x6, x7] / 128 % 8), .int .u8 (numOf [x4, x5, x6, x7] / 1024 % 16), .int .u16 (numOf [x4, x5, x6, x7] / 16384 % 512), .int .u16 (numOf [x4, x5, x6, x7] / 8388608 % 512)]) ∧ Below w.heap.size w w' := of_calls x0 x1 x2 x3 x4 x5 x6 x7 hb tag w
theorem rof_callsE (x0 x1 x2 x3 x4 x5 x6 x7 : Int) (hb : AllBytes [x0, x1, x2, x3, x4, x5, x6, x7]) (tag : Bool) (w : World) : Calls Try.prog 17 #[.agg #[.int .u8 x0, .int .u8 x1, .int .u8 x2, .int .u8 x3, .int .u8 x4, .int .u8 x5, .int .u8 x6, .int .u8 x7], .bool tag] w fun x w' => x = .returned (.agg #[.bool tag, .int .u32 (numOf [x0, x1, x2, x3]), .int .u8 (numOf [x4, x5, x6, x7] % 128), .int .u8 (numOf [x4, x5, x6, x7] / 128 % 8), .int .u8 (numOf [x4, x5, x6, x7] / 1024 % 16), .int .u16 (numOf [x4, x5, x6, x7] / 16384 % 512), .int .u16 (numOf [x4, x5, x6, x7] / 8388608 % 512)]) ∧ Below w.heap.size w w' := rof_calls x0 x1 x2 x3 x4 x5 x6 x7 hb tag w
/-- The numbers of a capability that is loaded: address, permissions, type, exponent, base, top. -/
def ldA (B : Nat → Int) (n : Nat) : Int := numOf [B n, B (n + 1), B (n + 2), B (n + 3)]
def ldN (B : Nat → Int) (n : Nat) : Int := numOf [B (n + 4), B (n + 5), B (n + 6), B (n + 7)]
theorem bcell {W w1 : World} (hb : Below W.heap.size W w1) : (∀ b o, b < W.heap.size → w1.cell? ⟨b, o, none⟩ = W.cell? ⟨b, o, none⟩) ∧ (∀ b o, b < W.heap.size → w1.frozen? ⟨b, o, none⟩ = W.frozen? ⟨b, o, none⟩) :=
  ⟨fun b o h => hb.cell (p := ⟨b, o, none⟩) h, fun b o h => hb.frozen (p := ⟨b, o, none⟩) h⟩
theorem ldM {w W w' : World} {g : Nat} {B : Nat → Int} {T : Nat → Bool} (k : Below W.heap.size W w') (h : Mem W g true B T) : Mem w' g true B T := h.below k
theorem results_cell_tmp {fn : Func} {p q : Tmp} {ty : TypeId} (h : fn.results = #[.cell p ty, .tmp q]) (tmps : Array Value) (w : World) (g : Nat) (t : TypeId) (cs : Array Value) (fr : Nat × Nat) (d : TypeDesc)
    (hp : tmps.getD p undef = .pointer (some ⟨g, 0, none⟩)) (hg : w.heap[g]? = some (.cells cs t fr))
    (hd : (match d with | .struct _ | .array _ _ => true | _ => false) = true) (hu : Try.prog.underlying ty = some d) (hi : (Try.prog.info? ty).map (·.size) = some cs.size) :
    (results fn tmps).run Try.prog w = .ok (.tuple #[.agg cs, tmps.getD q undef]) w := by
  have hp' : tmps[p]?.getD undef = .pointer (some ⟨g, 0, none⟩) := by simpa using hp
  have hl := run_loadVar_row (P := Try.prog) w g t ty cs fr d hg hu (by cases d <;> simp_all) hi
  unfold results
  rw [h, Array.mapM_eq_foldlM]
  simp [hp', asAddr, hl]
theorem row8_bytes {B : Nat → Int} (hB : ∀ i, 0 ≤ B i ∧ B i ≤ 255) (n : Nat) : AllBytes [B n, B (n + 1), B (n + 2), B (n + 3), B (n + 4), B (n + 5), B (n + 6), B (n + 7)] := by
  intro x hx
  simp only [List.mem_cons, List.not_mem_nil, or_false] at hx
  rcases hx with rfl | rfl | rfl | rfl | rfl | rfl | rfl | rfl <;> exact hB _
theorem keepL {w W W2 : World} {g n : Nat} {B : Nat → Int} {T : Nat → Bool} (k : Below W.heap.size W W2) (h : W.cell? ⟨g, 1 + n, none⟩ = some (.int .u8 (B n)) ∧ W.cell? ⟨g, 1 + n + 1, none⟩ = some (.int .u8 (B (n + 1))) ∧ W.cell? ⟨g, 1 + n + 2, none⟩ = some (.int .u8 (B (n + 2))) ∧ W.cell? ⟨g, 1 + n + 3, none⟩ = some (.int .u8 (B (n + 3))) ∧ W.cell? ⟨g, 1 + n + 4, none⟩ = some (.int .u8 (B (n + 4))) ∧ W.cell? ⟨g, 1 + n + 5, none⟩ = some (.int .u8 (B (n + 5))) ∧ W.cell? ⟨g, 1 + n + 6, none⟩ = some (.int .u8 (B (n + 6))) ∧ W.cell? ⟨g, 1 + n + 7, none⟩ = some (.int .u8 (B (n + 7))) ∧ W.cell? ⟨g, 65537 + n / 8, none⟩ = some (.bool (T (n / 8))) ∧ Below w.heap.size w W ∧ w.heap.size < W.heap.size) : W2.cell? ⟨g, 1 + n, none⟩ = some (.int .u8 (B n)) ∧ W2.cell? ⟨g, 1 + n + 1, none⟩ = some (.int .u8 (B (n + 1))) ∧ W2.cell? ⟨g, 1 + n + 2, none⟩ = some (.int .u8 (B (n + 2))) ∧ W2.cell? ⟨g, 1 + n + 3, none⟩ = some (.int .u8 (B (n + 3))) ∧ W2.cell? ⟨g, 1 + n + 4, none⟩ = some (.int .u8 (B (n + 4))) ∧ W2.cell? ⟨g, 1 + n + 5, none⟩ = some (.int .u8 (B (n + 5))) ∧ W2.cell? ⟨g, 1 + n + 6, none⟩ = some (.int .u8 (B (n + 6))) ∧ W2.cell? ⟨g, 1 + n + 7, none⟩ = some (.int .u8 (B (n + 7))) ∧ W2.cell? ⟨g, 65537 + n / 8, none⟩ = some (.bool (T (n / 8))) ∧ Below w.heap.size w W2 ∧ w.heap.size < W2.heap.size := by
  obtain ⟨h0, h1, h2, h3, h4, h5, h6, h7, h8, h9, h10⟩ := h
  exact ⟨(k.cell (World.block_lt_of_cell? _ _ h0)).trans h0, (k.cell (World.block_lt_of_cell? _ _ h1)).trans h1, (k.cell (World.block_lt_of_cell? _ _ h2)).trans h2, (k.cell (World.block_lt_of_cell? _ _ h3)).trans h3, (k.cell (World.block_lt_of_cell? _ _ h4)).trans h4, (k.cell (World.block_lt_of_cell? _ _ h5)).trans h5, (k.cell (World.block_lt_of_cell? _ _ h6)).trans h6, (k.cell (World.block_lt_of_cell? _ _ h7)).trans h7, (k.cell (World.block_lt_of_cell? _ _ h8)).trans h8, below_step h9 k, Nat.lt_of_lt_of_le h10 k.size⟩
theorem keepLD {w W : World} {g n : Nat} {B : Nat → Int} {T : Nat → Bool} (h : W.cell? ⟨g, 1 + n, none⟩ = some (.int .u8 (B n)) ∧ W.cell? ⟨g, 1 + n + 1, none⟩ = some (.int .u8 (B (n + 1))) ∧ W.cell? ⟨g, 1 + n + 2, none⟩ = some (.int .u8 (B (n + 2))) ∧ W.cell? ⟨g, 1 + n + 3, none⟩ = some (.int .u8 (B (n + 3))) ∧ W.cell? ⟨g, 1 + n + 4, none⟩ = some (.int .u8 (B (n + 4))) ∧ W.cell? ⟨g, 1 + n + 5, none⟩ = some (.int .u8 (B (n + 5))) ∧ W.cell? ⟨g, 1 + n + 6, none⟩ = some (.int .u8 (B (n + 6))) ∧ W.cell? ⟨g, 1 + n + 7, none⟩ = some (.int .u8 (B (n + 7))) ∧ W.cell? ⟨g, 65537 + n / 8, none⟩ = some (.bool (T (n / 8))) ∧ Below w.heap.size w W ∧ w.heap.size < W.heap.size) : W.drew.cell? ⟨g, 1 + n, none⟩ = some (.int .u8 (B n)) ∧ W.drew.cell? ⟨g, 1 + n + 1, none⟩ = some (.int .u8 (B (n + 1))) ∧ W.drew.cell? ⟨g, 1 + n + 2, none⟩ = some (.int .u8 (B (n + 2))) ∧ W.drew.cell? ⟨g, 1 + n + 3, none⟩ = some (.int .u8 (B (n + 3))) ∧ W.drew.cell? ⟨g, 1 + n + 4, none⟩ = some (.int .u8 (B (n + 4))) ∧ W.drew.cell? ⟨g, 1 + n + 5, none⟩ = some (.int .u8 (B (n + 5))) ∧ W.drew.cell? ⟨g, 1 + n + 6, none⟩ = some (.int .u8 (B (n + 6))) ∧ W.drew.cell? ⟨g, 1 + n + 7, none⟩ = some (.int .u8 (B (n + 7))) ∧ W.drew.cell? ⟨g, 65537 + n / 8, none⟩ = some (.bool (T (n / 8))) ∧ Below w.heap.size w W.drew ∧ w.heap.size < W.drew.heap.size := ⟨h.1, h.2.1, h.2.2.1, h.2.2.2.1, h.2.2.2.2.1, h.2.2.2.2.2.1, h.2.2.2.2.2.2.1, h.2.2.2.2.2.2.2.1, h.2.2.2.2.2.2.2.2.1, h.2.2.2.2.2.2.2.2.2.1.drew, h.2.2.2.2.2.2.2.2.2.2⟩
theorem keepLS {w W : World} {g n j : Nat} {B : Nat → Int} {T : Nat → Bool} (u : Value) (h : W.cell? ⟨g, 1 + n, none⟩ = some (.int .u8 (B n)) ∧ W.cell? ⟨g, 1 + n + 1, none⟩ = some (.int .u8 (B (n + 1))) ∧ W.cell? ⟨g, 1 + n + 2, none⟩ = some (.int .u8 (B (n + 2))) ∧ W.cell? ⟨g, 1 + n + 3, none⟩ = some (.int .u8 (B (n + 3))) ∧ W.cell? ⟨g, 1 + n + 4, none⟩ = some (.int .u8 (B (n + 4))) ∧ W.cell? ⟨g, 1 + n + 5, none⟩ = some (.int .u8 (B (n + 5))) ∧ W.cell? ⟨g, 1 + n + 6, none⟩ = some (.int .u8 (B (n + 6))) ∧ W.cell? ⟨g, 1 + n + 7, none⟩ = some (.int .u8 (B (n + 7))) ∧ W.cell? ⟨g, 65537 + n / 8, none⟩ = some (.bool (T (n / 8))) ∧ Below w.heap.size w W ∧ w.heap.size < W.heap.size) (hg : g < w.heap.size) : (W.setCell ⟨w.heap.size, j, none⟩ u).cell? ⟨g, 1 + n, none⟩ = some (.int .u8 (B n)) ∧ (W.setCell ⟨w.heap.size, j, none⟩ u).cell? ⟨g, 1 + n + 1, none⟩ = some (.int .u8 (B (n + 1))) ∧ (W.setCell ⟨w.heap.size, j, none⟩ u).cell? ⟨g, 1 + n + 2, none⟩ = some (.int .u8 (B (n + 2))) ∧ (W.setCell ⟨w.heap.size, j, none⟩ u).cell? ⟨g, 1 + n + 3, none⟩ = some (.int .u8 (B (n + 3))) ∧ (W.setCell ⟨w.heap.size, j, none⟩ u).cell? ⟨g, 1 + n + 4, none⟩ = some (.int .u8 (B (n + 4))) ∧ (W.setCell ⟨w.heap.size, j, none⟩ u).cell? ⟨g, 1 + n + 5, none⟩ = some (.int .u8 (B (n + 5))) ∧ (W.setCell ⟨w.heap.size, j, none⟩ u).cell? ⟨g, 1 + n + 6, none⟩ = some (.int .u8 (B (n + 6))) ∧ (W.setCell ⟨w.heap.size, j, none⟩ u).cell? ⟨g, 1 + n + 7, none⟩ = some (.int .u8 (B (n + 7))) ∧ (W.setCell ⟨w.heap.size, j, none⟩ u).cell? ⟨g, 65537 + n / 8, none⟩ = some (.bool (T (n / 8))) ∧ Below w.heap.size w (W.setCell ⟨w.heap.size, j, none⟩ u) ∧ w.heap.size < (W.setCell ⟨w.heap.size, j, none⟩ u).heap.size := by
  obtain ⟨h0, h1, h2, h3, h4, h5, h6, h7, h8, h9, h10⟩ := h
  have hc : ∀ i, (W.setCell ⟨w.heap.size, j, none⟩ u).cell? ⟨g, i, none⟩ = W.cell? ⟨g, i, none⟩ := fun i => World.cell?_of_block (Below.heap_setCell W ⟨w.heap.size, j, none⟩ u g (by show g ≠ w.heap.size; omega))
  exact ⟨(hc _).trans h0, (hc _).trans h1, (hc _).trans h2, (hc _).trans h3, (hc _).trans h4, (hc _).trans h5, (hc _).trans h6, (hc _).trans h7, (hc _).trans h8, h9.setCell (Nat.le_refl _) u, by simpa [World.setCell] using h10⟩
set_option maxHeartbeats 8000000 in
set_option maxRecDepth 100000 in
theorem LoadCap_ok {g : Nat} {B : Nat → Int} {T : Nat → Bool} (hB : ∀ i, 0 ≤ B i ∧ B i ≤ 255) (n : Nat) (w : World) (hM : Mem w g true B T) (hd : n % 8 = 0) (hn : n + 8 ≤ 65536) :
    Calls Try.prog 15 #[.pointer (some ⟨g, 0, none⟩), .int .u32 n] w fun e w' => e = .returned (.tuple #[.agg #[.bool (T (n / 8)), .int .u32 (ldA B n), .int .u8 (ldN B n % 128), .int .u8 (ldN B n / 128 % 8), .int .u8 (ldN B n / 1024 % 16), .int .u16 (ldN B n / 16384 % 512), .int .u16 (ldN B n / 8388608 % 512)], .int .i64 0]) ∧ Below w.heap.size w w' := by
  have HM := Aside0.mk hM
  have HBY := Aside0.mk hB
  have hth : isThere (n : Int) 8 = true := by unfold isThere; exact decide_eq_true ⟨by omega, by omega⟩
  have HN := Aside0.mk hn
  have HB : Aside0 (Below w.heap.size w (w.alloc (.cells #[.bool false, .int .u32 0, .int .u8 0, .int .u8 0, .int .u8 0, .int .u16 0, .int .u16 0] 30))) := ⟨(Below.refl _ _).alloc (Nat.le_refl _) _⟩
  have HM1 := Aside0.mk (HM.out.below HB.out)
  have hu30 := Try.underlying30
  have hu51 := Try.underlying51
  have h1 : (n : Int) + 8 ≤ 65536 := by omega
  have h2 : n / 8 < 8192 := by omega
  have h3 : n < 65536 := by omega
  have hw : IntKind.u32.wrap ((n : Int) + 8) = (n : Int) + 8 := by simp [IntKind.wrap, IntKind.bits, IntKind.signed]; omega
  have hsl := slice61_2 g n 8 .u32 .u32 hn
  rw [if_neg (by omega)] at hsl
  simp only [show ((8 : Nat) : Int) = 8 from rfl] at hsl
  have har := fun (w : World) => run_arrayAt (P := Try.prog) (w := w) 51 5 8 (some ⟨g, 1 + n, none⟩) 8 (65536 - n) Try.underlying51 (Nat.le_refl _)
  have hcap : 8 ≤ 65536 - n := by omega
  clear hM hd hn hB
  go_enter Try.func15, Try.ntmps15
  go_wp2_with fail
  refine (none_calls HM1.out).mono ?_
  rintro e w1 ⟨rfl, rfl⟩
  go_wp2_with fail
  refine (there_calls (n : Int) 8 (by have := HN.out; omega) (by decide) _).mono ?_
  rw [hth]
  rintro e w1 ⟨rfl, rfl⟩
  clear hth
  go_wp2_with fail
  have q1 : Int.tdiv (n : Int) 8 = (n : Int) / 8 := Int.tdiv_eq_ediv_of_nonneg (by omega)
  have q2 : IntKind.u32.wrap ((n : Int) / 8) = (n : Int) / 8 := by simp [IntKind.wrap, IntKind.bits, IntKind.signed]; omega
  have q3 : (0 : Int) ≤ (n : Int) / 8 := by omega
  have q4 : (n : Int) / 8 < 8192 := by omega
  have q5 : ((n : Int) / 8).toNat = n / 8 := by omega
  have hgl : g < w.heap.size := HM.out.lt
  have hs : (w.alloc (.cells #[.bool false, .int .u32 0, .int .u8 0, .int .u8 0, .int .u8 0, .int .u16 0, .int .u16 0] 30)).cell? ⟨g, 1 + n, none⟩ = some (.int .u8 (B n)) ∧ (w.alloc (.cells #[.bool false, .int .u32 0, .int .u8 0, .int .u8 0, .int .u8 0, .int .u16 0, .int .u16 0] 30)).cell? ⟨g, 1 + n + 1, none⟩ = some (.int .u8 (B (n + 1))) ∧ (w.alloc (.cells #[.bool false, .int .u32 0, .int .u8 0, .int .u8 0, .int .u8 0, .int .u16 0, .int .u16 0] 30)).cell? ⟨g, 1 + n + 2, none⟩ = some (.int .u8 (B (n + 2))) ∧ (w.alloc (.cells #[.bool false, .int .u32 0, .int .u8 0, .int .u8 0, .int .u8 0, .int .u16 0, .int .u16 0] 30)).cell? ⟨g, 1 + n + 3, none⟩ = some (.int .u8 (B (n + 3))) ∧ (w.alloc (.cells #[.bool false, .int .u32 0, .int .u8 0, .int .u8 0, .int .u8 0, .int .u16 0, .int .u16 0] 30)).cell? ⟨g, 1 + n + 4, none⟩ = some (.int .u8 (B (n + 4))) ∧ (w.alloc (.cells #[.bool false, .int .u32 0, .int .u8 0, .int .u8 0, .int .u8 0, .int .u16 0, .int .u16 0] 30)).cell? ⟨g, 1 + n + 5, none⟩ = some (.int .u8 (B (n + 5))) ∧ (w.alloc (.cells #[.bool false, .int .u32 0, .int .u8 0, .int .u8 0, .int .u8 0, .int .u16 0, .int .u16 0] 30)).cell? ⟨g, 1 + n + 6, none⟩ = some (.int .u8 (B (n + 6))) ∧ (w.alloc (.cells #[.bool false, .int .u32 0, .int .u8 0, .int .u8 0, .int .u8 0, .int .u16 0, .int .u16 0] 30)).cell? ⟨g, 1 + n + 7, none⟩ = some (.int .u8 (B (n + 7))) ∧ (w.alloc (.cells #[.bool false, .int .u32 0, .int .u8 0, .int .u8 0, .int .u8 0, .int .u16 0, .int .u16 0] 30)).cell? ⟨g, 65537 + n / 8, none⟩ = some (.bool (T (n / 8))) ∧ Below w.heap.size w (w.alloc (.cells #[.bool false, .int .u32 0, .int .u8 0, .int .u8 0, .int .u8 0, .int .u16 0, .int .u16 0] 30)) ∧ w.heap.size < (w.alloc (.cells #[.bool false, .int .u32 0, .int .u8 0, .int .u8 0, .int .u8 0, .int .u16 0, .int .u16 0] 30)).heap.size := ⟨(HM1.out.byte n (by omega)), (HM1.out.byte (n + 1) (by omega)), (HM1.out.byte (n + 2) (by omega)), (HM1.out.byte (n + 3) (by omega)), (HM1.out.byte (n + 4) (by omega)), (HM1.out.byte (n + 5) (by omega)), (HM1.out.byte (n + 6) (by omega)), (HM1.out.byte (n + 7) (by omega)), HM1.out.tag (n / 8) h2, HB.out, by simp⟩
  have HO := Aside0.mk (of_callsE (B n) (B (n + 1)) (B (n + 2)) (B (n + 3)) (B (n + 4)) (B (n + 5)) (B (n + 6)) (B (n + 7)) (row8_bytes HBY.out n) (T (n / 8)))
  go_region_held3 (fun w' => w'.cell? ⟨g, 1 + n, none⟩ = some (.int .u8 (B n)) ∧ w'.cell? ⟨g, 1 + n + 1, none⟩ = some (.int .u8 (B (n + 1))) ∧ w'.cell? ⟨g, 1 + n + 2, none⟩ = some (.int .u8 (B (n + 2))) ∧ w'.cell? ⟨g, 1 + n + 3, none⟩ = some (.int .u8 (B (n + 3))) ∧ w'.cell? ⟨g, 1 + n + 4, none⟩ = some (.int .u8 (B (n + 4))) ∧ w'.cell? ⟨g, 1 + n + 5, none⟩ = some (.int .u8 (B (n + 5))) ∧ w'.cell? ⟨g, 1 + n + 6, none⟩ = some (.int .u8 (B (n + 6))) ∧ w'.cell? ⟨g, 1 + n + 7, none⟩ = some (.int .u8 (B (n + 7))) ∧ w'.cell? ⟨g, 65537 + n / 8, none⟩ = some (.bool (T (n / 8))) ∧ Below w.heap.size w w' ∧ w.heap.size < w'.heap.size) (first | (with_reducible refine keepLD ?_; with_reducible assumption) | (with_reducible exact keepL (by with_reducible assumption) (by with_reducible assumption)) | (repeat (first | with_reducible assumption | with_reducible refine keepLS _ ?_ (by with_reducible assumption)))) (first | (go_at_call 30; ((with_reducible refine (HO.out _).mono ?_)); rintro e w' ⟨rfl, hb⟩; have hbc_ := (bcell hb).1; have hbf_ := (bcell hb).2))
  rename_i hH_
  have HE := Aside0.mk hH_.2.2.2.2.2.2.2.2.2.1
  have BZ := Aside0.mk (blk_below (blk_below (heap_alloc_new w (.cells #[.bool false, .int .u32 0, .int .u8 0, .int .u8 0, .int .u8 0, .int .u16 0, .int .u16 0] 30)) ((Below.refl _ _).drew)) hb)
  clear hH_ hs hbc_ hbf_
  go_wp2
  refine bodyPost_ret (results_cell_tmp rfl _ _ w.heap.size 30 #[.bool (T (n / 8)), .int .u32 (ldA B n), .int .u8 (ldN B n % 128), .int .u8 (ldN B n / 128 % 8), .int .u8 (ldN B n / 1024 % 16), .int .u16 (ldN B n / 16384 % 512), .int .u16 (ldN B n / 8388608 % 512)] (0, 0) _ rfl (put7 (.bool (T (n / 8))) (.int .u32 (ldA B n)) (.int .u8 (ldN B n % 128)) (.int .u8 (ldN B n / 128 % 8)) (.int .u8 (ldN B n / 1024 % 16)) (.int .u16 (ldN B n / 16384 % 512)) (.int .u16 (ldN B n / 8388608 % 512)) BZ.out) rfl Try.underlying30 (by kernel_rfl)) rfl ?_
  exact ⟨rfl, HE.out⟩
end Go.Proofs.Ytiiemfnaegapmaa.Q
