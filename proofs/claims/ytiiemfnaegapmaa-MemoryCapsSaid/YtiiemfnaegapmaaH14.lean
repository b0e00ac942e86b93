-- What lives, whether two are alike, and the law on none. Lean checks it.
import Derived.Test.YtiiemfnaegapmaaH13
namespace Go.Proofs.Ytiiemfnaegapmaa.Q
open Go.Proofs.Ytiiemfnaegapmaa.Pure Go.Proofs.Ytiiemfnaegapmaa.Z
open Go.RowKit Go.Proofs.YtiiemfnaegapmaaW.PrintWords Go.Proofs.YtiiemfnaegapmaaW.PrintLast Go.Proofs.YtiiemfnaegapmaaW.PrintMore
set_option linter.unusedVariables false
set_option linter.unusedSimpArgs false
def lT0 : Nat → Bool := cT (fun _ => false) 8 true
def lB0 : Nat → Int := cB (fun _ => 0) 8 4096 39 0 4 256 0
def lT1 : Nat → Bool := sT lT0 12 1
def lB1 : Nat → Int := sB lB0 12 1 7
theorem lives_facts : cE 8 = 0 ∧ tV lT0 0 16 = 1 ∧ pE 0 16 = 0 ∧ stE 12 1 = 0 ∧ tV lT1 0 16 = 0 ∧ lV lB1 12 1 = 7 ∧ stE 2 4 = 2 := by
  refine ⟨?_, ?_, ?_, ?_, ?_, ?_, ?_⟩ <;> decide +kernel
theorem root_fact : bulwarkref03_Root.f 40 4096 8192 39 = some (true, 4096, 39, 0, 4, 256, 0, 0) := by kernel_rfl
theorem zero_range : ∀ i : Nat, 0 ≤ (fun _ : Nat => (0 : Int)) i ∧ (fun _ : Nat => (0 : Int)) i ≤ 255 := fun _ => ⟨Int.le_refl _, by show (0 : Int) ≤ 255; decide⟩
theorem lB1_range : ∀ i, 0 ≤ lB1 i ∧ lB1 i ≤ 255 := sB_range (cB_range zero_range _ _ _ _ _ _ _ (by decide)) _ _ _ (by decide)
theorem bstep {B : Nat} {w0 W W2 : World} (h : Below B w0 W) (hB : B ≤ W.heap.size) (k : Below W.heap.size W W2) : Below B w0 W2 := h.trans (k.mono hB)
/-- The memory, and what has turned since the elder world: all of it from block g on. -/
structure St (w0 W : World) (g : Nat) (B : Nat → Int) (T : Nat → Bool) : Prop where
  m : Mem W g true B T
  b : Below w0.heap.size w0 W
  g0 : w0.heap.size ≤ g
theorem St.below {w0 W W2 : World} {g : Nat} {B : Nat → Int} {T : Nat → Bool} (h : St w0 W g B T) (k : Below W.heap.size W W2) : St w0 W2 g B T := ⟨h.m.below k, below_step h.b k, h.g0⟩
theorem St.step {w0 W W2 : World} {g : Nat} {B B' : Nat → Int} {T T' : Nat → Bool} (h : St w0 W g B T) (k : Mem W2 g true B' T') (f : Fr (fun i => i = g) W W2) : St w0 W2 g B' T' := ⟨k, f.below h.b (fun i e => e ▸ h.g0) h.b.size, h.g0⟩
theorem St.alloc {w0 W : World} {g : Nat} {B : Nat → Int} {T : Nat → Bool} (h : St w0 W g B T) (o : Obj) : St w0 (W.alloc o) g B T := h.below ((Below.refl _ _).alloc (Nat.le_refl _) o)
set_option maxRecDepth 100000 in
set_option maxHeartbeats 8000000 in
theorem lives_calls (w : World) : Calls Try.prog 13 #[] w fun e w' => e = .returned (.bool true) ∧ Below w.heap.size w w' := by
  have hu30 := Try.underlying30
  obtain ⟨f1, f2, f3, f4, f5, f6, f7⟩ := lives_facts
  have F := Aside0.mk (And.intro f1 (And.intro f2 (And.intro f3 (And.intro f4 (And.intro f5 (And.intro f6 f7))))))
  clear f1 f2 f3 f4 f5 f6 f7
  obtain ⟨g, HG⟩ : ∃ g, Aside0 (g = w.heap.size) := ⟨_, ⟨rfl⟩⟩
  go_enter Try.func13, Try.ntmps13
  go_wp2_with fail
  refine (New_calls _).mono ?_
  rintro e w1 ⟨rfl, hm, hb⟩
  have HS := Aside0.mk (St.mk hm hb (Nat.le_refl _))
  clear hm hb
  rw [← HG.out] at HS ⊢
  go_wp2_with fail
  refine (bulwarkref03_Root.calls 40 4096 8192 39 _ _ _ _ _ _ _ _ _ root_fact).mono ?_
  rintro e w2 ⟨rfl, hb⟩
  replace HS := Aside0.mk (HS.out.below hb)
  clear hb
  go_wp2_with fail
  replace HS := Aside0.mk (HS.out.alloc (.cells #[.bool true, .int .u32 4096, .int .u8 39, .int .u8 0, .int .u8 4, .int .u16 256, .int .u16 0] 30))
  refine (StoreCap_any 8 (by decide) true 4096 39 0 4 256 0 (by decide) (by decide) (by decide) (by decide) (by decide) (by decide) _ HS.out.m).mono ?_
  rw [F.out.1]
  rintro e w3 ⟨rfl, hm, hf⟩
  replace HS : Aside0 (St w w3 g lB0 lT0) := ⟨HS.out.step hm hf⟩
  clear hm hf
  go_wp2_with fail
  refine (Tags_any 0 16 _ HS.out.m).mono ?_
  rw [F.out.2.1, F.out.2.2.1]
  rintro e w1 ⟨rfl, rfl⟩
  go_wp2_with fail
  refine (Store_any 12 1 7 (by decide) (by decide) _ HS.out.m).mono ?_
  rw [F.out.2.2.2.1]
  rintro e w4 ⟨rfl, hm, hf⟩
  replace HS : Aside0 (St w w4 g lB1 lT1) := ⟨HS.out.step hm hf⟩
  clear hm hf
  go_wp2_with fail
  refine (Tags_any 0 16 _ HS.out.m).mono ?_
  rw [F.out.2.2.2.2.1, F.out.2.2.1]
  rintro e w1 ⟨rfl, rfl⟩
  go_wp2_with fail
  refine (Load_any lB1_range 12 1 (by decide) _ HS.out.m).mono ?_
  rw [F.out.2.2.2.2.2.1, F.out.2.2.2.1]
  rintro e w5 ⟨rfl, hb⟩
  replace HS := Aside0.mk (HS.out.below hb)
  clear hb
  go_wp2_with fail
  refine (Store_any 2 4 1 (by decide) (by decide) _ HS.out.m).mono ?_
  rw [F.out.2.2.2.2.2.2]
  rintro e w6 ⟨rfl, hm, hf⟩
  replace HS := Aside0.mk (HS.out.step hm hf)
  clear hm hf
  go_wp2
  go_ret
  exact ⟨rfl, HS.out.b⟩
end Go.Proofs.Ytiiemfnaegapmaa.Q
