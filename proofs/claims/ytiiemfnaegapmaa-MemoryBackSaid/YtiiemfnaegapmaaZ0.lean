-- The zero value of memory.Memory, cell by cell. Lean checks it.
import Derived.Test.YtiiemfnaegapmaaProg
import Derived.KernelRfl
namespace Go.Proofs.Ytiiemfnaegapmaa.Z
open Go.Proofs
/-- Cell i of a memory of noughts. -/
def zc (i : Nat) : Value := if i = 0 then .bool false else if i < 65537 then .int .u8 0 else .bool false
def rng (lo n : Nat) : List Value := (List.range' lo n).map zc
theorem rng_app (lo a b : Nat) : rng lo (a + b) = rng lo a ++ rng (lo + a) b := by
  unfold rng
  rw [← List.map_append]
  congr 1
  have := @List.range'_append lo a b 1
  rw [Nat.one_mul] at this
  exact this.symm
/-- A piece of the row: n cells from lo on. -/
structure Seg (A : List Value) (lo n : Nat) : Prop where mk :: (out : A = rng lo n)
theorem seg_app {A B : List Value} {lo a b : Nat} (h : Seg A lo a) (k : Seg B (lo + a) b) : Seg (List.append A B) lo (a + b) := by
  refine ⟨?_⟩
  rw [rng_app, h.out, k.out]
  rfl
theorem seg_lf {A : List Value} {lo : Nat} (k : A = rng lo A.length) : Seg A lo A.length := ⟨k⟩
set_option maxRecDepth 1000000 in
set_option maxHeartbeats 40000000 in
theorem zero_seg : ∃ l n, Try.t64.zero = some (.agg (List.toArray l)) ∧ Seg l 0 n ∧ n = 73729 := by
  refine ⟨_, ?n, rfl, ?h, ?e⟩
  case h =>
    repeat' (first | (refine seg_app ?_ ?_) | (refine seg_lf ?_; kernel_rfl))
  case e => kernel_rfl
theorem zc_get (i : Nat) : (rng 0 73729)[i]? = if i < 73729 then some (zc i) else none := by
  unfold rng
  rw [List.getElem?_map]
  by_cases h : i < 73729
  · rw [if_pos h, List.getElem?_eq_getElem (by rw [List.length_range']; exact h), List.getElem_range']
    simp
  · rw [if_neg h, List.getElem?_eq_none (by rw [List.length_range']; omega)]
    rfl
theorem rng_len : (rng 0 73729).length = 73729 := by unfold rng; rw [List.length_map, List.length_range']
theorem info64 : ∃ i, Try.prog.info? 64 = some i ∧ i.zero = some (.agg (rng 0 73729).toArray) ∧ i.size = 73729 ∧ i.bytes = 73729 := by
  obtain ⟨l, n, h, hs, rfl⟩ := zero_seg
  refine ⟨Try.t64, by kernel_rfl, ?_, by kernel_rfl, by kernel_rfl⟩
  rw [h, hs.out]
#print axioms info64
end Go.Proofs.Ytiiemfnaegapmaa.Z
