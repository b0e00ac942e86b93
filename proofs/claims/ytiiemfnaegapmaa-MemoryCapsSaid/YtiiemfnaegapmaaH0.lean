-- A memory's block, said cell by cell; what a step on it leaves; the small tests. By hand. Lean checks it.
import Derived.Test.YtiiemfnaegapmaaZ0
import Derived.Test.YtiiemfnaegapmaaPureBytes
import Derived.Test.YtiiemfnaegapmaaQ3
import Derived.Test.YtiiemfnaegapmaaQ4
import Derived.Test.YtiiemfnaegapmaaQ10
import Derived.Test.YtiiemfnaegapmaaQ18
import Derived.Test.YtiiemfnaegapmaaQ27
import Derived.Deep.MidRow
namespace Go.Proofs.Ytiiemfnaegapmaa.Q
open Go.Proofs.Ytiiemfnaegapmaa.Pure Go.Proofs.Ytiiemfnaegapmaa.Z
open Go.RowKit Go.Proofs.YtiiemfnaegapmaaW.PrintWords Go.Proofs.YtiiemfnaegapmaaW.PrintLast Go.Proofs.YtiiemfnaegapmaaW.PrintMore
set_option linter.unusedVariables false
set_option linter.unusedSimpArgs false

/-- The blocks of S alone may have turned. -/
structure Fr (S : Nat → Prop) (w w' : World) : Prop where
  os : w'.os = w.os
  tape : w'.tape = w.tape
  output : w'.output = w.output
  size : w.heap.size ≤ w'.heap.size
  block : ∀ i, i < w.heap.size → ¬ S i → w'.heap[i]? = w.heap[i]?
theorem Fr.refl (S : Nat → Prop) (w : World) : Fr S w w := ⟨rfl, rfl, rfl, Nat.le_refl _, fun _ _ _ => rfl⟩
theorem Fr.trans {S : Nat → Prop} {a b c : World} (h : Fr S a b) (k : Fr S b c) : Fr S a c :=
  ⟨k.os.trans h.os, k.tape.trans h.tape, k.output.trans h.output, Nat.le_trans h.size k.size, fun i hi hs => (k.block i (Nat.lt_of_lt_of_le hi h.size) hs).trans (h.block i hi hs)⟩
theorem Fr.mono {S S' : Nat → Prop} {a b : World} (h : Fr S a b) (hs : ∀ i, S i → S' i) : Fr S' a b := ⟨h.os, h.tape, h.output, h.size, fun i hi hn => h.block i hi (fun k => hn (hs i k))⟩
theorem Fr.of_below {S : Nat → Prop} {a b : World} (h : Below a.heap.size a b) : Fr S a b := ⟨h.os, h.tape, h.output, h.size, fun i hi _ => h.block i hi⟩
theorem Fr.alloc {S : Nat → Prop} {a b : World} (h : Fr S a b) (o : Obj) : Fr S a (b.alloc o) := h.trans (Fr.of_below ((Below.refl _ _).alloc (Nat.le_refl _) o))
theorem Fr.drew {S : Nat → Prop} {a b : World} (h : Fr S a b) : Fr S a b.drew := ⟨h.os, h.tape, h.output, h.size, h.block⟩
theorem Fr.setCell {S : Nat → Prop} {a b : World} (h : Fr S a b) {p : Addr} (hp : S p.block) (u : Value) : Fr S a (b.setCell p u) :=
  h.trans ⟨rfl, rfl, rfl, by simp [World.setCell], fun i _ hn => Below.heap_setCell _ _ _ _ (fun e => hn (e ▸ hp))⟩
/-- What has turned lies from B on. -/
theorem Fr.below {S : Nat → Prop} {B : Nat} {w0 a b : World} (h : Fr S a b) (hB : Below B w0 a) (hs : ∀ i, S i → B ≤ i) (hz : B ≤ a.heap.size) : Below B w0 b :=
  hB.trans ⟨h.os, h.tape, h.output, h.size, fun i hi => h.block i (by omega) (fun k => by have := hs i k; omega)⟩
theorem Fr.blk {S : Nat → Prop} {a b : World} {g : Nat} {o : Obj} (h : Fr S a b) (hb : a.heap[g]? = some o) (hn : ¬ S g) : b.heap[g]? = some o := (h.block g (blk_lt hb) hn).trans hb
/-- What lies beyond the elder world, or what S had. -/
theorem Fr.join {S : Nat → Prop} {a b c : World} (h : Fr S a b) (k : Fr (fun i => S i ∨ a.heap.size ≤ i) b c) : Fr S a c :=
  ⟨k.os.trans h.os, k.tape.trans h.tape, k.output.trans h.output, Nat.le_trans h.size k.size, fun i hi hs => (k.block i (Nat.lt_of_lt_of_le hi h.size) (fun x => x.elim hs (fun y => by omega))).trans (h.block i hi hs)⟩

/-- Block g is a memory: byte i is B i, granule i's tag T i. -/
structure Mem (w : World) (g : Nat) (made : Bool) (B : Nat → Int) (T : Nat → Bool) : Prop where
  ex : ∃ cs : Array Value, w.heap[g]? = some (.cells cs 64 (0, 0)) ∧ cs.size = 73729 ∧ cs[0]? = some (.bool made) ∧ (∀ i, i < 65536 → cs[1 + i]? = some (.int .u8 (B i))) ∧ (∀ i, i < 8192 → cs[65537 + i]? = some (.bool (T i)))
section
variable {w w1 : World} {g : Nat} {made : Bool} {B : Nat → Int} {T : Nat → Bool}
theorem Mem.lt (h : Mem w g made B T) : g < w.heap.size := by obtain ⟨cs, hb, _⟩ := h.ex; exact blk_lt hb
theorem Mem.fr {S : Nat → Prop} (h : Mem w g made B T) (k : Fr S w w1) (hn : ¬ S g) : Mem w1 g made B T := by
  obtain ⟨cs, hb, h1⟩ := h.ex
  exact ⟨cs, k.blk hb hn, h1⟩
theorem Mem.below (h : Mem w g made B T) (k : Below w.heap.size w w1) : Mem w1 g made B T := h.fr (S := fun _ => False) (Fr.of_below k) id
theorem Mem.made_cell (h : Mem w g made B T) : w.cell? ⟨g, 0, none⟩ = some (.bool made) := by
  obtain ⟨cs, hb, _, h0, _⟩ := h.ex
  rw [blk_cell hb]; exact h0
theorem Mem.byte (h : Mem w g made B T) (i : Nat) (hi : i < 65536) : w.cell? ⟨g, 1 + i, none⟩ = some (.int .u8 (B i)) := by
  obtain ⟨cs, hb, _, _, h0, _⟩ := h.ex
  rw [blk_cell hb]; exact h0 i hi
theorem Mem.tag (h : Mem w g made B T) (i : Nat) (hi : i < 8192) : w.cell? ⟨g, 65537 + i, none⟩ = some (.bool (T i)) := by
  obtain ⟨cs, hb, _, _, _, h0⟩ := h.ex
  rw [blk_cell hb]; exact h0 i hi
theorem Mem.free (h : Mem w g made B T) (i : Nat) : w.frozen? ⟨g, i, none⟩ = false := by
  obtain ⟨cs, hb, _⟩ := h.ex
  exact blk_frozen hb i
def upB (B : Nat → Int) (i : Nat) (v : Int) : Nat → Int := fun j => if j = i then v else B j
def upT (T : Nat → Bool) (i : Nat) (v : Bool) : Nat → Bool := fun j => if j = i then v else T j
theorem Mem.setB (h : Mem w g made B T) (i : Nat) (hi : i < 65536) (v : Int) : Mem (w.setCell ⟨g, 1 + i, none⟩ (.int .u8 v)) g made (upB B i v) T := by
  obtain ⟨cs, hb, hz, h0, h1, h2⟩ := h.ex
  refine ⟨cs.setIfInBounds (1 + i) (.int .u8 v), blk_set hb (1 + i) _, by rw [Array.size_setIfInBounds]; exact hz, ?_, ?_, ?_⟩
  · rw [Array.getElem?_setIfInBounds_ne (by omega)]; exact h0
  · intro j hj
    unfold upB
    by_cases e : j = i
    · subst e
      rw [if_pos rfl, Array.getElem?_setIfInBounds_self_of_lt (by omega)]
    · rw [if_neg e, Array.getElem?_setIfInBounds_ne (by omega)]; exact h1 j hj
  · intro j hj
    rw [Array.getElem?_setIfInBounds_ne (by omega)]; exact h2 j hj
theorem Mem.setT (h : Mem w g made B T) (i : Nat) (hi : i < 8192) (v : Bool) : Mem (w.setCell ⟨g, 65537 + i, none⟩ (.bool v)) g made B (upT T i v) := by
  obtain ⟨cs, hb, hz, h0, h1, h2⟩ := h.ex
  refine ⟨cs.setIfInBounds (65537 + i) (.bool v), blk_set hb (65537 + i) _, by rw [Array.size_setIfInBounds]; exact hz, ?_, ?_, ?_⟩
  · rw [Array.getElem?_setIfInBounds_ne (by omega)]; exact h0
  · intro j hj
    rw [Array.getElem?_setIfInBounds_ne (by omega)]; exact h1 j hj
  · intro j hj
    unfold upT
    by_cases e : j = i
    · subst e
      rw [if_pos rfl, Array.getElem?_setIfInBounds_self_of_lt (by omega)]
    · rw [if_neg e, Array.getElem?_setIfInBounds_ne (by omega)]; exact h2 j hj
theorem Mem.congr (h : Mem w g made B T) {B' : Nat → Int} {T' : Nat → Bool} (hb : ∀ i, i < 65536 → B' i = B i) (ht : ∀ i, i < 8192 → T' i = T i) : Mem w g made B' T' := by
  obtain ⟨cs, h1, h2, h3, h4, h5⟩ := h.ex
  exact ⟨cs, h1, h2, h3, fun i hi => by rw [h4 i hi, hb i hi], fun i hi => by rw [h5 i hi, ht i hi]⟩
/-- The bytes from at on, as a list. -/
def row (B : Nat → Int) (at_ n : Nat) : List Int := (List.range n).map (fun i => B (at_ + i))
theorem row_len (B : Nat → Int) (at_ n : Nat) : (row B at_ n).length = n := by unfold row; simp
theorem row_get (B : Nat → Int) (at_ n i : Nat) (hi : i < n) : (row B at_ n)[i]? = some (B (at_ + i)) := by
  unfold row
  rw [List.getElem?_map, List.getElem?_range hi]; rfl
theorem row_bytes {B : Nat → Int} (hB : ∀ i, 0 ≤ B i ∧ B i ≤ 255) (at_ n : Nat) : AllBytes (row B at_ n) := by
  intro x hx
  unfold row at hx
  obtain ⟨i, _, rfl⟩ := List.mem_map.1 hx
  exact hB _
theorem Mem.C (h : Mem w g made B T) (at_ n : Nat) (hn : at_ + n ≤ 65536) : Kd.C (Kd.int .u8) w (some ⟨g, 1 + at_, none⟩) (row B at_ n).length (row B at_ n) := by
  rw [row_len]
  refine Kd.C_of_reads (d := (0 : Int)) (h1 := fun _ => rfl) ⟨row_len _ _ _, by omega, fun _ => ⟨_, rfl, ?_⟩⟩
  intro j hj
  rw [Addr.add_mid, show 1 + at_ + j = 1 + (at_ + j) by omega, h.byte _ (by omega)]
  congr 2
  rw [List.getD_eq_getElem?_getD, row_get _ _ _ _ hj]; rfl
end
theorem C_none (k : Kd Int) (w : World) (A : Option Addr) : Kd.C k w A ([] : List Int).length [] := ⟨rfl, by decide, fun h => absurd h (Nat.lt_irrefl _)⟩

/-! ### the small tests -/
set_option maxHeartbeats 800000 in
theorem none_calls {w : World} {g : Nat} {made : Bool} {B : Nat → Int} {T : Nat → Bool} (h : Mem w g made B T) :
    Calls Try.prog 22 #[.pointer (some ⟨g, 0, none⟩)] w fun e w' => e = .returned (.bool !made) ∧ w = w' := by
  have hc := h.made_cell
  clear h
  go_enter Try.func22, Try.ntmps22
  go_wp2
  go_ret
  exact ⟨rfl, rfl⟩
set_option maxHeartbeats 800000 in
theorem none_nil (w : World) :
    Calls Try.prog 22 #[.pointer none] w fun e w' => e = .returned (.bool true) ∧ w = w' := by
  go_enter Try.func22, Try.ntmps22
  go_wp2
  go_ret
  exact ⟨rfl, rfl⟩
/-- Is it a size of numbers? -/
def isNum (n : Int) : Bool := decide (n = 1 ∨ n = 2 ∨ n = 4)
set_option maxHeartbeats 800000 in
theorem number_calls (n : Int) (w : World) : Calls Try.prog 23 #[.int .i64 n] w fun e w' => e = .returned (.bool (isNum n)) ∧ w = w' := by
  unfold isNum
  by_cases c1 : n = 1
  · subst c1
    go_enter Try.func23, Try.ntmps23
    go_wp2
    go_ret
    exact ⟨rfl, rfl⟩
  by_cases c2 : n = 2
  · subst c2
    go_enter Try.func23, Try.ntmps23
    go_wp2
    go_ret
    exact ⟨rfl, rfl⟩
  have e : decide (n = 1 ∨ n = 2 ∨ n = 4) = (n == 4) := by
    rw [Bool.eq_iff_iff]; simp [c1, c2]
  rw [e]
  have d1 : (n == 1) = false := by simpa using c1
  have d2 : (n == 2) = false := by simpa using c2
  clear c1 c2 e
  go_enter Try.func23, Try.ntmps23
  go_wp2
  go_ret
  exact ⟨rfl, rfl⟩
/-- Are there such bytes, at a multiple of the size? -/
def isThere (a s : Int) : Bool := decide (a % s = 0 ∧ a + s ≤ 65536)
set_option maxHeartbeats 800000 in
theorem there_calls (a s : Int) (ha : 0 ≤ a ∧ a < 4294967296) (hs : 1 ≤ s ∧ s ≤ 8) (w : World) : Calls Try.prog 24 #[.int .u32 a, .int .i64 s] w fun e w' => e = .returned (.bool (isThere a s)) ∧ w = w' := by
  unfold isThere
  have hz : ¬ s = 0 := by omega
  have hz2 : (s == 0) = false := by simpa using hz
  have h1 : 0 ≤ a := ha.1
  have h2 : a ≤ 4294967295 := by omega
  have h3 : 1 ≤ s := hs.1
  have h4 : s ≤ 8 := hs.2
  have ht : Int.tmod a s = a % s := Int.tmod_eq_emod_of_nonneg ha.1
  by_cases c : a % s = 0
  · have d1 : (a % s == 0) = true := by simpa using c
    have e : decide (a % s = 0 ∧ a + s ≤ 65536) = decide (a + s ≤ 65536) := by rw [Bool.eq_iff_iff]; simp [c]
    rw [e]
    clear e c ha hs
    go_enter Try.func24, Try.ntmps24
    go_wp2
    go_ret
    exact ⟨rfl, rfl⟩
  · have d1 : (a % s == 0) = false := by simpa using c
    have e : decide (a % s = 0 ∧ a + s ≤ 65536) = false := by rw [Bool.eq_false_iff]; simp [c]
    rw [e]
    clear e ha hs
    go_enter Try.func24, Try.ntmps24
    go_wp2
    go_ret
    exact ⟨rfl, rfl⟩
/-- Are there so many bytes at a place? -/
def isPart (a n : Int) : Bool := decide (0 ≤ a ∧ 0 ≤ n ∧ a + n ≤ 65536)
set_option maxHeartbeats 800000 in
theorem part_calls (a n : Int) (w : World) : Calls Try.prog 26 #[.int .i64 a, .int .i64 n] w fun e w' => e = .returned (.bool (isPart a n)) ∧ w = w' := by
  unfold isPart
  by_cases c1 : 0 ≤ a
  · by_cases c2 : 0 ≤ n
    · by_cases c3 : a ≤ 65536
      · have e : decide (0 ≤ a ∧ 0 ≤ n ∧ a + n ≤ 65536) = decide (n ≤ 65536 - a) := by rw [Bool.eq_iff_iff]; simp only [decide_eq_true_eq]; omega
        rw [e]
        clear e
        go_enter Try.func26, Try.ntmps26
        go_wp2
        go_ret
        exact ⟨rfl, rfl⟩
      · have e : decide (0 ≤ a ∧ 0 ≤ n ∧ a + n ≤ 65536) = false := by rw [Bool.eq_false_iff]; simp only [ne_eq, decide_eq_true_eq]; omega
        rw [e]
        clear e
        have d3 : decide (a ≤ 65536) = false := decide_eq_false c3
        go_enter Try.func26, Try.ntmps26
        go_wp2
        go_ret
        exact ⟨rfl, rfl⟩
    · have e : decide (0 ≤ a ∧ 0 ≤ n ∧ a + n ≤ 65536) = false := by rw [Bool.eq_false_iff]; simp only [ne_eq, decide_eq_true_eq]; omega
      rw [e]
      clear e
      have d3 : decide (0 ≤ n) = false := decide_eq_false c2
      go_enter Try.func26, Try.ntmps26
      go_wp2
      go_ret
      exact ⟨rfl, rfl⟩
  · have e : decide (0 ≤ a ∧ 0 ≤ n ∧ a + n ≤ 65536) = false := by rw [Bool.eq_false_iff]; simp only [ne_eq, decide_eq_true_eq]; omega
    rw [e]
    clear e
    have d3 : decide (0 ≤ a) = false := decide_eq_false c1
    go_enter Try.func26, Try.ntmps26
    go_wp2
    go_ret
    exact ⟨rfl, rfl⟩
end Go.Proofs.Ytiiemfnaegapmaa.Q
