/- Joined texts: H0, H1, H2, H3, H4, H5. Lean checks them. -/
import Derived.Test.YtiiemfnaegapmaaZ0
import Derived.Test.YtiiemfnaegapmaaPureBytes
import Derived.Test.YtiiemfnaegapmaaQ3
import Derived.Test.YtiiemfnaegapmaaQ4
import Derived.Test.YtiiemfnaegapmaaQ10
import Derived.Test.YtiiemfnaegapmaaQ18
import Derived.Test.YtiiemfnaegapmaaQ27
import Derived.Deep.MidRow
import Derived.Laws.Cover3
import Derived.Deep.RegionHeld3
import Derived.Deep.WholeRow
-- A memory's block, said cell by cell; what a step on it leaves; the small tests. By hand. Lean checks it.
namespace Go.Proofs.Ytiiemfnaegapmaa.Q
open Go.Proofs.Ytiiemfnaegapmaa.Pure Go.Proofs.Ytiiemfnaegapmaa.Z
open Go.RowKit Go.Proofs.YtiiemfnaegapmaaW.PrintWords Go.Proofs.YtiiemfnaegapmaaW.PrintLast Go.Proofs.YtiiemfnaegapmaaW.PrintMore
set_option linter.unusedVariables false
set_option linter.unusedSimpArgs false

/-- The blocks of S alone may have turned. -/
structure Fr (S : Nat → Prop) (w w' : World) : Prop where
  os : w'.os = w.os
  tape : w'.tape = w.tape
  output : w'.output = w.output
  size : w.heap.size ≤ w'.heap.size
  block : ∀ i, i < w.heap.size → ¬ S i → w'.heap[i]? = w.heap[i]?
theorem Fr.refl (S : Nat → Prop) (w : World) : Fr S w w := ⟨rfl, rfl, rfl, Nat.le_refl _, fun _ _ _ => rfl⟩
theorem Fr.trans {S : Nat → Prop} {a b c : World} (h : Fr S a b) (k : Fr S b c) : Fr S a c :=
  ⟨k.os.trans h.os, k.tape.trans h.tape, k.output.trans h.output, Nat.le_trans h.size k.size, fun i hi hs => (k.block i (Nat.lt_of_lt_of_le hi h.size) hs).trans (h.block i hi hs)⟩
theorem Fr.mono {S S' : Nat → Prop} {a b : World} (h : Fr S a b) (hs : ∀ i, S i → S' i) : Fr S' a b := ⟨h.os, h.tape, h.output, h.size, fun i hi hn => h.block i hi (fun k => hn (hs i k))⟩
theorem Fr.of_below {S : Nat → Prop} {a b : World} (h : Below a.heap.size a b) : Fr S a b := ⟨h.os, h.tape, h.output, h.size, fun i hi _ => h.block i hi⟩
theorem Fr.alloc {S : Nat → Prop} {a b : World} (h : Fr S a b) (o : Obj) : Fr S a (b.alloc o) := h.trans (Fr.of_below ((Below.refl _ _).alloc (Nat.le_refl _) o))
theorem Fr.drew {S : Nat → Prop} {a b : World} (h : Fr S a b) : Fr S a b.drew := ⟨h.os, h.tape, h.output, h.size, h.block⟩
theorem Fr.setCell {S : Nat → Prop} {a b : World} (h : Fr S a b) {p : Addr} (hp : S p.block) (u : Value) : Fr S a (b.setCell p u) :=
  h.trans ⟨rfl, rfl, rfl, by simp [World.setCell], fun i _ hn => Below.heap_setCell _ _ _ _ (fun e => hn (e ▸ hp))⟩
/-- What has turned lies from B on. -/
theorem Fr.below {S : Nat → Prop} {B : Nat} {w0 a b : World} (h : Fr S a b) (hB : Below B w0 a) (hs : ∀ i, S i → B ≤ i) (hz : B ≤ a.heap.size) : Below B w0 b :=
  hB.trans ⟨h.os, h.tape, h.output, h.size, fun i hi => h.block i (by omega) (fun k => by have := hs i k; omega)⟩
theorem Fr.blk {S : Nat → Prop} {a b : World} {g : Nat} {o : Obj} (h : Fr S a b) (hb : a.heap[g]? = some o) (hn : ¬ S g) : b.heap[g]? = some o := (h.block g (blk_lt hb) hn).trans hb
/-- What lies beyond the elder world, or what S had. -/
theorem Fr.join {S : Nat → Prop} {a b c : World} (h : Fr S a b) (k : Fr (fun i => S i ∨ a.heap.size ≤ i) b c) : Fr S a c :=
  ⟨k.os.trans h.os, k.tape.trans h.tape, k.output.trans h.output, Nat.le_trans h.size k.size, fun i hi hs => (k.block i (Nat.lt_of_lt_of_le hi h.size) (fun x => x.elim hs (fun y => by omega))).trans (h.block i hi hs)⟩

/-- Block g is a memory: byte i is B i, granule i's tag T i. -/
structure Mem (w : World) (g : Nat) (made : Bool) (B : Nat → Int) (T : Nat → Bool) : Prop where
  ex : ∃ cs : Array Value, w.heap[g]? = some (.cells cs 64 (0, 0)) ∧ cs.size = 73729 ∧ cs[0]? = some (.bool made) ∧ (∀ i, i < 65536 → cs[1 + i]? = some (.int .u8 (B i))) ∧ (∀ i, i < 8192 → cs[65537 + i]? = some (.bool (T i)))
section
variable {w w1 : World} {g : Nat} {made : Bool} {B : Nat → Int} {T : Nat → Bool}
theorem Mem.lt (h : Mem w g made B T) : g < w.heap.size := by obtain ⟨cs, hb, _⟩ := h.ex; exact blk_lt hb
theorem Mem.fr {S : Nat → Prop} (h : Mem w g made B T) (k : Fr S w w1) (hn : ¬ S g) : Mem w1 g made B T := by
  obtain ⟨cs, hb, h1⟩ := h.ex
  exact ⟨cs, k.blk hb hn, h1⟩
theorem Mem.below (h : Mem w g made B T) (k : Below w.heap.size w w1) : Mem w1 g made B T := h.fr (S := fun _ => False) (Fr.of_below k) id
theorem Mem.made_cell (h : Mem w g made B T) : w.cell? ⟨g, 0, none⟩ = some (.bool made) := by
  obtain ⟨cs, hb, _, h0, _⟩ := h.ex
  rw [blk_cell hb]; exact h0
theorem Mem.byte (h : Mem w g made B T) (i : Nat) (hi : i < 65536) : w.cell? ⟨g, 1 + i, none⟩ = some (.int .u8 (B i)) := by
  obtain ⟨cs, hb, _, _, h0, _⟩ := h.ex
  rw [blk_cell hb]; exact h0 i hi
theorem Mem.tag (h : Mem w g made B T) (i : Nat) (hi : i < 8192) : w.cell? ⟨g, 65537 + i, none⟩ = some (.bool (T i)) := by
  obtain ⟨cs, hb, _, _, _, h0⟩ := h.ex
  rw [blk_cell hb]; exact h0 i hi
theorem Mem.free (h : Mem w g made B T) (i : Nat) : w.frozen? ⟨g, i, none⟩ = false := by
  obtain ⟨cs, hb, _⟩ := h.ex
  exact blk_frozen hb i
def upB (B : Nat → Int) (i : Nat) (v : Int) : Nat → Int := fun j => if j = i then v else B j
def upT (T : Nat → Bool) (i : Nat) (v : Bool) : Nat → Bool := fun j => if j = i then v else T j
theorem Mem.setB (h : Mem w g made B T) (i : Nat) (hi : i < 65536) (v : Int) : Mem (w.setCell ⟨g, 1 + i, none⟩ (.int .u8 v)) g made (upB B i v) T := by
  obtain ⟨cs, hb, hz, h0, h1, h2⟩ := h.ex
  refine ⟨cs.setIfInBounds (1 + i) (.int .u8 v), blk_set hb (1 + i) _, by rw [Array.size_setIfInBounds]; exact hz, ?_, ?_, ?_⟩
  · rw [Array.getElem?_setIfInBounds_ne (by omega)]; exact h0
  · intro j hj
    unfold upB
    by_cases e : j = i
    · subst e
      rw [if_pos rfl, Array.getElem?_setIfInBounds_self_of_lt (by omega)]
    · rw [if_neg e, Array.getElem?_setIfInBounds_ne (by omega)]; exact h1 j hj
  · intro j hj
    rw [Array.getElem?_setIfInBounds_ne (by omega)]; exact h2 j hj
theorem Mem.setT (h : Mem w g made B T) (i : Nat) (hi : i < 8192) (v : Bool) : Mem (w.setCell ⟨g, 65537 + i, none⟩ (.bool v)) g made B (upT T i v) := by
  obtain ⟨cs, hb, hz, h0, h1, h2⟩ := h.ex
  refine ⟨cs.setIfInBounds (65537 + i) (.bool v), blk_set hb (65537 + i) _, by rw [Array.size_setIfInBounds]; exact hz, ?_, ?_, ?_⟩
  · rw [Array.getElem?_setIfInBounds_ne (by omega)]; exact h0
  · intro j hj
    rw [Array.getElem?_setIfInBounds_ne (by omega)]; exact h1 j hj
  · intro j hj
    unfold upT
    by_cases e : j = i
    · subst e
      rw [if_pos rfl, Array.getElem?_setIfInBounds_self_of_lt (by omega)]
    · rw [if_neg e, Array.getElem?_setIfInBounds_ne (by omega)]; exact h2 j hj
theorem Mem.congr (h : Mem w g made B T) {B' : Nat → Int} {T' : Nat → Bool} (hb : ∀ i, i < 65536 → B' i = B i) (ht : ∀ i, i < 8192 → T' i = T i) : Mem w g made B' T' := by
  obtain ⟨cs, h1, h2, h3, h4, h5⟩ := h.ex
  exact ⟨cs, h1, h2, h3, fun i hi => by rw [h4 i hi, hb i hi], fun i hi => by rw [h5 i hi, ht i hi]⟩
/-- The bytes from at on, as a list. -/
def row (B : Nat → Int) (at_ n : Nat) : List Int := (List.range n).map (fun i => B (at_ + i))
theorem row_len (B : Nat → Int) (at_ n : Nat) : (row B at_ n).length = n := by unfold row; simp
theorem row_get (B : Nat → Int) (at_ n i : Nat) (hi : i < n) : (row B at_ n)[i]? = some (B (at_ + i)) := by
  unfold row
  rw [List.getElem?_map, List.getElem?_range hi]; rfl
theorem row_bytes {B : Nat → Int} (hB : ∀ i, 0 ≤ B i ∧ B i ≤ 255) (at_ n : Nat) : AllBytes (row B at_ n) := by
  intro x hx
  unfold row at hx
  obtain ⟨i, _, rfl⟩ := List.mem_map.1 hx
  exact hB _
theorem Mem.C (h : Mem w g made B T) (at_ n : Nat) (hn : at_ + n ≤ 65536) : Kd.C (Kd.int .u8) w (some ⟨g, 1 + at_, none⟩) (row B at_ n).length (row B at_ n) := by
  rw [row_len]
  refine Kd.C_of_reads (d := (0 : Int)) (h1 := fun _ => rfl) ⟨row_len _ _ _, by omega, fun _ => ⟨_, rfl, ?_⟩⟩
  intro j hj
  rw [Addr.add_mid, show 1 + at_ + j = 1 + (at_ + j) by omega, h.byte _ (by omega)]
  congr 2
  rw [List.getD_eq_getElem?_getD, row_get _ _ _ _ hj]; rfl
end
theorem C_none (k : Kd Int) (w : World) (A : Option Addr) : Kd.C k w A ([] : List Int).length [] := ⟨rfl, by decide, fun h => absurd h (Nat.lt_irrefl _)⟩

/-! ### the small tests -/
set_option maxHeartbeats 800000 in
theorem none_calls {w : World} {g : Nat} {made : Bool} {B : Nat → Int} {T : Nat → Bool} (h : Mem w g made B T) :
    Calls Try.prog 22 #[.pointer (some ⟨g, 0, none⟩)] w fun e w' => e = .returned (.bool !made) ∧ w = w' := by
  have hc := h.made_cell
  clear h
  go_enter Try.func22, Try.ntmps22
  go_wp2
  go_ret
  exact ⟨rfl, rfl⟩
set_option maxHeartbeats 800000 in
theorem none_nil (w : World) :
    Calls Try.prog 22 #[.pointer none] w fun e w' => e = .returned (.bool true) ∧ w = w' := by
  go_enter Try.func22, Try.ntmps22
  go_wp2
  go_ret
  exact ⟨rfl, rfl⟩
/-- Is it a size of numbers? -/
def isNum (n : Int) : Bool := decide (n = 1 ∨ n = 2 ∨ n = 4)
set_option maxHeartbeats 800000 in
theorem number_calls (n : Int) (w : World) : Calls Try.prog 23 #[.int .i64 n] w fun e w' => e = .returned (.bool (isNum n)) ∧ w = w' := by
  unfold isNum
  by_cases c1 : n = 1
  · subst c1
    go_enter Try.func23, Try.ntmps23
    go_wp2
    go_ret
    exact ⟨rfl, rfl⟩
  by_cases c2 : n = 2
  · subst c2
    go_enter Try.func23, Try.ntmps23
    go_wp2
    go_ret
    exact ⟨rfl, rfl⟩
  have e : decide (n = 1 ∨ n = 2 ∨ n = 4) = (n == 4) := by
    rw [Bool.eq_iff_iff]; simp [c1, c2]
  rw [e]
  have d1 : (n == 1) = false := by simpa using c1
  have d2 : (n == 2) = false := by simpa using c2
  clear c1 c2 e
  go_enter Try.func23, Try.ntmps23
  go_wp2
  go_ret
  exact ⟨rfl, rfl⟩
/-- Are there such bytes, at a multiple of the size? -/
def isThere (a s : Int) : Bool := decide (a % s = 0 ∧ a + s ≤ 65536)
set_option maxHeartbeats 800000 in
theorem there_calls (a s : Int) (ha : 0 ≤ a ∧ a < 4294967296) (hs : 1 ≤ s ∧ s ≤ 8) (w : World) : Calls Try.prog 24 #[.int .u32 a, .int .i64 s] w fun e w' => e = .returned (.bool (isThere a s)) ∧ w = w' := by
  unfold isThere
  have hz : ¬ s = 0 := by omega
  have hz2 : (s == 0) = false := by simpa using hz
  have h1 : 0 ≤ a := ha.1
  have h2 : a ≤ 4294967295 := by omega
  have h3 : 1 ≤ s := hs.1
  have h4 : s ≤ 8 := hs.2
  have ht : Int.tmod a s = a % s := Int.tmod_eq_emod_of_nonneg ha.1
  by_cases c : a % s = 0
  · have d1 : (a % s == 0) = true := by simpa using c
    have e : decide (a % s = 0 ∧ a + s ≤ 65536) = decide (a + s ≤ 65536) := by rw [Bool.eq_iff_iff]; simp [c]
    rw [e]
    clear e c ha hs
    go_enter Try.func24, Try.ntmps24
    go_wp2
    go_ret
    exact ⟨rfl, rfl⟩
  · have d1 : (a % s == 0) = false := by simpa using c
    have e : decide (a % s = 0 ∧ a + s ≤ 65536) = false := by rw [Bool.eq_false_iff]; simp [c]
    rw [e]
    clear e ha hs
    go_enter Try.func24, Try.ntmps24
    go_wp2
    go_ret
    exact ⟨rfl, rfl⟩
/-- Are there so many bytes at a place? -/
def isPart (a n : Int) : Bool := decide (0 ≤ a ∧ 0 ≤ n ∧ a + n ≤ 65536)
set_option maxHeartbeats 800000 in
theorem part_calls (a n : Int) (w : World) : Calls Try.prog 26 #[.int .i64 a, .int .i64 n] w fun e w' => e = .returned (.bool (isPart a n)) ∧ w = w' := by
  unfold isPart
  by_cases c1 : 0 ≤ a
  · by_cases c2 : 0 ≤ n
    · by_cases c3 : a ≤ 65536
      · have e : decide (0 ≤ a ∧ 0 ≤ n ∧ a + n ≤ 65536) = decide (n ≤ 65536 - a) := by rw [Bool.eq_iff_iff]; simp only [decide_eq_true_eq]; omega
        rw [e]
        clear e
        go_enter Try.func26, Try.ntmps26
        go_wp2
        go_ret
        exact ⟨rfl, rfl⟩
      · have e : decide (0 ≤ a ∧ 0 ≤ n ∧ a + n ≤ 65536) = false := by rw [Bool.eq_false_iff]; simp only [ne_eq, decide_eq_true_eq]; omega
        rw [e]
        clear e
        have d3 : decide (a ≤ 65536) = false := decide_eq_false c3
        go_enter Try.func26, Try.ntmps26
        go_wp2
        go_ret
        exact ⟨rfl, rfl⟩
    · have e : decide (0 ≤ a ∧ 0 ≤ n ∧ a + n ≤ 65536) = false := by rw [Bool.eq_false_iff]; simp only [ne_eq, decide_eq_true_eq]; omega
      rw [e]
      clear e
      have d3 : decide (0 ≤ n) = false := decide_eq_false c2
      go_enter Try.func26, Try.ntmps26
      go_wp2
      go_ret
      exact ⟨rfl, rfl⟩
  · have e : decide (0 ≤ a ∧ 0 ≤ n ∧ a + n ≤ 65536) = false := by rw [Bool.eq_false_iff]; simp only [ne_eq, decide_eq_true_eq]; omega
    rw [e]
    clear e
    have d3 : decide (0 ≤ a) = false := decide_eq_false c1
    go_enter Try.func26, Try.ntmps26
    go_wp2
    go_ret
    exact ⟨rfl, rfl⟩
end Go.Proofs.Ytiiemfnaegapmaa.Q

-- The memory's functions: New, Store, by hand. Lean checks it.
namespace Go.Proofs.Ytiiemfnaegapmaa.Q
open Go.Proofs.Ytiiemfnaegapmaa.Pure Go.Proofs.Ytiiemfnaegapmaa.Z
open Go.RowKit Go.Proofs.YtiiemfnaegapmaaW.PrintWords Go.Proofs.YtiiemfnaegapmaaW.PrintLast Go.Proofs.YtiiemfnaegapmaaW.PrintMore
set_option linter.unusedVariables false
set_option linter.unusedSimpArgs false
/-- The cells of a memory of noughts that is made. -/
def newCells : Array Value := (rng 0 73729).toArray.setIfInBounds 0 (.bool true)
theorem run_build64 (w : World) : (Instr.build 64 #[(0, .bool true)]).run Try.prog w = .ok (.agg newCells) w := by
  obtain ⟨i, hi, hz, hs, _⟩ := info64
  have h0 : (zeroValue 64).run Try.prog w = .ok (.agg (rng 0 73729).toArray) w := by
    unfold zeroValue typeInfo
    simp [hi, hz]
  unfold Instr.build
  rw [Sem.run_bind, h0]
  simp only [Result.andThen_ok, Value.cells]
  rw [Sem.run_bind, run_underlying Try.underlying64]
  simp only [Result.andThen_ok]
  have hp : (Array.mapM (fun (f : Field) => do
      let __do_lift ← sizeOf f.type
      pure (f.offset, __do_lift)) #[{ name := "made", type := 4, offset := 0, embedded := false, tag := "", pkgPath := "bulwark/memory", byteOffset := 0 }, { name := "b", type := 61, offset := 1, embedded := false, tag := "", pkgPath := "bulwark/memory", byteOffset := 1 }, { name := "tag", type := 62, offset := 65537, embedded := false, tag := "", pkgPath := "bulwark/memory", byteOffset := 65537 }] : Sem (Array (Nat × Nat))).run Try.prog w = .ok #[(0, 1), (1, 65536), (65537, 8192)] w := by
    rw [Array.mapM_eq_foldlM]
    simp [Try.sizeOf4, Try.sizeOf61, Try.sizeOf62]
  rw [Sem.run_bind, hp]
  simp only [Result.andThen_ok]
  have hf : Instr.fill (fun x => (#[(0, 1), (1, 65536), (65537, 8192)] : Array (Nat × Nat))[x]?) (rng 0 73729).toArray [(0, Value.bool true)] = some newCells := by
    have hl : (rng 0 73729).toArray.size = 73729 := by rw [List.size_toArray, rng_len]
    unfold newCells
    generalize (rng 0 73729).toArray = L at hl
    simp [Instr.fill, Value.cells, hl]
  rw [hf]
  rfl
theorem newCells_mem {w : World} {g : Nat} (h : w.heap[g]? = some (.cells newCells 64 (0, 0))) : Mem w g true (fun _ => 0) (fun _ => false) := by
  have hl : (rng 0 73729).toArray.size = 73729 := by rw [List.size_toArray, rng_len]
  refine ⟨newCells, h, by unfold newCells; rw [Array.size_setIfInBounds]; exact hl, ?_, ?_, ?_⟩
  · unfold newCells
    rw [Array.getElem?_setIfInBounds_self_of_lt (by omega)]
  · intro i hi
    unfold newCells
    rw [Array.getElem?_setIfInBounds_ne (by omega), List.getElem?_toArray, zc_get, if_pos (by omega)]
    unfold zc
    rw [if_neg (by omega), if_pos (by omega)]
  · intro i hi
    unfold newCells
    rw [Array.getElem?_setIfInBounds_ne (by omega), List.getElem?_toArray, zc_get, if_pos (by omega)]
    unfold zc
    rw [if_neg (by omega), if_neg (by omega)]
theorem wpList_build64 {ops : Array Oper} {rest : List Oper} {op : Oper} {a : Act} {w : World} {Q : Exit → Act → World → Prop} (hgd : op.guard = none) (ho : op.op = .build 64 #[(0, .const (.bool true))])
    (h : wpList Try.prog ops Q rest (a.put op.dst (.agg newCells)) w) : wpList Try.prog ops Q (op :: rest) a w :=
  wpList_plain hgd fun _ hK => by
    have hr := run_build64 w
    unfold Oper.wp execOp
    rw [ho]
    have hp : (#[((0 : Nat), Operand.const (Value.bool true))].map fun (x : Nat × Operand) => (x.1, a.eval x.2)) = #[(0, .bool true)] := by simp [Act.eval]
    show Oper.upon Try.prog op a _ Q (Sem.run Try.prog (do let x ← Instr.build 64 (#[((0 : Nat), Operand.const (Value.bool true))].map fun (x : Nat × Operand) => (x.1, a.eval x.2)); pure (Next.value x)) w)
    rw [hp, Sem.run_bind, hr]
    exact hK _ _ h
set_option maxHeartbeats 800000 in
theorem New_calls (w : World) : Calls Try.prog 7 #[] w fun e w' => e = .returned (.pointer (some ⟨w.heap.size, 0, none⟩)) ∧ Mem w' w.heap.size true (fun _ => 0) (fun _ => false) ∧ Below w.heap.size w w' := by
  go_enter Try.func7, Try.ntmps7
  go_wp2_with (with_reducible refine wpList_build64 rfl rfl ?_)
  go_ret
  exact ⟨rfl, newCells_mem (heap_alloc_new _ _), (Below.refl _ _).alloc (Nat.le_refl _) _⟩
/-- Behind a number's store. -/
def stB (B : Nat → Int) (at_ n : Nat) (v : Int) : Nat → Int := fun j => if at_ ≤ j ∧ j < at_ + n then nth v (j - at_) else B j
theorem stB_zero (B : Nat → Int) (at_ : Nat) (v : Int) : stB B at_ 0 v = B := by
  funext j
  unfold stB
  rw [if_neg (by omega)]
theorem stB_step (B : Nat → Int) (at_ i : Nat) (v : Int) : upB (stB B at_ i v) (at_ + i) (nth v i) = stB B at_ (i + 1) v := by
  funext j
  unfold upB stB
  by_cases e : j = at_ + i
  · rw [if_pos e, if_pos (by omega)]
    congr 1
    omega
  · rw [if_neg e]
    by_cases c : at_ ≤ j ∧ j < at_ + i
    · rw [if_pos c, if_pos (by omega)]
    · rw [if_neg c, if_neg (by omega)]
set_option maxHeartbeats 4000000 in
theorem Store_ok {g : Nat} {B : Nat → Int} {T : Nat → Bool} (n s : Nat) (v : Int) (w : World) (hM : Mem w g true B T) (hs : s = 1 ∨ s = 2 ∨ s = 4) (hd : (n : Int) % s = 0) (hn : n + s ≤ 65536) (hv : 0 ≤ v ∧ v < 4294967296) :
    Calls Try.prog 8 #[.pointer (some ⟨g, 0, none⟩), .int .u32 n, .int .i64 s, .int .u32 v] w fun e w' => e = .returned (.int .i64 0) ∧ Mem w' g true (stB B n s v) (upT T (n / 8) false) ∧ Fr (fun k => k = g) w w' := by
  have HM := Aside0.mk hM
  have hnum : isNum (s : Int) = true := by unfold isNum; rcases hs with h | h | h <;> subst h <;> rfl
  have hth : isThere (n : Int) (s : Int) = true := by unfold isThere; exact decide_eq_true ⟨hd, by omega⟩
  have HS := Aside0.mk hs
  have HN := Aside0.mk hn
  have HV := Aside0.mk hv
  clear hM hd hs hn hv
  go_enter Try.func8, Try.ntmps8
  go_wp2_with fail
  refine (none_calls HM.out).mono ?_
  rintro e w1 ⟨rfl, rfl⟩
  go_wp2_with fail
  refine (number_calls (s : Int) _).mono ?_
  rw [hnum]
  rintro e w1 ⟨rfl, rfl⟩
  go_wp2_with fail
  refine (there_calls (n : Int) (s : Int) (by have := HN.out; omega) (by have := HS.out; omega) _).mono ?_
  rw [hth]
  rintro e w1 ⟨rfl, rfl⟩
  clear hnum hth
  have HM0 : Aside0 (Mem w g true (stB B n 0 v) T) := ⟨by rw [stB_zero]; exact HM.out⟩
  go_wp2_with fail
  go_loopg [24] (s + 1) (fun kq v24 w' => ∃ i : Nat, v24 = .int .i64 (i : Int) ∧ Aside0 (i + kq = s + 1) ∧ Aside0 (i ≤ s) ∧ Aside0 (Mem w' g true (stB B n i v) T) ∧ Aside0 (Fr (fun k => k = g) w w'))
  case atStart => exact ⟨0, rfl, ⟨by omega⟩, ⟨by omega⟩, HM0, ⟨Fr.refl _ _⟩⟩
  case round =>
    clear HM HM0
    obtain ⟨i, rfl, HK, HI, HM, HF⟩ := hrel
    by_cases c : i < s
    · cases gk with
      | zero => exact absurd HK.out (by have := HI.out; omega)
      | succ gk =>
        have hi4 : i < 4 := by have := HS.out; omega
        have hn2 : n + i < 65536 := by have := HN.out; omega
        have hcell := HM.out.byte (n + i) hn2
        have hfr := HM.out.free (1 + (n + i))
        have hv0 := HV.out.1
        have hv1 := HV.out.2
        have HC := Aside0.mk hcell
        have HM1 : Aside0 (Mem (wr.setCell ⟨g, 1 + (n + i), none⟩ (.int .u8 (v / 2 ^ (8 * i) % 256))) g true (stB B n (i + 1) v) T) := ⟨by rw [← stB_step]; exact HM.out.setB (n + i) hn2 _⟩
        go_wp2
        go_roundg gk
        case measure => omega
        case rel => exact ⟨i + 1, by go_num, ⟨by have := HK.out; omega⟩, ⟨by have := HK.out; omega⟩, HM1, ⟨HF.out.setCell rfl _⟩⟩
    · have hi : i = s := by have := HI.out; omega
      subst hi
      have hn2 : n / 8 < 8192 := by have := HN.out; have := HS.out; omega
      have hcell := HM.out.tag (n / 8) hn2
      have hfr := HM.out.free (65537 + n / 8)
      have HM1 := Aside0.mk (HM.out.setT (n / 8) hn2 false)
      go_wp2
      go_ret
      exact ⟨rfl, HM1.out, HF.out.setCell rfl _⟩
end Go.Proofs.Ytiiemfnaegapmaa.Q

-- The memory's functions: what is refused, Load, Bytes, Tags, by hand. Lean checks it.
namespace Go.Proofs.Ytiiemfnaegapmaa.Q
open Go.Proofs.Ytiiemfnaegapmaa.Pure Go.Proofs.Ytiiemfnaegapmaa.Z
open Go.RowKit Go.Proofs.YtiiemfnaegapmaaW.PrintWords Go.Proofs.YtiiemfnaegapmaaW.PrintLast Go.Proofs.YtiiemfnaegapmaaW.PrintMore
set_option linter.unusedVariables false
set_option linter.unusedSimpArgs false
theorem isNum_is {s : Int} (h : isNum s = true) : ∃ k : Nat, s = (k : Int) ∧ (k = 1 ∨ k = 2 ∨ k = 4) := by
  unfold isNum at h
  rcases of_decide_eq_true h with h | h | h
  · exact ⟨1, h, .inl rfl⟩
  · exact ⟨2, h, .inr (.inl rfl)⟩
  · exact ⟨4, h, .inr (.inr rfl)⟩
theorem run_bound {x : Value} {k : IntKind} {n y : Nat} {c : BoundsCode} (w : World) (h : n ≤ y) : (Instr.sliceBound (.int k n) y c).run Try.prog w = .ok n w := by
  unfold Instr.sliceBound
  simp [asIntOf, h]
theorem slice61_3 (g n s : Nat) (k1 k2 k3 : IntKind) (h : n + s ≤ 65536) (hs : ¬ s = 0) (w : World) :
    (Instr.sliceAt 61 (.pointer (some ⟨g, 1, none⟩)) (some (.int k1 (n : Int))) (some (.int k2 ((n : Int) + (s : Int)))) (some (.int k3 ((n : Int) + (s : Int))))).run Try.prog w = .ok (.slice (some ⟨g, 1 + n, none⟩) s s) w := by
  have e : ((n : Int) + (s : Int)) = ((n + s : Nat) : Int) := by omega
  rw [e]
  unfold Instr.sliceAt Instr.sliceBounds
  rw [Sem.run_bind, run_underlying Try.underlying61]
  simp only [Result.andThen_ok, Instr.sureAddr, Sem.run_bind, Sem.run_pure]
  rw [run_bound (x := undef) (n := n + s) w h]
  simp only [Result.andThen_ok]
  rw [run_bound (x := undef) (n := n + s) w (Nat.le_refl _)]
  simp only [Result.andThen_ok]
  rw [run_bound (x := undef) (n := n) w (by omega)]
  simp only [Result.andThen_ok]
  rw [Try.sizeOf5]
  simp only [Result.andThen_ok]
  rw [if_neg (by omega), Addr.add_mid, Nat.mul_one, show n + s - n = s by omega]
theorem slice61_2 (g n s : Nat) (k1 k2 : IntKind) (h : n + s ≤ 65536) (w : World) :
    (Instr.sliceAt 61 (.pointer (some ⟨g, 1, none⟩)) (some (.int k1 (n : Int))) (some (.int k2 ((n : Int) + (s : Int)))) none).run Try.prog w = .ok (.slice (some (if 65536 = n then ⟨g, 1, none⟩ else ⟨g, 1 + n, none⟩)) s (65536 - n)) w := by
  have e : ((n : Int) + (s : Int)) = ((n + s : Nat) : Int) := by omega
  rw [e]
  unfold Instr.sliceAt Instr.sliceBounds
  rw [Sem.run_bind, run_underlying Try.underlying61]
  simp only [Result.andThen_ok, Instr.sureAddr, Sem.run_bind, Sem.run_pure]
  rw [run_bound (x := undef) (n := n + s) w h]
  simp only [Result.andThen_ok]
  rw [run_bound (x := undef) (n := n) w (by omega)]
  simp only [Result.andThen_ok]
  rw [Try.sizeOf5]
  simp only [Result.andThen_ok]
  rw [Addr.add_mid, Nat.mul_one, show n + s - n = s by omega]
set_option maxHeartbeats 4000000 in
theorem Store_bad {g : Nat} {B : Nat → Int} {T : Nat → Bool} (a s v : Int) (w : World) (hM : Mem w g true B T) (ha : 0 ≤ a ∧ a < 4294967296) (hb : (isNum s && isThere a s) = false) :
    Calls Try.prog 8 #[.pointer (some ⟨g, 0, none⟩), .int .u32 a, .int .i64 s, .int .u32 v] w fun e w' => e = .returned (.int .i64 2) ∧ w = w' := by
  have HM := Aside0.mk hM
  have HA := Aside0.mk ha
  clear hM ha
  cases hc : isNum s with
  | false =>
    clear hb
    go_enter Try.func8, Try.ntmps8
    go_wp2_with fail
    refine (none_calls HM.out).mono ?_
    rintro e w1 ⟨rfl, rfl⟩
    go_wp2_with fail
    refine (number_calls s _).mono ?_
    rw [hc]
    rintro e w1 ⟨rfl, rfl⟩
    go_wp2
    go_ret
    exact ⟨rfl, rfl⟩
  | true =>
    have hd : isThere a s = false := by rw [hc, Bool.true_and] at hb; exact hb
    have HS : Aside0 (1 ≤ s ∧ s ≤ 8) := ⟨by obtain ⟨k, rfl, h⟩ := isNum_is hc; omega⟩
    clear hb
    go_enter Try.func8, Try.ntmps8
    go_wp2_with fail
    refine (none_calls HM.out).mono ?_
    rintro e w1 ⟨rfl, rfl⟩
    go_wp2_with fail
    refine (number_calls s _).mono ?_
    rw [hc]
    rintro e w1 ⟨rfl, rfl⟩
    go_wp2_with fail
    refine (there_calls a s HA.out HS.out _).mono ?_
    rw [hd]
    rintro e w1 ⟨rfl, rfl⟩
    go_wp2
    go_ret
    exact ⟨rfl, rfl⟩
set_option maxHeartbeats 4000000 in
theorem Load_ok {g : Nat} {B : Nat → Int} {T : Nat → Bool} (hB : ∀ i, 0 ≤ B i ∧ B i ≤ 255) (n s : Nat) (w : World) (hM : Mem w g true B T) (hs : s = 1 ∨ s = 2 ∨ s = 4) (hd : (n : Int) % s = 0) (hn : n + s ≤ 65536) :
    Calls Try.prog 14 #[.pointer (some ⟨g, 0, none⟩), .int .u32 n, .int .i64 s] w fun e w' => e = .returned (.tuple #[.int .u32 (numOf (row B n s)), .int .i64 0]) ∧ Below w.heap.size w w' := by
  have HM := Aside0.mk hM
  have HBY := Aside0.mk hB
  have hnum : isNum (s : Int) = true := by unfold isNum; rcases hs with h | h | h <;> subst h <;> rfl
  have hth : isThere (n : Int) (s : Int) = true := by unfold isThere; exact decide_eq_true ⟨hd, by omega⟩
  have HS := Aside0.mk hs
  have HN := Aside0.mk hn
  have hsl := slice61_3 g n s .u32 .i64 .i64 hn (by omega)
  have h1 : (n : Int) + s ≤ 65536 := by omega
  clear hM hd hs hn hB
  go_enter Try.func14, Try.ntmps14
  go_wp2_with fail
  refine (none_calls HM.out).mono ?_
  rintro e w1 ⟨rfl, rfl⟩
  go_wp2_with fail
  refine (number_calls (s : Int) _).mono ?_
  rw [hnum]
  rintro e w1 ⟨rfl, rfl⟩
  go_wp2_with fail
  refine (there_calls (n : Int) (s : Int) (by have := HN.out; omega) (by have := HS.out; omega) _).mono ?_
  rw [hth]
  rintro e w1 ⟨rfl, rfl⟩
  clear hnum hth
  have hg : ends_Get.f 20 (row B n s) 0 s = some (numOf (row B n s), 0) := by
    rw [get_is _ (row_bytes HBY.out n s) (by rw [row_len]; omega) 0 s 20 (by decide)]
    unfold getV
    rw [if_pos (by have := HS.out; omega), if_neg (by rw [row_len]; omega), if_neg (by rw [row_len]; omega)]
    unfold cutAt
    rw [show ((0 : Int) + (s : Int)).toNat = s by omega, show (0 : Int).toNat = 0 from rfl, List.drop_zero, List.take_of_length_le (by rw [row_len]; omega)]
  have HG := Aside0.mk hg
  have hC := HM.out.C n s (by have := HN.out; omega)
  have HC := Aside0.mk hC
  clear hg hC
  have hcall := ends_Get.calls 20 (some ⟨g, 1 + n, none⟩) s (row B n s) 0 s _ 0 w HC.out (by rw [row_len]; exact Nat.le_refl _) HG.out
  rw [row_len] at hcall
  have HCALL := Aside0.mk hcall
  have hnr := numOf_range (row B n s) (row_bytes HBY.out n s)
  have hn0 : 0 ≤ numOf (row B n s) := hnr.1
  have hn1 : numOf (row B n s) % 4294967296 = numOf (row B n s) := by
    have h4 : (2 : Int) ^ (8 * (row B n s).length) ≤ 4294967296 := by rw [row_len]; rcases HS.out with h | h | h <;> subst h <;> decide
    have := hnr.2
    exact Int.emod_eq_of_lt hn0 (by omega)
  clear hcall hnr
  go_wp2_with fail
  refine HCALL.out.mono ?_
  rintro e w1 ⟨rfl, hb⟩
  have HB1 := Aside0.mk hb
  clear hb
  go_wp2
  go_ret2
  exact ⟨rfl, HB1.out⟩
/-! ### refusals, printed by mkH2.py -/
/-- None: no pointer, or to one that is not made. -/
def Un (w : World) (p : Value) : Prop := p = .pointer none ∨ ∃ g B T, p = .pointer (some ⟨g, 0, none⟩) ∧ Mem w g false B T
theorem Un.below {w w1 : World} {p : Value} (h : Un w p) (k : Below w.heap.size w w1) : Un w1 p := by
  rcases h with h | ⟨g, B, T, h, hm⟩
  · exact .inl h
  · exact .inr ⟨g, B, T, h, hm.below k⟩
theorem none_un {w : World} {p : Value} (h : Un w p) : Calls Try.prog 22 #[p] w fun e w' => e = .returned (.bool true) ∧ w = w' := by
  rcases h with rfl | ⟨g, B, T, rfl, hm⟩
  · exact none_nil w
  · exact none_calls hm
set_option maxHeartbeats 4000000 in
theorem Store_un (a s v : Int) (w : World) (p : Value) (hU : Un w p) :
    Calls Try.prog 8 #[p, .int .u32 a, .int .i64 s, .int .u32 v] w fun e w' => e = .returned (.int .i64 1) ∧ w = w' := by
  have HU := Aside0.mk hU
  clear hU
  go_enter Try.func8, Try.ntmps8
  go_wp2_with fail
  refine (none_un HU.out).mono ?_
  rintro e w1 ⟨rfl, rfl⟩
  go_wp2
  go_ret
  exact ⟨rfl, rfl⟩
set_option maxHeartbeats 4000000 in
theorem Load_bad {g : Nat} {B : Nat → Int} {T : Nat → Bool} (a s : Int) (w : World) (hM : Mem w g true B T) (ha : 0 ≤ a ∧ a < 4294967296) (hb : (isNum s && isThere a s) = false) :
    Calls Try.prog 14 #[.pointer (some ⟨g, 0, none⟩), .int .u32 a, .int .i64 s] w fun e w' => e = .returned (.tuple #[.int .u32 0, .int .i64 2]) ∧ w = w' := by
  have HM := Aside0.mk hM
  have HA := Aside0.mk ha
  clear hM ha
  cases hc : isNum s with
  | false =>
    clear hb
    go_enter Try.func14, Try.ntmps14
    go_wp2_with fail
    refine (none_calls HM.out).mono ?_
    rintro e w1 ⟨rfl, rfl⟩
    go_wp2_with fail
    refine (number_calls s _).mono ?_
    rw [hc]
    rintro e w1 ⟨rfl, rfl⟩
    go_wp2
    go_ret2
    exact ⟨rfl, rfl⟩
  | true =>
    have hd : isThere a s = false := by rw [hc, Bool.true_and] at hb; exact hb
    have HS : Aside0 (1 ≤ s ∧ s ≤ 8) := ⟨by obtain ⟨k, rfl, h⟩ := isNum_is hc; omega⟩
    clear hb
    go_enter Try.func14, Try.ntmps14
    go_wp2_with fail
    refine (none_calls HM.out).mono ?_
    rintro e w1 ⟨rfl, rfl⟩
    go_wp2_with fail
    refine (number_calls s _).mono ?_
    rw [hc]
    rintro e w1 ⟨rfl, rfl⟩
    go_wp2_with fail
    refine (there_calls a s HA.out HS.out _).mono ?_
    rw [hd]
    rintro e w1 ⟨rfl, rfl⟩
    go_wp2
    go_ret2
    exact ⟨rfl, rfl⟩
set_option maxHeartbeats 4000000 in
theorem Load_un (a s : Int) (w : World) (p : Value) (hU : Un w p) :
    Calls Try.prog 14 #[p, .int .u32 a, .int .i64 s] w fun e w' => e = .returned (.tuple #[.int .u32 0, .int .i64 1]) ∧ w = w' := by
  have HU := Aside0.mk hU
  clear hU
  go_enter Try.func14, Try.ntmps14
  go_wp2_with fail
  refine (none_un HU.out).mono ?_
  rintro e w1 ⟨rfl, rfl⟩
  go_wp2
  go_ret2
  exact ⟨rfl, rfl⟩
set_option maxHeartbeats 4000000 in
theorem LoadCap_bad {g : Nat} {B : Nat → Int} {T : Nat → Bool} (a : Int) (w : World) (hM : Mem w g true B T) (ha : 0 ≤ a ∧ a < 4294967296) (hb : isThere a 8 = false) :
    Calls Try.prog 15 #[.pointer (some ⟨g, 0, none⟩), .int .u32 a] w fun e w' => e = .returned (.tuple #[.agg #[.bool false, .int .u32 0, .int .u8 0, .int .u8 0, .int .u8 0, .int .u16 0, .int .u16 0], .int .i64 2]) ∧ Below w.heap.size w w' := by
  have HM := Aside0.mk hM
  have HA := Aside0.mk ha
  have HB : Aside0 (Below w.heap.size w (w.alloc (.cells #[.bool false, .int .u32 0, .int .u8 0, .int .u8 0, .int .u8 0, .int .u16 0, .int .u16 0] 30))) := ⟨(Below.refl _ _).alloc (Nat.le_refl _) _⟩
  have hu30 := Try.underlying30
  clear hM ha
  go_enter Try.func15, Try.ntmps15
  go_wp2_with fail
  refine (none_calls (HM.out.below HB.out)).mono ?_
  rintro e w1 ⟨rfl, rfl⟩
  go_wp2_with fail
  refine (there_calls a 8 HA.out (by decide) _).mono ?_
  rw [hb]
  rintro e w1 ⟨rfl, rfl⟩
  go_wp2
  exact bodyPost_ret (v := .tuple #[.agg #[.bool false, .int .u32 0, .int .u8 0, .int .u8 0, .int .u8 0, .int .u16 0, .int .u16 0], .int .i64 2]) (by simp [results, Try.results15, go_sem]) rfl ⟨rfl, HB.out⟩
set_option maxHeartbeats 4000000 in
theorem LoadCap_un (a : Int) (w : World) (p : Value) (hU : Un w p) :
    Calls Try.prog 15 #[p, .int .u32 a] w fun e w' => e = .returned (.tuple #[.agg #[.bool false, .int .u32 0, .int .u8 0, .int .u8 0, .int .u8 0, .int .u16 0, .int .u16 0], .int .i64 1]) ∧ Below w.heap.size w w' := by
  have HU := Aside0.mk hU
  have HB : Aside0 (Below w.heap.size w (w.alloc (.cells #[.bool false, .int .u32 0, .int .u8 0, .int .u8 0, .int .u8 0, .int .u16 0, .int .u16 0] 30))) := ⟨(Below.refl _ _).alloc (Nat.le_refl _) _⟩
  have hu30 := Try.underlying30
  clear hU
  go_enter Try.func15, Try.ntmps15
  go_wp2_with fail
  refine (none_un (HU.out.below HB.out)).mono ?_
  rintro e w1 ⟨rfl, rfl⟩
  go_wp2
  exact bodyPost_ret (v := .tuple #[.agg #[.bool false, .int .u32 0, .int .u8 0, .int .u8 0, .int .u8 0, .int .u16 0, .int .u16 0], .int .i64 1]) (by simp [results, Try.results15, go_sem]) rfl ⟨rfl, HB.out⟩
set_option maxHeartbeats 4000000 in
theorem StoreCap_bad {g : Nat} {B : Nat → Int} {T : Nat → Bool} (a : Int) (q0 : Bool) (q1 q2 q3 q4 q5 q6 : Int) (w : World) (hM : Mem w g true B T) (ha : 0 ≤ a ∧ a < 4294967296) (hb : isThere a 8 = false) :
    Calls Try.prog 9 #[.pointer (some ⟨g, 0, none⟩), .int .u32 a, .agg #[.bool q0, .int .u32 q1, .int .u8 q2, .int .u8 q3, .int .u8 q4, .int .u16 q5, .int .u16 q6]] w fun e w' => e = .returned (.int .i64 2) ∧ Below w.heap.size w w' := by
  have HM := Aside0.mk hM
  have HA := Aside0.mk ha
  have HB : Aside0 (Below w.heap.size w (w.alloc (.cells #[.bool q0, .int .u32 q1, .int .u8 q2, .int .u8 q3, .int .u8 q4, .int .u16 q5, .int .u16 q6] 30))) := ⟨(Below.refl _ _).alloc (Nat.le_refl _) _⟩
  have hu30 := Try.underlying30
  clear hM ha
  go_enter Try.func9, Try.ntmps9
  go_wp2_with fail
  refine (none_calls (HM.out.below HB.out)).mono ?_
  rintro e w1 ⟨rfl, rfl⟩
  go_wp2_with fail
  refine (there_calls a 8 HA.out (by decide) _).mono ?_
  rw [hb]
  rintro e w1 ⟨rfl, rfl⟩
  go_wp2
  go_ret
  exact ⟨rfl, HB.out⟩
set_option maxHeartbeats 4000000 in
theorem StoreCap_un (a : Int) (q0 : Bool) (q1 q2 q3 q4 q5 q6 : Int) (w : World) (p : Value) (hU : Un w p) :
    Calls Try.prog 9 #[p, .int .u32 a, .agg #[.bool q0, .int .u32 q1, .int .u8 q2, .int .u8 q3, .int .u8 q4, .int .u16 q5, .int .u16 q6]] w fun e w' => e = .returned (.int .i64 1) ∧ Below w.heap.size w w' := by
  have HU := Aside0.mk hU
  have HB : Aside0 (Below w.heap.size w (w.alloc (.cells #[.bool q0, .int .u32 q1, .int .u8 q2, .int .u8 q3, .int .u8 q4, .int .u16 q5, .int .u16 q6] 30))) := ⟨(Below.refl _ _).alloc (Nat.le_refl _) _⟩
  have hu30 := Try.underlying30
  clear hU
  go_enter Try.func9, Try.ntmps9
  go_wp2_with fail
  refine (none_un (HU.out.below HB.out)).mono ?_
  rintro e w1 ⟨rfl, rfl⟩
  go_wp2
  go_ret
  exact ⟨rfl, HB.out⟩
set_option maxHeartbeats 4000000 in
theorem Bytes_bad {g : Nat} {B : Nat → Int} {T : Nat → Bool} (a s : Int) (w : World) (hM : Mem w g true B T) (hb : isPart a s = false) :
    Calls Try.prog 10 #[.pointer (some ⟨g, 0, none⟩), .int .i64 a, .int .i64 s] w fun e w' => e = .returned (.tuple #[.slice none 0 0, .int .i64 2]) ∧ w = w' := by
  have HM := Aside0.mk hM
  clear hM
  go_enter Try.func10, Try.ntmps10
  go_wp2_with fail
  refine (none_calls HM.out).mono ?_
  rintro e w1 ⟨rfl, rfl⟩
  go_wp2_with fail
  refine (part_calls a s _).mono ?_
  rw [hb]
  rintro e w1 ⟨rfl, rfl⟩
  go_wp2
  go_ret2
  exact ⟨rfl, rfl⟩
set_option maxHeartbeats 4000000 in
theorem Bytes_un (a s : Int) (w : World) (p : Value) (hU : Un w p) :
    Calls Try.prog 10 #[p, .int .i64 a, .int .i64 s] w fun e w' => e = .returned (.tuple #[.slice none 0 0, .int .i64 1]) ∧ w = w' := by
  have HU := Aside0.mk hU
  clear hU
  go_enter Try.func10, Try.ntmps10
  go_wp2_with fail
  refine (none_un HU.out).mono ?_
  rintro e w1 ⟨rfl, rfl⟩
  go_wp2
  go_ret2
  exact ⟨rfl, rfl⟩
set_option maxHeartbeats 4000000 in
theorem Tags_bad {g : Nat} {B : Nat → Int} {T : Nat → Bool} (a s : Int) (w : World) (hM : Mem w g true B T) (hb : isPart a s = false) :
    Calls Try.prog 11 #[.pointer (some ⟨g, 0, none⟩), .int .i64 a, .int .i64 s] w fun e w' => e = .returned (.tuple #[.int .i64 0, .int .i64 2]) ∧ w = w' := by
  have HM := Aside0.mk hM
  clear hM
  go_enter Try.func11, Try.ntmps11
  go_wp2_with fail
  refine (none_calls HM.out).mono ?_
  rintro e w1 ⟨rfl, rfl⟩
  go_wp2_with fail
  refine (part_calls a s _).mono ?_
  rw [hb]
  rintro e w1 ⟨rfl, rfl⟩
  go_wp2
  go_ret2
  exact ⟨rfl, rfl⟩
set_option maxHeartbeats 4000000 in
theorem Tags_un (a s : Int) (w : World) (p : Value) (hU : Un w p) :
    Calls Try.prog 11 #[p, .int .i64 a, .int .i64 s] w fun e w' => e = .returned (.tuple #[.int .i64 0, .int .i64 1]) ∧ w = w' := by
  have HU := Aside0.mk hU
  clear hU
  go_enter Try.func11, Try.ntmps11
  go_wp2_with fail
  refine (none_un HU.out).mono ?_
  rintro e w1 ⟨rfl, rfl⟩
  go_wp2
  go_ret2
  exact ⟨rfl, rfl⟩
set_option maxHeartbeats 4000000 in
theorem Copy_un  (w : World) (p : Value) (hU : Un w p) :
    Calls Try.prog 16 #[p] w fun e w' => e = .returned (.pointer none) ∧ w = w' := by
  have HU := Aside0.mk hU
  clear hU
  go_enter Try.func16, Try.ntmps16
  go_wp2_with fail
  refine (none_un HU.out).mono ?_
  rintro e w1 ⟨rfl, rfl⟩
  go_wp2
  go_ret
  exact ⟨rfl, rfl⟩
end Go.Proofs.Ytiiemfnaegapmaa.Q

-- The memory's functions: Bytes, Tags, LoadCap, StoreCap, Copy, by hand. Lean checks it.
namespace Go.Proofs.Ytiiemfnaegapmaa.Q
open Go.Proofs.Ytiiemfnaegapmaa.Pure Go.Proofs.Ytiiemfnaegapmaa.Z
open Go.RowKit Go.Proofs.YtiiemfnaegapmaaW.PrintWords Go.Proofs.YtiiemfnaegapmaaW.PrintLast Go.Proofs.YtiiemfnaegapmaaW.PrintMore
set_option linter.unusedVariables false
set_option linter.unusedSimpArgs false
set_option maxHeartbeats 4000000 in
theorem Bytes_ok {g : Nat} {B : Nat → Int} {T : Nat → Bool} (n s : Nat) (w : World) (hM : Mem w g true B T) (hn : n + s ≤ 65536) :
    Calls Try.prog 10 #[.pointer (some ⟨g, 0, none⟩), .int .i64 n, .int .i64 s] w fun e w' => ∃ v, e = .returned (.tuple #[v, .int .i64 0]) ∧ Kd.R (Kd.int .u8) 5 w' w.heap.size (fun _ => True) v (row B n s) ∧ Below w.heap.size w w' := by
  have HM := Aside0.mk hM
  have hp : isPart (n : Int) (s : Int) = true := by unfold isPart; exact decide_eq_true ⟨by omega, by omega, by omega⟩
  obtain ⟨A2, hsl, hC⟩ : ∃ A2, (∀ w : World, (Instr.sliceAt 61 (.pointer (some ⟨g, 1, none⟩)) (some (.int .i64 (n : Int))) (some (.int .i64 ((n : Int) + (s : Int)))) none).run Try.prog w = .ok (.slice A2 s (65536 - n)) w) ∧ Kd.C (Kd.int .u8) w A2 (row B n s).length (row B n s) := by
    refine ⟨_, slice61_2 g n s .i64 .i64 hn, ?_⟩
    by_cases e : 65536 = n
    · have hz : s = 0 := by omega
      subst hz
      exact C_none _ _ _
    · rw [if_neg e]
      exact hM.C n s hn
  have hcall := bytes_Clone.calls A2 (65536 - n) (row B n s) (row B n s) w hC (by rw [row_len]; omega) (by unfold bytes_Clone.f; rw [if_pos (by rw [row_len]; omega)])
  rw [row_len] at hcall
  have HCALL := Aside0.mk hcall
  have h1 : (n : Int) + s ≤ 65536 := by omega
  clear hM hn hC hcall
  go_enter Try.func10, Try.ntmps10
  go_wp2_with fail
  refine (none_calls HM.out).mono ?_
  rintro e w1 ⟨rfl, rfl⟩
  go_wp2_with fail
  refine (part_calls (n : Int) (s : Int) _).mono ?_
  rw [hp]
  rintro e w1 ⟨rfl, rfl⟩
  go_wp2_with fail
  refine HCALL.out.mono ?_
  rintro e w1 ⟨v, rfl, hR, hb⟩
  have HR1 := Aside0.mk hR
  have HB1 := Aside0.mk hb
  clear hR hb
  go_wp2
  go_ret2
  exact ⟨_, rfl, HR1.out, HB1.out⟩
/-- How many of so many granules have a tag. -/
def cntT (T : Nat → Bool) (lo : Nat) : Nat → Nat
  | 0 => 0
  | k + 1 => cntT T lo k + (if T (lo + k) = true then 1 else 0)
theorem cntT_le (T : Nat → Bool) (lo : Nat) : ∀ k, cntT T lo k ≤ k
  | 0 => Nat.le_refl _
  | k + 1 => by have := cntT_le T lo k; unfold cntT; split <;> omega
/-- How many granules there are of so many bytes. -/
def spanN (n s : Nat) : Nat := if s = 0 then 0 else (n + s - 1) / 8 + 1 - n / 8
theorem int_eq {k : IntKind} {a b : Int} (h : a = b) : Value.int k a = .int k b := by rw [h]
theorem ret2i {k k2 : IntKind} {a b c : Int} (h : a = b) : Ending.returned (.tuple #[.int k a, .int k2 c]) = .returned (.tuple #[.int k b, .int k2 c]) := by rw [h]
set_option maxHeartbeats 8000000 in
theorem Tags_ok {g : Nat} {B : Nat → Int} {T : Nat → Bool} (n s : Nat) (w : World) (hM : Mem w g true B T) (hn : n + s ≤ 65536) :
    Calls Try.prog 11 #[.pointer (some ⟨g, 0, none⟩), .int .i64 n, .int .i64 s] w fun e w' => e = .returned (.tuple #[.int .i64 (cntT T (n / 8) (spanN n s)), .int .i64 0]) ∧ w = w' := by
  have HM := Aside0.mk hM
  have hp : isPart (n : Int) (s : Int) = true := by unfold isPart; exact decide_eq_true ⟨by omega, by omega, by omega⟩
  have h1 : (n : Int) + s ≤ 65536 := by omega
  have HN := Aside0.mk hn
  clear hM hn
  go_enter Try.func11, Try.ntmps11
  go_wp2_with fail
  refine (none_calls HM.out).mono ?_
  rintro e w1 ⟨rfl, rfl⟩
  go_wp2_with fail
  refine (part_calls (n : Int) (s : Int) _).mono ?_
  rw [hp]
  rintro e w1 ⟨rfl, rfl⟩
  clear hp
  go_wp2_with fail
  go_loopg [8, 9] (spanN n s + 1) (fun kq v8 v9 w' => ∃ j : Nat, v8 = .int .i64 (cntT T (n / 8) j : Nat) ∧ v9 = .int .i64 ((n / 8 + j : Nat) : Int) ∧ Aside0 (j + kq = spanN n s + 1) ∧ Aside0 (j ≤ spanN n s) ∧ w' = w)
  case atStart => exact ⟨0, rfl, by simp, ⟨by omega⟩, ⟨by omega⟩, rfl⟩
  case round =>
    obtain ⟨j, rfl, rfl, HK, HJ, rfl⟩ := hrel
    have hc0 := cntT_le T (n / 8) j
    generalize hq : cntT T (n / 8) j = q at hc0
    have HQ := Aside0.mk hq
    clear hq
    by_cases hs : 0 < s
    · have hsp : spanN n s = (n + s - 1) / 8 + 1 - n / 8 := by unfold spanN; rw [if_neg (by omega)]
      have hN := HN.out
      have hK := HK.out
      have hJ := HJ.out
      rw [hsp] at hK hJ
      have hd1 : Int.tdiv ((n : Int) + s - 1) 8 = (((n + s - 1) / 8 : Nat) : Int) := by rw [Int.tdiv_eq_ediv_of_nonneg (by omega)]; omega
      by_cases c : j < (n + s - 1) / 8 + 1 - n / 8
      · cases gk with
        | zero => exact absurd hK (by omega)
        | succ gk =>
          have hj8 : n / 8 + j < 8192 := by omega
          have hcell := HM.out.tag (n / 8 + j) hj8
          have hdec : decide ((n : Int) / 8 + (j : Int) ≤ ((n + s - 1 : Nat) : Int) / 8) = true := decide_eq_true (by omega)
          have HLT : Aside0 (j < spanN n s) := ⟨by omega⟩
          clear hsp hK hJ hN c
          cases ht : T (n / 8 + j) with
          | true =>
            rw [ht] at hcell
            have HT := Aside0.mk ht
            clear ht
            go_wp2
            go_roundg gk
            case measure => omega
            case rel => exact ⟨j + 1, by unfold cntT; rw [if_pos HT.out, HQ.out]; go_num, int_eq (by omega), ⟨by have := HK.out; omega⟩, ⟨by have := HLT.out; omega⟩, rfl⟩
          | false =>
            rw [ht] at hcell
            have HT := Aside0.mk ht
            clear ht
            go_wp2
            go_roundg gk
            case measure => omega
            case rel => exact ⟨j + 1, by unfold cntT; rw [if_neg (by rw [HT.out]; decide), HQ.out]; rfl, int_eq (by omega), ⟨by have := HK.out; omega⟩, ⟨by have := HLT.out; omega⟩, rfl⟩
      · have hdec : decide ((n : Int) / 8 + (j : Int) ≤ ((n + s - 1 : Nat) : Int) / 8) = false := decide_eq_false (by omega)
        have HE : Aside0 (j = spanN n s) := ⟨by omega⟩
        clear hsp hK hJ hN c
        go_wp2
        go_ret2
        exact ⟨ret2i (by rw [← HE.out, HQ.out]), rfl⟩
    · have HE : Aside0 (j = spanN n s) := ⟨by have := HJ.out; have h0 : spanN n s = 0 := by unfold spanN; rw [if_pos (by omega)]
                                              omega⟩
      have hdec : decide ((0 : Int) < (s : Int)) = false := decide_eq_false (by omega)
      have hdec2 : decide (0 < s) = false := decide_eq_false hs
      go_wp2
      go_ret2
      exact ⟨ret2i (by rw [← HE.out, HQ.out]), rfl⟩
end Go.Proofs.Ytiiemfnaegapmaa.Q

-- The memory's functions: LoadCap, StoreCap, Copy, by hand. Lean checks it.
namespace Go.Proofs.Ytiiemfnaegapmaa.Q
open Go.Proofs.Ytiiemfnaegapmaa.Pure Go.Proofs.Ytiiemfnaegapmaa.Z
open Go.RowKit Go.Proofs.YtiiemfnaegapmaaW.PrintWords Go.Proofs.YtiiemfnaegapmaaW.PrintLast Go.Proofs.YtiiemfnaegapmaaW.PrintMore
set_option linter.unusedVariables false
set_option linter.unusedSimpArgs false
theorem bytes_callsE (g : Bool) (a p t e b u : Int) (ha : 0 ≤ a ∧ a < 4294967296) (hp : 0 ≤ p ∧ p ≤ 255) (ht : 0 ≤ t ∧ t ≤ 255) (he : 0 ≤ e ∧ e ≤ 255) (hb : 0 ≤ b ∧ b ≤ 65535) (hu : 0 ≤ u ∧ u ≤ 65535) (w : World) : Calls Try.prog 25 #[.agg #[.bool g, .int .u32 a, .int .u8 p, .int .u8 t, .int .u8 e, .int .u16 b, .int .u16 u]] w fun x w' => x = .returned (.agg #[.int .u8 (nth a 0), .int .u8 (nth a 1), .int .u8 (nth a 2), .int .u8 (nth a 3), .int .u8 (nth (num2 p t e b u) 0), .int .u8 (nth (num2 p t e b u) 1), .int .u8 (nth (num2 p t e b u) 2), .int .u8 (nth (num2 p t e b u) 3)]) ∧ Below w.heap.size w w' := bytes_calls g a p t e b u ha hp ht he hb hu w
theorem rbytes_callsE (g : Bool) (a p t e b u : Int) (ha : 0 ≤ a ∧ a < 4294967296) (hp : 0 ≤ p ∧ p ≤ 255) (ht : 0 ≤ t ∧ t ≤ 255) (he : 0 ≤ e ∧ e ≤ 255) (hb : 0 ≤ b ∧ b ≤ 65535) (hu : 0 ≤ u ∧ u ≤ 65535) (w : World) : Calls Try.prog 18 #[.agg #[.bool g, .int .u32 a, .int .u8 p, .int .u8 t, .int .u8 e, .int .u16 b, .int .u16 u]] w fun x w' => x = .returned (.agg #[.int .u8 (nth a 0), .int .u8 (nth a 1), .int .u8 (nth a 2), .int .u8 (nth a 3), .int .u8 (nth (num2 p t e b u) 0), .int .u8 (nth (num2 p t e b u) 1), .int .u8 (nth (num2 p t e b u) 2), .int .u8 (nth (num2 p t e b u) 3)]) ∧ Below w.heap.size w w' := rbytes_calls g a p t e b u ha hp ht he hb hu w
theorem of_callsE (x0 x1 x2 x3 x4 x5 x6 x7 : Int) (hb : AllBytes [x0, x1, x2, x3, x4, x5, x6, x7]) (tag : Bool) (w : World) : Calls Try.prog 30 #[.agg #[.int .u8 x0, .int .u8 x1, .int .u8 x2, .int .u8 x3, .int .u8 x4, .int .u8 x5, .int .u8 x6, .int .u8 x7], .bool tag] w fun x w' => x = .returned (.agg #[.bool tag, .int .u32 (numOf [x0, x1, x2, x3]), .int .u8 (numOf [x4, x5, x6, x7] % 128), .int .u8 (numOf [x4, x5, x6, x7] / 128 % 8), .int .u8 (numOf [x4, x5, x6, x7] / 1024 % 16), .int .u16 (numOf [x4, x5, x6, x7] / 16384 % 512), .int .u16 (numOf [x4, x5, x6, x7] / 8388608 % 512)]) ∧ Below w.heap.size w w' := of_calls x0 x1 x2 x3 x4 x5 x6 x7 hb tag w
theorem rof_callsE (x0 x1 x2 x3 x4 x5 x6 x7 : Int) (hb : AllBytes [x0, x1, x2, x3, x4, x5, x6, x7]) (tag : Bool) (w : World) : Calls Try.prog 17 #[.agg #[.int .u8 x0, .int .u8 x1, .int .u8 x2, .int .u8 x3, .int .u8 x4, .int .u8 x5, .int .u8 x6, .int .u8 x7], .bool tag] w fun x w' => x = .returned (.agg #[.bool tag, .int .u32 (numOf [x0, x1, x2, x3]), .int .u8 (numOf [x4, x5, x6, x7] % 128), .int .u8 (numOf [x4, x5, x6, x7] / 128 % 8), .int .u8 (numOf [x4, x5, x6, x7] / 1024 % 16), .int .u16 (numOf [x4, x5, x6, x7] / 16384 % 512), .int .u16 (numOf [x4, x5, x6, x7] / 8388608 % 512)]) ∧ Below w.heap.size w w' := rof_calls x0 x1 x2 x3 x4 x5 x6 x7 hb tag w
/-- The numbers of a capability that is loaded: address, permissions, type, exponent, base, top. -/
def ldA (B : Nat → Int) (n : Nat) : Int := numOf [B n, B (n + 1), B (n + 2), B (n + 3)]
def ldN (B : Nat → Int) (n : Nat) : Int := numOf [B (n + 4), B (n + 5), B (n + 6), B (n + 7)]
theorem bcell {W w1 : World} (hb : Below W.heap.size W w1) : (∀ b o, b < W.heap.size → w1.cell? ⟨b, o, none⟩ = W.cell? ⟨b, o, none⟩) ∧ (∀ b o, b < W.heap.size → w1.frozen? ⟨b, o, none⟩ = W.frozen? ⟨b, o, none⟩) :=
  ⟨fun b o h => hb.cell (p := ⟨b, o, none⟩) h, fun b o h => hb.frozen (p := ⟨b, o, none⟩) h⟩
theorem ldM {w W w' : World} {g : Nat} {B : Nat → Int} {T : Nat → Bool} (k : Below W.heap.size W w') (h : Mem W g true B T) : Mem w' g true B T := h.below k
theorem results_cell_tmp {fn : Func} {p q : Tmp} {ty : TypeId} (h : fn.results = #[.cell p ty, .tmp q]) (tmps : Array Value) (w : World) (g : Nat) (t : TypeId) (cs : Array Value) (fr : Nat × Nat) (d : TypeDesc)
    (hp : tmps.getD p undef = .pointer (some ⟨g, 0, none⟩)) (hg : w.heap[g]? = some (.cells cs t fr))
    (hd : (match d with | .struct _ | .array _ _ => true | _ => false) = true) (hu : Try.prog.underlying ty = some d) (hi : (Try.prog.info? ty).map (·.size) = some cs.size) :
    (results fn tmps).run Try.prog w = .ok (.tuple #[.agg cs, tmps.getD q undef]) w := by
  have hp' : tmps[p]?.getD undef = .pointer (some ⟨g, 0, none⟩) := by simpa using hp
  have hl := run_loadVar_row (P := Try.prog) w g t ty cs fr d hg hu (by cases d <;> simp_all) hi
  unfold results
  rw [h, Array.mapM_eq_foldlM]
  simp [hp', asAddr, hl]
theorem row8_bytes {B : Nat → Int} (hB : ∀ i, 0 ≤ B i ∧ B i ≤ 255) (n : Nat) : AllBytes [B n, B (n + 1), B (n + 2), B (n + 3), B (n + 4), B (n + 5), B (n + 6), B (n + 7)] := by
  intro x hx
  simp only [List.mem_cons, List.not_mem_nil, or_false] at hx
  rcases hx with rfl | rfl | rfl | rfl | rfl | rfl | rfl | rfl <;> exact hB _
theorem keepL {w W W2 : World} {g n : Nat} {B : Nat → Int} {T : Nat → Bool} (k : Below W.heap.size W W2) (h : W.cell? ⟨g, 1 + n, none⟩ = some (.int .u8 (B n)) ∧ W.cell? ⟨g, 1 + n + 1, none⟩ = some (.int .u8 (B (n + 1))) ∧ W.cell? ⟨g, 1 + n + 2, none⟩ = some (.int .u8 (B (n + 2))) ∧ W.cell? ⟨g, 1 + n + 3, none⟩ = some (.int .u8 (B (n + 3))) ∧ W.cell? ⟨g, 1 + n + 4, none⟩ = some (.int .u8 (B (n + 4))) ∧ W.cell? ⟨g, 1 + n + 5, none⟩ = some (.int .u8 (B (n + 5))) ∧ W.cell? ⟨g, 1 + n + 6, none⟩ = some (.int .u8 (B (n + 6))) ∧ W.cell? ⟨g, 1 + n + 7, none⟩ = some (.int .u8 (B (n + 7))) ∧ W.cell? ⟨g, 65537 + n / 8, none⟩ = some (.bool (T (n / 8))) ∧ Below w.heap.size w W ∧ w.heap.size < W.heap.size) : W2.cell? ⟨g, 1 + n, none⟩ = some (.int .u8 (B n)) ∧ W2.cell? ⟨g, 1 + n + 1, none⟩ = some (.int .u8 (B (n + 1))) ∧ W2.cell? ⟨g, 1 + n + 2, none⟩ = some (.int .u8 (B (n + 2))) ∧ W2.cell? ⟨g, 1 + n + 3, none⟩ = some (.int .u8 (B (n + 3))) ∧ W2.cell? ⟨g, 1 + n + 4, none⟩ = some (.int .u8 (B (n + 4))) ∧ W2.cell? ⟨g, 1 + n + 5, none⟩ = some (.int .u8 (B (n + 5))) ∧ W2.cell? ⟨g, 1 + n + 6, none⟩ = some (.int .u8 (B (n + 6))) ∧ W2.cell? ⟨g, 1 + n + 7, none⟩ = some (.int .u8 (B (n + 7))) ∧ W2.cell? ⟨g, 65537 + n / 8, none⟩ = some (.bool (T (n / 8))) ∧ Below w.heap.size w W2 ∧ w.heap.size < W2.heap.size := by
  obtain ⟨h0, h1, h2, h3, h4, h5, h6, h7, h8, h9, h10⟩ := h
  exact ⟨(k.cell (World.block_lt_of_cell? _ _ h0)).trans h0, (k.cell (World.block_lt_of_cell? _ _ h1)).trans h1, (k.cell (World.block_lt_of_cell? _ _ h2)).trans h2, (k.cell (World.block_lt_of_cell? _ _ h3)).trans h3, (k.cell (World.block_lt_of_cell? _ _ h4)).trans h4, (k.cell (World.block_lt_of_cell? _ _ h5)).trans h5, (k.cell (World.block_lt_of_cell? _ _ h6)).trans h6, (k.cell (World.block_lt_of_cell? _ _ h7)).trans h7, (k.cell (World.block_lt_of_cell? _ _ h8)).trans h8, below_step h9 k, Nat.lt_of_lt_of_le h10 k.size⟩
theorem keepLD {w W : World} {g n : Nat} {B : Nat → Int} {T : Nat → Bool} (h : W.cell? ⟨g, 1 + n, none⟩ = some (.int .u8 (B n)) ∧ W.cell? ⟨g, 1 + n + 1, none⟩ = some (.int .u8 (B (n + 1))) ∧ W.cell? ⟨g, 1 + n + 2, none⟩ = some (.int .u8 (B (n + 2))) ∧ W.cell? ⟨g, 1 + n + 3, none⟩ = some (.int .u8 (B (n + 3))) ∧ W.cell? ⟨g, 1 + n + 4, none⟩ = some (.int .u8 (B (n + 4))) ∧ W.cell? ⟨g, 1 + n + 5, none⟩ = some (.int .u8 (B (n + 5))) ∧ W.cell? ⟨g, 1 + n + 6, none⟩ = some (.int .u8 (B (n + 6))) ∧ W.cell? ⟨g, 1 + n + 7, none⟩ = some (.int .u8 (B (n + 7))) ∧ W.cell? ⟨g, 65537 + n / 8, none⟩ = some (.bool (T (n / 8))) ∧ Below w.heap.size w W ∧ w.heap.size < W.heap.size) : W.drew.cell? ⟨g, 1 + n, none⟩ = some (.int .u8 (B n)) ∧ W.drew.cell? ⟨g, 1 + n + 1, none⟩ = some (.int .u8 (B (n + 1))) ∧ W.drew.cell? ⟨g, 1 + n + 2, none⟩ = some (.int .u8 (B (n + 2))) ∧ W.drew.cell? ⟨g, 1 + n + 3, none⟩ = some (.int .u8 (B (n + 3))) ∧ W.drew.cell? ⟨g, 1 + n + 4, none⟩ = some (.int .u8 (B (n + 4))) ∧ W.drew.cell? ⟨g, 1 + n + 5, none⟩ = some (.int .u8 (B (n + 5))) ∧ W.drew.cell? ⟨g, 1 + n + 6, none⟩ = some (.int .u8 (B (n + 6))) ∧ W.drew.cell? ⟨g, 1 + n + 7, none⟩ = some (.int .u8 (B (n + 7))) ∧ W.drew.cell? ⟨g, 65537 + n / 8, none⟩ = some (.bool (T (n / 8))) ∧ Below w.heap.size w W.drew ∧ w.heap.size < W.drew.heap.size := ⟨h.1, h.2.1, h.2.2.1, h.2.2.2.1, h.2.2.2.2.1, h.2.2.2.2.2.1, h.2.2.2.2.2.2.1, h.2.2.2.2.2.2.2.1, h.2.2.2.2.2.2.2.2.1, h.2.2.2.2.2.2.2.2.2.1.drew, h.2.2.2.2.2.2.2.2.2.2⟩
theorem keepLS {w W : World} {g n j : Nat} {B : Nat → Int} {T : Nat → Bool} (u : Value) (h : W.cell? ⟨g, 1 + n, none⟩ = some (.int .u8 (B n)) ∧ W.cell? ⟨g, 1 + n + 1, none⟩ = some (.int .u8 (B (n + 1))) ∧ W.cell? ⟨g, 1 + n + 2, none⟩ = some (.int .u8 (B (n + 2))) ∧ W.cell? ⟨g, 1 + n + 3, none⟩ = some (.int .u8 (B (n + 3))) ∧ W.cell? ⟨g, 1 + n + 4, none⟩ = some (.int .u8 (B (n + 4))) ∧ W.cell? ⟨g, 1 + n + 5, none⟩ = some (.int .u8 (B (n + 5))) ∧ W.cell? ⟨g, 1 + n + 6, none⟩ = some (.int .u8 (B (n + 6))) ∧ W.cell? ⟨g, 1 + n + 7, none⟩ = some (.int .u8 (B (n + 7))) ∧ W.cell? ⟨g, 65537 + n / 8, none⟩ = some (.bool (T (n / 8))) ∧ Below w.heap.size w W ∧ w.heap.size < W.heap.size) (hg : g < w.heap.size) : (W.setCell ⟨w.heap.size, j, none⟩ u).cell? ⟨g, 1 + n, none⟩ = some (.int .u8 (B n)) ∧ (W.setCell ⟨w.heap.size, j, none⟩ u).cell? ⟨g, 1 + n + 1, none⟩ = some (.int .u8 (B (n + 1))) ∧ (W.setCell ⟨w.heap.size, j, none⟩ u).cell? ⟨g, 1 + n + 2, none⟩ = some (.int .u8 (B (n + 2))) ∧ (W.setCell ⟨w.heap.size, j, none⟩ u).cell? ⟨g, 1 + n + 3, none⟩ = some (.int .u8 (B (n + 3))) ∧ (W.setCell ⟨w.heap.size, j, none⟩ u).cell? ⟨g, 1 + n + 4, none⟩ = some (.int .u8 (B (n + 4))) ∧ (W.setCell ⟨w.heap.size, j, none⟩ u).cell? ⟨g, 1 + n + 5, none⟩ = some (.int .u8 (B (n + 5))) ∧ (W.setCell ⟨w.heap.size, j, none⟩ u).cell? ⟨g, 1 + n + 6, none⟩ = some (.int .u8 (B (n + 6))) ∧ (W.setCell ⟨w.heap.size, j, none⟩ u).cell? ⟨g, 1 + n + 7, none⟩ = some (.int .u8 (B (n + 7))) ∧ (W.setCell ⟨w.heap.size, j, none⟩ u).cell? ⟨g, 65537 + n / 8, none⟩ = some (.bool (T (n / 8))) ∧ Below w.heap.size w (W.setCell ⟨w.heap.size, j, none⟩ u) ∧ w.heap.size < (W.setCell ⟨w.heap.size, j, none⟩ u).heap.size := by
  obtain ⟨h0, h1, h2, h3, h4, h5, h6, h7, h8, h9, h10⟩ := h
  have hc : ∀ i, (W.setCell ⟨w.heap.size, j, none⟩ u).cell? ⟨g, i, none⟩ = W.cell? ⟨g, i, none⟩ := fun i => World.cell?_of_block (Below.heap_setCell W ⟨w.heap.size, j, none⟩ u g (by show g ≠ w.heap.size; omega))
  exact ⟨(hc _).trans h0, (hc _).trans h1, (hc _).trans h2, (hc _).trans h3, (hc _).trans h4, (hc _).trans h5, (hc _).trans h6, (hc _).trans h7, (hc _).trans h8, h9.setCell (Nat.le_refl _) u, by simpa [World.setCell] using h10⟩
set_option maxHeartbeats 8000000 in
set_option maxRecDepth 100000 in
theorem LoadCap_ok {g : Nat} {B : Nat → Int} {T : Nat → Bool} (hB : ∀ i, 0 ≤ B i ∧ B i ≤ 255) (n : Nat) (w : World) (hM : Mem w g true B T) (hd : n % 8 = 0) (hn : n + 8 ≤ 65536) :
    Calls Try.prog 15 #[.pointer (some ⟨g, 0, none⟩), .int .u32 n] w fun e w' => e = .returned (.tuple #[.agg #[.bool (T (n / 8)), .int .u32 (ldA B n), .int .u8 (ldN B n % 128), .int .u8 (ldN B n / 128 % 8), .int .u8 (ldN B n / 1024 % 16), .int .u16 (ldN B n / 16384 % 512), .int .u16 (ldN B n / 8388608 % 512)], .int .i64 0]) ∧ Below w.heap.size w w' := by
  have HM := Aside0.mk hM
  have HBY := Aside0.mk hB
  have hth : isThere (n : Int) 8 = true := by unfold isThere; exact decide_eq_true ⟨by omega, by omega⟩
  have HN := Aside0.mk hn
  have HB : Aside0 (Below w.heap.size w (w.alloc (.cells #[.bool false, .int .u32 0, .int .u8 0, .int .u8 0, .int .u8 0, .int .u16 0, .int .u16 0] 30))) := ⟨(Below.refl _ _).alloc (Nat.le_refl _) _⟩
  have HM1 := Aside0.mk (HM.out.below HB.out)
  have hu30 := Try.underlying30
  have hu51 := Try.underlying51
  have h1 : (n : Int) + 8 ≤ 65536 := by omega
  have h2 : n / 8 < 8192 := by omega
  have h3 : n < 65536 := by omega
  have hw : IntKind.u32.wrap ((n : Int) + 8) = (n : Int) + 8 := by simp [IntKind.wrap, IntKind.bits, IntKind.signed]; omega
  have hsl := slice61_2 g n 8 .u32 .u32 hn
  rw [if_neg (by omega)] at hsl
  simp only [show ((8 : Nat) : Int) = 8 from rfl] at hsl
  have har := fun (w : World) => run_arrayAt (P := Try.prog) (w := w) 51 5 8 (some ⟨g, 1 + n, none⟩) 8 (65536 - n) Try.underlying51 (Nat.le_refl _)
  have hcap : 8 ≤ 65536 - n := by omega
  clear hM hd hn hB
  go_enter Try.func15, Try.ntmps15
  go_wp2_with fail
  refine (none_calls HM1.out).mono ?_
  rintro e w1 ⟨rfl, rfl⟩
  go_wp2_with fail
  refine (there_calls (n : Int) 8 (by have := HN.out; omega) (by decide) _).mono ?_
  rw [hth]
  rintro e w1 ⟨rfl, rfl⟩
  clear hth
  go_wp2_with fail
  have q1 : Int.tdiv (n : Int) 8 = (n : Int) / 8 := Int.tdiv_eq_ediv_of_nonneg (by omega)
  have q2 : IntKind.u32.wrap ((n : Int) / 8) = (n : Int) / 8 := by simp [IntKind.wrap, IntKind.bits, IntKind.signed]; omega
  have q3 : (0 : Int) ≤ (n : Int) / 8 := by omega
  have q4 : (n : Int) / 8 < 8192 := by omega
  have q5 : ((n : Int) / 8).toNat = n / 8 := by omega
  have hgl : g < w.heap.size := HM.out.lt
  have hs : (w.alloc (.cells #[.bool false, .int .u32 0, .int .u8 0, .int .u8 0, .int .u8 0, .int .u16 0, .int .u16 0] 30)).cell? ⟨g, 1 + n, none⟩ = some (.int .u8 (B n)) ∧ (w.alloc (.cells #[.bool false, .int .u32 0, .int .u8 0, .int .u8 0, .int .u8 0, .int .u16 0, .int .u16 0] 30)).cell? ⟨g, 1 + n + 1, none⟩ = some (.int .u8 (B (n + 1))) ∧ (w.alloc (.cells #[.bool false, .int .u32 0, .int .u8 0, .int .u8 0, .int .u8 0, .int .u16 0, .int .u16 0] 30)).cell? ⟨g, 1 + n + 2, none⟩ = some (.int .u8 (B (n + 2))) ∧ (w.alloc (.cells #[.bool false, .int .u32 0, .int .u8 0, .int .u8 0, .int .u8 0, .int .u16 0, .int .u16 0] 30)).cell? ⟨g, 1 + n + 3, none⟩ = some (.int .u8 (B (n + 3))) ∧ (w.alloc (.cells #[.bool false, .int .u32 0, .int .u8 0, .int .u8 0, .int .u8 0, .int .u16 0, .int .u16 0] 30)).cell? ⟨g, 1 + n + 4, none⟩ = some (.int .u8 (B (n + 4))) ∧ (w.alloc (.cells #[.bool false, .int .u32 0, .int .u8 0, .int .u8 0, .int .u8 0, .int .u16 0, .int .u16 0] 30)).cell? ⟨g, 1 + n + 5, none⟩ = some (.int .u8 (B (n + 5))) ∧ (w.alloc (.cells #[.bool false, .int .u32 0, .int .u8 0, .int .u8 0, .int .u8 0, .int .u16 0, .int .u16 0] 30)).cell? ⟨g, 1 + n + 6, none⟩ = some (.int .u8 (B (n + 6))) ∧ (w.alloc (.cells #[.bool false, .int .u32 0, .int .u8 0, .int .u8 0, .int .u8 0, .int .u16 0, .int .u16 0] 30)).cell? ⟨g, 1 + n + 7, none⟩ = some (.int .u8 (B (n + 7))) ∧ (w.alloc (.cells #[.bool false, .int .u32 0, .int .u8 0, .int .u8 0, .int .u8 0, .int .u16 0, .int .u16 0] 30)).cell? ⟨g, 65537 + n / 8, none⟩ = some (.bool (T (n / 8))) ∧ Below w.heap.size w (w.alloc (.cells #[.bool false, .int .u32 0, .int .u8 0, .int .u8 0, .int .u8 0, .int .u16 0, .int .u16 0] 30)) ∧ w.heap.size < (w.alloc (.cells #[.bool false, .int .u32 0, .int .u8 0, .int .u8 0, .int .u8 0, .int .u16 0, .int .u16 0] 30)).heap.size := ⟨(HM1.out.byte n (by omega)), (HM1.out.byte (n + 1) (by omega)), (HM1.out.byte (n + 2) (by omega)), (HM1.out.byte (n + 3) (by omega)), (HM1.out.byte (n + 4) (by omega)), (HM1.out.byte (n + 5) (by omega)), (HM1.out.byte (n + 6) (by omega)), (HM1.out.byte (n + 7) (by omega)), HM1.out.tag (n / 8) h2, HB.out, by simp⟩
  have HO := Aside0.mk (of_callsE (B n) (B (n + 1)) (B (n + 2)) (B (n + 3)) (B (n + 4)) (B (n + 5)) (B (n + 6)) (B (n + 7)) (row8_bytes HBY.out n) (T (n / 8)))
  go_region_held3 (fun w' => w'.cell? ⟨g, 1 + n, none⟩ = some (.int .u8 (B n)) ∧ w'.cell? ⟨g, 1 + n + 1, none⟩ = some (.int .u8 (B (n + 1))) ∧ w'.cell? ⟨g, 1 + n + 2, none⟩ = some (.int .u8 (B (n + 2))) ∧ w'.cell? ⟨g, 1 + n + 3, none⟩ = some (.int .u8 (B (n + 3))) ∧ w'.cell? ⟨g, 1 + n + 4, none⟩ = some (.int .u8 (B (n + 4))) ∧ w'.cell? ⟨g, 1 + n + 5, none⟩ = some (.int .u8 (B (n + 5))) ∧ w'.cell? ⟨g, 1 + n + 6, none⟩ = some (.int .u8 (B (n + 6))) ∧ w'.cell? ⟨g, 1 + n + 7, none⟩ = some (.int .u8 (B (n + 7))) ∧ w'.cell? ⟨g, 65537 + n / 8, none⟩ = some (.bool (T (n / 8))) ∧ Below w.heap.size w w' ∧ w.heap.size < w'.heap.size) (first | (with_reducible refine keepLD ?_; with_reducible assumption) | (with_reducible exact keepL (by with_reducible assumption) (by with_reducible assumption)) | (repeat (first | with_reducible assumption | with_reducible refine keepLS _ ?_ (by with_reducible assumption)))) (first | (go_at_call 30; ((with_reducible refine (HO.out _).mono ?_)); rintro e w' ⟨rfl, hb⟩; have hbc_ := (bcell hb).1; have hbf_ := (bcell hb).2))
  rename_i hH_
  have HE := Aside0.mk hH_.2.2.2.2.2.2.2.2.2.1
  have BZ := Aside0.mk (blk_below (blk_below (heap_alloc_new w (.cells #[.bool false, .int .u32 0, .int .u8 0, .int .u8 0, .int .u8 0, .int .u16 0, .int .u16 0] 30)) ((Below.refl _ _).drew)) hb)
  clear hH_ hs hbc_ hbf_
  go_wp2
  refine bodyPost_ret (results_cell_tmp rfl _ _ w.heap.size 30 #[.bool (T (n / 8)), .int .u32 (ldA B n), .int .u8 (ldN B n % 128), .int .u8 (ldN B n / 128 % 8), .int .u8 (ldN B n / 1024 % 16), .int .u16 (ldN B n / 16384 % 512), .int .u16 (ldN B n / 8388608 % 512)] (0, 0) _ rfl (put7 (.bool (T (n / 8))) (.int .u32 (ldA B n)) (.int .u8 (ldN B n % 128)) (.int .u8 (ldN B n / 128 % 8)) (.int .u8 (ldN B n / 1024 % 16)) (.int .u16 (ldN B n / 16384 % 512)) (.int .u16 (ldN B n / 8388608 % 512)) BZ.out) rfl Try.underlying30 (by kernel_rfl)) rfl ?_
  exact ⟨rfl, HE.out⟩
end Go.Proofs.Ytiiemfnaegapmaa.Q

-- The memory's functions: StoreCap, Copy, by hand. Lean checks it.
namespace Go.Proofs.Ytiiemfnaegapmaa.Q
open Go.Proofs.Ytiiemfnaegapmaa.Pure Go.Proofs.Ytiiemfnaegapmaa.Z
open Go.RowKit Go.Proofs.YtiiemfnaegapmaaW.PrintWords Go.Proofs.YtiiemfnaegapmaaW.PrintLast Go.Proofs.YtiiemfnaegapmaaW.PrintMore
set_option linter.unusedVariables false
set_option linter.unusedSimpArgs false
theorem slice61_1 (g n : Nat) (k1 : IntKind) (h : n + 8 ≤ 65536) (w : World) :
    (Instr.sliceAt 61 (.pointer (some ⟨g, 1, none⟩)) (some (.int k1 (n : Int))) none none).run Try.prog w = .ok (.slice (some ⟨g, 1 + n, none⟩) (65536 - n) (65536 - n)) w := by
  unfold Instr.sliceAt Instr.sliceBounds
  rw [Sem.run_bind, run_underlying Try.underlying61]
  simp only [Result.andThen_ok, Instr.sureAddr, Sem.run_bind, Sem.run_pure]
  rw [run_bound (x := undef) (n := n) w (by omega)]
  simp only [Result.andThen_ok]
  rw [Try.sizeOf5]
  simp only [Result.andThen_ok]
  rw [if_neg (by omega), Addr.add_mid, Nat.mul_one]
/-- Behind a capability's store. -/
def stC (B : Nat → Int) (n : Nat) (a m : Int) : Nat → Int := fun j => if n ≤ j ∧ j < n + 4 then nth a (j - n) else if n + 4 ≤ j ∧ j < n + 8 then nth m (j - (n + 4)) else B j
theorem stC_is (B : Nat → Int) (n : Nat) (a m : Int) : stC B n a m = upB (upB (upB (upB (upB (upB (upB (upB B n (nth a 0)) (n + 1) (nth a 1)) (n + 2) (nth a 2)) (n + 3) (nth a 3)) (n + 4) (nth m 0)) (n + 5) (nth m 1)) (n + 6) (nth m 2)) (n + 7) (nth m 3) := by
  funext j
  unfold stC upB
  by_cases c : n ≤ j ∧ j < n + 8
  · have : j = n ∨ j = n + 1 ∨ j = n + 2 ∨ j = n + 3 ∨ j = n + 4 ∨ j = n + 5 ∨ j = n + 6 ∨ j = n + 7 := by omega
    rcases this with h | h | h | h | h | h | h | h <;> subst h <;> simp <;> omega
  · have e : ∀ k, k < 8 → j ≠ n + k := fun k hk => by omega
    rw [if_neg (e 7 (by omega)), if_neg (e 6 (by omega)), if_neg (e 5 (by omega)), if_neg (e 4 (by omega)), if_neg (e 3 (by omega)), if_neg (e 2 (by omega)), if_neg (e 1 (by omega)), if_neg (by have := e 0 (by omega); omega), if_neg (by omega), if_neg (by omega)]
theorem copy8 (W : World) (g b n : Nat) (cs : List Value) (hl : cs.length = 8) (h1 : ∀ v ∈ cs, v.oneCell' = true) (hb : ∀ j v, cs[j]? = some v → W.cell? ⟨b, j, none⟩ = some v) (ht : W.there g (1 + n) 8) (hn : n + 8 ≤ 65536) :
    (Builtin.copy_ #[36, 36] 3 #[.slice (some ⟨g, 1 + n, none⟩) (65536 - n) (65536 - n), .slice (some ⟨b, 0, none⟩) 8 8]).run Try.prog W = .ok (.int .i64 8) (W.setCells g (1 + n) cs) := by
  have hld : (loadCells ⟨b, 0, none⟩ cs.length).run Try.prog W = .ok cs.toArray W := run_loadCells_list (P := Try.prog) W ⟨b, 0, none⟩ cs (fun j v hv => by rw [Addr.add_mid, Nat.zero_add]; exact hb j v hv)
  have hst := run_storeCells_cells (P := Try.prog) g (1 + n) cs 0 W (fun j hj => by simpa using (ht j (by omega)).1) (fun j hj => by simpa using (ht j (by omega)).2) h1
  have hm : Nat.min 8 (65536 - n) = 8 := by show min 8 (65536 - n) = 8; omega
  rw [hl] at hld
  unfold Builtin.copy_
  rw [Nat.add_zero] at hst
  simp [run_underlying Try.underlying36, Builtin.lenOf, Builtin.firstCells, Try.sizeOf5, hm, hld, goInt, hst]
def updL (B : Nat → Int) (n : Nat) : List Int → (Nat → Int)
  | [] => B
  | v :: r => updL (upB B n v) (n + 1) r
theorem Mem.setL {g : Nat} {T : Nat → Bool} : ∀ (vs : List Int) (n : Nat) (w : World) (B : Nat → Int), Mem w g true B T → n + vs.length ≤ 65536 → Mem (w.setCells g (1 + n) (vs.map (Value.int .u8))) g true (updL B n vs) T
  | [], _, _, _, h, _ => h
  | v :: r, n, w, B, h, hn => by
    rw [List.length_cons] at hn
    have h2 := Mem.setL r (n + 1) _ _ (h.setB n (by omega) v) (by omega)
    exact h2
theorem Fr.setCells {S : Nat → Prop} {g : Nat} (hs : S g) : ∀ (vs : List Value) (o : Nat) (a b : World), Fr S a b → Fr S a (b.setCells g o vs)
  | [], _, _, _, h => h
  | v :: r, o, a, b, h => Fr.setCells hs r (o + 1) a _ (h.setCell (p := ⟨g, o, none⟩) hs v)
theorem updL_is (B : Nat → Int) (n : Nat) (a m : Int) : updL B n [nth a 0, nth a 1, nth a 2, nth a 3, nth m 0, nth m 1, nth m 2, nth m 3] = stC B n a m := by rw [stC_is]; rfl
set_option maxHeartbeats 8000000 in
set_option maxRecDepth 100000 in
theorem StoreCap_ok {g : Nat} {B : Nat → Int} {T : Nat → Bool} (n : Nat) (q0 : Bool) (q1 q2 q3 q4 q5 q6 : Int) (h1 : 0 ≤ q1 ∧ q1 < 4294967296) (h2 : 0 ≤ q2 ∧ q2 ≤ 255) (h3 : 0 ≤ q3 ∧ q3 ≤ 255) (h4 : 0 ≤ q4 ∧ q4 ≤ 255) (h5 : 0 ≤ q5 ∧ q5 ≤ 65535) (h6 : 0 ≤ q6 ∧ q6 ≤ 65535) (w : World) (hM : Mem w g true B T) (hd : n % 8 = 0) (hn : n + 8 ≤ 65536) :
    Calls Try.prog 9 #[.pointer (some ⟨g, 0, none⟩), .int .u32 n, .agg #[.bool q0, .int .u32 q1, .int .u8 q2, .int .u8 q3, .int .u8 q4, .int .u16 q5, .int .u16 q6]] w fun e w' => e = .returned (.int .i64 0) ∧ Mem w' g true (stC B n q1 (num2 q2 q3 q4 q5 q6)) (upT T (n / 8) q0) ∧ Fr (fun k => k = g) w w' := by
  have HM := Aside0.mk hM
  have hth : isThere (n : Int) 8 = true := by unfold isThere; exact decide_eq_true ⟨by omega, by omega⟩
  have HN := Aside0.mk hn
  have HB : Aside0 (Below w.heap.size w (w.alloc (.cells #[.bool q0, .int .u32 q1, .int .u8 q2, .int .u8 q3, .int .u8 q4, .int .u16 q5, .int .u16 q6] 30))) := ⟨(Below.refl _ _).alloc (Nat.le_refl _) _⟩
  have HM1 := Aside0.mk (HM.out.below HB.out)
  have hu30 := Try.underlying30
  have hu51 := Try.underlying51
  have hr1 : (n : Int) + 8 ≤ 65536 := by omega
  have hr2 : n / 8 < 8192 := by omega
  have hr3 : n < 65536 := by omega
  have hcap : 8 ≤ 65536 - n := by omega
  have HBC := Aside0.mk (bytes_callsE q0 q1 q2 q3 q4 q5 q6 h1 h2 h3 h4 h5 h6)
  have hsl := slice61_1 g n .u32 hn
  clear hM hd hn h1 h2 h3 h4 h5 h6
  go_enter Try.func9, Try.ntmps9
  go_wp2_with fail
  refine (none_calls HM1.out).mono ?_
  rintro e w1 ⟨rfl, rfl⟩
  go_wp2_with fail
  refine (there_calls (n : Int) 8 (by have := HN.out; omega) (by decide) _).mono ?_
  rw [hth]
  rintro e w1 ⟨rfl, rfl⟩
  clear hth
  go_wp2_with fail
  refine (HBC.out _).mono ?_
  rintro e w3 ⟨rfl, hb⟩
  have HM3 := Aside0.mk (HM1.out.below hb)
  have HB3 := Aside0.mk (below_step HB.out hb)
  have BQ := Aside0.mk (blk_below (heap_alloc_new w (.cells #[.bool q0, .int .u32 q1, .int .u8 q2, .int .u8 q3, .int .u8 q4, .int .u16 q5, .int .u16 q6] 30)) hb)
  clear hb
  go_wp2
  have HM4 := Aside0.mk (HM3.out.below ((Below.refl w3.heap.size w3).alloc (Nat.le_refl _) (.cells #[.int .u8 (nth q1 0), .int .u8 (nth q1 1), .int .u8 (nth q1 2), .int .u8 (nth q1 3), .int .u8 (nth (num2 q2 q3 q4 q5 q6) 0), .int .u8 (nth (num2 q2 q3 q4 q5 q6) 1), .int .u8 (nth (num2 q2 q3 q4 q5 q6) 2), .int .u8 (nth (num2 q2 q3 q4 q5 q6) 3)] 51)))
  have HB4 := Aside0.mk (below_step HB3.out ((Below.refl w3.heap.size w3).alloc (Nat.le_refl _) (.cells #[.int .u8 (nth q1 0), .int .u8 (nth q1 1), .int .u8 (nth q1 2), .int .u8 (nth q1 3), .int .u8 (nth (num2 q2 q3 q4 q5 q6) 0), .int .u8 (nth (num2 q2 q3 q4 q5 q6) 1), .int .u8 (nth (num2 q2 q3 q4 q5 q6) 2), .int .u8 (nth (num2 q2 q3 q4 q5 q6) 3)] 51)))
  have BA := Aside0.mk (heap_alloc_new w3 (.cells #[.int .u8 (nth q1 0), .int .u8 (nth q1 1), .int .u8 (nth q1 2), .int .u8 (nth q1 3), .int .u8 (nth (num2 q2 q3 q4 q5 q6) 0), .int .u8 (nth (num2 q2 q3 q4 q5 q6) 1), .int .u8 (nth (num2 q2 q3 q4 q5 q6) 2), .int .u8 (nth (num2 q2 q3 q4 q5 q6) 3)] 51))
  replace BQ := Aside0.mk (blk_below BQ.out ((Below.refl w3.heap.size w3).alloc (Nat.le_refl _) (.cells #[.int .u8 (nth q1 0), .int .u8 (nth q1 1), .int .u8 (nth q1 2), .int .u8 (nth q1 3), .int .u8 (nth (num2 q2 q3 q4 q5 q6) 0), .int .u8 (nth (num2 q2 q3 q4 q5 q6) 1), .int .u8 (nth (num2 q2 q3 q4 q5 q6) 2), .int .u8 (nth (num2 q2 q3 q4 q5 q6) 3)] 51)))
  generalize (w3.alloc (.cells #[.int .u8 (nth q1 0), .int .u8 (nth q1 1), .int .u8 (nth q1 2), .int .u8 (nth q1 3), .int .u8 (nth (num2 q2 q3 q4 q5 q6) 0), .int .u8 (nth (num2 q2 q3 q4 q5 q6) 1), .int .u8 (nth (num2 q2 q3 q4 q5 q6) 2), .int .u8 (nth (num2 q2 q3 q4 q5 q6) 3)] 51)) = w4 at HM4 HB4 BA BQ ⊢
  have hcp := copy8 w4.drew g w3.heap.size n [.int .u8 (nth q1 0), .int .u8 (nth q1 1), .int .u8 (nth q1 2), .int .u8 (nth q1 3), .int .u8 (nth (num2 q2 q3 q4 q5 q6) 0), .int .u8 (nth (num2 q2 q3 q4 q5 q6) 1), .int .u8 (nth (num2 q2 q3 q4 q5 q6) 2), .int .u8 (nth (num2 q2 q3 q4 q5 q6) 3)] rfl (by intro v hv; simp only [List.mem_cons, List.not_mem_nil, or_false] at hv; rcases hv with rfl | rfl | rfl | rfl | rfl | rfl | rfl | rfl <;> rfl) (fun j v hv => by rw [World.cell?_drew, blk_cell BA.out j, ← hv]; exact List.getElem?_toArray) (fun j hj => ⟨by rw [World.cell?_drew, show 1 + n + j = 1 + (n + j) by omega, HM4.out.byte (n + j) (by omega)]; rfl, HM4.out.free _⟩) (by omega)
  obtain ⟨w5, hw5⟩ : ∃ w5, w5 = w4.drew.setCells g (1 + n) [.int .u8 (nth q1 0), .int .u8 (nth q1 1), .int .u8 (nth q1 2), .int .u8 (nth q1 3), .int .u8 (nth (num2 q2 q3 q4 q5 q6) 0), .int .u8 (nth (num2 q2 q3 q4 q5 q6) 1), .int .u8 (nth (num2 q2 q3 q4 q5 q6) 2), .int .u8 (nth (num2 q2 q3 q4 q5 q6) 3)] := ⟨_, rfl⟩
  rw [← hw5] at hcp
  have HM5 : Aside0 (Mem w5 g true (stC B n q1 (num2 q2 q3 q4 q5 q6)) T) := by
    rw [hw5, ← updL_is]
    exact ⟨Mem.setL [nth q1 0, nth q1 1, nth q1 2, nth q1 3, nth (num2 q2 q3 q4 q5 q6) 0, nth (num2 q2 q3 q4 q5 q6) 1, nth (num2 q2 q3 q4 q5 q6) 2, nth (num2 q2 q3 q4 q5 q6) 3] n w4.drew B ⟨HM4.out.ex⟩ (by show n + 8 ≤ 65536; omega)⟩
  have HF5 : Aside0 (Fr (fun k => k = g) w w5) := by
    rw [hw5]
    exact ⟨Fr.setCells (S := fun k => k = g) (g := g) rfl _ _ _ _ (Fr.of_below HB4.out).drew⟩
  have HG : Aside0 (g ≠ w.heap.size) := ⟨by have := HM.out.lt; omega⟩
  have BQ5 : Aside0 (w5.heap[w.heap.size]? = some (.cells #[.bool q0, .int .u32 q1, .int .u8 q2, .int .u8 q3, .int .u8 q4, .int .u16 q5, .int .u16 q6] 30 (0, 0))) := by
    rw [hw5]
    exact ⟨(Fr.setCells (S := fun k => k = g) (g := g) rfl _ _ _ _ (Fr.refl _ w4.drew)).blk (show w4.drew.heap[w.heap.size]? = _ from BQ.out) (fun e => HG.out e.symm)⟩
  clear hw5
  go_region
  have hcq := (blk_cell BQ5.out 0).trans rfl
  have hct := HM5.out.tag (n / 8) hr2
  have hft := HM5.out.free (65537 + n / 8)
  have q1' : Int.tdiv (n : Int) 8 = (n : Int) / 8 := Int.tdiv_eq_ediv_of_nonneg (by omega)
  have q2' : IntKind.u32.wrap ((n : Int) / 8) = (n : Int) / 8 := by simp [IntKind.wrap, IntKind.bits, IntKind.signed]; omega
  have q3' : (0 : Int) ≤ (n : Int) / 8 := by omega
  have q4' : (n : Int) / 8 < 8192 := by omega
  have q5' : ((n : Int) / 8).toNat = n / 8 := by omega
  clear hcp hsl
  go_wp2
  go_region
  go_wp2
  go_ret
  exact ⟨rfl, ⟨(HM5.out.setT (n / 8) hr2 q0).ex⟩, (HF5.out.setCell rfl _).drew⟩
/-- The cells of a memory of noughts, none made. -/
def zeroCells64 : Array Value := (rng 0 73729).toArray
theorem run_zero64 (w : World) : (zeroValue 64).run Try.prog w = .ok (.agg zeroCells64) w := by
  obtain ⟨i, hi, hz, hs, _⟩ := info64
  unfold zeroValue typeInfo zeroCells64
  simp [hi, hz]
theorem wpList_alloc64 {ops : Array Oper} {rest : List Oper} {op : Oper} {a : Act} {w : World} {Q : Exit → Act → World → Prop} (hgd : op.guard = none) (ho : op.op = .alloc 64)
    (h : wpList Try.prog ops Q rest (a.put op.dst (.pointer (some ⟨w.heap.size, 0, none⟩))) (w.alloc (.cells zeroCells64 64))) : wpList Try.prog ops Q (op :: rest) a w :=
  wpList_plain hgd fun _ hK => by
    have hr := run_zero64 w
    unfold Oper.wp execOp
    rw [ho]
    show Oper.upon Try.prog op a _ Q (Sem.run Try.prog (do let x ← Instr.alloc 64 true (.tuple #[]); pure (Next.value x)) w)
    have hi : (Instr.alloc 64 true (.tuple #[])).run Try.prog w = .ok (.pointer (some ⟨w.heap.size, 0, none⟩)) (w.alloc (.cells zeroCells64 64)) := by
      unfold Instr.alloc
      rw [Sem.run_bind, hr]
      rfl
    rw [Sem.run_bind, hi]
    exact hK _ _ h
theorem Mem.one {w : World} {cs : Array Value} {B : Nat → Int} {T : Nat → Bool} (hz : cs.size = 73729) (h0 : cs[0]? = some (.bool true)) (h1 : ∀ i, i < 65536 → cs[1 + i]? = some (.int .u8 (B i))) (h2 : ∀ i, i < 8192 → cs[65537 + i]? = some (.bool (T i))) : cs.all (·.oneCell') = true := by
  rw [Array.all_eq_true]
  intro i hi
  have hs : cs[i]? = some cs[i] := Array.getElem?_eq_getElem hi
  by_cases c0 : i = 0
  · subst c0
    rw [h0] at hs
    rw [← Option.some.inj hs]; rfl
  by_cases c1 : i < 65537
  · have h := h1 (i - 1) (by omega)
    rw [show 1 + (i - 1) = i by omega, hs] at h
    rw [Option.some.inj h]; rfl
  · have h := h2 (i - 65537) (by omega)
    rw [show 65537 + (i - 65537) = i by omega, hs] at h
    rw [Option.some.inj h]; rfl
theorem size64 : (Try.prog.info? 64).map (·.size) = some 73729 := by kernel_rfl
set_option maxHeartbeats 4000000 in
theorem Copy_ok {g : Nat} {B : Nat → Int} {T : Nat → Bool} (w : World) (hM : Mem w g true B T) :
    Calls Try.prog 16 #[.pointer (some ⟨g, 0, none⟩)] w fun e w' => e = .returned (.pointer (some ⟨w.heap.size, 0, none⟩)) ∧ Mem w' w.heap.size true B T ∧ Below w.heap.size w w' := by
  have HM := Aside0.mk hM
  clear hM
  go_enter Try.func16, Try.ntmps16
  go_wp2_with fail
  refine (none_calls HM.out).mono ?_
  rintro e w1 ⟨rfl, rfl⟩
  obtain ⟨cs, hb, hz, h0, h1, h2⟩ := HM.out.ex
  have HX := Aside0.mk (And.intro hz (And.intro h0 (And.intro h1 h2)))
  have HB := Aside0.mk hb
  have HSZ : Aside0 ((Try.prog.info? 64).map (·.size) = some cs.size) := ⟨by rw [hz]; exact size64⟩
  have H1 := Aside0.mk (Mem.one (w := w) hz h0 h1 h2)
  have HO : Aside0 (zeroCells64.size = cs.size) := ⟨by rw [hz]; unfold zeroCells64; rw [List.size_toArray, rng_len]⟩
  clear hb hz h0 h1 h2
  go_wp2_with (first | (with_reducible refine wpList_load_row rfl 64 (.tmp 7) rfl g rfl 64 cs (0, 0) _ HB.out Try.underlying64 rfl HSZ.out ?_) | (with_reducible refine wpList_alloc64 rfl rfl ?_) | (with_reducible refine wpList_store_row rfl 64 (.tmp 3) (.tmp 8) rfl w.heap.size cs rfl rfl 64 zeroCells64 (heap_alloc_new _ _) HSZ.out HO.out H1.out ?_))
  rw [World.setRow_alloc_new]
  go_wp2
  go_ret
  exact ⟨rfl, ⟨cs, heap_alloc_new _ _, HX.out.1, HX.out.2.1, HX.out.2.2.1, HX.out.2.2.2⟩, (Below.refl _ _).alloc (Nat.le_refl _) _⟩
end Go.Proofs.Ytiiemfnaegapmaa.Q
