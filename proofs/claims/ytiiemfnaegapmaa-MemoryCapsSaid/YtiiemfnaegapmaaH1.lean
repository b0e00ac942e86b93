-- The memory's functions: New, Store, by hand. Lean checks it.
import Derived.Test.YtiiemfnaegapmaaH0
namespace Go.Proofs.Ytiiemfnaegapmaa.Q
open Go.Proofs.Ytiiemfnaegapmaa.Pure Go.Proofs.Ytiiemfnaegapmaa.Z
open Go.RowKit Go.Proofs.YtiiemfnaegapmaaW.PrintWords Go.Proofs.YtiiemfnaegapmaaW.PrintLast Go.Proofs.YtiiemfnaegapmaaW.PrintMore
set_option linter.unusedVariables false
set_option linter.unusedSimpArgs false
/-- The cells of a memory of noughts that is made. -/
def newCells : Array Value := (rng 0 73729).toArray.setIfInBounds 0 (.bool true)
theorem run_build64 (w : World) : (Instr.build 64 #[(0, .bool true)]).run Try.prog w = .ok (.agg newCells) w := by
  obtain ⟨i, hi, hz, hs, _⟩ := info64
  have h0 : (zeroValue 64).run Try.prog w = .ok (.agg (rng 0 73729).toArray) w := by
    unfold zeroValue typeInfo
    simp [hi, hz]
  unfold Instr.build
  rw [Sem.run_bind, h0]
  simp only [Result.andThen_ok, Value.cells]
  rw [Sem.run_bind, run_underlying Try.underlying64]
  simp only [Result.andThen_ok]
  have hp : (Array.mapM (fun (f : Field) => do
      let __do_lift ← sizeOf f.type
      pure (f.offset, __do_lift)) #[{ name := "made", type := 4, offset := 0, embedded := false, tag := "", pkgPath := "bulwark/memory", byteOffset := 0 }, { name := "b", type := 61, offset := 1, embedded := false, tag := "", pkgPath := "bulwark/memory", byteOffset := 1 }, { name := "tag", type := 62, offset := 65537, embedded := false, tag := "", pkgPath := "bulwark/memory", byteOffset := 65537 }] : Sem (Array (Nat × Nat))).run Try.prog w = .ok #[(0, 1), (1, 65536), (65537, 8192)] w := by
    rw [Array.mapM_eq_foldlM]
    simp [Try.sizeOf4, Try.sizeOf61, Try.sizeOf62]
  rw [Sem.run_bind, hp]
  simp only [Result.andThen_ok]
  have hf : Instr.fill (fun x => (#[(0, 1), (1, 65536), (65537, 8192)] : Array (Nat × Nat))[x]?) (rng 0 73729).toArray [(0, Value.bool true)] = some newCells := by
    have hl : (rng 0 73729).toArray.size = 73729 := by rw [List.size_toArray, rng_len]
    unfold newCells
    generalize (rng 0 73729).toArray = L at hl
    simp [Instr.fill, Value.cells, hl]
  rw [hf]
  rfl
theorem newCells_mem {w : World} {g : Nat} (h : w.heap[g]? = some (.cells newCells 64 (0, 0))) : Mem w g true (fun _ => 0) (fun _ => false) := by
  have hl : (rng 0 73729).toArray.size = 73729 := by rw [List.size_toArray, rng_len]
  refine ⟨newCells, h, by unfold newCells; rw [Array.size_setIfInBounds]; exact hl, ?_, ?_, ?_⟩
  · unfold newCells
    rw [Array.getElem?_setIfInBounds_self_of_lt (by omega)]
  · intro i hi
    unfold newCells
    rw [Array.getElem?_setIfInBounds_ne (by omega), List.getElem?_toArray, zc_get, if_pos (by omega)]
    unfold zc
    rw [if_neg (by omega), if_pos (by omega)]
  · intro i hi
    unfold newCells
    rw [Array.getElem?_setIfInBounds_ne (by omega), List.getElem?_toArray, zc_get, if_pos (by omega)]
    unfold zc
    rw [if_neg (by omega), if_neg (by omega)]
theorem wpList_build64 {ops : Array Oper} {rest : List Oper} {op : Oper} {a : Act} {w : World} {Q : Exit → Act → World → Prop} (hgd : op.guard = none) (ho : op.op = .build 64 #[(0, .const (.bool true))])
    (h : wpList Try.prog ops Q rest (a.put op.dst (.agg newCells)) w) : wpList Try.prog ops Q (op :: rest) a w :=
  wpList_plain hgd fun _ hK => by
    have hr := run_build64 w
    unfold Oper.wp execOp
    rw [ho]
    have hp : (#[((0 : Nat), Operand.const (Value.bool true))].map fun (x : Nat × Operand) => (x.1, a.eval x.2)) = #[(0, .bool true)] := by simp [Act.eval]
    show Oper.upon Try.prog op a _ Q (Sem.run Try.prog (do let x ← Instr.build 64 (#[((0 : Nat), Operand.const (Value.bool true))].map fun (x : Nat × Operand) => (x.1, a.eval x.2)); pure (Next.value x)) w)
    rw [hp, Sem.run_bind, hr]
    exact hK _ _ h
set_option maxHeartbeats 800000 in
theorem New_calls (w : World) : Calls Try.prog 7 #[] w fun e w' => e = .returned (.pointer (some ⟨w.heap.size, 0, none⟩)) ∧ Mem w' w.heap.size true (fun _ => 0) (fun _ => false) ∧ Below w.heap.size w w' := by
  go_enter Try.func7, Try.ntmps7
  go_wp2_with (with_reducible refine wpList_build64 rfl rfl ?_)
  go_ret
  exact ⟨rfl, newCells_mem (heap_alloc_new _ _), (Below.refl _ _).alloc (Nat.le_refl _) _⟩
/-- Behind a number's store. -/
def stB (B : Nat → Int) (at_ n : Nat) (v : Int) : Nat → Int := fun j => if at_ ≤ j ∧ j < at_ + n then nth v (j - at_) else B j
theorem stB_zero (B : Nat → Int) (at_ : Nat) (v : Int) : stB B at_ 0 v = B := by
  funext j
  unfold stB
  rw [if_neg (by omega)]
theorem stB_step (B : Nat → Int) (at_ i : Nat) (v : Int) : upB (stB B at_ i v) (at_ + i) (nth v i) = stB B at_ (i + 1) v := by
  funext j
  unfold upB stB
  by_cases e : j = at_ + i
  · rw [if_pos e, if_pos (by omega)]
    congr 1
    omega
  · rw [if_neg e]
    by_cases c : at_ ≤ j ∧ j < at_ + i
    · rw [if_pos c, if_pos (by omega)]
    · rw [if_neg c, if_neg (by omega)]
set_option maxHeartbeats 4000000 in
theorem Store_ok {g : Nat} {B : Nat → Int} {T : Nat → Bool} (n s : Nat) (v : Int) (w : World) (hM : Mem w g true B T) (hs : s = 1 ∨ s = 2 ∨ s = 4) (hd : (n : Int) % s = 0) (hn : n + s ≤ 65536) (hv : 0 ≤ v ∧ v < 4294967296) :
    Calls Try.prog 8 #[.pointer (some ⟨g, 0, none⟩), .int .u32 n, .int .i64 s, .int .u32 v] w fun e w' => e = .returned (.int .i64 0) ∧ Mem w' g true (stB B n s v) (upT T (n / 8) false) ∧ Fr (fun k => k = g) w w' := by
  have HM := Aside0.mk hM
  have hnum : isNum (s : Int) = true := by unfold isNum; rcases hs with h | h | h <;> subst h <;> rfl
  have hth : isThere (n : Int) (s : Int) = true := by unfold isThere; exact decide_eq_true ⟨hd, by omega⟩
  have HS := Aside0.mk hs
  have HN := Aside0.mk hn
  have HV := Aside0.mk hv
  clear hM hd hs hn hv
  go_enter Try.func8, Try.ntmps8
  go_wp2_with fail
  refine (none_calls HM.out).mono ?_
  rintro e w1 ⟨rfl, rfl⟩
  go_wp2_with fail
  refine (number_calls (s : Int) _).mono ?_
  rw [hnum]
  rintro e w1 ⟨rfl, rfl⟩
  go_wp2_with fail
  refine (there_calls (n : Int) (s : Int) (by have := HN.out; omega) (by have := HS.out; omega) _).mono ?_
  rw [hth]
  rintro e w1 ⟨rfl, rfl⟩
  clear hnum hth
  have HM0 : Aside0 (Mem w g true (stB B n 0 v) T) := ⟨by rw [stB_zero]; exact HM.out⟩
  go_wp2_with fail
  go_loopg [24] (s + 1) (fun kq v24 w' => ∃ i : Nat, v24 = .int .i64 (i : Int) ∧ Aside0 (i + kq = s + 1) ∧ Aside0 (i ≤ s) ∧ Aside0 (Mem w' g true (stB B n i v) T) ∧ Aside0 (Fr (fun k => k = g) w w'))
  case atStart => exact ⟨0, rfl, ⟨by omega⟩, ⟨by omega⟩, HM0, ⟨Fr.refl _ _⟩⟩
  case round =>
    clear HM HM0
    obtain ⟨i, rfl, HK, HI, HM, HF⟩ := hrel
    by_cases c : i < s
    · cases gk with
      | zero => exact absurd HK.out (by have := HI.out; omega)
      | succ gk =>
        have hi4 : i < 4 := by have := HS.out; omega
        have hn2 : n + i < 65536 := by have := HN.out; omega
        have hcell := HM.out.byte (n + i) hn2
        have hfr := HM.out.free (1 + (n + i))
        have hv0 := HV.out.1
        have hv1 := HV.out.2
        have HC := Aside0.mk hcell
        have HM1 : Aside0 (Mem (wr.setCell ⟨g, 1 + (n + i), none⟩ (.int .u8 (v / 2 ^ (8 * i) % 256))) g true (stB B n (i + 1) v) T) := ⟨by rw [← stB_step]; exact HM.out.setB (n + i) hn2 _⟩
        go_wp2
        go_roundg gk
        case measure => omega
        case rel => exact ⟨i + 1, by go_num, ⟨by have := HK.out; omega⟩, ⟨by have := HK.out; omega⟩, HM1, ⟨HF.out.setCell rfl _⟩⟩
    · have hi : i = s := by have := HI.out; omega
      subst hi
      have hn2 : n / 8 < 8192 := by have := HN.out; have := HS.out; omega
      have hcell := HM.out.tag (n / 8) hn2
      have hfr := HM.out.free (65537 + n / 8)
      have HM1 := Aside0.mk (HM.out.setT (n / 8) hn2 false)
      go_wp2
      go_ret
      exact ⟨rfl, HM1.out, HF.out.setCell rfl _⟩
end Go.Proofs.Ytiiemfnaegapmaa.Q
