-- The reference's memory: New, Bytes, by hand. Lean checks it.
import Derived.Test.YtiiemfnaegapmaaH9
namespace Go.Proofs.Ytiiemfnaegapmaa.Q
open Go.Proofs.Ytiiemfnaegapmaa.Pure Go.Proofs.Ytiiemfnaegapmaa.Z
open Go.RowKit Go.Proofs.YtiiemfnaegapmaaW.PrintWords Go.Proofs.YtiiemfnaegapmaaW.PrintLast Go.Proofs.YtiiemfnaegapmaaW.PrintMore
set_option linter.unusedVariables false
set_option linter.unusedSimpArgs false
set_option maxRecDepth 100000 in
set_option maxHeartbeats 8000000 in
theorem rBytes_ok {h gb gt : Nat} {B : Nat → Int} {T : Nat → Bool} (n s : Nat) (w : World) (hM : RMem w h gb gt B T) (hn : n + s ≤ 65536) :
    Calls Try.prog 33 #[.pointer (some ⟨h, 0, none⟩), .int .i64 n, .int .i64 s] w fun e w' => ∃ v, e = .returned (.tuple #[v, .int .i64 0]) ∧ Kd.R (Kd.int .u8) 5 w' w.heap.size (fun _ => True) v (row B n s) ∧ Below w.heap.size w w' := by
  have HM := Aside0.mk hM
  have hc0 := hM.c0
  have d1 : decide ((n : Int) < 0) = false := decide_eq_false (by omega)
  have d2 : decide ((s : Int) < 0) = false := decide_eq_false (by omega)
  have d3 : decide (65536 < (n : Int)) = false := decide_eq_false (by omega)
  have hw : wrap64 (65536 - (n : Int)) = 65536 - (n : Int) := by unfold wrap64; omega
  have hw2 : wrap64 ((n : Int) + (s : Int)) = (n : Int) + (s : Int) := by unfold wrap64; omega
  have d4 : decide (65536 - (n : Int) < (s : Int)) = false := decide_eq_false (by omega)
  obtain ⟨A2, hsl, hC⟩ : ∃ A2, (∀ w : World, (Instr.sliceAt 36 (.slice (some ⟨gb, 0, none⟩) 65536 65536) (some (.int .i64 (n : Int))) (some (.int .i64 ((n : Int) + (s : Int)))) none).run Try.prog w = .ok (.slice A2 s (65536 - n)) w) ∧ Kd.C (Kd.int .u8) w A2 (row B n s).length (row B n s) := by
    refine ⟨_, slice36 gb n s .i64 .i64 hn, ?_⟩
    by_cases e : 65536 = n
    · have hz : s = 0 := by omega
      subst hz
      exact C_none _ _ _
    · rw [if_neg e]
      exact hM.C n s hn
  rw [row_len] at hC
  have HC := Aside0.mk hC
  have HN := Aside0.mk hn
  have HB := Aside0.mk (Below.refl w.heap.size w)
  have HR := Aside0.mk (Kd.R_nil (Kd.int .u8) 5 w w.heap.size (fun _ => True))
  clear hM hC hn
  go_enter Try.func33, Try.ntmps33
  go_wp2_with (first | ((with_reducible refine gate_builtin (b := .append) (xs := #[.tmp 27, .tmp 36]) rfl ?_); at_builtin; refine Kd.R_append_rows (Kd.int .u8) (w0 := w) w.heap.size rfl (.tmp 27) (.tmp 36) 36 5 (.int .u8 0) 1 rfl Try.underlying36 info5 rfl (by decide) (by omega) (.slice none 0 0) ([] : List Int) (row B n s) A2 s (65536 - n) (fun _ => True) (fun _ => False) rfl rfl HR.out HC.out (fun _ _ h => h) (fun _ h => h.elim) (fun _ _ => trivial) HB.out (Nat.le_refl _) (by have := HN.out; simp; omega) ?_; intro v1 w3 ho hb hg hat; have HO1 := Aside0.mk ho; have HB1 := Aside0.mk hb; clear ho hb hg hat))
  go_ret2
  exact ⟨_, rfl, by have h := HO1.out; rw [List.nil_append] at h; exact h, HB1.out⟩
def mb : Array Value := madeCells #[.int .u8 0] 65536
def mt : Array Value := madeCells #[.bool false] 8192
theorem mb_size : mb.size = 65536 := by unfold mb; rw [size_madeCells]
theorem mt_size : mt.size = 8192 := by unfold mt; rw [size_madeCells]
theorem mb_get (i : Nat) (hi : i < 65536) : mb[i]? = some (.int .u8 0) := by
  unfold mb madeCells
  rw [Array.getElem?_map, Array.getElem?_range, if_pos hi]
  simp [Nat.mod_one]
theorem mt_get (i : Nat) (hi : i < 8192) : mt[i]? = some (.bool false) := by
  unfold mt madeCells
  rw [Array.getElem?_map, Array.getElem?_range, if_pos hi]
  simp [Nat.mod_one]
theorem make36 (W : World) : (Instr.makeSlice 36 (.int .i64 65536) (.int .i64 65536)).run Try.prog W = .ok (.slice (some ⟨W.heap.size, 0, none⟩) 65536 65536) (W.alloc (.cells mb 5)) :=
  print_make 36 5 .u8 1 Try.underlying36 info5 (by decide) 65536 (by decide) W
theorem info4 : (Try.prog.info? 4).map (fun i => (i.zero, i.size, i.bytes)) = some (some (.bool false), 1, 1) := by kernel_rfl
theorem make73 (W : World) : (Instr.makeSlice 73 (.int .i64 8192) (.int .i64 8192)).run Try.prog W = .ok (.slice (some ⟨W.heap.size, 0, none⟩) 8192 8192) (W.alloc (.cells mt 4)) :=
  run_make_row' 73 4 (.bool false) 1 Try.underlying73 info4 rfl .i64 .i64 8192 (by decide) (by decide) W
theorem RMem.of {w : World} {h gb gt : Nat} (h0 : w.heap[h]? = some (.cells #[.slice (some ⟨gb, 0, none⟩) 65536 65536, .slice (some ⟨gt, 0, none⟩) 8192 8192] 75 (0, 0))) (h1 : w.heap[gb]? = some (.cells mb 5 (0, 0))) (h2 : w.heap[gt]? = some (.cells mt 4 (0, 0))) : RMem w h gb gt (fun _ => 0) (fun _ => false) :=
  ⟨h0, ⟨mb, h1, mb_size, mb_get⟩, ⟨mt, h2, mt_size, mt_get⟩⟩
def RNew (w : World) (e : Ending) (w' : World) : Prop := ∃ h gb gt, e = .returned (.pointer (some ⟨h, 0, none⟩)) ∧ RMem w' h gb gt (fun _ => 0) (fun _ => false) ∧ (w.heap.size ≤ h ∧ w.heap.size ≤ gb ∧ w.heap.size ≤ gt) ∧ Below w.heap.size w w'
theorem RNew.mk1 (w : World) : RNew w (.returned (.pointer (some ⟨w.heap.size + 1 + 1, 0, none⟩))) (((w.alloc (.cells mb 5)).alloc (.cells mt 4)).alloc (.cells #[.slice (some ⟨w.heap.size, 0, none⟩) 65536 65536, .slice (some ⟨w.heap.size + 1, 0, none⟩) 8192 8192] 75)).drew := by
  have e1 : (w.alloc (.cells mb 5)).heap.size = w.heap.size + 1 := by simp
  have e2 : ((w.alloc (.cells mb 5)).alloc (.cells mt 4)).heap.size = w.heap.size + 1 + 1 := by simp
  refine ⟨_, w.heap.size, w.heap.size + 1, rfl, RMem.of ?_ ?_ ?_, ⟨by omega, by omega, by omega⟩, ?_⟩
  · rw [← e2]; exact heap_alloc_new _ _
  · exact (heap_alloc_old _ _ (by omega)).trans ((heap_alloc_old _ _ (by omega)).trans (heap_alloc_new _ _))
  · refine (heap_alloc_old _ _ (by omega)).trans ?_
    rw [← e1]; exact heap_alloc_new _ _
  · exact ((((Below.refl w.heap.size w).alloc (Nat.le_refl _) _).alloc (by omega) _).alloc (by omega) _).drew
theorem RNew.mk2 (w : World) : RNew w (.returned (.pointer (some ⟨w.heap.size + 1 + 1, 0, none⟩))) (((w.alloc (.cells mt 4)).alloc (.cells mb 5)).alloc (.cells #[.slice (some ⟨w.heap.size + 1, 0, none⟩) 65536 65536, .slice (some ⟨w.heap.size, 0, none⟩) 8192 8192] 75)).drew := by
  have e1 : (w.alloc (.cells mt 4)).heap.size = w.heap.size + 1 := by simp
  have e2 : ((w.alloc (.cells mt 4)).alloc (.cells mb 5)).heap.size = w.heap.size + 1 + 1 := by simp
  refine ⟨_, w.heap.size + 1, w.heap.size, rfl, RMem.of ?_ ?_ ?_, ⟨by omega, by omega, by omega⟩, ?_⟩
  · rw [← e2]; exact heap_alloc_new _ _
  · refine (heap_alloc_old _ _ (by omega)).trans ?_
    rw [← e1]; exact heap_alloc_new _ _
  · exact (heap_alloc_old _ _ (by omega)).trans ((heap_alloc_old _ _ (by omega)).trans (heap_alloc_new _ _))
  · exact ((((Below.refl w.heap.size w).alloc (Nat.le_refl _) _).alloc (by omega) _).alloc (by omega) _).drew
set_option maxHeartbeats 4000000 in
theorem rNew_calls (w : World) : Calls Try.prog 19 #[] w (RNew w) := by
  have h1 := make36
  have h2 := make73
  have hu := Try.underlying75
  go_enter Try.func19, Try.ntmps19
  go_wp2
  go_region
  all_goals (go_wp2; go_ret)
  all_goals first | exact RNew.mk1 w | exact RNew.mk2 w
end Go.Proofs.Ytiiemfnaegapmaa.Q
