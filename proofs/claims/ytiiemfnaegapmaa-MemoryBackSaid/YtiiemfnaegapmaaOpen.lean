/- A capability and its bounds as arguments: the value is written out, each part with its width; no condition. -/
import Derived.Test.YtiiemfnaegapmaaProg
import Derived.Lib.SmallJoins
import Derived.Carry
import Derived.KernelRfl
import Derived.ChangeArms
namespace Go.Proofs.Ytiiemfnaegapmaa.Open
open Go.Joins Go.ChangeShapes Go.WideShapes Go.RowKit Go.Deep
set_option linter.unusedVariables false
set_option linter.unusedSimpArgs false
theorem c4 : Try.prog.cellsOf 4 = 1 := by kernel_rfl
theorem c5 : Try.prog.cellsOf 5 = 1 := by kernel_rfl
theorem c22 : Try.prog.cellsOf 23 = 1 := by kernel_rfl
theorem c23 : Try.prog.cellsOf 26 = 1 := by kernel_rfl
theorem c25 : Try.prog.cellsOf 28 = 3 := by kernel_rfl
theorem c27 : Try.prog.cellsOf 30 = 7 := by kernel_rfl
variable {H : Type} {enc : TypeId × Value → H} {w : World} {base : Nat} {spare : Nat → Bool} {held : Bool}
theorem list7 {l : List Value} (h : l.length = 7) : ∃ c0 c1 c2 c3 c4 c5 c6, l = [c0, c1, c2, c3, c4, c5, c6] := by
  match l, h with
  | [c0, c1, c2, c3, c4, c5, c6], _ => exact ⟨_, _, _, _, _, _, _, rfl⟩
theorem open_bounds {fuel : Nat} {v0 v1 v2 : Value} {x : DataW H × List MemPlace} (h : DataW.trod enc Try.prog w base spare held fuel 28 [v0, v1, v2] = some x) :
    ∃ E B T : Int, v0 = .int .u8 E ∧ v1 = .int .u16 B ∧ v2 = .int .u16 T ∧ (Lit.int .u8 E).wf = true ∧ (Lit.int .u16 B).wf = true ∧ (Lit.int .u16 T).wf = true := by
  obtain ⟨xs, n, _, _, _, hlen, hg⟩ := DataW.trod_struct Try.underlying28 h
  have g0 : DataW.trod enc Try.prog w base spare held n 5 (([v0, v1, v2].drop 0).take (Try.prog.cellsOf 5)) = xs[0]? := hg 0 _ rfl
  have g1 : DataW.trod enc Try.prog w base spare held n 26 (([v0, v1, v2].drop 1).take (Try.prog.cellsOf 26)) = xs[1]? := hg 1 _ rfl
  have g2 : DataW.trod enc Try.prog w base spare held n 26 (([v0, v1, v2].drop 2).take (Try.prog.cellsOf 26)) = xs[2]? := hg 2 _ rfl
  simp only [c5, c23, List.drop_zero, List.drop_succ_cons, List.take_succ_cons, List.take_zero] at g0 g1 g2
  have l3 : xs.length = 3 := hlen
  rw [List.getElem?_eq_getElem (by omega)] at g0 g1 g2
  obtain ⟨E, e0, _, w0⟩ := DataW.trod_int Try.underlying5 g0
  obtain ⟨B, e1, _, w1⟩ := DataW.trod_int Try.underlying26 g1
  obtain ⟨T, e2, _, w2⟩ := DataW.trod_int Try.underlying26 g2
  simp only [List.cons.injEq, and_true] at e0 e1 e2
  exact ⟨E, B, T, e0, e1, e2, w0, w1, w2⟩
theorem open_cap {r : Reach} {b0 : Nat} {v : Value} {d : DataW H} {p : List MemPlace} (hv : Value.okWide Try.prog w r b0 30 v) (h : DataW.Trod enc Try.prog w base spare held 30 v d p) :
    ∃ (t : Bool) (a q ty E B T : Int), v = .agg #[.bool t, .int .u32 a, .int .u8 q, .int .u8 ty, .int .u8 E, .int .u16 B, .int .u16 T] ∧
      (Lit.int .u32 a).wf = true ∧ (Lit.int .u8 q).wf = true ∧ (Lit.int .u8 ty).wf = true ∧ (Lit.int .u8 E).wf = true ∧ (Lit.int .u16 B).wf = true ∧ (Lit.int .u16 T).wf = true := by
  obtain ⟨cs, rfl, hsz⟩ := okWide_struct Try.underlying30 hv
  obtain ⟨l⟩ := cs
  rw [c27] at hsz
  obtain ⟨v0, v1, v2, v3, v4, v5, v6, rfl⟩ := list7 hsz
  obtain ⟨fuel, hf⟩ := h
  simp only [Value.cells] at hf
  obtain ⟨xs, n, _, _, _, hlen, hg⟩ := DataW.trod_struct Try.underlying30 hf
  have g0 : DataW.trod enc Try.prog w base spare held n 4 (([v0, v1, v2, v3, v4, v5, v6].drop 0).take (Try.prog.cellsOf 4)) = xs[0]? := hg 0 _ rfl
  have g1 : DataW.trod enc Try.prog w base spare held n 23 (([v0, v1, v2, v3, v4, v5, v6].drop 1).take (Try.prog.cellsOf 23)) = xs[1]? := hg 1 _ rfl
  have g2 : DataW.trod enc Try.prog w base spare held n 5 (([v0, v1, v2, v3, v4, v5, v6].drop 2).take (Try.prog.cellsOf 5)) = xs[2]? := hg 2 _ rfl
  have g3 : DataW.trod enc Try.prog w base spare held n 5 (([v0, v1, v2, v3, v4, v5, v6].drop 3).take (Try.prog.cellsOf 5)) = xs[3]? := hg 3 _ rfl
  have g4 : DataW.trod enc Try.prog w base spare held n 28 (([v0, v1, v2, v3, v4, v5, v6].drop 4).take (Try.prog.cellsOf 28)) = xs[4]? := hg 4 _ rfl
  simp only [c4, c5, c22, c25, List.drop_zero, List.drop_succ_cons, List.take_succ_cons, List.take_zero] at g0 g1 g2 g3 g4
  have l5 : xs.length = 5 := hlen
  rw [List.getElem?_eq_getElem (by omega)] at g0 g1 g2 g3 g4
  obtain ⟨t, e0, _⟩ := DataW.trod_bool Try.underlying4 g0
  obtain ⟨a, e1, _, w1⟩ := DataW.trod_int Try.underlying23 g1
  obtain ⟨q, e2, _, w2⟩ := DataW.trod_int Try.underlying5 g2
  obtain ⟨ty, e3, _, w3⟩ := DataW.trod_int Try.underlying5 g3
  obtain ⟨E, B, T, e4, e5, e6, w4, w5, w6⟩ := open_bounds g4
  simp only [List.cons.injEq, and_true] at e0 e1 e2 e3
  subst e0 e1 e2 e3 e4 e5 e6
  exact ⟨t, a, q, ty, E, B, T, rfl, w1, w2, w3, w4, w5, w6⟩
end Go.Proofs.Ytiiemfnaegapmaa.Open
