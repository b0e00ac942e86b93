/- Acts as arguments: the values written out; no condition. -/
import Derived.Test.YtiiemfnaegapmaaM3
import Derived.Test.YtiiemfnaegapmaaOpen
import Derived.Deep.Slices
namespace Go.Proofs.Ytiiemfnaegapmaa.Open
open Go.Joins Go.ChangeShapes Go.WideShapes Go.RowKit Go.Deep Go.Proofs.Ytiiemfnaegapmaa.Q
set_option linter.unusedVariables false
set_option linter.unusedSimpArgs false
variable {H : Type} {enc : TypeId × Value → H} {w : World} {base : Nat} {spare : Nat → Bool} {held : Bool}
theorem c3 : Try.prog.cellsOf 3 = 1 := by kernel_rfl
theorem c32 : Try.prog.cellsOf 32 = 11 := by kernel_rfl
theorem list11 {l : List Value} (h : l.length = 11) : ∃ c0 c1 c2 c3 c4 c5 c6 c7 c8 c9 c10, l = [c0, c1, c2, c3, c4, c5, c6, c7, c8, c9, c10] := by
  match l, h with
  | [c0, c1, c2, c3, c4, c5, c6, c7, c8, c9, c10], _ => exact ⟨_, _, _, _, _, _, _, _, _, _, _, rfl⟩
theorem cap_cells {fuel : Nat} {v0 v1 v2 v3 v4 v5 v6 : Value} {x : DataW H × List MemPlace} (hf : DataW.trod enc Try.prog w base spare held fuel 30 [v0, v1, v2, v3, v4, v5, v6] = some x) :
    ∃ (t : Bool) (a q ty E B T : Int), [v0, v1, v2, v3, v4, v5, v6] = [.bool t, .int .u32 a, .int .u8 q, .int .u8 ty, .int .u8 E, .int .u16 B, .int .u16 T] ∧
      (Lit.int .u32 a).wf = true ∧ (Lit.int .u8 q).wf = true ∧ (Lit.int .u8 ty).wf = true ∧ (Lit.int .u8 E).wf = true ∧ (Lit.int .u16 B).wf = true ∧ (Lit.int .u16 T).wf = true := by
  obtain ⟨xs, n, _, _, _, hlen, hg⟩ := DataW.trod_struct Try.underlying30 hf
  have g0 : DataW.trod enc Try.prog w base spare held n 4 (([v0, v1, v2, v3, v4, v5, v6].drop 0).take (Try.prog.cellsOf 4)) = xs[0]? := hg 0 _ rfl
  have g1 : DataW.trod enc Try.prog w base spare held n 23 (([v0, v1, v2, v3, v4, v5, v6].drop 1).take (Try.prog.cellsOf 23)) = xs[1]? := hg 1 _ rfl
  have g2 : DataW.trod enc Try.prog w base spare held n 5 (([v0, v1, v2, v3, v4, v5, v6].drop 2).take (Try.prog.cellsOf 5)) = xs[2]? := hg 2 _ rfl
  have g3 : DataW.trod enc Try.prog w base spare held n 5 (([v0, v1, v2, v3, v4, v5, v6].drop 3).take (Try.prog.cellsOf 5)) = xs[3]? := hg 3 _ rfl
  have g4 : DataW.trod enc Try.prog w base spare held n 28 (([v0, v1, v2, v3, v4, v5, v6].drop 4).take (Try.prog.cellsOf 28)) = xs[4]? := hg 4 _ rfl
  simp only [c4, c5, c22, c25, List.drop_zero, List.drop_succ_cons, List.take_succ_cons, List.take_zero] at g0 g1 g2 g3 g4
  have l5 : xs.length = 5 := hlen
  rw [List.getElem?_eq_getElem (by omega)] at g0 g1 g2 g3 g4
  obtain ⟨t, e0, _⟩ := DataW.trod_bool Try.underlying4 g0
  obtain ⟨a, e1, _, w1⟩ := DataW.trod_int Try.underlying23 g1
  obtain ⟨q, e2, _, w2⟩ := DataW.trod_int Try.underlying5 g2
  obtain ⟨ty, e3, _, w3⟩ := DataW.trod_int Try.underlying5 g3
  obtain ⟨E, B, T, e4, e5, e6, w4, w5, w6⟩ := open_bounds g4
  simp only [List.cons.injEq, and_true] at e0 e1 e2 e3
  subst e0 e1 e2 e3 e4 e5 e6
  exact ⟨t, a, q, ty, E, B, T, rfl, w1, w2, w3, w4, w5, w6⟩
theorem lt32 {n : Int} (h : (Lit.int .u32 n).wf = true) : 0 ≤ n ∧ n < 4294967296 := by have := Go.bounds_u32 h; omega
theorem open_act {fuel : Nat} {cs : List Value} {x : DataW H × List MemPlace} (hl : cs.length = 11) (h : DataW.trod enc Try.prog w base spare held fuel 32 cs = some x) :
    ∃ r : A11, cs = r.cs ∧ r.Ok := by
  obtain ⟨v0, v1, v2, v3, v4, v5, v6, v7, v8, v9, v10, rfl⟩ := list11 hl
  obtain ⟨xs, n, _, _, _, hlen, hg⟩ := DataW.trod_struct Try.underlying32 h
  have g0 : DataW.trod enc Try.prog w base spare held n 3 (([v0, v1, v2, v3, v4, v5, v6, v7, v8, v9, v10].drop 0).take (Try.prog.cellsOf 3)) = xs[0]? := hg 0 _ rfl
  have g1 : DataW.trod enc Try.prog w base spare held n 23 (([v0, v1, v2, v3, v4, v5, v6, v7, v8, v9, v10].drop 1).take (Try.prog.cellsOf 23)) = xs[1]? := hg 1 _ rfl
  have g2 : DataW.trod enc Try.prog w base spare held n 3 (([v0, v1, v2, v3, v4, v5, v6, v7, v8, v9, v10].drop 2).take (Try.prog.cellsOf 3)) = xs[2]? := hg 2 _ rfl
  have g3 : DataW.trod enc Try.prog w base spare held n 23 (([v0, v1, v2, v3, v4, v5, v6, v7, v8, v9, v10].drop 3).take (Try.prog.cellsOf 23)) = xs[3]? := hg 3 _ rfl
  have g4 : DataW.trod enc Try.prog w base spare held n 30 (([v0, v1, v2, v3, v4, v5, v6, v7, v8, v9, v10].drop 4).take (Try.prog.cellsOf 30)) = xs[4]? := hg 4 _ rfl
  simp only [c3, c22, c27, List.drop_zero, List.drop_succ_cons, List.take_succ_cons, List.take_zero] at g0 g1 g2 g3 g4
  have l5 : xs.length = 5 := hlen
  rw [List.getElem?_eq_getElem (by omega)] at g0 g1 g2 g3 g4
  obtain ⟨d, e0, _⟩ := DataW.trod_int Try.underlying3 g0
  obtain ⟨p, e1, _, w1⟩ := DataW.trod_int Try.underlying23 g1
  obtain ⟨s, e2, _⟩ := DataW.trod_int Try.underlying3 g2
  obtain ⟨v, e3, _, w3⟩ := DataW.trod_int Try.underlying23 g3
  obtain ⟨t, a, q, ty, E, B, T, e4, k1, k2, k3, k4, k5, k6⟩ := cap_cells g4
  simp only [List.cons.injEq, and_true] at e0 e1 e2 e3 e4
  obtain ⟨e4, e5, e6, e7, e8, e9, e10⟩ := e4
  subst e0 e1 e2 e3 e4 e5 e6 e7 e8 e9 e10
  exact ⟨⟨d, p, s, v, t, a, q, ty, E, B, T⟩, rfl, ⟨lt32 w1, lt32 w3, lt32 k1, Go.bounds_u8 k2, Go.bounds_u8 k3, Go.bounds_u8 k4, Go.bounds_u16 k5, Go.bounds_u16 k6⟩⟩
instance : Inhabited A11 := ⟨⟨0, 0, 0, 0, false, 0, 0, 0, 0, 0, 0⟩⟩
theorem open_acts {d : DataW H} {p : List MemPlace} {A : Option Addr} {len cap : Nat} (h : DataW.Trod enc Try.prog w base spare held 22 (.slice A len cap) d p) :
    ∃ xs : List A11, xs.length = len ∧ Acts w A xs := by
  obtain ⟨fuel, hf⟩ := h
  rcases open_slice Try.underlying22 hf with ⟨hcs, _⟩ | ⟨a, l, c, m, n, D, Pl, hcs, _, hl, hm, hmm, _, hx⟩
  · simp [Value.cells] at hcs
    obtain ⟨rfl, rfl, rfl⟩ := hcs
    exact ⟨[], rfl, ⟨by decide, fun i x hx => by simp at hx, fun x hx => by cases hx⟩⟩
  · simp [Value.cells] at hcs
    obtain ⟨rfl, rfl, rfl⟩ := hcs
    have hlm : len ≤ m := by rw [hmm]; split <;> omega
    have each : ∀ i, i < len → ∃ r : A11, r.Ok ∧ ∀ j u, r.cs[j]? = some u → w.cell? (a.add (i * 11 + j)) = some u := by
      intro i hi
      obtain ⟨cs', h1, h2⟩ := hx i (by omega)
      rw [c32] at h1
      obtain ⟨_, hlen, hcell⟩ := World.cells?_some h1
      obtain ⟨r, rfl, hr⟩ := open_act hlen h2
      refine ⟨r, hr, fun j u hu => ?_⟩
      have hj : j < 11 := by have := (List.getElem?_eq_some_iff.1 hu).1; rw [hlen] at this; exact this
      have := hcell j hj
      rw [Deep.add_add] at this
      rw [this, hu]
    obtain ⟨f, hf⟩ := choose_lt each
    refine ⟨(List.range len).map f, by simp, ⟨by simp; simp only [maxLen] at hm; omega, fun j q hq => ⟨a, rfl, ?_⟩, fun x hx => ?_⟩⟩
    · have hj : j < len := by have := (List.getElem?_eq_some_iff.1 hq).1; simpa using this
      have hq' : f j = q := by simpa [List.getElem?_map, List.getElem?_range hj] using hq
      subst hq'
      exact (hf j hj).2
    · obtain ⟨i, hi, rfl⟩ := List.mem_map.1 hx
      exact (hf i (List.mem_range.1 hi)).1
end Go.Proofs.Ytiiemfnaegapmaa.Open
