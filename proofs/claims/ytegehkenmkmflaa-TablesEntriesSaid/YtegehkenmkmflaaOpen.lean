/- Regions, one or a slice of them, and a device as arguments: the values written out; no condition. -/
import Derived.Test.YtegehkenmkmflaaQ0
import Derived.Lib.SmallJoins
import Derived.Carry
import Derived.KernelRfl
import Derived.ChangeArms
import Derived.Deep.Slices
namespace Go.Proofs.Ytegehkenmkmflaa.Open
open Go.Joins Go.ChangeShapes Go.WideShapes Go.RowKit Go.Deep Go.Proofs.Ytegehkenmkmflaa.Q Go.Proofs.YtegehkenmkmflaaW.PrintWords
set_option linter.unusedVariables false
set_option linter.unusedSimpArgs false
theorem c3 : Try.prog.cellsOf 3 = 1 := by kernel_rfl
theorem c5 : Try.prog.cellsOf 5 = 1 := by kernel_rfl
theorem c9 : Try.prog.cellsOf 9 = 1 := by kernel_rfl
theorem c23 : Try.prog.cellsOf 23 = 1 := by kernel_rfl
theorem c25 : Try.prog.cellsOf 25 = 4 := by kernel_rfl
theorem c27 : Try.prog.cellsOf 27 = 3 := by kernel_rfl
variable {H : Type} {enc : TypeId × Value → H} {w : World} {base : Nat} {spare : Nat → Bool} {held : Bool}
theorem list4 {l : List Value} (h : l.length = 4) : ∃ c0 c1 c2 c3, l = [c0, c1, c2, c3] := by
  match l, h with
  | [c0, c1, c2, c3], _ => exact ⟨_, _, _, _, rfl⟩
theorem list3 {l : List Value} (h : l.length = 3) : ∃ c0 c1 c2, l = [c0, c1, c2] := by
  match l, h with
  | [c0, c1, c2], _ => exact ⟨_, _, _, rfl⟩
/-- A region's numbers are as wide as they are. -/
structure OkR (x : S25) : Prop where
  k0 : (Lit.int .u8 x.f0).wf = true
  o0 : (Lit.int .i64 x.f1).wf = true
  a0 : (Lit.int .u32 x.f2).wf = true
  n0 : (Lit.int .u32 x.f3).wf = true
theorem open_cells {fuel : Nat} {cs : List Value} {x : DataW H × List MemPlace} (hl : cs.length = 4) (h : DataW.trod enc Try.prog w base spare held fuel 25 cs = some x) :
    ∃ r : S25, cs = [.int .u8 r.f0, .int .i64 r.f1, .int .u32 r.f2, .int .u32 r.f3] ∧ OkR r := by
  obtain ⟨v0, v1, v2, v3, rfl⟩ := list4 hl
  obtain ⟨xs, n, _, _, _, hlen, hg⟩ := DataW.trod_struct Try.underlying25 h
  have g0 : DataW.trod enc Try.prog w base spare held n 5 (([v0, v1, v2, v3].drop 0).take (Try.prog.cellsOf 5)) = xs[0]? := hg 0 _ rfl
  have g1 : DataW.trod enc Try.prog w base spare held n 3 (([v0, v1, v2, v3].drop 1).take (Try.prog.cellsOf 3)) = xs[1]? := hg 1 _ rfl
  have g2 : DataW.trod enc Try.prog w base spare held n 23 (([v0, v1, v2, v3].drop 2).take (Try.prog.cellsOf 23)) = xs[2]? := hg 2 _ rfl
  have g3 : DataW.trod enc Try.prog w base spare held n 23 (([v0, v1, v2, v3].drop 3).take (Try.prog.cellsOf 23)) = xs[3]? := hg 3 _ rfl
  simp only [c3, c5, c23, List.drop_zero, List.drop_succ_cons, List.take_succ_cons, List.take_zero] at g0 g1 g2 g3
  have l4 : xs.length = 4 := hlen
  rw [List.getElem?_eq_getElem (by omega)] at g0 g1 g2 g3
  obtain ⟨a, e0, _, w0⟩ := DataW.trod_int Try.underlying5 g0
  obtain ⟨b, e1, _, w1⟩ := DataW.trod_int Try.underlying3 g1
  obtain ⟨c, e2, _, w2⟩ := DataW.trod_int Try.underlying23 g2
  obtain ⟨d, e3, _, w3⟩ := DataW.trod_int Try.underlying23 g3
  simp only [List.cons.injEq, and_true] at e0 e1 e2 e3
  subst e0 e1 e2 e3
  exact ⟨⟨a, b, c, d⟩, rfl, ⟨w0, w1, w2, w3⟩⟩
set_option maxRecDepth 100000 in
theorem open_region {r : Reach} {b0 : Nat} {v : Value} {d : DataW H} {p : List MemPlace} (hv : Value.okWide Try.prog w r b0 25 v) (h : DataW.Trod enc Try.prog w base spare held 25 v d p) :
    ∃ x : S25, v = .agg #[.int .u8 x.f0, .int .i64 x.f1, .int .u32 x.f2, .int .u32 x.f3] ∧ OkR x := by
  obtain ⟨cs, rfl, hsz⟩ := okWide_struct Try.underlying25 hv
  obtain ⟨l⟩ := cs
  rw [c25] at hsz
  obtain ⟨fuel, hf⟩ := h
  simp only [Value.cells] at hf
  obtain ⟨x, rfl, hx⟩ := open_cells (by simpa using hsz) hf
  exact ⟨x, rfl, hx⟩
set_option maxRecDepth 100000 in
theorem open_device {r : Reach} {b0 : Nat} {v : Value} {d : DataW H} {p : List MemPlace} (hv : Value.okWide Try.prog w r b0 27 v) (h : DataW.Trod enc Try.prog w base spare held 27 v d p) :
    ∃ (s : ByteArray) (a n : Int), v = .agg #[.string s, .int .u32 a, .int .u32 n] ∧ (Lit.int .u32 a).wf = true ∧ (Lit.int .u32 n).wf = true := by
  obtain ⟨cs, rfl, hsz⟩ := okWide_struct Try.underlying27 hv
  obtain ⟨l⟩ := cs
  rw [c27] at hsz
  obtain ⟨v0, v1, v2, rfl⟩ := list3 hsz
  obtain ⟨fuel, hf⟩ := h
  simp only [Value.cells] at hf
  obtain ⟨xs, n, _, _, _, hlen, hg⟩ := DataW.trod_struct Try.underlying27 hf
  have g0 : DataW.trod enc Try.prog w base spare held n 9 (([v0, v1, v2].drop 0).take (Try.prog.cellsOf 9)) = xs[0]? := hg 0 _ rfl
  have g1 : DataW.trod enc Try.prog w base spare held n 23 (([v0, v1, v2].drop 1).take (Try.prog.cellsOf 23)) = xs[1]? := hg 1 _ rfl
  have g2 : DataW.trod enc Try.prog w base spare held n 23 (([v0, v1, v2].drop 2).take (Try.prog.cellsOf 23)) = xs[2]? := hg 2 _ rfl
  simp only [c9, c23, List.drop_zero, List.drop_succ_cons, List.take_succ_cons, List.take_zero] at g0 g1 g2
  have l3 : xs.length = 3 := hlen
  rw [List.getElem?_eq_getElem (by omega)] at g0 g1 g2
  obtain ⟨s, e0, _⟩ := DataW.trod_string Try.underlying9 g0
  obtain ⟨a, e1, _, w1⟩ := DataW.trod_int Try.underlying23 g1
  obtain ⟨m, e2, _, w2⟩ := DataW.trod_int Try.underlying23 g2
  simp only [List.cons.injEq, and_true] at e0 e1 e2
  subst e0 e1 e2
  exact ⟨s, a, m, rfl, w1, w2⟩
instance : Inhabited S25 := ⟨z25⟩
theorem open_regions {d : DataW H} {p : List MemPlace} {A : Option Addr} {len cap : Nat} (h : DataW.Trod enc Try.prog w base spare held 22 (.slice A len cap) d p) :
    ∃ xs : List S25, xs.length = len ∧ len ≤ cap ∧ Kd.C k25 w A len xs ∧ ∀ x ∈ xs, OkR x := by
  obtain ⟨fuel, hf⟩ := h
  rcases open_slice Try.underlying22 hf with ⟨hcs, _⟩ | ⟨a, l, c, m, n, D, Pl, hcs, _, hl, hm, hmm, _, hx⟩
  · simp [Value.cells] at hcs
    obtain ⟨rfl, rfl, rfl⟩ := hcs
    exact ⟨[], rfl, Nat.le_refl _, ⟨rfl, by omega, fun h => absurd h (by omega)⟩, fun x hx => by cases hx⟩
  · simp [Value.cells] at hcs
    obtain ⟨rfl, rfl, rfl⟩ := hcs
    have hlm : len ≤ m := by rw [hmm]; split <;> omega
    have each : ∀ i, i < len → ∃ r : S25, OkR r ∧ ∀ j u, [Value.int .u8 r.f0, .int .i64 r.f1, .int .u32 r.f2, .int .u32 r.f3][j]? = some u → w.cell? (a.add (i * 4 + j)) = some u := by
      intro i hi
      obtain ⟨cs', h1, h2⟩ := hx i (by omega)
      rw [c25] at h1
      obtain ⟨_, hlen, hcell⟩ := World.cells?_some h1
      obtain ⟨r, rfl, hr⟩ := open_cells hlen h2
      refine ⟨r, hr, fun j u hu => ?_⟩
      have hj : j < 4 := (List.getElem?_eq_some_iff.1 hu).1
      have := hcell j hj
      rw [Deep.add_add] at this
      rw [this, hu]
    obtain ⟨f, hf⟩ := choose_lt each
    refine ⟨(List.range len).map f, by simp, hl, ⟨by simp, by simp only [maxLen] at hm; omega, fun _ => ⟨a, rfl, fun j q hq => ?_⟩⟩, fun x hx => ?_⟩
    · have hj : j < len := by have := (List.getElem?_eq_some_iff.1 hq).1; simpa using this
      have hq' : f j = q := by simpa [List.getElem?_map, List.getElem?_range hj] using hq
      subst hq'
      exact ⟨[.int .u8 (f j).f0, .int .i64 (f j).f1, .int .u32 (f j).f2, .int .u32 (f j).f3], rfl, k25_mk w (f j), (hf j hj).2⟩
    · obtain ⟨i, hi, rfl⟩ := List.mem_map.1 hx
      exact (hf i (List.mem_range.1 hi)).1
end Go.Proofs.Ytegehkenmkmflaa.Open
