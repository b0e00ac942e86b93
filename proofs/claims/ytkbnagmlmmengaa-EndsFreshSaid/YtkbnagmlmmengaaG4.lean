-- A row of bytes of the call's own whose room, too, holds bytes: what append makes of it. By hand. Lean checks it.
import Derived.Test.YtkbnagmlmmengaaQ0
import Derived.Test.YtkbnagmlmmengaaQ5
import Derived.Test.YtkbnagmlmmengaaQ6
import Derived.Test.YtkbnagmlmmengaaQ7
import Derived.Test.YtkbnagmlmmengaaQ14
import Derived.Test.YtkbnagmlmmengaaG0
namespace Go.Proofs.Ytkbnagmlmmengaa.Q
open Go.RowKit Go.Proofs.YtkbnagmlmmengaaW.PrintWords Go.Proofs.YtkbnagmlmmengaaW.PrintLast Go.Proofs.YtkbnagmlmmengaaW.PrintMore
set_option linter.unusedVariables false
set_option linter.unusedSimpArgs false

def U8 (u : Value) : Prop := ∃ z : Int, u = .int .u8 z
/-- Every cell of the slice's block is a byte. -/
def Full (w : World) (v : Value) : Prop := ∀ g n c cur t f, v = .slice (some ⟨g, 0, none⟩) n c → w.heap[g]? = some (.cells cur t f) → ∀ u ∈ cur.toList, U8 u
theorem Full.nil (w : World) : Full w (.slice none 0 0) := by intro g n c cur t f h; cases h
theorem zero_u8 (n : Nat) : ∀ u ∈ (Builtin.zeroCells (Value.int .u8 0).cells n).toList, U8 u := by
  intro u hu
  unfold Builtin.zeroCells at hu
  simp only [Array.toList_map, List.mem_map] at hu
  obtain ⟨i, hi, rfl⟩ := hu
  refine ⟨0, ?_⟩
  have h1 : (Value.int .u8 0).cells = #[.int .u8 0] := rfl
  rw [h1]
  have h2 : i % (#[Value.int .u8 0] : Array Value).size = 0 := by show i % 1 = 0; omega
  rw [h2]
  rfl
theorem Full.of_cells {w : World} {g n c : Nat} {cur : Array Value} {t : TypeId} {f : Nat × Nat} (h : w.heap[g]? = some (.cells cur t f)) (hu : ∀ u ∈ cur.toList, U8 u) : Full w (.slice (some ⟨g, 0, none⟩) n c) := by
  intro g' n' c' cur' t' f' hv h' u hm
  injection hv with e1 _ _
  injection e1 with e1
  injection e1 with e1 _ _
  subst e1
  rw [h] at h'
  injection h' with h'
  injection h' with h' _ _
  subst h'
  exact hu u hm
theorem Full.news {w : World} {xs news : List Value} {k : Nat} {g n c : Nat} {o : Obj} (ho : o = .cells (xs.toArray ++ news.toArray ++ Builtin.zeroCells (Value.int .u8 0).cells k) 5) (h1 : ∀ u ∈ xs, U8 u) (h2 : ∀ u ∈ news, U8 u) (hg : g = w.heap.size) : Full (w.alloc o) (.slice (some ⟨g, 0, none⟩) n c) := by
  subst hg ho
  refine Full.of_cells (heap_alloc_new w _) ?_
  intro u hu
  simp only [Array.toList_append, List.mem_append] at hu
  rcases hu with (hu | hu) | hu
  · exact h1 u hu
  · exact h2 u hu
  · exact zero_u8 k u hu
theorem mem_u8 {w : World} {base : Nat} {v : Value} {n : Nat} {xs : List Value} (hown : w.ownsRow base 5 1 v n xs) (hF : Full w v) : ∀ u ∈ xs, U8 u := by
  intro u hu
  rcases hown.2 with ⟨rfl, h0⟩ | ⟨g, cap, cur, rfl, _, hg, _, _, _, htake⟩
  · have hx : xs = [] := List.eq_nil_of_length_eq_zero (by have h := hown.1; rw [h0] at h; simpa using h)
    subst hx
    cases hu
  · exact hF g n cap cur _ _ rfl hg u (by rw [← htake] at hu; exact List.mem_of_mem_take hu)

theorem append_full (w : World) (ty : TypeId) (i : TypeInfo) (hi : Try.prog.info? 5 = some i) (hz : i.zero = some (.int .u8 0)) (hs : i.size = 1) (hby : i.bytes = 1) (base : Nat) (v : Value) (n : Nat) (xs : List Value) (hown : w.ownsRow base 5 1 v n xs) (hF : Full w v)
    (a : Addr) (m c : Nat) (news : List Value) (hl : news.length = m) (hnews : ∀ j u, news[j]? = some u → w.cell? (a.add j) = some u) (hu8 : ∀ u ∈ news, U8 u) (h63 : n + m ≤ 140737488355328) (v' : Value) (w' : World)
    (hr : (Builtin.append_ #[41, 41] ty #[v, .slice (some a) m c]).run Try.prog w = .ok v' w') : Full w' v' := by
  have h1 : ∀ u ∈ news, u.oneCell' = true := by intro u hu; obtain ⟨z, rfl⟩ := hu8 u hu; rfl
  have hxu := mem_u8 hown hF
  have hx1 := hown.1
  rcases hown.2 with ⟨rfl, rfl⟩ | ⟨g, cap, cur, rfl, hbg, hg, hnc, hcm, hcs, htake⟩
  · have hx : xs = [] := List.eq_nil_of_length_eq_zero (by simpa using hown.1)
    subst hx
    by_cases hm : m = 0
    · subst hm
      have : (Builtin.append_ #[41, 41] ty #[.slice none 0 0, .slice (some a) 0 c]).run Try.prog w = .ok (.slice none 0 0) w := by
        simp [Builtin.append_, run_underlying Try.underlying41, sizeOf, typeInfo, hi, Builtin.lenOf, Builtin.firstCells, loadCells, loadCellsFrom]
      rw [this] at hr
      injection hr with e1 e2
      subst e1 e2
      exact Full.nil w
    · have := run_append_nil (P := Try.prog) w 41 ty 5 i _ Try.underlying41 hi hz a m c news (by rw [hs]; omega) hnews (by omega) (by omega) (by rw [hby]; omega)
      rw [this] at hr
      injection hr with e1 e2
      subst e1 e2
      exact Full.news (xs := []) (news := news) (by simp; rfl) (by intro u hu; cases hu) hu8 rfl
  · by_cases hroom : n + m ≤ cap
    · have hfit : n * i.size + news.length ≤ cur.size := by rw [hs, hcs]; omega
      have := run_append_room (P := Try.prog) w 41 ty 5 i Try.underlying41 hi g n cap cur hg a m c news (by rw [hs]; omega) hnews h1 hroom hfit
      rw [this] at hr
      injection hr with e1 e2
      subst e1 e2
      refine Full.of_cells (setRow_heap w g cur _ 5 _ hg) ?_
      intro u hu
      simp only [List.mem_append] at hu
      rcases hu with (hu | hu) | hu
      · exact hF g n cap cur _ _ rfl hg u (List.mem_of_mem_take hu)
      · exact hu8 u hu
      · exact hF g n cap cur _ _ rfl hg u (List.mem_of_mem_drop hu)
    · have holds : ∀ j u, xs[j]? = some u → w.cell? ((⟨g, 0, none⟩ : Addr).add j) = some u := hown.cells (g := g) rfl
      have := run_append_grow (P := Try.prog) w 41 ty 5 i _ Try.underlying41 hi hz ⟨g, 0, none⟩ n cap xs (by rw [hs]; exact hown.1) holds a m c news (by rw [hs]; omega) hnews (by omega) (by omega) (growslice_fits (by omega) (by rw [hby]; omega))
      rw [this] at hr
      injection hr with e1 e2
      subst e1 e2
      exact Full.news rfl hxu hu8 rfl
theorem zeros_full (w : World) (ty : TypeId) (i : TypeInfo) (hi : Try.prog.info? 5 = some i) (hz : i.zero = some (.int .u8 0)) (hs : i.size = 1) (hby : i.bytes = 1) (base : Nat) (v : Value) (n : Nat) (xs : List Value) (hown : w.ownsRow base 5 1 v n xs) (hF : Full w v)
    (kx : IntKind) (m : Nat) (h63 : n + m ≤ 140737488355328) (v' : Value) (w' : World)
    (hr : (Builtin.append_ #[41, 3] ty #[v, .int kx m]).run Try.prog w = .ok v' w') : Full w' v' := by
  have hw : IntKind.i64.wrap (m : Int) = m := by rw [IntKind.wrap_i64]; omega
  have hw0 : IntKind.i64.wrap 0 = 0 := by rw [IntKind.wrap_i64]; rfl
  have hneg : ¬ ((m : Int) < 0) := by omega
  have hbig : ¬ (281474976710656 < (m : Int) * (i.bytes : Int)) := by rw [hby]; omega
  have hsn : i.size ≠ 0 := by omega
  obtain ⟨news, hnews⟩ : ∃ news, news = (Builtin.zeroCells (Value.int .u8 0).cells m).toList := ⟨_, rfl⟩
  have hu8 : ∀ u ∈ news, U8 u := by rw [hnews]; exact zero_u8 m
  have h1 : ∀ u ∈ news, u.oneCell' = true := by intro u hu; obtain ⟨z, rfl⟩ := hu8 u hu; rfl
  have hl : news.length = m := by rw [hnews, Array.length_toList, size_zeroCells]; show m * 1 = m; omega
  have hna : Builtin.zeroCells (Value.int .u8 0).cells m = news.toArray := by rw [hnews]
  have hxu := mem_u8 hown hF
  have hx1 := hown.1
  have hnil : m = 0 → news = [] := fun h => List.eq_nil_of_length_eq_zero (by rw [hl, h])
  have runs : ∀ (A : Option Addr) (cap : Nat), cap < n + m → (Builtin.firstCells i.size n (.slice A n cap)).run Try.prog w.drew = .ok xs.toArray w.drew → (Builtin.append_ #[41, 3] ty #[.slice A n cap, .int kx m]).run Try.prog w =
      .ok (.slice (some ⟨w.heap.size, 0, none⟩) (n + m) (grownCap w (n + m) cap 5)) (w.drew.alloc (.cells (xs.toArray ++ news.toArray ++ Builtin.zeroCells (Value.int .u8 0).cells (grownCap w (n + m) cap 5 - (n + m))) 5)) := by
    intro A cap hcap hfo
    have hn : ¬ (n + m ≤ cap) := by omega
    have h63' : ¬ (9223372036854775807 < ((n : Int) + (m : Int))) := by omega
    have hfit := growslice_fits (bytes := i.bytes) hcap (by rw [hby]; omega)
    have h48' : ¬ (281474976710656 < Builtin.nextslicecap (n + m) cap * i.bytes) := by omega
    by_cases hm : m = 0
    · have hnl := hnil hm
      subst hm
      rw [hnl]
      simp only [Nat.add_zero] at hn h63' h48' ⊢
      have h63'' : ¬ (9223372036854775807 < (n : Int)) := by omega
      simp [Builtin.append_, run_underlying Try.underlying41, run_underlying Try.underlying3, sizeOf, typeInfo, zeroValue, hi, hz, asInt, asIntOf, hw0, hn, h63'', h48', Question.forced, hfo, newRow, grownCap]
    · have hmz : ¬ (m * i.size = 0) := Nat.mul_ne_zero hm hsn
      simp [Builtin.append_, run_underlying Try.underlying41, run_underlying Try.underlying3, sizeOf, typeInfo, zeroValue, hi, hz, asInt, asIntOf, hw, hneg, hbig, hn, h63', h48', Question.forced, hfo, newRow, grownCap, hmz, hna]
      congr 2
      apply Array.ext'
      simp [List.append_assoc]
  rcases hown.2 with ⟨rfl, rfl⟩ | ⟨g, cap, cur, rfl, hbg, hg, hnc, hcm, hcs, htake⟩
  · have hx : xs = [] := List.eq_nil_of_length_eq_zero (by simpa using hown.1)
    subst hx
    by_cases hm : m = 0
    · have hnl := hnil hm
      subst hm
      have : (Builtin.append_ #[41, 3] ty #[.slice none 0 0, .int kx (0 : Nat)]).run Try.prog w = .ok (.slice none 0 0) w := by
        simp [Builtin.append_, run_underlying Try.underlying41, run_underlying Try.underlying3, sizeOf, typeInfo, hi, asInt, asIntOf, hw0]
      rw [this] at hr
      injection hr with e1 e2
      subst e1 e2
      exact Full.nil w
    · have := runs none 0 (by omega) (by simp [Builtin.firstCells])
      rw [this] at hr
      injection hr with e1 e2
      subst e1 e2
      exact Full.news rfl hxu hu8 rfl
  · by_cases hroom : n + m ≤ cap
    · have hfit : n * i.size + news.length ≤ cur.size := by rw [hs, hcs]; omega
      obtain ⟨cur', h3, h4, h5⟩ := setCells_row news (n * i.size) w cur hg hfit
      have hst := run_storeCells_cells (P := Try.prog) g (n * i.size) news 0 w (fun j hj => by rw [cell_of_row w g _ cur 5 (0, 0) hg]; simp; omega) (fun j _ => blk_frozen hg _) h1
      simp only [Nat.add_zero] at hst
      have : (Builtin.append_ #[41, 3] ty #[.slice (some ⟨g, 0, none⟩) n cap, .int kx m]).run Try.prog w = .ok (.slice (some ⟨g, 0, none⟩) (n + m) cap) (w.setCells g (n * i.size) news) := by
        by_cases hm : m = 0
        · have hnl := hnil hm
          subst hm
          rw [hnl] at hst ⊢
          simp [Builtin.append_, run_underlying Try.underlying41, run_underlying Try.underlying3, sizeOf, typeInfo, hi, asInt, asIntOf, hw0, hnc, add_plain, hst]
        · have hmz : ¬ (m * i.size = 0) := Nat.mul_ne_zero hm hsn
          simp [Builtin.append_, run_underlying Try.underlying41, run_underlying Try.underlying3, sizeOf, typeInfo, zeroValue, hi, hz, asInt, asIntOf, hw, hneg, hbig, hroom, hmz, hna, add_plain, hst]
      rw [this] at hr
      injection hr with e1 e2
      subst e1 e2
      refine Full.of_cells h3 ?_
      rw [h5]
      intro u hu
      simp only [List.mem_append] at hu
      rcases hu with (hu | hu) | hu
      · exact hF g n cap cur _ _ rfl hg u (List.mem_of_mem_take hu)
      · exact hu8 u hu
      · exact hF g n cap cur _ _ rfl hg u (List.mem_of_mem_drop hu)
    · have holds : ∀ j u, xs[j]? = some u → w.cell? ((⟨g, 0, none⟩ : Addr).add j) = some u := hown.cells (g := g) rfl
      have := runs (some ⟨g, 0, none⟩) cap (by omega) (run_firstCells_some (P := Try.prog) w.drew i.size n _ n cap xs (by rw [hs]; exact hown.1) (by simpa using holds))
      rw [this] at hr
      injection hr with e1 e2
      subst e1 e2
      exact Full.news rfl hxu hu8 rfl
section
variable {ops : Array Oper} {rest : List Oper} {o : Oper} {a : Act} {Q : Exit → Act → World → Prop}
theorem F_append_rows {w0 W : World} (base : Nat) (hgd : o.guard = none) (s x : Operand)
    (ho : o.op = .call { callee := .builtin .append, args := #[s, x], argTypes := #[41, 41] })
    (v : Value) (xs ys : List Int) (A : Option Addr) (m c : Nat) (hs : a.eval s = v) (hx : a.eval x = .slice A m c)
    (HO : Kd.R (Kd.int .u8) 5 W base (fun _ => True) v xs) (HF : Full W v) (HR : Kd.C (Kd.int .u8) W A m ys)
    (HB : Below base w0 W) (hbase : base ≤ W.heap.size) (hl : xs.length + m ≤ 140737488355328)
    (h : ∀ v1 w1, Kd.R (Kd.int .u8) 5 w1 base (fun _ => True) v1 (xs ++ ys) → Full w1 v1 → Below base w0 w1 → wpList Try.prog ops Q rest (a.put o.dst v1) w1) :
    wpList Try.prog ops Q (o :: rest) a W := by
  obtain ⟨i0, hi, hzz⟩ := Option.map_eq_some_iff.1 info5
  simp only [Prod.mk.injEq] at hzz
  obtain ⟨hz0, hz1, hz2⟩ := hzz
  have hm : ys.length = m := HR.1
  have hown := Kd.own_of_R HO
  have hrun : ∃ v1 w1, (Builtin.append_ #[41, 41] o.type #[v, .slice A m c]).run Try.prog W = .ok v1 w1 ∧ Kd.R (Kd.int .u8) 5 w1 base (fun _ => True) v1 (xs ++ ys) ∧ Full w1 v1 ∧ W.grownBy w1 v.ownBlock := by
    rcases A with _ | ad
    · have h0 : m = 0 := by
        rcases Nat.eq_zero_or_pos m with h0 | h0
        · exact h0
        · obtain ⟨ad, h, _⟩ := HR.2.2 h0
          cases h
      subst h0
      obtain rfl : ys = [] := List.eq_nil_of_length_eq_zero hm
      refine ⟨v, W, ?_, by rw [List.append_nil]; exact HO, HF, World.grownBy.refl W _⟩
      rcases hown.2 with ⟨rfl, hn⟩ | ⟨g, cap, cur, rfl, _, _, hnc, _⟩
      · simp [Builtin.append_, run_underlying Try.underlying41, sizeOf, typeInfo, hi, Builtin.lenOf, Builtin.firstCells]
      · simp [Builtin.append_, run_underlying Try.underlying41, sizeOf, typeInfo, hi, Builtin.lenOf, Builtin.firstCells, hnc, storeCells]
    · have hnews : ∀ j u, (encs (Value.int .u8) ys)[j]? = some u → W.cell? (ad.add j) = some u := by
        intro j u hu
        have hj : j < ys.length := by
          have := (List.getElem?_eq_some_iff.1 hu).1
          rwa [encs_length] at this
        obtain ⟨ad', ea, hc⟩ := Kd.at_int HR (j : Int) (by omega) (by omega)
        cases ea
        rw [Int.toNat_natCast] at hc
        rw [hc, ← hu, encs_get (d := (0 : Int)) ys j hj]
        unfold rd
        rw [Int.toNat_natCast]
      have hu8 : ∀ u ∈ encs (Value.int .u8) ys, U8 u := by
        intro u hu
        unfold encs at hu
        obtain ⟨z, _, rfl⟩ := List.mem_map.1 hu
        exact ⟨z, rfl⟩
      have h1 : ∀ u ∈ encs (Value.int .u8) ys, u.oneCell' = true := by intro u hu; obtain ⟨z, rfl⟩ := hu8 u hu; rfl
      obtain ⟨v1, w1, hr, h2, hg, _⟩ := run_append_own (P := Try.prog) W base 41 o.type 5 i0 (.int .u8 0) 1 1 Try.underlying41 hi hz0 hz1 hz2 rfl (by decide) v xs.length _ hown ad m c (encs (Value.int .u8) ys) (by rw [encs_length]; omega) hnews h1 (by simp only [maxLen]; omega) (by omega) hbase
      refine ⟨v1, w1, hr, Kd.R_of_own ?_ (fun _ _ => trivial), append_full W o.type i0 hi hz0 hz1 hz2 base v xs.length _ hown HF ad m c _ (by rw [encs_length]; omega) hnews hu8 (by omega) v1 w1 hr, hg⟩
      rw [encs_append, List.length_append, hm]
      exact h2
  obtain ⟨v1, w1, hr1, h1, h2, hg⟩ := hrun
  refine wpList_plain hgd fun K hK => ?_
  unfold Oper.wp execOp
  simp only [ho, resolve, invoke, builtin, Sem.run_bind, Sem.run_pure, Result.andThen_ok, List.map_toArray, List.map_cons, List.map_nil, hs, hx, hr1]
  exact hK _ _ (h v1 w1 h1 h2 (HB.grown hg hbase (Kd.R_base HO)))
theorem F_append_zeros {w0 W : World} (base : Nat) (hgd : o.guard = none) (s x : Operand)
    (ho : o.op = .call { callee := .builtin .append, args := #[s, x], argTypes := #[41, 3] })
    (v : Value) (xs : List Int) {kx : IntKind} (n : Nat) (hs : a.eval s = v) (hx : a.eval x = .int kx n)
    (HO : Kd.R (Kd.int .u8) 5 W base (fun _ => True) v xs) (HF : Full W v)
    (HB : Below base w0 W) (hbase : base ≤ W.heap.size) (hl : xs.length + n ≤ 140737488355328)
    (h : ∀ v1 w1, Kd.R (Kd.int .u8) 5 w1 base (fun _ => True) v1 (xs ++ List.replicate n 0) → Full w1 v1 → Below base w0 w1 → wpList Try.prog ops Q rest (a.put o.dst v1) w1) :
    wpList Try.prog ops Q (o :: rest) a W := by
  obtain ⟨i0, hi, hzz⟩ := Option.map_eq_some_iff.1 info5
  simp only [Prod.mk.injEq] at hzz
  obtain ⟨hz0, hz1, hz2⟩ := hzz
  have hown := Kd.own_of_R HO
  obtain ⟨v1, w1, hr1, h1, hg, _⟩ := Kd.R_zeros_run (P := Try.prog) (Kd.int .u8) base 41 3 o.type 5 (.int .u8 0) 1 Try.underlying41 Try.underlying3 info5 rfl (by decide) (by omega) v xs 0 (ok := fun _ => True) rfl (fun _ _ => trivial) HO kx (n : Int) (by omega) (by rw [Int.toNat_natCast]; omega) hbase
  rw [Int.toNat_natCast] at h1
  have h2 := zeros_full W o.type i0 hi hz0 hz1 hz2 base v xs.length _ hown HF kx n (by omega) v1 w1 hr1
  refine wpList_plain hgd fun K hK => ?_
  unfold Oper.wp execOp
  simp only [ho, resolve, invoke, builtin, Sem.run_bind, Sem.run_pure, Result.andThen_ok, List.map_toArray, List.map_cons, List.map_nil, hs, hx, hr1]
  exact hK _ _ (h v1 w1 h1 h2 (HB.grown hg hbase (Kd.R_base HO)))
end
/-- A full row, as a row of its whole room. -/
theorem Full.row {w : World} {base : Nat} {v : Value} {xs : List Int} (HO : Kd.R (Kd.int .u8) 5 w base (fun _ => True) v xs) (HF : Full w v) :
    ∃ A cap L, v = .slice A xs.length cap ∧ L.length = cap ∧ Kd.R (Kd.int .u8) 5 w base (fun _ => True) (.slice A cap cap) L := by
  have hown := Kd.own_of_R HO
  rcases hown.2 with ⟨rfl, hn⟩ | ⟨g, cap, cur, rfl, hb, hg, hnc, hcm, hcs, htake⟩
  · exact ⟨none, 0, [], by rw [hn], rfl, Kd.R_nil _ _ _ _ _⟩
  · have hu := HF g xs.length cap cur _ _ rfl hg
    have he : encs (Value.int .u8) (cur.toList.map intOf) = cur.toList := by
      unfold encs
      rw [List.map_map]
      conv => rhs; rw [← List.map_id cur.toList]
      apply List.map_congr_left
      intro u hm
      obtain ⟨z, rfl⟩ := hu u hm
      rfl
    have hlen : (cur.toList.map intOf).length = cap := by rw [List.length_map, Array.length_toList, hcs]; omega
    refine ⟨some ⟨g, 0, none⟩, cap, cur.toList.map intOf, rfl, hlen, Kd.R_of_own ?_ (fun _ _ => trivial)⟩
    rw [hlen, he]
    refine ⟨by rw [Array.length_toList, hcs], .inr ⟨g, cap, cur, rfl, hb, hg, Nat.le_refl _, hcm, hcs, ?_⟩⟩
    exact List.take_of_length_le (by rw [Array.length_toList, hcs]; exact Nat.le_refl _)
end Go.Proofs.Ytkbnagmlmmengaa.Q
