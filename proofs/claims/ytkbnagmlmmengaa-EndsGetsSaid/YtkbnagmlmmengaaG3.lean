-- The law EndsGets, walked by hand: every call's answer is handed in. Lean checks it.
import Derived.Test.YtkbnagmlmmengaaG2
namespace Go.Proofs.Ytkbnagmlmmengaa.Q
open Go.RowKit Go.Proofs.YtkbnagmlmmengaaW.PrintWords Go.Proofs.YtkbnagmlmmengaaW.PrintLast Go.Proofs.YtkbnagmlmmengaaW.PrintMore
attribute [local go_sem] max2_int min2_int max_two min_two max_three min_three max_four min_four   -- for this text's walks alone
set_option linter.unusedVariables false
set_option linter.unusedSimpArgs false

theorem below_drawn {w w' : World} (h : Drawn0 w w') : Below w.heap.size w w' := by
  obtain ⟨nd, rfl⟩ := h
  exact pw_below_drewN (Below.refl _ _) nd

/-- THE ONE PURE STATEMENT of bulwarklaw01_EndsGets: what each of its calls answers. -/
def bulwarklaw01_EndsGets.Pure : Prop := ∀ (l : List Int) (a1 a2 a3 : Int), l.length ≤ maxLen → l.length * 1 ≤ 140737488351232 → (∀ x ∈ l, (Lit.int .u8 x).wf = true) → (Lit.int .i64 a1).wf = true → (Lit.int .i64 a2).wf = true → (Lit.int .i64 a3).wf = true →
  ∃ (k : Nat) (x e : Int) (p q : List Int) (g : Int) (z : Bool), bulwarkref00_Wide.f k l = some (l ++ [7, 7, 7]) ∧ ends_Get.f k l a1 a2 = some (x, e) ∧ bulwarkref01_Get.f k l a1 a2 = some (x, e) ∧ ends_Part.f l a1 a3 = some (p, g) ∧ bulwarkref01_Part.f k l a1 a3 = some (p, g) ∧ bulwarkref00_Same.f k p p = some true ∧
    ends_Pad.f l = some q ∧ bulwarkref01_Pad.f k l = some q ∧ bulwarkref00_Same.f k q q = some true ∧ ends_Zero.f k l a1 a3 = some z ∧ bulwarkref01_Zero.f k l a1 a3 = some z ∧ bulwarkref00_Same.f k l l = some true ∧ bulwarklaw01_lives.f k = some true

set_option maxHeartbeats 8000000 in
set_option maxRecDepth 100000 in
theorem bulwarklaw01_EndsGets.calls (k : Nat) (A0 : Option Addr) (c0 : Nat) (l : List Int) (a1 a2 a3 : Int) (x e : Int) (p q : List Int) (g : Int) (z : Bool) (w : World) (hr0 : Kd.C (Kd.int .u8) w A0 l.length l) (hc0 : l.length ≤ c0)
    (h1 : bulwarkref00_Wide.f k l = some (l ++ [7, 7, 7])) (h2 : ends_Get.f k l a1 a2 = some (x, e)) (h3 : bulwarkref01_Get.f k l a1 a2 = some (x, e)) (h4 : ends_Part.f l a1 a3 = some (p, g)) (h5 : bulwarkref01_Part.f k l a1 a3 = some (p, g)) (h6 : bulwarkref00_Same.f k p p = some true)
    (h7 : ends_Pad.f l = some q) (h8 : bulwarkref01_Pad.f k l = some q) (h9 : bulwarkref00_Same.f k q q = some true) (h10 : ends_Zero.f k l a1 a3 = some z) (h11 : bulwarkref01_Zero.f k l a1 a3 = some z) (h12 : bulwarkref00_Same.f k l l = some true) (h13 : bulwarklaw01_lives.f k = some true) :
    Calls Try.prog 12 #[.slice A0 l.length c0, .int .i64 a1, .int .i64 a2, .int .i64 a3] w fun e w' => e = .returned (.bool true) ∧ Below w.heap.size w w' := by
  have HR0 := Aside0.mk hr0
  have HC0 := Aside0.mk hc0
  have H1 := Aside0.mk h1
  have H2 := Aside0.mk h2
  have H3 := Aside0.mk h3
  have H4 := Aside0.mk h4
  have H5 := Aside0.mk h5
  have H6 := Aside0.mk h6
  have H7 := Aside0.mk h7
  have H8 := Aside0.mk h8
  have H9 := Aside0.mk h9
  have H10 := Aside0.mk h10
  have H11 := Aside0.mk h11
  have H12 := Aside0.mk h12
  have H13 := Aside0.mk h13
  clear hr0 hc0 h1 h2 h3 h4 h5 h6 h7 h8 h9 h10 h11 h12 h13
  go_enter Try.func12, Try.ntmps12
  go_wp2_with fail
  refine (bulwarkref00_Wide.calls k A0 c0 l _ w HR0.out HC0.out H1.out).mono ?_
  rintro e1 w1 ⟨A, c, rfl, hR, _, hB⟩
  have hW : Kd.C (Kd.int .u8) w1 A (l.length + 3) (l ++ [7, 7, 7]) ∧ l.length + 3 ≤ c := by
    have := Kd.R_reads' hR
    exact ⟨by simpa using this.2.2, by simpa using this.2.1⟩
  have hW0 : Kd.C (Kd.int .u8) w1 A l.length l := by
    have h := (Kd.R_reads' hR).2.2
    have := Kd.C_take (m := l.length) h (by simp)
    rwa [List.take_left' rfl] at this
  have HW := Aside0.mk hW.1
  have HWC := Aside0.mk hW.2
  have HW0 := Aside0.mk hW0
  have HB := Aside0.mk hB
  have HW1 := Aside0.mk (show l.length ≤ c by omega)
  clear hW hW0 hB hR
  go_wp2_with fail
  refine (ends_Get.calls k A c l a1 a2 x e w1 HW0.out HW1.out H2.out).mono ?_
  rintro e2 w2 ⟨rfl, hb⟩
  replace HW := Aside0.mk (Kd.C_below HW.out hb)
  replace HW0 := Aside0.mk (Kd.C_below HW0.out hb)
  replace HB := Aside0.mk (below_step HB.out hb)
  clear hb
  go_wp2_with fail
  refine (bulwarkref01_Get.calls k A0 c0 l a1 a2 x e w2 (Kd.C_below HR0.out HB.out) HC0.out H3.out).mono ?_
  rintro e3 w3 ⟨rfl, hd⟩
  have hb := below_drawn hd
  replace HW := Aside0.mk (Kd.C_below HW.out hb)
  replace HW0 := Aside0.mk (Kd.C_below HW0.out hb)
  replace HB := Aside0.mk (below_step HB.out hb)
  clear hb hd
  go_wp2_with fail
  refine (ends_Part.calls A c l a1 a3 p g w3 HW0.out HW1.out H4.out).mono ?_
  rintro e4 w4 ⟨v4, rfl, hR, hb⟩
  replace HW := Aside0.mk (Kd.C_below HW.out hb)
  replace HW0 := Aside0.mk (Kd.C_below HW0.out hb)
  replace HB := Aside0.mk (below_step HB.out hb)
  obtain ⟨Ap, cp, rfl⟩ := Kd.R_slice hR
  have HRp := Aside0.mk (Kd.R_reads' hR).2.2
  have HCp := Aside0.mk (Kd.R_reads' hR).2.1
  clear hR
  clear hb
  go_wp2_with fail
  refine (bulwarkref01_Part.calls k A0 c0 l a1 a3 p g w4 (Kd.C_below HR0.out HB.out) HC0.out H5.out).mono ?_
  rintro e5 w5 ⟨v5, rfl, hR, hb⟩
  replace HW := Aside0.mk (Kd.C_below HW.out hb)
  replace HW0 := Aside0.mk (Kd.C_below HW0.out hb)
  replace HRp := Aside0.mk (Kd.C_below HRp.out hb)
  replace HB := Aside0.mk (below_step HB.out hb)
  obtain ⟨Aq, cq, rfl⟩ := Kd.R_slice hR
  have HRq := Aside0.mk (Kd.R_reads' hR).2.2
  have HCq := Aside0.mk (Kd.R_reads' hR).2.1
  clear hR
  clear hb
  have hxe : (x == x) = true := beq_self_eq_true x
  have hee : (e == e) = true := beq_self_eq_true e
  have hgg : (g == g) = true := beq_self_eq_true g
  have hzz : (z == z) = true := beq_self_eq_true z
  go_wp2_with fail
  refine (bulwarkref00_Same.calls k Ap cp p Aq cq p true w5 HRp.out HCp.out HRq.out HCq.out H6.out).mono ?_
  rintro e6 w6 ⟨rfl, hd⟩
  have hb := below_drawn hd
  replace HW := Aside0.mk (Kd.C_below HW.out hb)
  replace HW0 := Aside0.mk (Kd.C_below HW0.out hb)
  replace HB := Aside0.mk (below_step HB.out hb)
  clear hb hd
  go_wp2_with fail
  refine (ends_Pad.calls A c l q w6 HW0.out HW1.out H7.out).mono ?_
  rintro e7 w7 ⟨v7, rfl, hR, hb⟩
  replace HW := Aside0.mk (Kd.C_below HW.out hb)
  replace HW0 := Aside0.mk (Kd.C_below HW0.out hb)
  replace HB := Aside0.mk (below_step HB.out hb)
  obtain ⟨As, cs, rfl⟩ := Kd.R_slice hR
  have HRs := Aside0.mk (Kd.R_reads' hR).2.2
  have HCs := Aside0.mk (Kd.R_reads' hR).2.1
  clear hR
  clear hb
  go_wp2_with fail
  refine (bulwarkref01_Pad.calls k A0 c0 l q w7 (Kd.C_below HR0.out HB.out) HC0.out H8.out).mono ?_
  rintro e8 w8 ⟨v8, rfl, hR, hb⟩
  replace HW := Aside0.mk (Kd.C_below HW.out hb)
  replace HW0 := Aside0.mk (Kd.C_below HW0.out hb)
  replace HRs := Aside0.mk (Kd.C_below HRs.out hb)
  replace HB := Aside0.mk (below_step HB.out hb)
  obtain ⟨At, ct, rfl⟩ := Kd.R_slice hR
  have HRt := Aside0.mk (Kd.R_reads' hR).2.2
  have HCt := Aside0.mk (Kd.R_reads' hR).2.1
  clear hR
  clear hb
  go_wp2_with fail
  refine (bulwarkref00_Same.calls k As cs q At ct q true w8 HRs.out HCs.out HRt.out HCt.out H9.out).mono ?_
  rintro e9 w9 ⟨rfl, hd⟩
  have hb := below_drawn hd
  replace HW := Aside0.mk (Kd.C_below HW.out hb)
  replace HW0 := Aside0.mk (Kd.C_below HW0.out hb)
  replace HB := Aside0.mk (below_step HB.out hb)
  clear hb hd
  go_wp2_with fail
  refine (ends_Zero.calls k A c l a1 a3 z w9 HW0.out HW1.out H10.out).mono ?_
  rintro e10 w10 ⟨rfl, hb⟩
  replace HW := Aside0.mk (Kd.C_below HW.out hb)
  replace HW0 := Aside0.mk (Kd.C_below HW0.out hb)
  replace HB := Aside0.mk (below_step HB.out hb)
  clear hb
  go_wp2_with fail
  refine (bulwarkref01_Zero.calls k A0 c0 l a1 a3 z w10 (Kd.C_below HR0.out HB.out) HC0.out H11.out).mono ?_
  rintro e11 w11 ⟨rfl, hb⟩
  replace HW := Aside0.mk (Kd.C_below HW.out hb)
  replace HW0 := Aside0.mk (Kd.C_below HW0.out hb)
  replace HB := Aside0.mk (below_step HB.out hb)
  clear hb
  go_wp2_with fail
  refine (bulwarkref00_Left.calls k A c l A0 c0 w11 HW.out HWC.out (Kd.C_below HR0.out HB.out) HC0.out H12.out).mono ?_
  rintro e12 w12 ⟨rfl, hd⟩
  have hb := below_drawn hd
  replace HW := Aside0.mk (Kd.C_below HW.out hb)
  replace HW0 := Aside0.mk (Kd.C_below HW0.out hb)
  replace HB := Aside0.mk (below_step HB.out hb)
  clear hb hd
  go_wp2_with fail
  refine (bulwarklaw01_lives.calls k true w12 H13.out).mono ?_
  rintro e13 w13 ⟨rfl, hb⟩
  replace HW := Aside0.mk (Kd.C_below HW.out hb)
  replace HW0 := Aside0.mk (Kd.C_below HW0.out hb)
  replace HB := Aside0.mk (below_step HB.out hb)
  clear hb
  go_wp2
  go_ret
  exact ⟨rfl, HB.out⟩
theorem bulwarklaw01_EndsGets.walk (P : bulwarklaw01_EndsGets.Pure) (a0 : Option Addr) (len0 cap0 : Nat) (z0 : List Int) (a1 : Int) (a2 : Int) (a3 : Int) (w : World) (w0 : (a0 = none ∧ len0 = 0 ∧ cap0 = 0 ∧ z0 = []) ∨ ∃ x, a0 = some x ∧ len0 ≤ cap0 ∧ cap0 ≤ maxLen ∧ z0.length = cap0 ∧ (∀ i, i < z0.length → w.cell? (x.add i) = some (.int .u8 (z0.getD i 0))) ∧ ∀ n ∈ z0, (Lit.int .u8 n).wf = true) (y0 : len0 * 1 ≤ 140737488351232) (w1 : (Lit.int .i64 a1).wf = true) (w2 : (Lit.int .i64 a2).wf = true) (w3 : (Lit.int .i64 a3).wf = true) :
    Calls Try.prog 12 #[.slice a0 len0 cap0, .int .i64 a1, .int .i64 a2, .int .i64 a3] w fun e w' => e = .returned (.bool true) ∧ Below w.heap.size w w' := by
  obtain ⟨l0, rfl, hr0, hm0, hw0, hc0⟩ := ReadsInt.ofRowC w0
  obtain ⟨k, x, e, p, q, g, z, h1, h2, h3, h4, h5, h6, h7, h8, h9, h10, h11, h12, h13⟩ := P l0 a1 a2 a3 hm0 y0 hw0 w1 w2 w3
  exact bulwarklaw01_EndsGets.calls k _ _ l0 a1 a2 a3 x e p q g z w (Kd.C_of_reads (d := (0 : Int)) (h1 := fun _ => rfl) hr0) hc0 h1 h2 h3 h4 h5 h6 h7 h8 h9 h10 h11 h12 h13
end Go.Proofs.Ytkbnagmlmmengaa.Q
