-- The law EndsFresh, walked by hand: every call's answer is handed in. Lean checks it.
import Derived.Test.YtkbnagmlmmengaaQ10
import Derived.Test.YtkbnagmlmmengaaG5
namespace Go.Proofs.Ytkbnagmlmmengaa.Q
open Go.RowKit Go.Proofs.YtkbnagmlmmengaaW.PrintWords Go.Proofs.YtkbnagmlmmengaaW.PrintLast Go.Proofs.YtkbnagmlmmengaaW.PrintMore
attribute [local go_sem] max2_int min2_int max_two min_two max_three min_three max_four min_four   -- for this text's walks alone
set_option linter.unusedVariables false
set_option linter.unusedSimpArgs false

theorem below_drawn' {B : Nat} {w w' : World} (h : Drawn0 w w') : Below B w w' := by
  obtain ⟨nd, rfl⟩ := h
  exact ⟨rfl, rfl, rfl, Nat.le_refl _, fun _ _ => rfl⟩

/-- THE ONE PURE STATEMENT of bulwarklaw01_EndsFresh: what each of its calls answers. -/
def bulwarklaw01_EndsFresh.Pure : Prop := ∀ (l : List Int) (a1 a2 : Int), l.length ≤ maxLen → l.length * 1 ≤ 140737488351232 → (∀ x ∈ l, (Lit.int .u8 x).wf = true) → (Lit.int .i64 a1).wf = true → (Lit.int .i64 a2).wf = true →
  ∃ (k : Nat) (p q : List Int) (g : Int), bulwarkref00_Copy.f l = some l ∧ ends_Part.f l a1 a2 = some (p, g) ∧ ends_Pad.f l = some q ∧ bulwarkref01_Part.f k l a1 a2 = some (p, g) ∧ bulwarkref00_Same.f k p p = some true ∧ bulwarkref00_Same.f k l l = some true ∧ bulwarklaw01_lives.f k = some true

set_option maxHeartbeats 8000000 in
set_option maxRecDepth 100000 in
theorem bulwarklaw01_EndsFresh.calls (k : Nat) (A0 : Option Addr) (c0 : Nat) (l : List Int) (a1 a2 : Int) (p q : List Int) (g : Int) (w : World) (hr0 : Kd.C (Kd.int .u8) w A0 l.length l) (hc0 : l.length ≤ c0)
    (h1 : bulwarkref00_Copy.f l = some l) (h2 : ends_Part.f l a1 a2 = some (p, g)) (h3 : ends_Pad.f l = some q) (h4 : bulwarkref01_Part.f k l a1 a2 = some (p, g)) (h5 : bulwarkref00_Same.f k p p = some true) (h6 : bulwarkref00_Same.f k l l = some true) (h7 : bulwarklaw01_lives.f k = some true) :
    Calls Try.prog 14 #[.slice A0 l.length c0, .int .i64 a1, .int .i64 a2] w fun e w' => e = .returned (.bool true) ∧ Below w.heap.size w w' := by
  have HR0 := Aside0.mk hr0
  have HC0 := Aside0.mk hc0
  have H1 := Aside0.mk h1
  have H2 := Aside0.mk h2
  have H3 := Aside0.mk h3
  have H4 := Aside0.mk h4
  have H5 := Aside0.mk h5
  have H6 := Aside0.mk h6
  have H7 := Aside0.mk h7
  have hgg : (g == g) = true := beq_self_eq_true g
  clear hr0 hc0 h1 h2 h3 h4 h5 h6 h7
  go_enter Try.func14, Try.ntmps14
  go_wp2_with fail
  refine (bulwarkref00_Copy.calls A0 c0 l l w HR0.out HC0.out H1.out).mono ?_
  rintro e1 w1 ⟨v1, rfl, hR, hB⟩
  obtain ⟨At, ct, rfl⟩ := Kd.R_slice hR
  have HT := Aside0.mk (Kd.R_reads' hR).2.2
  have HTC := Aside0.mk (Kd.R_reads' hR).2.1
  have HS := Aside0.mk (Kd.C_below HR0.out hB)
  have HB0 := Aside0.mk hB
  clear hR hB
  go_wp2_with fail
  refine (ends_Part.full A0 c0 l a1 a2 p g w1 HS.out HC0.out H2.out).mono ?_
  rintro e2 w2 ⟨v2, rfl, hR, hF, hB⟩
  obtain ⟨Ax, cx, L, rfl, hL, hX⟩ := Full.row hR hF
  have HX := Aside0.mk hX
  have HL := Aside0.mk hL
  have HB := Aside0.mk hB
  clear hR hF hB hX hL
  go_wp2_with fail
  refine (bulwarkref00_Spoil.calls Ax p.length cx L 3 w1.heap.size w2 HL.out HX.out).mono ?_
  rintro e3 w3 ⟨v3, rfl, hb⟩
  replace HB := Aside0.mk (HB.out.trans hb)
  clear hb HX HL
  go_wp2_with fail
  refine (ends_Pad.full A0 c0 l q w3 (Kd.C_below HS.out HB.out) HC0.out H3.out).mono ?_
  rintro e4 w4 ⟨v4, rfl, hR, hF, hB⟩
  obtain ⟨Ay, cy, M, rfl, hL, hX⟩ := Full.row (Kd.R_lower hR HB.out.size) hF
  have HX := Aside0.mk hX
  have HL := Aside0.mk hL
  replace HB := Aside0.mk (HB.out.trans (hB.mono HB.out.size))
  clear hR hF hB hX hL
  go_wp2_with fail
  refine (bulwarkref00_Spoil.calls Ay q.length cy M 3 w1.heap.size w4 HL.out HX.out).mono ?_
  rintro e5 w5 ⟨v5, rfl, hb⟩
  replace HB := Aside0.mk (HB.out.trans hb)
  clear hb HX HL
  go_wp2_with fail
  refine (ends_Part.calls A0 c0 l a1 a2 p g w5 (Kd.C_below HS.out HB.out) HC0.out H2.out).mono ?_
  rintro e6 w6 ⟨v6, rfl, hR, hB⟩
  obtain ⟨Ap, cp, rfl⟩ := Kd.R_slice hR
  have HRp := Aside0.mk (Kd.R_reads' hR).2.2
  have HCp := Aside0.mk (Kd.R_reads' hR).2.1
  replace HB := Aside0.mk (HB.out.trans (hB.mono HB.out.size))
  clear hR hB
  go_wp2_with fail
  refine (bulwarkref01_Part.calls k At ct l a1 a2 p g w6 (Kd.C_below HT.out HB.out) HTC.out H4.out).mono ?_
  rintro e7 w7 ⟨v7, rfl, hR, hB⟩
  obtain ⟨Aq, cq, rfl⟩ := Kd.R_slice hR
  have HRq := Aside0.mk (Kd.R_reads' hR).2.2
  have HCq := Aside0.mk (Kd.R_reads' hR).2.1
  replace HRp := Aside0.mk (Kd.C_below HRp.out hB)
  replace HB := Aside0.mk (HB.out.trans (hB.mono HB.out.size))
  clear hR hB
  go_wp2_with fail
  refine (bulwarkref00_Same.calls k Ap cp p Aq cq p true w7 HRp.out HCp.out HRq.out HCq.out H5.out).mono ?_
  rintro e8 w8 ⟨rfl, hd⟩
  replace HB := Aside0.mk (HB.out.trans (below_drawn' hd))
  clear hd
  go_wp2_with fail
  refine (bulwarkref00_Same.calls k A0 c0 l At ct l true w8 (Kd.C_below HS.out HB.out) HC0.out (Kd.C_below HT.out HB.out) HTC.out H6.out).mono ?_
  rintro e9 w9 ⟨rfl, hd⟩
  replace HB := Aside0.mk (HB.out.trans (below_drawn' hd))
  clear hd
  go_wp2_with fail
  refine (bulwarklaw01_lives.calls k true w9 H7.out).mono ?_
  rintro e10 w10 ⟨rfl, hb⟩
  replace HB := Aside0.mk (HB.out.trans (hb.mono HB.out.size))
  clear hb
  go_wp2
  go_ret
  exact ⟨rfl, below_step HB0.out HB.out⟩
theorem bulwarklaw01_EndsFresh.walk (P : bulwarklaw01_EndsFresh.Pure) (a0 : Option Addr) (len0 cap0 : Nat) (z0 : List Int) (a1 : Int) (a2 : Int) (w : World) (w0 : (a0 = none ∧ len0 = 0 ∧ cap0 = 0 ∧ z0 = []) ∨ ∃ x, a0 = some x ∧ len0 ≤ cap0 ∧ cap0 ≤ maxLen ∧ z0.length = cap0 ∧ (∀ i, i < z0.length → w.cell? (x.add i) = some (.int .u8 (z0.getD i 0))) ∧ ∀ n ∈ z0, (Lit.int .u8 n).wf = true) (y0 : len0 * 1 ≤ 140737488351232) (w1 : (Lit.int .i64 a1).wf = true) (w2 : (Lit.int .i64 a2).wf = true) :
    Calls Try.prog 14 #[.slice a0 len0 cap0, .int .i64 a1, .int .i64 a2] w fun e w' => e = .returned (.bool true) ∧ Below w.heap.size w w' := by
  obtain ⟨l0, rfl, hr0, hm0, hw0, hc0⟩ := ReadsInt.ofRowC w0
  obtain ⟨k, p, q, g, h1, h2, h3, h4, h5, h6, h7⟩ := P l0 a1 a2 hm0 y0 hw0 w1 w2
  exact bulwarklaw01_EndsFresh.calls k _ _ l0 a1 a2 p q g w (Kd.C_of_reads (d := (0 : Int)) (h1 := fun _ => rfl) hr0) hc0 h1 h2 h3 h4 h5 h6 h7
end Go.Proofs.Ytkbnagmlmmengaa.Q
