/- Joined texts (S19, S20, P3, S21, S22, S24, S23, S25, S26, S27): what the law needs of them. Lean checks them. -/
import Derived.Test.YtockojajbnnbpaaKB0
import Derived.Test.YtockojajbnnbpaaKB1
import Derived.Test.YtockojajbnnbpaaKB2
import Derived.Laws.StandIn
import Derived.Shelf.Bytes.SlIndexAt
import Derived.Lib.IndexLaws
import Derived.Deep.RegionHeld2
import Derived.Deep.RegionHeld
namespace Go.Proofs.Ytockojajbnnbpaa.E
open Go.RowKit Go.Proofs.Ytockojajbnnbpaa.Q Go.Proofs.YtockojajbnnbpaaW.PrintWords Go.Proofs.YtockojajbnnbpaaW.PrintLast Go.Proofs.YtockojajbnnbpaaW.PrintMore
set_option linter.unusedVariables false
set_option linter.unusedSimpArgs false
def TabR (b : List Int) (w0 : World) (g : Nat) (A : Option Addr) (c : Nat) (e : Ending) (w' : World) : Prop :=
  match tabS b with
  | .error er => e = wrongE er ∧ Below w0.heap.size w0 w'
  | .ok rows => e = .returned (.tuple #[]) ∧ Rd w' g b rows ∧ Below w0.heap.size w0 w' ∧ ∃ S vr, Rw w0 w' S g A c b vr rows ∧ Kd.C (Kd.int .u8) w0 A b.length b ∧ b.length ≤ c
theorem TabR.err {b : List Int} {w0 : World} {g : Nat} {A : Option Addr} {c : Nat} {w' : World} {er : Int} (h : tabS b = .error er) (hb : Below w0.heap.size w0 w') : TabR b w0 g A c (wrongE er) w' := by unfold TabR; rw [h]; exact ⟨rfl, hb⟩
theorem TabR.ok {b : List Int} {w0 : World} {g : Nat} {A : Option Addr} {c : Nat} {w' : World} {rows : List S47} (h : tabS b = .ok rows) (hr : Rd w' g b rows) (hb : Below w0.heap.size w0 w') (hw : ∃ S vr, Rw w0 w' S g A c b vr rows ∧ Kd.C (Kd.int .u8) w0 A b.length b ∧ b.length ≤ c) : TabR b w0 g A c (.returned (.tuple #[])) w' := by unfold TabR; rw [h]; exact ⟨rfl, hr, hb, hw⟩
theorem tab_limit (b : List Int) (h : 65536 < b.length) : tabS b = .error 3 := by unfold tabS; rw [if_pos h]
theorem tab_short (b : List Int) (h : ¬ 65536 < b.length) (h2 : b.length < 52) : tabS b = .error 4 := by unfold tabS; rw [if_neg h, if_pos h2]
theorem tab_out (b : List Int) (h : ¬ 65536 < b.length) (h2 : ¬ b.length < 52) (h3 : b.length < tabAt b + 40 * tabN b) : tabS b = .error 4 := by unfold tabS; rw [if_neg h, if_neg h2, if_pos h3]
theorem tab_row (b : List Int) (h : ¬ 65536 < b.length) (h2 : ¬ b.length < 52) (h3 : ¬ b.length < tabAt b + 40 * tabN b) (i : Nat) (hi : i < tabN b) (hr : ¬ RowIn b.length (rowAt b (tabAt b + 40 * i))) : tabS b = .error 4 := by
  unfold tabS
  rw [if_neg h, if_neg h2, if_neg h3, if_neg]
  exact fun hall => hr (hall _ (List.mem_of_getElem? (rowsOf_get b (tabAt b) (tabN b) i hi)))
theorem tab_ok (b : List Int) (h : ¬ 65536 < b.length) (h2 : ¬ b.length < 52) (h3 : ¬ b.length < tabAt b + 40 * tabN b) (hr : ∀ i, i < tabN b → RowIn b.length (rowAt b (tabAt b + 40 * i))) : tabS b = .ok (rowsOf b (tabAt b) (tabN b)) := by
  unfold tabS
  rw [if_neg h, if_neg h2, if_neg h3, if_pos]
  intro x hx
  unfold rowsOf at hx
  obtain ⟨i, hi, rfl⟩ := List.mem_map.1 hx
  exact hr i (List.mem_range.1 hi)
theorem rin_step {b : List Int} {T i : Nat} (h : ∀ j, j < i → RowIn b.length (rowAt b (T + 40 * j))) (r : RowIn b.length (rowAt b (T + 40 * i))) : ∀ j, j < i + 1 → RowIn b.length (rowAt b (T + 40 * j)) := by
  intro j hj
  rcases Nat.lt_succ_iff_lt_or_eq.1 hj with h1 | h1
  · exact h j h1
  · subst h1; exact r
def rowF (r : S47) (k : Nat) : Array Value := #[if 0 < k then .int .u32 r.f0 else .int .u32 0, if 1 < k then .int .u32 r.f1 else .int .u32 0, if 2 < k then .int .u32 r.f2 else .int .u32 0, if 3 < k then .int .u32 r.f3 else .int .u32 0, if 4 < k then .int .u32 r.f4 else .int .u32 0, if 5 < k then .int .u32 r.f5 else .int .u32 0, if 6 < k then .int .u32 r.f6 else .int .u32 0, if 7 < k then .int .u32 r.f7 else .int .u32 0, if 8 < k then .int .u32 r.f8 else .int .u32 0, if 9 < k then .int .u32 r.f9 else .int .u32 0]
set_option maxRecDepth 100000 in
set_option maxHeartbeats 32000000 in
theorem table_calls {S0 : Nat → Prop} {g : Nat} {A : Option Addr} {c : Nat} {b : List Int} (hb : AllBytes b) (hlb : b.length < 140737488355328) (w0 w : World) (h : Rw w0 w S0 g A c b (.slice none 0 0) []) (hC : Kd.C (Kd.int .u8) w0 A b.length b) (hc : b.length ≤ c) :
    Calls Try.prog 30 #[.pointer (some ⟨g, 0, none⟩)] w fun e w' => TabR b w0 g A c e w' := by
  have hu47 := Try.underlying47
  have hu62 := Try.underlying62
  have HB := Aside0.mk hb
  have HLB0 := Aside0.mk hlb
  have HC := Aside0.mk (And.intro hC hc)
  have HR := Aside0.mk h
  have k0 := h.at0
  clear h hb hlb hC hc
  go_enter Try.func30, Try.ntmps30
  by_cases c1 : 65536 < b.length
  · have f1 : decide ((b.length : Int) ≤ 65536) = false := decide_eq_false (by omega)
    have f2 : decide (b.length ≤ 65536) = false := decide_eq_false (by omega)
    have f3 : (b.length ≤ 65536) = False := eq_false (by omega)
    have HT := Aside0.mk (tab_limit b c1)
    clear c1
    go_wp2_with fail
    refine (want_no 3 _).mono ?_
    rintro e w2 ⟨rfl, rfl⟩
    exact ⟨rfl, TabR.err HT.out HR.out.bl⟩
  have f1 : decide ((b.length : Int) ≤ 65536) = true := decide_eq_true (by omega)
  have f2 : decide (b.length ≤ 65536) = true := decide_eq_true (by omega)
  have f3 : (b.length ≤ 65536) = True := eq_true (by omega)
  have C1 := Aside0.mk c1
  clear c1
  go_wp2_with fail
  refine (want_yes 3 _).mono ?_
  rintro e w2 ⟨rfl, rfl⟩
  by_cases c2 : b.length < 52
  · have g1 : decide ((b.length : Int) ≥ 52) = false := decide_eq_false (by omega)
    have g2 : decide (52 ≤ b.length) = false := decide_eq_false (by omega)
    have g3 : (52 ≤ b.length) = False := eq_false (by omega)
    have g4 : decide ((52 : Int) ≤ (b.length : Int)) = false := decide_eq_false (by omega)
    have HT := Aside0.mk (tab_short b C1.out c2)
    clear c2 f1 f2 f3
    go_wp2_with fail
    refine (want_no 4 _).mono ?_
    rintro e w2 ⟨rfl, rfl⟩
    exact ⟨rfl, TabR.err HT.out HR.out.bl⟩
  have g1 : decide ((b.length : Int) ≥ 52) = true := decide_eq_true (by omega)
  have g2 : decide (52 ≤ b.length) = true := decide_eq_true (by omega)
  have g3 : (52 ≤ b.length) = True := eq_true (by omega)
  have g4 : decide ((52 : Int) ≤ (b.length : Int)) = true := decide_eq_true (by omega)
  have C2 := Aside0.mk c2
  clear c2 f1 f2 f3
  go_wp2_with fail
  refine (want_yes 4 _).mono ?_
  rintro e w2 ⟨rfl, rfl⟩
  clear g1 g2 g3 g4
  have hti := table_is b HB.out
  have hg32 := get_ok HB.out HLB0.out 32 4 (.inr rfl) (by have := C2.out; omega) _ (HR.out.rd HC.out.1 HC.out.2)
  have hg48 := fun W h => get_ok (g := g) (rows := []) HB.out HLB0.out 48 2 (.inl rfl) (by have := C2.out; omega) W h
  rw [← hti.1] at hg32
  rw [← hti.2.1] at hg48
  obtain ⟨T, hT⟩ : ∃ T, T = tabAt b := ⟨_, rfl⟩
  obtain ⟨N, hN⟩ : ∃ N, N = tabN b := ⟨_, rfl⟩
  rw [← hT] at hg32
  rw [← hN] at hg48
  have HG32 := Aside0.mk hg32
  have HG48 := Aside0.mk hg48
  have HTN := Aside0.mk (And.intro hT hN)
  have HN6 : Aside0 (N < 65536 ∧ (T : Int) < 4294967296) := ⟨by have h3 := gw_rg b HB.out 32 4 (by decide); rw [← hti.1, ← hT] at h3; rw [hN]; exact ⟨hti.2.2, h3.2⟩⟩
  clear hg32 hg48 hti hT hN
  have v1 : wrap64 (T : Int) = (T : Int) := by have := HN6.out; unfold wrap64; omega
  have v2 : wrap64 (N : Int) = (N : Int) := by have := HN6.out; unfold wrap64; omega
  have v3 : wrap64 ((N : Int) * 40) = (N : Int) * 40 := by have := HN6.out; unfold wrap64; omega
  go_wp2_with fail
  refine HG32.out.mono ?_
  rintro e w2 ⟨rfl, hb2⟩
  replace HR := Aside0.mk (HR.out.below hb2)
  clear hb2 k0 HG32
  go_wp2_with fail
  refine (HG48.out _ (HR.out.rd HC.out.1 HC.out.2)).mono ?_
  rintro e w3 ⟨rfl, hb3⟩
  replace HR := Aside0.mk (HR.out.below hb3)
  clear hb3 HG48
  have k0 := HR.out.at0
  have hLB : b.length ≤ 65536 := by have := C1.out; omega
  have HLB := Aside0.mk hLB
  have v4 : wrap64 ((b.length : Int) - (T : Int)) = (b.length : Int) - (T : Int) := by have := HN6.out; unfold wrap64; omega
  clear hLB
  by_cases c3 : b.length < T + 40 * N
  · have HTT := Aside0.mk (tab_out b C1.out C2.out (by have := HTN.out; rw [← this.1, ← this.2]; exact c3))
    by_cases c4 : T ≤ b.length
    · have g1 : decide ((T : Int) ≤ (b.length : Int)) = true := decide_eq_true (by omega)
      have g2 : decide (T ≤ b.length) = true := decide_eq_true (by omega)
      have g3 : (T ≤ b.length) = True := eq_true (by omega)
      have g4 : decide ((N : Int) * 40 ≤ (b.length : Int) - (T : Int)) = false := decide_eq_false (by omega)
      clear c3 c4
      go_wp2_with fail
      refine (want_no 4 _).mono ?_
      rintro e w2 ⟨rfl, rfl⟩
      exact ⟨rfl, TabR.err HTT.out HR.out.bl⟩
    · have g1 : decide ((T : Int) ≤ (b.length : Int)) = false := decide_eq_false (by omega)
      have g2 : decide (T ≤ b.length) = false := decide_eq_false (by omega)
      have g3 : (T ≤ b.length) = False := eq_false (by omega)
      clear c3 c4
      go_wp2_with fail
      refine (want_no 4 _).mono ?_
      rintro e w2 ⟨rfl, rfl⟩
      exact ⟨rfl, TabR.err HTT.out HR.out.bl⟩
  have g1 : decide ((T : Int) ≤ (b.length : Int)) = true := decide_eq_true (by omega)
  have g2 : decide (T ≤ b.length) = true := decide_eq_true (by omega)
  have g3 : (T ≤ b.length) = True := eq_true (by omega)
  have g4 : decide ((N : Int) * 40 ≤ (b.length : Int) - (T : Int)) = true := decide_eq_true (by omega)
  have C3 : Aside0 (¬ b.length < tabAt b + 40 * tabN b) := ⟨by have := HTN.out; rw [← this.1, ← this.2]; exact c3⟩
  have HT : Aside0 (T + 40 * N ≤ b.length ∧ b.length ≤ 65536) := ⟨by have := HLB.out; omega⟩
  clear c3
  go_wp2_with fail
  refine (want_yes 4 _).mono ?_
  rintro e w2 ⟨rfl, rfl⟩
  clear g1 g2 g3 g4 k0 v3 v4
  have HR0 : Aside0 (∃ S vr, Rw w0 w3 S g A c b vr ((rowsOf b T N).take 0)) := ⟨⟨_, _, HR.out⟩⟩
  clear HR
  go_wp2_with fail
  go_loopg [49] (N + 1) (fun kq v49 w' => ∃ (i : Nat), v49 = .int .i64 (i : Int) ∧ Aside0 (i + kq = N + 1) ∧ Aside0 (i ≤ N) ∧ Aside0 (∃ S vr, Rw w0 w' S g A c b vr ((rowsOf b T N).take i)) ∧ Aside0 (∀ j, j < i → RowIn b.length (rowAt b (T + 40 * j))))
  case atStart => exact ⟨0, rfl, ⟨by omega⟩, ⟨by omega⟩, HR0, ⟨fun j hj => absurd hj (Nat.not_lt_zero _)⟩⟩
  case round =>
    clear HR0
    obtain ⟨i, rfl, HK, HI, HR, HIN⟩ := hrel
    by_cases ci : i < N
    · cases gk with
      | zero => exact absurd HK.out (by have := HI.out; omega)
      | succ gq =>
        obtain ⟨S, vr, hr⟩ := HR.out
        have HI2 := Aside0.mk ci
        have p1 : ((i : Int) < (N : Int)) = True := eq_true (by omega)
        have p2 : (i < N) = True := eq_true ci
        have p3 : 0 ≤ (i : Int) := by omega
        have hw := w64s i (by have := HN6.out; omega)
        have HRA := Aside0.mk (hr.below (below_alloc (Below.refl wr.heap.size wr) (.cells #[.int .u32 0, .int .u32 0, .int .u32 0, .int .u32 0, .int .u32 0, .int .u32 0, .int .u32 0, .int .u32 0, .int .u32 0, .int .u32 0] 47)))
        have HBK := Aside0.mk (heap_alloc_new wr (.cells #[.int .u32 0, .int .u32 0, .int .u32 0, .int .u32 0, .int .u32 0, .int .u32 0, .int .u32 0, .int .u32 0, .int .u32 0, .int .u32 0] 47))
        have HNQ : Aside0 (¬ S wr.heap.size) := ⟨fun h => Nat.lt_irrefl _ (hr.q _ h).2⟩
        have HQ0 := hr.bl.size
        clear hr ci HR HI
        go_wp2_with fail
        generalize (wr.alloc (.cells #[.int .u32 0, .int .u32 0, .int .u32 0, .int .u32 0, .int .u32 0, .int .u32 0, .int .u32 0, .int .u32 0, .int .u32 0, .int .u32 0] 47)) = w4 at *
        generalize wr.heap.size = q at *
        have HQ := Aside0.mk HQ0
        clear HQ0
        refine (fields_calls q _).mono ?_
        rintro e w5 ⟨rfl, hb5⟩
        have HX0 : Aside0 (Rw w0 w5 S g A c b vr ((rowsOf b T N).take i) ∧ ¬ S q ∧ w5.heap[q]? = some (.cells (rowF (rowAt b (T + 40 * i)) 0) 47 (0, 0))) := ⟨HRA.out.below hb5, HNQ.out, blk_below HBK.out hb5⟩
        clear hb5 HRA HBK HNQ
        go_wp2_with fail
        have w1 : wrap64 (40 * (i : Int)) = 40 * (i : Int) := by have := HN6.out; have := HI2.out; unfold wrap64; omega
        have w2 : wrap64 ((T : Int) + 40 * (i : Int)) = (T : Int) + 40 * (i : Int) := by have := HT.out; have := HI2.out; unfold wrap64; omega
        go_loopg [53] 11 (fun kq v53 w' => ∃ (k : Nat), v53 = .int .i64 (k : Int) ∧ Aside0 (k + kq = 11) ∧ Aside0 (k ≤ 10) ∧ Aside0 (Rw w0 w' S g A c b vr ((rowsOf b T N).take i) ∧ ¬ S q ∧ w'.heap[q]? = some (.cells (rowF (rowAt b (T + 40 * i)) k) 47 (0, 0))))
        case atStart => exact ⟨0, rfl, ⟨by omega⟩, ⟨by omega⟩, HX0⟩
        case round =>
          clear HX0
          obtain ⟨k, rfl, HKJ, HJ, HX⟩ := hrel
          by_cases ck : k < 10
          · cases gk with
            | zero => exact absurd HKJ.out (by have := HJ.out; omega)
            | succ gk =>
              have hk10 : k = 0 ∨ k = 1 ∨ k = 2 ∨ k = 3 ∨ k = 4 ∨ k = 5 ∨ k = 6 ∨ k = 7 ∨ k = 8 ∨ k = 9 := by omega
              clear ck HJ
              rcases hk10 with rfl | rfl | rfl | rfl | rfl | rfl | rfl | rfl | rfl | rfl
              · have hix : ∀ W, (Instr.index 62 (.agg #[.pointer (some ⟨q, 0, none⟩), .pointer (some ⟨q, 1, none⟩), .pointer (some ⟨q, 2, none⟩), .pointer (some ⟨q, 3, none⟩), .pointer (some ⟨q, 4, none⟩), .pointer (some ⟨q, 5, none⟩), .pointer (some ⟨q, 6, none⟩), .pointer (some ⟨q, 7, none⟩), .pointer (some ⟨q, 8, none⟩), .pointer (some ⟨q, 9, none⟩)]) (.int .i64 0)).run Try.prog W = .ok (.pointer (some ⟨q, 0, none⟩)) W := fun W => run_ptrs q 0 (by decide) W
                have w3 : wrap64 0 = 0 := by unfold wrap64; omega
                have w4 : wrap64 ((T : Int) + 40 * (i : Int)) = (T : Int) + 40 * (i : Int) := by have := HT.out; have := HI2.out; unfold wrap64; omega
                have hg := get_ok HB.out (by have := HLB.out; omega) (T + 40 * i) 4 (.inr rfl) (by have := HT.out; have := HI2.out; omega) _ (HX.out.1.rd HC.out.1 HC.out.2)
                rw [show ((T + 40 * i : Nat) : Int) = (T : Int) + 40 * (i : Int) by push_cast; rfl] at hg
                have HG := Aside0.mk hg
                clear hg
                go_wp2_with fail
                refine HG.out.mono ?_
                clear HG
                rintro e w6 ⟨rfl, hb6⟩
                have hbk := blk_below HX.out.2.2 hb6
                have d0 : w6.cell? ⟨q, 0, none⟩ = some (.int .u32 0) := (blk_cell hbk 0).trans rfl
                have e0 := blk_frozen hbk 0
                have HE : Aside0 (Rw w0 (w6.setCell ⟨q, 0, none⟩ (.int .u32 (gw b (T + 40 * i) 4))) S g A c b vr ((rowsOf b T N).take i) ∧ ¬ S q ∧ (w6.setCell ⟨q, 0, none⟩ (.int .u32 (gw b (T + 40 * i) 4))).heap[q]? = some (.cells #[.int .u32 (gw b (T + 40 * i) 4), .int .u32 0, .int .u32 0, .int .u32 0, .int .u32 0, .int .u32 0, .int .u32 0, .int .u32 0, .int .u32 0, .int .u32 0] 47 (0, 0))) := ⟨(HX.out.1.below hb6).far (p := ⟨q, 0, none⟩) HX.out.2.1 HQ.out _, HX.out.2.1, blk_put hbk 0 _ rfl⟩
                clear hbk hb6
                go_wp2
                go_roundg gk
                case measure => omega
                case rel => exact ⟨1, by first | rfl | (simp; done) | (simp [wrap64]; done), ⟨by have := HKJ.out; omega⟩, ⟨by omega⟩, ⟨by have h := HE.out; exact h⟩⟩
              · have hix : ∀ W, (Instr.index 62 (.agg #[.pointer (some ⟨q, 0, none⟩), .pointer (some ⟨q, 1, none⟩), .pointer (some ⟨q, 2, none⟩), .pointer (some ⟨q, 3, none⟩), .pointer (some ⟨q, 4, none⟩), .pointer (some ⟨q, 5, none⟩), .pointer (some ⟨q, 6, none⟩), .pointer (some ⟨q, 7, none⟩), .pointer (some ⟨q, 8, none⟩), .pointer (some ⟨q, 9, none⟩)]) (.int .i64 1)).run Try.prog W = .ok (.pointer (some ⟨q, 1, none⟩)) W := fun W => run_ptrs q 1 (by decide) W
                have w3 : wrap64 4 = 4 := by unfold wrap64; omega
                have w4 : wrap64 ((T : Int) + 40 * (i : Int) + 4) = (T : Int) + 40 * (i : Int) + 4 := by have := HT.out; have := HI2.out; unfold wrap64; omega
                have hg := get_ok HB.out (by have := HLB.out; omega) (T + 40 * i + 4) 4 (.inr rfl) (by have := HT.out; have := HI2.out; omega) _ (HX.out.1.rd HC.out.1 HC.out.2)
                rw [show ((T + 40 * i + 4 : Nat) : Int) = (T : Int) + 40 * (i : Int) + 4 by push_cast; rfl] at hg
                have HG := Aside0.mk hg
                clear hg
                go_wp2_with fail
                refine HG.out.mono ?_
                clear HG
                rintro e w6 ⟨rfl, hb6⟩
                have hbk := blk_below HX.out.2.2 hb6
                have d0 : w6.cell? ⟨q, 1, none⟩ = some (.int .u32 0) := (blk_cell hbk 1).trans rfl
                have e0 := blk_frozen hbk 1
                have HE : Aside0 (Rw w0 (w6.setCell ⟨q, 1, none⟩ (.int .u32 (gw b (T + 40 * i + 4) 4))) S g A c b vr ((rowsOf b T N).take i) ∧ ¬ S q ∧ (w6.setCell ⟨q, 1, none⟩ (.int .u32 (gw b (T + 40 * i + 4) 4))).heap[q]? = some (.cells #[.int .u32 (gw b (T + 40 * i) 4), .int .u32 (gw b (T + 40 * i + 4) 4), .int .u32 0, .int .u32 0, .int .u32 0, .int .u32 0, .int .u32 0, .int .u32 0, .int .u32 0, .int .u32 0] 47 (0, 0))) := ⟨(HX.out.1.below hb6).far (p := ⟨q, 1, none⟩) HX.out.2.1 HQ.out _, HX.out.2.1, blk_put hbk 1 _ rfl⟩
                clear hbk hb6
                go_wp2
                go_roundg gk
                case measure => omega
                case rel => exact ⟨2, by first | rfl | (simp; done) | (simp [wrap64]; done), ⟨by have := HKJ.out; omega⟩, ⟨by omega⟩, ⟨by have h := HE.out; exact h⟩⟩
              · have hix : ∀ W, (Instr.index 62 (.agg #[.pointer (some ⟨q, 0, none⟩), .pointer (some ⟨q, 1, none⟩), .pointer (some ⟨q, 2, none⟩), .pointer (some ⟨q, 3, none⟩), .pointer (some ⟨q, 4, none⟩), .pointer (some ⟨q, 5, none⟩), .pointer (some ⟨q, 6, none⟩), .pointer (some ⟨q, 7, none⟩), .pointer (some ⟨q, 8, none⟩), .pointer (some ⟨q, 9, none⟩)]) (.int .i64 2)).run Try.prog W = .ok (.pointer (some ⟨q, 2, none⟩)) W := fun W => run_ptrs q 2 (by decide) W
                have w3 : wrap64 8 = 8 := by unfold wrap64; omega
                have w4 : wrap64 ((T : Int) + 40 * (i : Int) + 8) = (T : Int) + 40 * (i : Int) + 8 := by have := HT.out; have := HI2.out; unfold wrap64; omega
                have hg := get_ok HB.out (by have := HLB.out; omega) (T + 40 * i + 8) 4 (.inr rfl) (by have := HT.out; have := HI2.out; omega) _ (HX.out.1.rd HC.out.1 HC.out.2)
                rw [show ((T + 40 * i + 8 : Nat) : Int) = (T : Int) + 40 * (i : Int) + 8 by push_cast; rfl] at hg
                have HG := Aside0.mk hg
                clear hg
                go_wp2_with fail
                refine HG.out.mono ?_
                clear HG
                rintro e w6 ⟨rfl, hb6⟩
                have hbk := blk_below HX.out.2.2 hb6
                have d0 : w6.cell? ⟨q, 2, none⟩ = some (.int .u32 0) := (blk_cell hbk 2).trans rfl
                have e0 := blk_frozen hbk 2
                have HE : Aside0 (Rw w0 (w6.setCell ⟨q, 2, none⟩ (.int .u32 (gw b (T + 40 * i + 8) 4))) S g A c b vr ((rowsOf b T N).take i) ∧ ¬ S q ∧ (w6.setCell ⟨q, 2, none⟩ (.int .u32 (gw b (T + 40 * i + 8) 4))).heap[q]? = some (.cells #[.int .u32 (gw b (T + 40 * i) 4), .int .u32 (gw b (T + 40 * i + 4) 4), .int .u32 (gw b (T + 40 * i + 8) 4), .int .u32 0, .int .u32 0, .int .u32 0, .int .u32 0, .int .u32 0, .int .u32 0, .int .u32 0] 47 (0, 0))) := ⟨(HX.out.1.below hb6).far (p := ⟨q, 2, none⟩) HX.out.2.1 HQ.out _, HX.out.2.1, blk_put hbk 2 _ rfl⟩
                clear hbk hb6
                go_wp2
                go_roundg gk
                case measure => omega
                case rel => exact ⟨3, by first | rfl | (simp; done) | (simp [wrap64]; done), ⟨by have := HKJ.out; omega⟩, ⟨by omega⟩, ⟨by have h := HE.out; exact h⟩⟩
              · have hix : ∀ W, (Instr.index 62 (.agg #[.pointer (some ⟨q, 0, none⟩), .pointer (some ⟨q, 1, none⟩), .pointer (some ⟨q, 2, none⟩), .pointer (some ⟨q, 3, none⟩), .pointer (some ⟨q, 4, none⟩), .pointer (some ⟨q, 5, none⟩), .pointer (some ⟨q, 6, none⟩), .pointer (some ⟨q, 7, none⟩), .pointer (some ⟨q, 8, none⟩), .pointer (some ⟨q, 9, none⟩)]) (.int .i64 3)).run Try.prog W = .ok (.pointer (some ⟨q, 3, none⟩)) W := fun W => run_ptrs q 3 (by decide) W
                have w3 : wrap64 12 = 12 := by unfold wrap64; omega
                have w4 : wrap64 ((T : Int) + 40 * (i : Int) + 12) = (T : Int) + 40 * (i : Int) + 12 := by have := HT.out; have := HI2.out; unfold wrap64; omega
                have hg := get_ok HB.out (by have := HLB.out; omega) (T + 40 * i + 12) 4 (.inr rfl) (by have := HT.out; have := HI2.out; omega) _ (HX.out.1.rd HC.out.1 HC.out.2)
                rw [show ((T + 40 * i + 12 : Nat) : Int) = (T : Int) + 40 * (i : Int) + 12 by push_cast; rfl] at hg
                have HG := Aside0.mk hg
                clear hg
                go_wp2_with fail
                refine HG.out.mono ?_
                clear HG
                rintro e w6 ⟨rfl, hb6⟩
                have hbk := blk_below HX.out.2.2 hb6
                have d0 : w6.cell? ⟨q, 3, none⟩ = some (.int .u32 0) := (blk_cell hbk 3).trans rfl
                have e0 := blk_frozen hbk 3
                have HE : Aside0 (Rw w0 (w6.setCell ⟨q, 3, none⟩ (.int .u32 (gw b (T + 40 * i + 12) 4))) S g A c b vr ((rowsOf b T N).take i) ∧ ¬ S q ∧ (w6.setCell ⟨q, 3, none⟩ (.int .u32 (gw b (T + 40 * i + 12) 4))).heap[q]? = some (.cells #[.int .u32 (gw b (T + 40 * i) 4), .int .u32 (gw b (T + 40 * i + 4) 4), .int .u32 (gw b (T + 40 * i + 8) 4), .int .u32 (gw b (T + 40 * i + 12) 4), .int .u32 0, .int .u32 0, .int .u32 0, .int .u32 0, .int .u32 0, .int .u32 0] 47 (0, 0))) := ⟨(HX.out.1.below hb6).far (p := ⟨q, 3, none⟩) HX.out.2.1 HQ.out _, HX.out.2.1, blk_put hbk 3 _ rfl⟩
                clear hbk hb6
                go_wp2
                go_roundg gk
                case measure => omega
                case rel => exact ⟨4, by first | rfl | (simp; done) | (simp [wrap64]; done), ⟨by have := HKJ.out; omega⟩, ⟨by omega⟩, ⟨by have h := HE.out; exact h⟩⟩
              · have hix : ∀ W, (Instr.index 62 (.agg #[.pointer (some ⟨q, 0, none⟩), .pointer (some ⟨q, 1, none⟩), .pointer (some ⟨q, 2, none⟩), .pointer (some ⟨q, 3, none⟩), .pointer (some ⟨q, 4, none⟩), .pointer (some ⟨q, 5, none⟩), .pointer (some ⟨q, 6, none⟩), .pointer (some ⟨q, 7, none⟩), .pointer (some ⟨q, 8, none⟩), .pointer (some ⟨q, 9, none⟩)]) (.int .i64 4)).run Try.prog W = .ok (.pointer (some ⟨q, 4, none⟩)) W := fun W => run_ptrs q 4 (by decide) W
                have w3 : wrap64 16 = 16 := by unfold wrap64; omega
                have w4 : wrap64 ((T : Int) + 40 * (i : Int) + 16) = (T : Int) + 40 * (i : Int) + 16 := by have := HT.out; have := HI2.out; unfold wrap64; omega
                have hg := get_ok HB.out (by have := HLB.out; omega) (T + 40 * i + 16) 4 (.inr rfl) (by have := HT.out; have := HI2.out; omega) _ (HX.out.1.rd HC.out.1 HC.out.2)
                rw [show ((T + 40 * i + 16 : Nat) : Int) = (T : Int) + 40 * (i : Int) + 16 by push_cast; rfl] at hg
                have HG := Aside0.mk hg
                clear hg
                go_wp2_with fail
                refine HG.out.mono ?_
                clear HG
                rintro e w6 ⟨rfl, hb6⟩
                have hbk := blk_below HX.out.2.2 hb6
                have d0 : w6.cell? ⟨q, 4, none⟩ = some (.int .u32 0) := (blk_cell hbk 4).trans rfl
                have e0 := blk_frozen hbk 4
                have HE : Aside0 (Rw w0 (w6.setCell ⟨q, 4, none⟩ (.int .u32 (gw b (T + 40 * i + 16) 4))) S g A c b vr ((rowsOf b T N).take i) ∧ ¬ S q ∧ (w6.setCell ⟨q, 4, none⟩ (.int .u32 (gw b (T + 40 * i + 16) 4))).heap[q]? = some (.cells #[.int .u32 (gw b (T + 40 * i) 4), .int .u32 (gw b (T + 40 * i + 4) 4), .int .u32 (gw b (T + 40 * i + 8) 4), .int .u32 (gw b (T + 40 * i + 12) 4), .int .u32 (gw b (T + 40 * i + 16) 4), .int .u32 0, .int .u32 0, .int .u32 0, .int .u32 0, .int .u32 0] 47 (0, 0))) := ⟨(HX.out.1.below hb6).far (p := ⟨q, 4, none⟩) HX.out.2.1 HQ.out _, HX.out.2.1, blk_put hbk 4 _ rfl⟩
                clear hbk hb6
                go_wp2
                go_roundg gk
                case measure => omega
                case rel => exact ⟨5, by first | rfl | (simp; done) | (simp [wrap64]; done), ⟨by have := HKJ.out; omega⟩, ⟨by omega⟩, ⟨by have h := HE.out; exact h⟩⟩
              · have hix : ∀ W, (Instr.index 62 (.agg #[.pointer (some ⟨q, 0, none⟩), .pointer (some ⟨q, 1, none⟩), .pointer (some ⟨q, 2, none⟩), .pointer (some ⟨q, 3, none⟩), .pointer (some ⟨q, 4, none⟩), .pointer (some ⟨q, 5, none⟩), .pointer (some ⟨q, 6, none⟩), .pointer (some ⟨q, 7, none⟩), .pointer (some ⟨q, 8, none⟩), .pointer (some ⟨q, 9, none⟩)]) (.int .i64 5)).run Try.prog W = .ok (.pointer (some ⟨q, 5, none⟩)) W := fun W => run_ptrs q 5 (by decide) W
                have w3 : wrap64 20 = 20 := by unfold wrap64; omega
                have w4 : wrap64 ((T : Int) + 40 * (i : Int) + 20) = (T : Int) + 40 * (i : Int) + 20 := by have := HT.out; have := HI2.out; unfold wrap64; omega
                have hg := get_ok HB.out (by have := HLB.out; omega) (T + 40 * i + 20) 4 (.inr rfl) (by have := HT.out; have := HI2.out; omega) _ (HX.out.1.rd HC.out.1 HC.out.2)
                rw [show ((T + 40 * i + 20 : Nat) : Int) = (T : Int) + 40 * (i : Int) + 20 by push_cast; rfl] at hg
                have HG := Aside0.mk hg
                clear hg
                go_wp2_with fail
                refine HG.out.mono ?_
                clear HG
                rintro e w6 ⟨rfl, hb6⟩
                have hbk := blk_below HX.out.2.2 hb6
                have d0 : w6.cell? ⟨q, 5, none⟩ = some (.int .u32 0) := (blk_cell hbk 5).trans rfl
                have e0 := blk_frozen hbk 5
                have HE : Aside0 (Rw w0 (w6.setCell ⟨q, 5, none⟩ (.int .u32 (gw b (T + 40 * i + 20) 4))) S g A c b vr ((rowsOf b T N).take i) ∧ ¬ S q ∧ (w6.setCell ⟨q, 5, none⟩ (.int .u32 (gw b (T + 40 * i + 20) 4))).heap[q]? = some (.cells #[.int .u32 (gw b (T + 40 * i) 4), .int .u32 (gw b (T + 40 * i + 4) 4), .int .u32 (gw b (T + 40 * i + 8) 4), .int .u32 (gw b (T + 40 * i + 12) 4), .int .u32 (gw b (T + 40 * i + 16) 4), .int .u32 (gw b (T + 40 * i + 20) 4), .int .u32 0, .int .u32 0, .int .u32 0, .int .u32 0] 47 (0, 0))) := ⟨(HX.out.1.below hb6).far (p := ⟨q, 5, none⟩) HX.out.2.1 HQ.out _, HX.out.2.1, blk_put hbk 5 _ rfl⟩
                clear hbk hb6
                go_wp2
                go_roundg gk
                case measure => omega
                case rel => exact ⟨6, by first | rfl | (simp; done) | (simp [wrap64]; done), ⟨by have := HKJ.out; omega⟩, ⟨by omega⟩, ⟨by have h := HE.out; exact h⟩⟩
              · have hix : ∀ W, (Instr.index 62 (.agg #[.pointer (some ⟨q, 0, none⟩), .pointer (some ⟨q, 1, none⟩), .pointer (some ⟨q, 2, none⟩), .pointer (some ⟨q, 3, none⟩), .pointer (some ⟨q, 4, none⟩), .pointer (some ⟨q, 5, none⟩), .pointer (some ⟨q, 6, none⟩), .pointer (some ⟨q, 7, none⟩), .pointer (some ⟨q, 8, none⟩), .pointer (some ⟨q, 9, none⟩)]) (.int .i64 6)).run Try.prog W = .ok (.pointer (some ⟨q, 6, none⟩)) W := fun W => run_ptrs q 6 (by decide) W
                have w3 : wrap64 24 = 24 := by unfold wrap64; omega
                have w4 : wrap64 ((T : Int) + 40 * (i : Int) + 24) = (T : Int) + 40 * (i : Int) + 24 := by have := HT.out; have := HI2.out; unfold wrap64; omega
                have hg := get_ok HB.out (by have := HLB.out; omega) (T + 40 * i + 24) 4 (.inr rfl) (by have := HT.out; have := HI2.out; omega) _ (HX.out.1.rd HC.out.1 HC.out.2)
                rw [show ((T + 40 * i + 24 : Nat) : Int) = (T : Int) + 40 * (i : Int) + 24 by push_cast; rfl] at hg
                have HG := Aside0.mk hg
                clear hg
                go_wp2_with fail
                refine HG.out.mono ?_
                clear HG
                rintro e w6 ⟨rfl, hb6⟩
                have hbk := blk_below HX.out.2.2 hb6
                have d0 : w6.cell? ⟨q, 6, none⟩ = some (.int .u32 0) := (blk_cell hbk 6).trans rfl
                have e0 := blk_frozen hbk 6
                have HE : Aside0 (Rw w0 (w6.setCell ⟨q, 6, none⟩ (.int .u32 (gw b (T + 40 * i + 24) 4))) S g A c b vr ((rowsOf b T N).take i) ∧ ¬ S q ∧ (w6.setCell ⟨q, 6, none⟩ (.int .u32 (gw b (T + 40 * i + 24) 4))).heap[q]? = some (.cells #[.int .u32 (gw b (T + 40 * i) 4), .int .u32 (gw b (T + 40 * i + 4) 4), .int .u32 (gw b (T + 40 * i + 8) 4), .int .u32 (gw b (T + 40 * i + 12) 4), .int .u32 (gw b (T + 40 * i + 16) 4), .int .u32 (gw b (T + 40 * i + 20) 4), .int .u32 (gw b (T + 40 * i + 24) 4), .int .u32 0, .int .u32 0, .int .u32 0] 47 (0, 0))) := ⟨(HX.out.1.below hb6).far (p := ⟨q, 6, none⟩) HX.out.2.1 HQ.out _, HX.out.2.1, blk_put hbk 6 _ rfl⟩
                clear hbk hb6
                go_wp2
                go_roundg gk
                case measure => omega
                case rel => exact ⟨7, by first | rfl | (simp; done) | (simp [wrap64]; done), ⟨by have := HKJ.out; omega⟩, ⟨by omega⟩, ⟨by have h := HE.out; exact h⟩⟩
              · have hix : ∀ W, (Instr.index 62 (.agg #[.pointer (some ⟨q, 0, none⟩), .pointer (some ⟨q, 1, none⟩), .pointer (some ⟨q, 2, none⟩), .pointer (some ⟨q, 3, none⟩), .pointer (some ⟨q, 4, none⟩), .pointer (some ⟨q, 5, none⟩), .pointer (some ⟨q, 6, none⟩), .pointer (some ⟨q, 7, none⟩), .pointer (some ⟨q, 8, none⟩), .pointer (some ⟨q, 9, none⟩)]) (.int .i64 7)).run Try.prog W = .ok (.pointer (some ⟨q, 7, none⟩)) W := fun W => run_ptrs q 7 (by decide) W
                have w3 : wrap64 28 = 28 := by unfold wrap64; omega
                have w4 : wrap64 ((T : Int) + 40 * (i : Int) + 28) = (T : Int) + 40 * (i : Int) + 28 := by have := HT.out; have := HI2.out; unfold wrap64; omega
                have hg := get_ok HB.out (by have := HLB.out; omega) (T + 40 * i + 28) 4 (.inr rfl) (by have := HT.out; have := HI2.out; omega) _ (HX.out.1.rd HC.out.1 HC.out.2)
                rw [show ((T + 40 * i + 28 : Nat) : Int) = (T : Int) + 40 * (i : Int) + 28 by push_cast; rfl] at hg
                have HG := Aside0.mk hg
                clear hg
                go_wp2_with fail
                refine HG.out.mono ?_
                clear HG
                rintro e w6 ⟨rfl, hb6⟩
                have hbk := blk_below HX.out.2.2 hb6
                have d0 : w6.cell? ⟨q, 7, none⟩ = some (.int .u32 0) := (blk_cell hbk 7).trans rfl
                have e0 := blk_frozen hbk 7
                have HE : Aside0 (Rw w0 (w6.setCell ⟨q, 7, none⟩ (.int .u32 (gw b (T + 40 * i + 28) 4))) S g A c b vr ((rowsOf b T N).take i) ∧ ¬ S q ∧ (w6.setCell ⟨q, 7, none⟩ (.int .u32 (gw b (T + 40 * i + 28) 4))).heap[q]? = some (.cells #[.int .u32 (gw b (T + 40 * i) 4), .int .u32 (gw b (T + 40 * i + 4) 4), .int .u32 (gw b (T + 40 * i + 8) 4), .int .u32 (gw b (T + 40 * i + 12) 4), .int .u32 (gw b (T + 40 * i + 16) 4), .int .u32 (gw b (T + 40 * i + 20) 4), .int .u32 (gw b (T + 40 * i + 24) 4), .int .u32 (gw b (T + 40 * i + 28) 4), .int .u32 0, .int .u32 0] 47 (0, 0))) := ⟨(HX.out.1.below hb6).far (p := ⟨q, 7, none⟩) HX.out.2.1 HQ.out _, HX.out.2.1, blk_put hbk 7 _ rfl⟩
                clear hbk hb6
                go_wp2
                go_roundg gk
                case measure => omega
                case rel => exact ⟨8, by first | rfl | (simp; done) | (simp [wrap64]; done), ⟨by have := HKJ.out; omega⟩, ⟨by omega⟩, ⟨by have h := HE.out; exact h⟩⟩
              · have hix : ∀ W, (Instr.index 62 (.agg #[.pointer (some ⟨q, 0, none⟩), .pointer (some ⟨q, 1, none⟩), .pointer (some ⟨q, 2, none⟩), .pointer (some ⟨q, 3, none⟩), .pointer (some ⟨q, 4, none⟩), .pointer (some ⟨q, 5, none⟩), .pointer (some ⟨q, 6, none⟩), .pointer (some ⟨q, 7, none⟩), .pointer (some ⟨q, 8, none⟩), .pointer (some ⟨q, 9, none⟩)]) (.int .i64 8)).run Try.prog W = .ok (.pointer (some ⟨q, 8, none⟩)) W := fun W => run_ptrs q 8 (by decide) W
                have w3 : wrap64 32 = 32 := by unfold wrap64; omega
                have w4 : wrap64 ((T : Int) + 40 * (i : Int) + 32) = (T : Int) + 40 * (i : Int) + 32 := by have := HT.out; have := HI2.out; unfold wrap64; omega
                have hg := get_ok HB.out (by have := HLB.out; omega) (T + 40 * i + 32) 4 (.inr rfl) (by have := HT.out; have := HI2.out; omega) _ (HX.out.1.rd HC.out.1 HC.out.2)
                rw [show ((T + 40 * i + 32 : Nat) : Int) = (T : Int) + 40 * (i : Int) + 32 by push_cast; rfl] at hg
                have HG := Aside0.mk hg
                clear hg
                go_wp2_with fail
                refine HG.out.mono ?_
                clear HG
                rintro e w6 ⟨rfl, hb6⟩
                have hbk := blk_below HX.out.2.2 hb6
                have d0 : w6.cell? ⟨q, 8, none⟩ = some (.int .u32 0) := (blk_cell hbk 8).trans rfl
                have e0 := blk_frozen hbk 8
                have HE : Aside0 (Rw w0 (w6.setCell ⟨q, 8, none⟩ (.int .u32 (gw b (T + 40 * i + 32) 4))) S g A c b vr ((rowsOf b T N).take i) ∧ ¬ S q ∧ (w6.setCell ⟨q, 8, none⟩ (.int .u32 (gw b (T + 40 * i + 32) 4))).heap[q]? = some (.cells #[.int .u32 (gw b (T + 40 * i) 4), .int .u32 (gw b (T + 40 * i + 4) 4), .int .u32 (gw b (T + 40 * i + 8) 4), .int .u32 (gw b (T + 40 * i + 12) 4), .int .u32 (gw b (T + 40 * i + 16) 4), .int .u32 (gw b (T + 40 * i + 20) 4), .int .u32 (gw b (T + 40 * i + 24) 4), .int .u32 (gw b (T + 40 * i + 28) 4), .int .u32 (gw b (T + 40 * i + 32) 4), .int .u32 0] 47 (0, 0))) := ⟨(HX.out.1.below hb6).far (p := ⟨q, 8, none⟩) HX.out.2.1 HQ.out _, HX.out.2.1, blk_put hbk 8 _ rfl⟩
                clear hbk hb6
                go_wp2
                go_roundg gk
                case measure => omega
                case rel => exact ⟨9, by first | rfl | (simp; done) | (simp [wrap64]; done), ⟨by have := HKJ.out; omega⟩, ⟨by omega⟩, ⟨by have h := HE.out; exact h⟩⟩
              · have hix : ∀ W, (Instr.index 62 (.agg #[.pointer (some ⟨q, 0, none⟩), .pointer (some ⟨q, 1, none⟩), .pointer (some ⟨q, 2, none⟩), .pointer (some ⟨q, 3, none⟩), .pointer (some ⟨q, 4, none⟩), .pointer (some ⟨q, 5, none⟩), .pointer (some ⟨q, 6, none⟩), .pointer (some ⟨q, 7, none⟩), .pointer (some ⟨q, 8, none⟩), .pointer (some ⟨q, 9, none⟩)]) (.int .i64 9)).run Try.prog W = .ok (.pointer (some ⟨q, 9, none⟩)) W := fun W => run_ptrs q 9 (by decide) W
                have w3 : wrap64 36 = 36 := by unfold wrap64; omega
                have w4 : wrap64 ((T : Int) + 40 * (i : Int) + 36) = (T : Int) + 40 * (i : Int) + 36 := by have := HT.out; have := HI2.out; unfold wrap64; omega
                have hg := get_ok HB.out (by have := HLB.out; omega) (T + 40 * i + 36) 4 (.inr rfl) (by have := HT.out; have := HI2.out; omega) _ (HX.out.1.rd HC.out.1 HC.out.2)
                rw [show ((T + 40 * i + 36 : Nat) : Int) = (T : Int) + 40 * (i : Int) + 36 by push_cast; rfl] at hg
                have HG := Aside0.mk hg
                clear hg
                go_wp2_with fail
                refine HG.out.mono ?_
                clear HG
                rintro e w6 ⟨rfl, hb6⟩
                have hbk := blk_below HX.out.2.2 hb6
                have d0 : w6.cell? ⟨q, 9, none⟩ = some (.int .u32 0) := (blk_cell hbk 9).trans rfl
                have e0 := blk_frozen hbk 9
                have HE : Aside0 (Rw w0 (w6.setCell ⟨q, 9, none⟩ (.int .u32 (gw b (T + 40 * i + 36) 4))) S g A c b vr ((rowsOf b T N).take i) ∧ ¬ S q ∧ (w6.setCell ⟨q, 9, none⟩ (.int .u32 (gw b (T + 40 * i + 36) 4))).heap[q]? = some (.cells #[.int .u32 (gw b (T + 40 * i) 4), .int .u32 (gw b (T + 40 * i + 4) 4), .int .u32 (gw b (T + 40 * i + 8) 4), .int .u32 (gw b (T + 40 * i + 12) 4), .int .u32 (gw b (T + 40 * i + 16) 4), .int .u32 (gw b (T + 40 * i + 20) 4), .int .u32 (gw b (T + 40 * i + 24) 4), .int .u32 (gw b (T + 40 * i + 28) 4), .int .u32 (gw b (T + 40 * i + 32) 4), .int .u32 (gw b (T + 40 * i + 36) 4)] 47 (0, 0))) := ⟨(HX.out.1.below hb6).far (p := ⟨q, 9, none⟩) HX.out.2.1 HQ.out _, HX.out.2.1, blk_put hbk 9 _ rfl⟩
                clear hbk hb6
                go_wp2
                go_roundg gk
                case measure => omega
                case rel => exact ⟨10, by first | rfl | (simp; done) | (simp [wrap64]; done), ⟨by have := HKJ.out; omega⟩, ⟨by omega⟩, ⟨by have h := HE.out; exact h⟩⟩
          · have hk : k = 10 := by have := HJ.out; omega
            subst hk
            clear HJ HKJ ck w1 w2
            obtain ⟨hrx, hnq, hbk⟩ := HX.out
            obtain ⟨Ar, cr, rfl⟩ := Kd.R_slice hrx.rr
            obtain ⟨ZZ, hZZ⟩ : ∃ x, x = rowAt b (T + 40 * i) := ⟨_, rfl⟩
            have hrg := rowAt_rg b HB.out (T + 40 * i)
            rw [← hZZ] at hbk hrg
            obtain ⟨r0, r1, r2, r3, r4, r5, r6, r7, r8, r9⟩ := ZZ
            change wr.heap[q]? = some (.cells #[.int .u32 r0, .int .u32 r1, .int .u32 r2, .int .u32 r3, .int .u32 r4, .int .u32 r5, .int .u32 r6, .int .u32 r7, .int .u32 r8, .int .u32 r9] 47 (0, 0)) at hbk
            have HRG : Aside0 ((0 ≤ r4 ∧ r4 < 4294967296) ∧ (0 ≤ r5 ∧ r5 < 4294967296)) := ⟨hrg r4 (by simp [fieldsL]), hrg r5 (by simp [fieldsL])⟩
            have HZ := Aside0.mk hZZ
            have hc1 := hrx.at1.1
            have hc1a : ∀ cs, (wr.alloc (.cells cs 47)).cell? ⟨g, 1, none⟩ = some (.slice Ar ((rowsOf b T N).take i).length cr) := fun cs => (hrx.below (below_alloc (Below.refl _ _) _)).at1.1
            have d0 : wr.cell? ⟨q, 0, none⟩ = some (.int .u32 r0) := (blk_cell hbk 0).trans rfl
            have d1 : wr.cell? ⟨q, 1, none⟩ = some (.int .u32 r1) := (blk_cell hbk 1).trans rfl
            have d2 : wr.cell? ⟨q, 2, none⟩ = some (.int .u32 r2) := (blk_cell hbk 2).trans rfl
            have d3 : wr.cell? ⟨q, 3, none⟩ = some (.int .u32 r3) := (blk_cell hbk 3).trans rfl
            have d4 : wr.cell? ⟨q, 4, none⟩ = some (.int .u32 r4) := (blk_cell hbk 4).trans rfl
            have d5 : wr.cell? ⟨q, 5, none⟩ = some (.int .u32 r5) := (blk_cell hbk 5).trans rfl
            have d6 : wr.cell? ⟨q, 6, none⟩ = some (.int .u32 r6) := (blk_cell hbk 6).trans rfl
            have d7 : wr.cell? ⟨q, 7, none⟩ = some (.int .u32 r7) := (blk_cell hbk 7).trans rfl
            have d8 : wr.cell? ⟨q, 8, none⟩ = some (.int .u32 r8) := (blk_cell hbk 8).trans rfl
            have d9 : wr.cell? ⟨q, 9, none⟩ = some (.int .u32 r9) := (blk_cell hbk 9).trans rfl
            have HRX : Aside0 (Rw w0 wr.drew S g A c b (.slice Ar ((rowsOf b T N).take i).length cr) ((rowsOf b T N).take i)) := ⟨hrx.below (Below.refl _ _).drew⟩
            have HBK := Aside0.mk hbk
            have HNQ := Aside0.mk hnq
            have hsn := rowsOf_snoc b T N i HI2.out
            have HLN : Aside0 (((rowsOf b T N).take i).length ≤ 70000) := ⟨by rw [List.length_take, rowsOf_len]; have := HN6.out; omega⟩
            generalize hL0 : (rowsOf b T N).take i = L0 at *
            have HSN : Aside0 ((rowsOf b T N).take (i + 1) = L0 ++ [⟨r0, r1, r2, r3, r4, r5, r6, r7, r8, r9⟩]) := ⟨by rw [hsn, HZ.out]⟩
            clear hrx hnq hbk hrg hZZ HX hsn hL0
            go_wp2
            go_region_law (first | (refine ev_one_step (W := wr.drew) k47 rfl (.tmp 73) (.tmp 75) 48 47 _ 40 rfl Try.underlying48 info47 rfl (by decide) (by decide) (.slice Ar L0.length cr) L0 ⟨r0, r1, r2, r3, r4, r5, r6, r7, r8, r9⟩ _ S rfl rfl (k47_mkM _ _ _ _) HRX.out.rr (by have := HLN.out; omega) ?_; intro L6 A6 c6 w6 hL6 hr6 hg6; obtain ⟨S6, hW6, hO6⟩ := HRX.out.setR hr6 hg6; obtain ⟨hc6, hf6⟩ := HRX.out.atR hg6; have HN6' := Aside0.mk hW6; have HBK6 := Aside0.mk (hO6.fr.blk (blk_below HBK.out (Below.refl _ _).drew) HNQ.out); clear hr6 hg6 hW6 hO6))
            all_goals (
              obtain ⟨w7, hw7⟩ : ∃ x, x = w6.setCell ⟨g, 1, none⟩ (.slice A6 L6.length c6) := ⟨_, rfl⟩
              have e7 : L6 = (rowsOf b T N).take (i + 1) := hL6.out.trans HSN.out.symm
              have hr7 := HN6'.out
              have hb7 := HBK6.out
              rw [← hw7] at hr7 hb7 ⊢
              rw [e7] at hr7
              have k0 := hr7.at0
              have HR7 : Aside0 (∃ S vr, Rw w0 w7 S g A c b vr ((rowsOf b T N).take (i + 1))) := ⟨⟨S6, _, hr7⟩⟩
              have d1 : w7.cell? ⟨q, 1, none⟩ = some (.int .u32 r1) := (blk_cell hb7 1).trans rfl
              have d4 : w7.cell? ⟨q, 4, none⟩ = some (.int .u32 r4) := (blk_cell hb7 4).trans rfl
              have d5 : w7.cell? ⟨q, 5, none⟩ = some (.int .u32 r5) := (blk_cell hb7 5).trans rfl
              clear hr7 hb7 HN6' HBK6 hw7 e7 hc6 hf6 hL6 HSN HRX HBK hc1 hc1a
              by_cases y0 : r1 = 0
              · have RI : Aside0 (RowIn b.length (rowAt b (T + 40 * i))) := ⟨by rw [← HZ.out]; exact .inl y0⟩
                subst y0
                go_wp2
                go_roundg gq
                case measure => omega
                case rel => exact ⟨i + 1, by first | rfl | (simp; done) | (simp [hw]; done), ⟨by have := HK.out; omega⟩, ⟨by have := HI2.out; omega⟩, HR7, ⟨rin_step HIN.out RI.out⟩⟩
              have y1 : (r1 == 0) = false := by simpa using y0
              have y2 : (r1 != 0) = true := by simpa using y0
              by_cases y8 : r1 = 8
              · have RI : Aside0 (RowIn b.length (rowAt b (T + 40 * i))) := ⟨by rw [← HZ.out]; exact .inr (.inl y8)⟩
                subst y8
                clear y0
                go_wp2
                go_roundg gq
                case measure => omega
                case rel => exact ⟨i + 1, by first | rfl | (simp; done) | (simp [hw]; done), ⟨by have := HK.out; omega⟩, ⟨by have := HI2.out; omega⟩, HR7, ⟨rin_step HIN.out RI.out⟩⟩
              have y3 : (r1 == 8) = false := by simpa using y8
              have y4 : (r1 != 8) = true := by simpa using y8
              clear y0 y8
              go_wp2
              go_still_tail 14, (by kernel_rfl)
              change wpList _ _ _ _ _ w7.drew
              have HR8 : Aside0 (∃ S vr, Rw w0 w7.drew S g A c b vr ((rowsOf b T N).take (i + 1))) := ⟨by obtain ⟨S, vr, h⟩ := HR7.out; exact ⟨S, vr, h.below (Below.refl _ _).drew⟩⟩
              have k8 : w7.drew.cell? ⟨g, 0, none⟩ = some (.slice A b.length c) := by obtain ⟨S, vr, h⟩ := HR8.out; exact h.at0
              have d8a : w7.drew.cell? ⟨q, 4, none⟩ = some (.int .u32 r4) := d4
              have d8b : w7.drew.cell? ⟨q, 5, none⟩ = some (.int .u32 r5) := d5
              clear k0 d1 d4 d5 HR7
              generalize w7.drew = w8 at *
              have q1 : wrap64 (r4 + r5) = r4 + r5 := by have := HRG.out; unfold wrap64; omega
              have hbl0 := HLB.out
              have q2 : r4 % 18446744073709551616 = r4 := by have := HRG.out; omega
              have q3 : r5 % 18446744073709551616 = r5 := by have := HRG.out; omega
              have q4 : (r4 + r5) % 18446744073709551616 = r4 + r5 := by have := HRG.out; omega
              have q5 : (b.length : Int) % 18446744073709551616 = (b.length : Int) := by omega
              by_cases yl : r4 + r5 ≤ (b.length : Int)
              · have RI : Aside0 (RowIn b.length (rowAt b (T + 40 * i))) := ⟨by rw [← HZ.out]; exact .inr (.inr yl)⟩
                have q6 : decide (r4 + r5 ≤ (b.length : Int)) = true := decide_eq_true yl
                clear yl hbl0
                go_wp2_with fail
                rw [q6]
                refine (want_yes 4 _).mono ?_
                rintro e w9 ⟨rfl, rfl⟩
                go_wp2_with fail
                go_roundg gq
                case measure => omega
                case rel => exact ⟨i + 1, by first | rfl | (simp; done) | (simp [hw]; done), ⟨by have := HK.out; omega⟩, ⟨by have := HI2.out; omega⟩, HR8, ⟨rin_step HIN.out RI.out⟩⟩
              · have RI : Aside0 (¬ RowIn b.length (rowAt b (T + 40 * i))) := ⟨by rw [← HZ.out]; intro h; rcases h with h | h | h <;> first | (simp [show r1 = 0 from h] at y1; done) | (simp [show r1 = 8 from h] at y3; done) | exact yl h⟩
                have q6 : decide (r4 + r5 ≤ (b.length : Int)) = false := decide_eq_false yl
                clear yl hbl0
                have HTT := Aside0.mk (tab_row b C1.out C2.out C3.out i (by have := HI2.out; have h := HTN.out; rw [← h.2]; exact this) (by have h := HTN.out; rw [← h.1]; exact RI.out))
                go_wp2_with fail
                rw [q6]
                refine (want_no 4 _).mono ?_
                rintro e w9 ⟨rfl, rfl⟩
                obtain ⟨S9, v9, h9⟩ := HR8.out
                exact ⟨rfl, TabR.err HTT.out h9.bl⟩)
    · have hi : i = N := by have := HI.out; omega
      subst hi
      have p1 : ((i : Int) < (i : Int)) = False := eq_false (by omega)
      go_wp2_with fail
      go_end0
      obtain ⟨S9, v9, h9⟩ := HR.out
      have hh := HTN.out
      have e9 : (rowsOf b T i).take i = rowsOf b T i := List.take_of_length_le (by rw [rowsOf_len]; exact Nat.le_refl _)
      rw [e9] at h9
      rw [hh.1, hh.2] at h9 
      exact TabR.ok (tab_ok b C1.out C2.out C3.out (by rw [← hh.1, ← hh.2]; exact HIN.out)) (h9.rd HC.out.1 HC.out.2) h9.bl ⟨_, _, h9, HC.out.1, HC.out.2⟩
end Go.Proofs.Ytockojajbnnbpaa.E
namespace Go.Proofs.Ytockojajbnnbpaa.E
open Go.RowKit Go.Proofs.Ytockojajbnnbpaa.Q Go.Proofs.YtockojajbnnbpaaW.PrintWords Go.Proofs.YtockojajbnnbpaaW.PrintLast Go.Proofs.YtockojajbnnbpaaW.PrintMore
set_option linter.unusedVariables false
set_option linter.unusedSimpArgs false
theorem dropB (kl : IntKind) (A : Option Addr) (c : Nat) (xs : List Int) (m : Nat) (hm : m ≤ xs.length) (hc : xs.length ≤ c) :
    ∃ A' : Option Addr, (∀ W : World, (Instr.slice 27 (.slice A xs.length c) (some (.int kl (m : Int))) none none).run Try.prog W = .ok (.slice A' (xs.drop m).length (c - m)) W) ∧ (∀ W : World, Kd.C (Kd.int .u8) W A xs.length xs → Kd.C (Kd.int .u8) W A' (xs.drop m).length (xs.drop m)) ∧ (xs.drop m).length ≤ c - m := by
  obtain ⟨i0, hi, hiz⟩ := Option.map_eq_some_iff.1 info5
  simp only [Prod.mk.injEq] at hiz
  have hel : Try.prog.elem 27 = 5 := by simp [Program.elem, Try.underlying27]
  have hu : Try.prog.underlying 27 = some (.slice (Try.prog.elem 27)) := by rw [hel]; exact Try.underlying27
  have hl : (xs.drop m).length = xs.length - m := List.length_drop
  refine ⟨if c = m then A else A.map (·.add (m * 1)), fun W => ?_, fun W h => Kd.C_drop h hm hc, by omega⟩
  rw [run_slice_l W 27 A xs.length c hu kl (m : Int) (by omega) (by omega), hel, hl]
  simp [sizeOf, typeInfo, hi, hiz.2.1, sliced, Result.andThen]
theorem midB (kl kh : IntKind) (A : Option Addr) (c : Nat) (xs : List Int) (m h : Nat) (hmh : m ≤ h) (hh : h ≤ xs.length) (hc : xs.length ≤ c) :
    ∃ A' : Option Addr, (∀ W : World, (Instr.slice 27 (.slice A xs.length c) (some (.int kl (m : Int))) (some (.int kh (h : Int))) none).run Try.prog W = .ok (.slice A' ((xs.take h).drop m).length (c - m)) W) ∧ (∀ W : World, Kd.C (Kd.int .u8) W A xs.length xs → Kd.C (Kd.int .u8) W A' ((xs.take h).drop m).length ((xs.take h).drop m)) ∧ ((xs.take h).drop m).length ≤ c - m := by
  obtain ⟨i0, hi, hiz⟩ := Option.map_eq_some_iff.1 info5
  simp only [Prod.mk.injEq] at hiz
  have hel : Try.prog.elem 27 = 5 := by simp [Program.elem, Try.underlying27]
  have hu : Try.prog.underlying 27 = some (.slice (Try.prog.elem 27)) := by rw [hel]; exact Try.underlying27
  have hl : ((xs.take h).drop m).length = h - m := by rw [List.length_drop, List.length_take]; omega
  refine ⟨if c = m then A else A.map (·.add (m * 1)), fun W => ?_, fun W h1 => Kd.C_mid h1 hmh hh hc, by omega⟩
  rw [run_slice_lh W 27 A xs.length c hu kl kh (m : Int) (h : Int) (by omega) (by omega) (by omega), hel, hl]
  simp [sizeOf, typeInfo, hi, hiz.2.1, sliced, Result.andThen]
def findZ (l : List Int) : Int := Lib.indexByte (Lib.bytesOf l) 0
theorem u8_zero (x : Int) (h : 0 ≤ x ∧ x ≤ 255) : (UInt8.ofNat x.toNat == 0) = (x == 0) := by
  by_cases hx : x = 0
  · subst hx; rfl
  · have h1 : (x == 0) = false := by simpa using hx
    rw [h1, beq_eq_false_iff_ne]
    intro he
    have := u8_back x h.1 h.2
    rw [he] at this
    exact hx this.symm
theorem findZ_is : ∀ (l : List Int), AllBytes l → (0 ∈ l → findZ l = ((l.takeWhile (· != 0)).length : Int) ∧ (l.takeWhile (· != 0)).length < l.length ∧ l.take (l.takeWhile (· != 0)).length = l.takeWhile (· != 0)) ∧ (¬ 0 ∈ l → findZ l = -1)
  | [], _ => ⟨fun h => absurd h (List.not_mem_nil), fun _ => rfl⟩
  | x :: l, hb => by
    obtain ⟨h1, h2⟩ := findZ_is l (fun y hy => hb y (List.mem_cons_of_mem _ hy))
    have hx := u8_zero x (hb x (List.mem_cons_self ..))
    have hd : findZ (x :: l) = if (x == 0) = true then 0 else if (findZ l == -1) = true then -1 else findZ l + 1 := by
      show (if (UInt8.ofNat x.toNat == 0) = true then (0 : Int) else _) = _
      rw [hx]
      rfl
    by_cases h0 : x = 0
    · subst h0
      exact ⟨fun _ => by rw [hd]; simp, fun h => absurd (List.mem_cons_self ..) h⟩
    · have hz : (x == 0) = false := by simpa using h0
      have hz2 : (x != 0) = true := by simpa using h0
      have htw : (x :: l).takeWhile (· != 0) = x :: l.takeWhile (· != 0) := by rw [List.takeWhile_cons]; simp [h0]
      constructor
      · intro hm
        have hm2 : 0 ∈ l := by
          rcases List.mem_cons.1 hm with h | h
          · exact absurd h.symm h0
          · exact h
        obtain ⟨e1, e2, e3⟩ := h1 hm2
        rw [hd, htw, hz, e1]
        refine ⟨?_, by simp only [List.length_cons]; omega, by simp only [List.length_cons, List.take_succ_cons, e3]⟩
        rw [if_neg (by decide), if_neg (by rw [beq_iff_eq]; omega)]
        simp
      · intro hm
        rw [hd, hz, h2 (fun h => hm (List.mem_cons_of_mem _ h))]
        rfl
theorem index_run (A : Option Addr) (n c : Nat) (xs : List Int) (w : World) (h : Kd.C (Kd.int .u8) w A n xs) :
    (Extern.BytealgIndexByte.indexByte #[.slice A n c, .int .u8 0]).run Try.prog w = .ok (.int .i64 (findZ xs)) w := by
  rcases Nat.eq_zero_or_pos n with h0 | hp
  · have hxs : xs = [] := List.eq_nil_of_length_eq_zero (by rw [← h0]; exact h.1)
    subst h0
    subst hxs
    cases A with
    | none => exact Lib.run_indexByteNil w 0 c 0
    | some a => exact Lib.run_indexByteAt w a 0 c [] rfl (fun i hi => absurd hi (Nat.not_lt_zero _)) 0
  · have h2 := Kd.reads_of_C (enc := Value.int .u8) (d := (0 : Int)) (h1 := fun _ => rfl) h
    obtain ⟨ad, he, hc⟩ := h2.2.2 hp
    subst he
    exact Lib.run_indexByteAt w ad n c xs h.1 (fun i hi => hc i hi) 0
set_option maxRecDepth 100000 in
set_option maxHeartbeats 2000000 in
theorem index_calls (A : Option Addr) (n c : Nat) (xs : List Int) (w : World) (h : Kd.C (Kd.int .u8) w A n xs) :
    Calls Try.prog 89 #[.slice A n c, .int .u8 0] w fun e w' => e = .returned (.int .i64 (findZ xs)) ∧ w' = w := by
  have hr := index_run A n c xs w h
  clear h
  generalize findZ xs = z at *
  go_enter Try.func89, Try.ntmps89
  go_wp2
  rw [run_callFunc_indexByte Try.func96 (by kernel_rfl) (by kernel_rfl) (by kernel_rfl) (by kernel_rfl), hr]
  simp only [Result.andThen]
  rw [Oper.upon_value]
  go_wp2
  go_ret
  exact ⟨rfl, rfl⟩
theorem wrap_two (n k : Nat) (h : n + k ≤ 65536) : wrap64 ((n : Int) + (k : Int)) = (n : Int) + (k : Int) := by unfold wrap64; omega
theorem wrap_one (n : Nat) (h : n ≤ 65536) : wrap64 (n : Int) = (n : Int) := by unfold wrap64; omega
def TxtR (b : List Int) (x : S47) (n : Nat) (e : Ending) : Prop :=
  match textS b x (n : Int) with
  | none => e = wrongE 5
  | some t => e = .returned (.string (strOfNums t))
theorem nameL_is (t : List Int) (h : AllBytes t) : NameP (strOfNums t) ↔ nameL t := by
  unfold NameP nameL
  rw [str_back t h]
  have : (strOfNums t).size = t.length := by rw [← bytesOf_length, str_back t h]
  rw [this]
set_option maxRecDepth 100000 in
set_option maxHeartbeats 8000000 in
theorem text_calls {g : Nat} {b : List Int} {rows : List S47} (hb : AllBytes b) (hl : b.length ≤ 65536) (x : S47) (h0 : 0 ≤ x.f4) (h1 : 0 ≤ x.f5) (h2 : x.f4 + x.f5 ≤ b.length) (n : Nat) (hn : (n : Int) < 4294967296) (w : World) (h : Rd w g b rows) :
    Calls Try.prog 65 #[.pointer (some ⟨g, 0, none⟩), .agg #[.int .u32 x.f0, .int .u32 x.f1, .int .u32 x.f2, .int .u32 x.f3, .int .u32 x.f4, .int .u32 x.f5, .int .u32 x.f6, .int .u32 x.f7, .int .u32 x.f8, .int .u32 x.f9], .int .u32 (n : Int)] w fun e w' => TxtR b x n e ∧ Below w.heap.size w w' := by
  have hu47 := Try.underlying47
  obtain ⟨R, hR⟩ : ∃ R : Ending → Prop, R = TxtR b x n := ⟨_, rfl⟩
  rw [← hR]
  have hal := below_alloc (Below.refl w.heap.size w) (.cells #[.int .u32 x.f0, .int .u32 x.f1, .int .u32 x.f2, .int .u32 x.f3, .int .u32 x.f4, .int .u32 x.f5, .int .u32 x.f6, .int .u32 x.f7, .int .u32 x.f8, .int .u32 x.f9] 47)
  have HBL := Aside0.mk hal
  have HPC := Aside0.mk (rpart_calls (by omega) x h0 h1 h2 _ (h.below hal))
  have HPB := Aside0.mk (partB_bytes hb x)
  have hpl := partB_len b x h0 h1 h2
  have HPL : Aside0 ((partB b x).length ≤ 65536) := ⟨by omega⟩
  have HTX : Aside0 (∀ t, textS b x (n : Int) = t → R = match t with | none => fun e => e = wrongE 5 | some t => fun e => e = .returned (.string (strOfNums t))) := ⟨fun t ht => by rw [hR]; funext e; unfold TxtR; rw [ht]; cases t <;> rfl⟩
  have HTS : Aside0 (textS b x (n : Int) = if (0 : Int) ∈ (partB b x).drop n ∧ nameL (((partB b x).drop n).takeWhile (· != 0)) then some (((partB b x).drop n).takeWhile (· != 0)) else none) := ⟨rfl⟩
  generalize partB b x = L at *
  generalize textS b x (n : Int) = T at *
  clear hR hal h hpl hb h0 h1 h2 hl
  obtain ⟨x0, x1, x2, x3, x4, x5, x6, x7, x8, x9⟩ := x
  go_enter Try.func65, Try.ntmps65
  go_wp2_with fail
  refine HPC.out.mono ?_
  rintro e w1 ⟨A, c, rfl, hC, hc, hb1⟩
  have hz0 := hb1.size
  replace HBL := Aside0.mk (below_step HBL.out hb1)
  have HC := Aside0.mk hC
  clear HPC hb1 hC hz0
  have m1 : (n : Int) % 18446744073709551616 = (n : Int) := by omega
  have m2 : (L.length : Int) % 18446744073709551616 = (L.length : Int) := by have := HPL.out; omega
  by_cases c1 : n < L.length
  · have q9 : ((n : Int) < (L.length : Int)) = True := eq_true (by omega)
    have q6 : decide ((n : Int) < (L.length : Int)) = true := decide_eq_true (by omega)
    have q7 : decide (n < L.length) = true := decide_eq_true c1
    have q8 : (n < L.length) = True := eq_true c1
    obtain ⟨A2, hcut, hC2, hc2⟩ := dropB .u32 A c L n (by omega) hc
    have HC2 := Aside0.mk (hC2 _ HC.out)
    have hz := findZ_is (L.drop n) (fun y hy => HPB.out y (List.mem_of_mem_drop hy))
    have HCI := Aside0.mk (fun w h => index_calls A2 (L.drop n).length (c - n) (L.drop n) w h)
    have hdl : (L.drop n).length = L.length - n := List.length_drop
    by_cases hm : 0 ∈ L.drop n
    · obtain ⟨z1, z2, z3⟩ := hz.1 hm
      obtain ⟨k, hk⟩ : ∃ k, k = ((L.drop n).takeWhile (· != 0)).length := ⟨_, rfl⟩
      rw [← hk] at z1 z2 z3
      have HTS2 : Aside0 (T = if nameL ((L.take (n + k)).drop n) then some ((L.take (n + k)).drop n) else none) := ⟨by
        have e3 : (L.take (n + k)).drop n = (L.drop n).takeWhile (· != 0) := by rw [List.drop_take, show n + k - n = k by omega, z3]
        rw [e3, HTS.out]
        by_cases hq : nameL ((L.drop n).takeWhile (· != 0))
        · rw [if_pos ⟨hm, hq⟩, if_pos hq]
        · rw [if_neg (fun h => hq h.2), if_neg hq]⟩
      obtain ⟨A3, hcut3, hC3, hc3⟩ := midB .u32 .i64 A c L n (n + k) (by omega) (by omega) hc
      have hpb : AllBytes ((L.take (n + k)).drop n) := fun y hy => HPB.out y (List.mem_of_mem_take (List.mem_of_mem_drop hy))
      have hni := nameL_is _ hpb
      have hsz : ((L.take (n + k)).drop n).length ≤ 65536 := by have := HPL.out; rw [List.length_drop, List.length_take]; omega
      have hss : (strOfNums ((L.take (n + k)).drop n)).size = ((L.take (n + k)).drop n).length := by rw [← bytesOf_length, str_back _ hpb]
      have HNC := Aside0.mk (fun w => name_calls (strOfNums ((L.take (n + k)).drop n)) (by omega) w)
      have HNI := Aside0.mk hni
      have hst := Kd.C_string (c := c - n) Try.underlying27 (by kernel_rfl : Try.prog.underlying 5 = some (.int .u8)) Try.underlying9 (hC3 _ HC.out)
      rw [show ((n + k : Nat) : Int) = (n : Int) + (k : Int) by push_cast; rfl] at hcut3
      have hnk : n + k ≤ 65536 := Nat.le_trans (by omega) HPL.out
      have w5 := wrap_two n k hnk
      have w6 := wrap_one n (Nat.le_trans (Nat.le_add_right n k) hnk)
      have q3 : (0 : Int) ≤ (k : Int) := Int.natCast_nonneg k
      have q1 : decide ((k : Int) ≥ 0) = true := decide_eq_true q3
      have q2 : decide ((0 : Int) ≤ (k : Int)) = true := decide_eq_true q3
      rw [z1] at HCI
      generalize (L.take (n + k)).drop n = Y at *
      generalize L.drop n = D at *
      clear HTS hz hm z1 z2 z3 hk c1 hpb hni hsz hss hC3 hc3 hC2 hc2 hdl HPB hn
      go_wp2_with fail
      (first | rw [q6] | skip)
      refine (want_yes 5 _).mono ?_
      rintro e w2 ⟨rfl, rfl⟩
      go_wp2_with fail
      refine (HCI.out _ HC2.out).mono ?_
      rintro e w2 ⟨rfl, rfl⟩
      go_wp2_with fail
      (first | rw [q1] | skip)
      refine (want_yes 5 _).mono ?_
      rintro e w3 ⟨rfl, rfl⟩
      go_wp2_with fail
      refine (HNC.out _).mono ?_
      rintro e w4 ⟨r, rfl, hr, hb4⟩
      replace HBL := Aside0.mk (below_step HBL.out hb4)
      have HRI := Aside0.mk hr
      clear hr hb4 hst
      cases r with
      | true =>
        have ht : R = fun e => e = .returned (.string (strOfNums Y)) := HTX.out (some Y) (by rw [HTS2.out, if_pos (HNI.out.1 (HRI.out.1 rfl))])
        have HRT := Aside0.mk ht
        clear ht
        go_wp2_with fail
        refine (want_yes 5 _).mono ?_
        rintro e w3 ⟨rfl, rfl⟩
        go_wp2
        go_ret
        exact ⟨by rw [HRT.out]; rfl, HBL.out⟩
      | false =>
        have ht : R = fun e => e = wrongE 5 := HTX.out none (by rw [HTS2.out, if_neg (fun h => by have := HRI.out.2 (HNI.out.2 h); cases this)])
        have HRT := Aside0.mk ht
        clear ht
        go_wp2_with fail
        refine (want_no 5 _).mono ?_
        rintro e w3 ⟨rfl, rfl⟩
        exact ⟨rfl, by rw [HRT.out]; rfl, HBL.out⟩
    · have z1 := hz.2 hm
      have ht : R = fun e => e = wrongE 5 := HTX.out none (by rw [HTS.out, if_neg (fun h => hm h.1)])
      have HRT := Aside0.mk ht
      rw [z1] at HCI
      generalize L.drop n = D at *
      clear ht HTX HTS hz hm z1 hC2 hc2 hdl HPB hn c1
      go_wp2_with fail
      (first | rw [q6] | skip)
      refine (want_yes 5 _).mono ?_
      rintro e w2 ⟨rfl, rfl⟩
      go_wp2_with fail
      refine (HCI.out _ HC2.out).mono ?_
      rintro e w2 ⟨rfl, rfl⟩
      go_wp2_with fail
      refine (want_no 5 _).mono ?_
      rintro e w3 ⟨rfl, rfl⟩
      exact ⟨rfl, by rw [HRT.out]; rfl, HBL.out⟩
  · have q9 : ((n : Int) < (L.length : Int)) = False := eq_false (by omega)
    have q6 : decide ((n : Int) < (L.length : Int)) = false := decide_eq_false (by omega)
    have q7 : decide (n < L.length) = false := decide_eq_false c1
    have q8 : (n < L.length) = False := eq_false c1
    have ht : R = fun e => e = wrongE 5 := HTX.out none (by rw [HTS.out, List.drop_eq_nil_of_le (by omega), if_neg (fun h => absurd h.1 (List.not_mem_nil))])
    have HRT := Aside0.mk ht
    clear ht HTX HTS c1 hn
    go_wp2_with fail
    (first | rw [q6] | skip)
    refine (want_no 5 _).mono ?_
    rintro e w3 ⟨rfl, rfl⟩
    exact ⟨rfl, by rw [HRT.out]; rfl, HBL.out⟩
end Go.Proofs.Ytockojajbnnbpaa.E
namespace Go.Proofs.Ytockojajbnnbpaa.E
open Go.RowKit Go.Proofs.Ytockojajbnnbpaa.Q Go.Proofs.YtockojajbnnbpaaW.PrintWords
set_option linter.unusedVariables false
set_option linter.unusedSimpArgs false
theorem foldO_app {σ α : Type} (f : σ → α → Option σ) : ∀ (l1 l2 : List α) (s : σ), foldO f s (l1 ++ l2) = (foldO f s l1).bind fun t => foldO f t l2
  | [], l2, s => rfl
  | x :: t, l2, s => by
    show (f s x).bind (fun u => foldO f u (t ++ l2)) = ((f s x).bind fun u => foldO f u t).bind fun t => foldO f t l2
    cases f s x with
    | none => rfl
    | some u => exact foldO_app f t l2 u
theorem flat_len (m : Nat) : ∀ (ls : List (List Int)), (∀ e ∈ ls, e.length = m) → ls.flatten.length = m * ls.length
  | [], _ => by simp
  | e :: t, h => by
    rw [List.flatten_cons, List.length_append, h e List.mem_cons_self, flat_len m t (fun x hx => h x (List.mem_cons_of_mem _ hx)), List.length_cons, Nat.mul_add, Nat.mul_one, Nat.add_comm]
theorem flat_at (m : Nat) : ∀ (ls : List (List Int)) (i : Nat) (e : List Int), (∀ e ∈ ls, e.length = m) → ls[i]? = some e → (ls.flatten.drop (m * i)).take m = e
  | [], i, e, _, h => by simp at h
  | x :: t, 0, e, hl, h => by
    obtain rfl : x = e := by simpa using h
    rw [Nat.mul_zero, List.drop_zero, List.flatten_cons, List.take_left' (hl x List.mem_cons_self)]
  | x :: t, i + 1, e, hl, h => by
    rw [List.flatten_cons, Nat.mul_add, Nat.mul_one, Nat.add_comm, ← List.drop_drop, List.drop_left' (hl x List.mem_cons_self)]
    exact flat_at m t i e (fun y hy => hl y (List.mem_cons_of_mem _ hy)) (by simpa using h)
theorem chunks_flat (m : Nat) (hm : 0 < m) (ls : List (List Int)) (h : ∀ e ∈ ls, e.length = m) : chunks ls.flatten m = ls := by
  unfold chunks
  rw [flat_len m ls h, Nat.mul_div_cancel_left _ hm]
  apply List.ext_getElem?
  intro i
  rw [List.getElem?_map]
  by_cases c : i < ls.length
  · rw [List.getElem?_range c, List.getElem?_eq_getElem c]
    exact congrArg some (flat_at m ls i _ h (List.getElem?_eq_getElem c))
  · rw [List.getElem?_eq_none (by simpa using c), List.getElem?_eq_none (by omega)]; rfl
theorem gw_sub (b : List Int) (off k i n : Nat) (e : List Int) (he : (b.drop off).take k = e) (h : i + n ≤ k) : gw b (off + i) n = gw e i n := by
  unfold gw
  rw [← he, List.drop_take, List.drop_drop, List.take_take, Nat.min_eq_left (by omega)]
structure Ext (s F : Wst) : Prop where
  b : s.b <+: F.b
  r : s.rows <+: F.rows
theorem Ext.refl (s : Wst) : Ext s s := ⟨List.prefix_refl _, List.prefix_refl _⟩
theorem Ext.trans {s t u : Wst} (h : Ext s t) (k : Ext t u) : Ext s u := ⟨h.b.trans k.b, h.r.trans k.r⟩
def rowOf (s : Wst) (r : S47) (x : List Int) : S47 := { r with f4 := (s.b.length : Int) % 4294967296, f5 := if r.f1 = 8 then r.f5 else (x.length : Int) % 4294967296 }
theorem partS_ext (s : Wst) (r : S47) (x : List Int) : Ext s (partS s r x) := ⟨(List.prefix_append s.b x).trans (List.prefix_append _ _), List.prefix_append _ _⟩
theorem partS_rows (s : Wst) (r : S47) (x : List Int) : (partS s r x).rows = s.rows ++ [rowOf s r x] := rfl
theorem part_at {s F : Wst} {r : S47} {x : List Int} (h : Ext (partS s r x) F) : (F.b.drop s.b.length).take x.length = x ∧ s.b.length + x.length ≤ F.b.length := by
  obtain ⟨t, ht⟩ := h.b
  have : F.b = s.b ++ (x ++ ((List.replicate ((4 - (s.b ++ x).length % 4) % 4) 0) ++ t)) := by
    rw [← ht]
    show (s.b ++ x) ++ _ ++ t = _
    simp only [List.append_assoc]
  rw [this]
  refine ⟨?_, by simp only [List.length_append]; omega⟩
  rw [List.drop_left, List.take_left]
structure Laid (b : List Int) (F : Wst) : Prop where
  at_ : ∀ off k, 52 ≤ off → off + k ≤ F.b.length → (b.drop off).take k = (F.b.drop off).take k
  len : F.b.length < 4294967296
theorem Laid.part {b : List Int} {F s : Wst} {r : S47} {x : List Int} (h : Laid b F) (he : Ext (partS s r x) F) (h52 : 52 ≤ s.b.length) (h8 : r.f1 ≠ 8) : partB b (rowOf s r x) = x := by
  obtain ⟨h1, h2⟩ := part_at he
  have hl := h.len
  unfold partB rowOf
  show (b.drop ((s.b.length : Int) % 4294967296).toNat).take (if r.f1 = 8 then r.f5 else (x.length : Int) % 4294967296).toNat = x
  rw [if_neg h8, Int.emod_eq_of_lt (by omega) (by omega), Int.emod_eq_of_lt (by omega) (by omega), Int.toNat_natCast, Int.toNat_natCast, h.at_ _ _ h52 h2]
  exact h1
end Go.Proofs.Ytockojajbnnbpaa.E
namespace Go.Proofs.Ytockojajbnnbpaa.E
open Go.RowKit Go.Proofs.Ytockojajbnnbpaa.Q Go.Proofs.YtockojajbnnbpaaW.PrintWords Go.Proofs.YtockojajbnnbpaaW.PrintLast Go.Proofs.YtockojajbnnbpaaW.PrintMore
set_option linter.unusedVariables false
set_option linter.unusedSimpArgs false
theorem info40 : (Try.prog.info? 40).map (fun i => (i.zero, i.size, i.bytes)) = some (some (.agg #[.string ⟨#[]⟩, .int .u32 0, .int .u32 0, .int .u32 0, .int .u32 0, .slice none 0 0]), 6, 56) := by kernel_rfl
theorem info94 : (Try.prog.info? 94).map (fun i => (i.zero, i.size, i.bytes)) = some (some (.agg #[.string ⟨#[]⟩, .int .u32 0, .int .u32 0, .int .u8 0, .int .u8 0, .bool false, .int .i64 0]), 7, 40) := by kernel_rfl
theorem info59 : (Try.prog.info? 59).map (fun i => (i.zero, i.size, i.bytes)) = some (some (.agg #[.int .i64 0, .int .u32 0, .int .u8 0, .int .i64 0, .int .i32 0]), 5, 32) := by kernel_rfl
theorem info3 : (Try.prog.info? 3).map (fun i => (i.zero, i.size, i.bytes)) = some (some (.int .i64 0), 1, 8) := by kernel_rfl
section
variable {ops : Array Oper} {rest : List Oper} {o : Oper} {a : Act} {Q : Exit → Act → World → Prop}
theorem ev_rows {α : Type} (d : Kd α) {W : World} (hgd : o.guard = none) (s x : Operand) (t e : TypeId) (z : Value) (bytes : Nat)
    (ho : o.op = .call { callee := .builtin .append, args := #[s, x], argTypes := #[t, t] })
    (ht : Try.prog.underlying t = some (.slice e)) (hinfo : (Try.prog.info? e).map (fun i => (i.zero, i.size, i.bytes)) = some (some z, d.sz, bytes)) (hz : z.cells.size = d.sz) (hs0 : 0 < d.sz) (hb0 : 0 < bytes)
    (v : Value) (xs : List α) (p : α) (cs : List Value) (S T : Nat → Prop) (hs : a.eval s = v) (hx : a.eval x = .slice (some ⟨W.heap.size, 0, none⟩) 1 1) (hp : d.M W 0 T p cs) (hT : ∀ k, T k → ¬ S k)
    (HO : d.R e W 0 S v xs) (hl : (xs.length + 1) * bytes ≤ 140737488355328)
    (h : ∀ (L : List α) (A1 : Option Addr) (c1 : Nat) w1, Aside0 (L = xs ++ [p]) → d.R e w1 0 (fun k => (S k ∨ T k ∨ W.heap.size ≤ k) ∧ k < w1.heap.size) (.slice A1 L.length c1) L → W.grownBy w1 v.ownBlock → wpList Try.prog ops Q rest (a.put o.dst (.slice A1 L.length c1)) w1) :
    wpList Try.prog ops Q (o :: rest) a (W.alloc (.cells cs.toArray e)) :=
  Kd.R_append d (w0 := W) 0 hgd s x t e z bytes ho ht hinfo hz hs0 hb0 v xs p cs (fun k => S k ∨ T k ∨ W.heap.size ≤ k) T hs hx hp (fun k hk => ⟨.inr (.inl hk), fun he => hT k hk (HO.1 k he.symm)⟩) (fun k hk => .inr (.inr hk)) (Kd.R_mono HO (fun k hk => .inl hk)) (Below.refl _ _) (Nat.zero_le _) hl
    (fun v1 w1 hr hb hg hat => by obtain ⟨A1, c1, rfl⟩ := Kd.R_slice hr; exact h _ A1 c1 w1 ⟨rfl⟩ (R_bd hr) hg)
end
structure Gr {α β : Type} (d : Kd α) (e : Nat) (d2 : Kd β) (e2 : Nat) (w0 W : World) (S S2 : Nat → Prop) (v v2 : Value) (xs : List α) (ys : List β) : Prop where
  bl : Below w0.heap.size w0 W
  r : Kd.R d e W 0 S v xs
  r2 : Kd.R d2 e2 W 0 S2 v2 ys
  q : ∀ k, S k → w0.heap.size ≤ k ∧ k < W.heap.size
  q2 : ∀ k, S2 k → w0.heap.size ≤ k ∧ k < W.heap.size
  d : ∀ k, S k → ¬ S2 k
section
variable {α β : Type} {d : Kd α} {e : Nat} {d2 : Kd β} {e2 : Nat} {w0 W W1 : World} {S S2 T : Nat → Prop} {v v2 u : Value} {xs xs1 : List α} {ys ys1 : List β}
theorem Gr.nil (w : World) : Gr d e d2 e2 w w (fun _ => False) (fun _ => False) (.slice none 0 0) (.slice none 0 0) [] [] :=
  ⟨Below.refl _ _, Kd.R_nil _ _ _ _ _, Kd.R_nil _ _ _ _ _, fun _ h => h.elim, fun _ h => h.elim, fun _ _ h => h⟩
theorem Gr.below (h : Gr d e d2 e2 w0 W S S2 v v2 xs ys) (k : Below W.heap.size W W1) : Gr d e d2 e2 w0 W1 S S2 v v2 xs ys :=
  ⟨below_step h.bl k, Kd.R_below h.r k, Kd.R_below h.r2 k, fun i hi => ⟨(h.q i hi).1, Nat.lt_of_lt_of_le (h.q i hi).2 k.size⟩, fun i hi => ⟨(h.q2 i hi).1, Nat.lt_of_lt_of_le (h.q2 i hi).2 k.size⟩, h.d⟩
theorem Gr.far {p : Addr} (h : Gr d e d2 e2 w0 W S S2 v v2 xs ys) (h1 : ¬ S p.block) (h2 : ¬ S2 p.block) (hz : w0.heap.size ≤ p.block) (x : Value) : Gr d e d2 e2 w0 (W.setCell p x) S S2 v v2 xs ys := by
  have hsz : (W.setCell p x).heap.size = W.heap.size := by simp [World.setCell]
  exact ⟨h.bl.setCell hz x, Kd.R_far h.r (fun k hk e => h1 (by rw [← e]; exact hk)) x, Kd.R_far h.r2 (fun k hk e => h2 (by rw [← e]; exact hk)) x, fun i hi => by rw [hsz]; exact h.q i hi, fun i hi => by rw [hsz]; exact h.q2 i hi, h.d⟩
theorem Gr.set2 (h : Gr d e d2 e2 w0 W S S2 v v2 xs ys) (h1 : Kd.R d2 e2 W1 0 (fun k => (S2 k ∨ W.heap.size ≤ k) ∧ k < W1.heap.size) u ys1) (hg : W.grownBy W1 v2.ownBlock) :
    Gr d e d2 e2 w0 W1 S (fun k => (S2 k ∨ W.heap.size ≤ k) ∧ k < W1.heap.size) v u xs ys1 ∧ Fr S2 W W1 := by
  have hf : Fr S2 W W1 := Fr.of_grown hg (fun k e => h.r2.1 k e)
  have hz := h.bl.size
  refine ⟨⟨hf.below h.bl (fun i hi => (h.q2 i hi).1) hz, R_fr h.r hf h.d, h1, fun i hi => ⟨(h.q i hi).1, Nat.lt_of_lt_of_le (h.q i hi).2 hf.size⟩, fun k hk => ?_, fun k hk hk2 => ?_⟩, hf⟩
  · rcases hk.1 with h2 | h2
    · exact ⟨(h.q2 k h2).1, hk.2⟩
    · exact ⟨by omega, hk.2⟩
  · rcases hk2.1 with h2 | h2
    · exact h.d k hk h2
    · have := (h.q k hk).2; omega
theorem Gr.set1 (h : Gr d e d2 e2 w0 W S S2 v v2 xs ys) (hT : ∀ k, T k → w0.heap.size ≤ k ∧ ¬ S2 k) (h1 : Kd.R d e W1 0 (fun k => (S k ∨ T k ∨ W.heap.size ≤ k) ∧ k < W1.heap.size) u xs1) (hg : W.grownBy W1 v.ownBlock) :
    Gr d e d2 e2 w0 W1 (fun k => (S k ∨ T k ∨ W.heap.size ≤ k) ∧ k < W1.heap.size) S2 u v2 xs1 ys ∧ Fr S W W1 := by
  have hf : Fr S W W1 := Fr.of_grown hg (fun k e => h.r.1 k e)
  have hz := h.bl.size
  refine ⟨⟨hf.below h.bl (fun i hi => (h.q i hi).1) hz, h1, R_fr h.r2 hf (fun k hk hk2 => h.d k hk2 hk), fun k hk => ?_, fun i hi => ⟨(h.q2 i hi).1, Nat.lt_of_lt_of_le (h.q2 i hi).2 hf.size⟩, fun k hk hk2 => ?_⟩, hf⟩
  · rcases hk.1 with h2 | h2 | h2
    · exact ⟨(h.q k h2).1, hk.2⟩
    · exact ⟨(hT k h2).1, hk.2⟩
    · exact ⟨by omega, hk.2⟩
  · rcases hk.1 with h2 | h2 | h2
    · exact h.d k h2 hk2
    · exact (hT k h2).2 hk2
    · have := (h.q2 k hk2).2; omega
end
theorem clone_calls (A : Option Addr) (c : Nat) (l : List Int) (w : World) (h : Kd.C (Kd.int .u8) w A l.length l) (hc : l.length ≤ c) (hl : l.length < 140737488355328) :
    Calls Try.prog 66 #[.slice A l.length c] w fun e w' => ∃ v : Value, e = .returned v ∧ Kd.R (Kd.int .u8) 5 w' 0 (fun k => w.heap.size ≤ k ∧ k < w'.heap.size) v l ∧ Below w.heap.size w w' := by
  refine (bytes_Clone.calls A c l l w h hc (by unfold bytes_Clone.f; rw [if_pos hl])).mono ?_
  rintro e w' ⟨v, he, hr, hb⟩
  refine ⟨v, he, ?_, hb⟩
  have h2 := Kd.R_mono (Kd.R_bound hr) (ok' := fun k => w.heap.size ≤ k ∧ k < w'.heap.size) (fun k hk => ⟨hk.2.1, hk.2.2.1⟩)
  exact Kd.R_lower h2 (Nat.zero_le _)
end Go.Proofs.Ytockojajbnnbpaa.E
namespace Go.Proofs.Ytockojajbnnbpaa.E
open Go.RowKit Go.Proofs.Ytockojajbnnbpaa.Q Go.Proofs.YtockojajbnnbpaaW.PrintWords Go.Proofs.YtockojajbnnbpaaW.PrintLast Go.Proofs.YtockojajbnnbpaaW.PrintMore
set_option linter.unusedVariables false
set_option linter.unusedSimpArgs false
theorem foldO_append {σ α : Type} (f : σ → α → Option σ) : ∀ (l m : List α) (s : σ), foldO f s (l ++ m) = (foldO f s l).bind fun t => foldO f t m
  | [], m, s => rfl
  | x :: l, m, s => by
    show (f s x).bind _ = ((f s x).bind _).bind _
    rw [Option.bind_assoc]
    congr 1
    funext t
    exact foldO_append f l m t
theorem foldO_snoc {σ α : Type} (f : σ → α → Option σ) (l : List α) (x : α) (s : σ) : foldO f s (l ++ [x]) = (foldO f s l).bind fun t => f t x := by
  rw [foldO_append]
  congr 1
  funext t
  show (f t x).bind some = _
  cases f t x <;> rfl
theorem take_snoc {α : Type} {l : List α} {i : Nat} {x : α} (h : l[i]? = some x) : l.take (i + 1) = l.take i ++ [x] := by
  have hi := (List.getElem?_eq_some_iff.1 h).1
  rw [List.take_succ_eq_append_getElem hi]
  rw [List.getElem?_eq_getElem hi] at h
  rw [Option.some.inj h]
theorem foldO_take {σ α : Type} {f : σ → α → Option σ} {l : List α} {i : Nat} {x : α} {s t : σ} (h : foldO f s (l.take i) = some t) (hx : l[i]? = some x) : foldO f s (l.take (i + 1)) = f t x := by rw [take_snoc hx, foldO_snoc, h]; rfl
theorem foldO_dead {σ α : Type} {f : σ → α → Option σ} {l : List α} {i : Nat} {s : σ} (h : foldO f s (l.take i) = none) : foldO f s l = none := by
  rw [← List.take_append_drop i l, foldO_append, h]; rfl
theorem Gr.base {α β : Type} {d : Kd α} {e : Nat} {d2 : Kd β} {e2 : Nat} {w0 w1 W : World} {S S2 : Nat → Prop} {v v2 : Value} {xs : List α} {ys : List β} (h : Gr d e d2 e2 w1 W S S2 v v2 xs ys) (k : Below w0.heap.size w0 w1) : Gr d e d2 e2 w0 W S S2 v v2 xs ys :=
  ⟨below_step k h.bl, h.r, h.r2, fun i hi => ⟨Nat.le_trans k.size (h.q i hi).1, (h.q i hi).2⟩, fun i hi => ⟨Nat.le_trans k.size (h.q2 i hi).1, (h.q2 i hi).2⟩, h.d⟩
theorem keep15 {W W2 : World} {p q : Nat} {v0 v1 v2 v3 v4 v5 v6 v7 v8 v9 u0 u1 u2 u5 u8 : Value} (hp : p < W.heap.size → W2.heap[p]? = W.heap[p]?) (hq : q < W.heap.size → W2.heap[q]? = W.heap[q]?) (h : W.cell? ⟨p, 0, none⟩ = some v0 ∧ W.cell? ⟨p, 1, none⟩ = some v1 ∧ W.cell? ⟨p, 2, none⟩ = some v2 ∧ W.cell? ⟨p, 3, none⟩ = some v3 ∧ W.cell? ⟨p, 4, none⟩ = some v4 ∧ W.cell? ⟨p, 5, none⟩ = some v5 ∧ W.cell? ⟨p, 6, none⟩ = some v6 ∧ W.cell? ⟨p, 7, none⟩ = some v7 ∧ W.cell? ⟨p, 8, none⟩ = some v8 ∧ W.cell? ⟨p, 9, none⟩ = some v9 ∧ W.cell? ⟨q, 0, none⟩ = some u0 ∧ W.cell? ⟨q, 1, none⟩ = some u1 ∧ W.cell? ⟨q, 2, none⟩ = some u2 ∧ W.cell? ⟨q, 5, none⟩ = some u5 ∧ W.cell? ⟨q, 8, none⟩ = some u8) : W2.cell? ⟨p, 0, none⟩ = some v0 ∧ W2.cell? ⟨p, 1, none⟩ = some v1 ∧ W2.cell? ⟨p, 2, none⟩ = some v2 ∧ W2.cell? ⟨p, 3, none⟩ = some v3 ∧ W2.cell? ⟨p, 4, none⟩ = some v4 ∧ W2.cell? ⟨p, 5, none⟩ = some v5 ∧ W2.cell? ⟨p, 6, none⟩ = some v6 ∧ W2.cell? ⟨p, 7, none⟩ = some v7 ∧ W2.cell? ⟨p, 8, none⟩ = some v8 ∧ W2.cell? ⟨p, 9, none⟩ = some v9 ∧ W2.cell? ⟨q, 0, none⟩ = some u0 ∧ W2.cell? ⟨q, 1, none⟩ = some u1 ∧ W2.cell? ⟨q, 2, none⟩ = some u2 ∧ W2.cell? ⟨q, 5, none⟩ = some u5 ∧ W2.cell? ⟨q, 8, none⟩ = some u8 := by
  obtain ⟨h0, h1, h2, h3, h4, h5, h6, h7, h8, h9, h10, h11, h12, h13, h14⟩ := h
  have hc : ∀ i u, W.cell? ⟨p, i, none⟩ = some u → W2.cell? ⟨p, i, none⟩ = some u := fun i u hu => (World.cell?_of_block (a := ⟨p, i, none⟩) (hp (World.block_lt_of_cell? _ _ h0))).trans hu
  have hd : ∀ i u, W.cell? ⟨q, i, none⟩ = some u → W2.cell? ⟨q, i, none⟩ = some u := fun i u hu => (World.cell?_of_block (a := ⟨q, i, none⟩) (hq (World.block_lt_of_cell? _ _ h10))).trans hu
  exact ⟨hc _ _ h0, hc _ _ h1, hc _ _ h2, hc _ _ h3, hc _ _ h4, hc _ _ h5, hc _ _ h6, hc _ _ h7, hc _ _ h8, hc _ _ h9, hd _ _ h10, hd _ _ h11, hd _ _ h12, hd _ _ h13, hd _ _ h14⟩
theorem six_cells {W : World} {r t : Nat} {v0 v1 v2 v3 v4 v5 : Value} (h : W.heap[r]? = some (.cells #[v0, v1, v2, v3, v4, v5] t (0, 0))) :
    (W.cell? ⟨r, 0, none⟩ = some v0 ∧ W.frozen? ⟨r, 0, none⟩ = false) ∧ (W.cell? ⟨r, 1, none⟩ = some v1 ∧ W.frozen? ⟨r, 1, none⟩ = false) ∧ (W.cell? ⟨r, 2, none⟩ = some v2 ∧ W.frozen? ⟨r, 2, none⟩ = false) ∧ (W.cell? ⟨r, 3, none⟩ = some v3 ∧ W.frozen? ⟨r, 3, none⟩ = false) ∧ (W.cell? ⟨r, 4, none⟩ = some v4 ∧ W.frozen? ⟨r, 4, none⟩ = false) ∧ W.cell? ⟨r, 5, none⟩ = some v5 ∧ W.frozen? ⟨r, 5, none⟩ = false :=
  ⟨⟨(blk_cell h 0).trans rfl, blk_frozen h 0⟩, ⟨(blk_cell h 1).trans rfl, blk_frozen h 1⟩, ⟨(blk_cell h 2).trans rfl, blk_frozen h 2⟩, ⟨(blk_cell h 3).trans rfl, blk_frozen h 3⟩, ⟨(blk_cell h 4).trans rfl, blk_frozen h 4⟩, (blk_cell h 5).trans rfl, blk_frozen h 5⟩
theorem setc6 {w W : World} {r : Nat} {u0 u1 u2 u3 u4 u5 : Value} (h : Below w.heap.size w W) (hr : w.heap.size ≤ r) : Below w.heap.size w ((((((W.setCell ⟨r, 0, none⟩ u0).setCell ⟨r, 1, none⟩ u1).setCell ⟨r, 2, none⟩ u2).setCell ⟨r, 3, none⟩ u3).setCell ⟨r, 4, none⟩ u4).setCell ⟨r, 5, none⟩ u5) :=
  (((((h.setCell hr u0).setCell hr u1).setCell hr u2).setCell hr u3).setCell hr u4).setCell hr u5
theorem set6 {W : World} {r t : Nat} {v0 v1 v2 v3 v4 v5 u0 u1 u2 u3 u4 u5 : Value} (h : W.heap[r]? = some (.cells #[v0, v1, v2, v3, v4, v5] t (0, 0))) :
    ((((((W.setCell ⟨r, 0, none⟩ u0).setCell ⟨r, 1, none⟩ u1).setCell ⟨r, 2, none⟩ u2).setCell ⟨r, 3, none⟩ u3).setCell ⟨r, 4, none⟩ u4).setCell ⟨r, 5, none⟩ u5).heap[r]? = some (.cells #[u0, u1, u2, u3, u4, u5] t (0, 0)) :=
  blk_put (blk_put (blk_put (blk_put (blk_put (blk_put h 0 u0 rfl) 1 u1 rfl) 2 u2 rfl) 3 u3 rfl) 4 u4 rfl) 5 u5 rfl
theorem secR_in (b : List Int) (names : S47) (s : List S40 × List Int) (x : S47) (h : ¬ (x.f1 ≠ 1 ∧ x.f1 ≠ 8)) : secR b names s x = (textS b names x.f0).bind fun t => if x.f3 = 0 ∧ SecP ⟨strOfNums t, x.f1, x.f2, x.f8, x.f5, if x.f1 = 1 then partB b x else []⟩ then
    some (s.1 ++ [⟨strOfNums t, x.f1, x.f2, x.f8, x.f5, if x.f1 = 1 then partB b x else []⟩], s.2 ++ [(s.1.length : Int)]) else none := by unfold secR; rw [if_neg h]
theorem textS_len {b : List Int} {x : S47} {a : Int} {t : List Int} (h : textS b x a = some t) : (strOfNums t).size < 9223372036854775808 := by
  unfold textS at h
  by_cases c : (0 : Int) ∈ (partB b x).drop a.toNat ∧ nameL (((partB b x).drop a.toNat).takeWhile (· != 0))
  · rw [if_pos c] at h
    rw [← Option.some.inj h, strOfNums_size]
    exact Nat.lt_of_le_of_lt c.2.2 (by decide)
  · rw [if_neg c] at h; cases h
theorem alloc_size (w : World) (o : Obj) : (w.alloc o).heap.size = w.heap.size + 1 := Array.size_push ..
def SecsRes (b : List Int) (rows : List S47) (names : S47) (w0 : World) (e : Ending) (w' : World) : Prop :=
  match secsR b rows names with
  | none => e = wrongE 5 ∧ Below w0.heap.size w0 w'
  | some p => ∃ S S2 v v2, e = .returned (.tuple #[v, v2]) ∧ Gr k40 40 (Kd.int .i64) 3 w0 w' S S2 v v2 p.1 p.2
theorem SecsRes.no {b : List Int} {rows : List S47} {names : S47} {w0 w' : World} (h : secsR b rows names = none) (hb : Below w0.heap.size w0 w') : SecsRes b rows names w0 (wrongE 5) w' := by unfold SecsRes; rw [h]; exact ⟨rfl, hb⟩
theorem SecsRes.ok {b : List Int} {rows : List S47} {names : S47} {w0 w' : World} {p : List S40 × List Int} {S S2 : Nat → Prop} {v v2 : Value} (h : secsR b rows names = some p) (hb : Gr k40 40 (Kd.int .i64) 3 w0 w' S S2 v v2 p.1 p.2) : SecsRes b rows names w0 (.returned (.tuple #[v, v2])) w' := by unfold SecsRes; rw [h]; exact ⟨S, S2, v, v2, rfl, hb⟩
set_option maxRecDepth 100000 in
set_option maxHeartbeats 32000000 in
theorem sections_calls {g : Nat} {b : List Int} {rows : List S47} (hb : AllBytes b) (hl : b.length ≤ 65536) (hrl : rows.length ≤ 65536) (hin : ∀ x ∈ rows, RowRg x ∧ RowIn b.length x) (names : S47) (h0 : 0 ≤ names.f4) (h1 : 0 ≤ names.f5) (h2 : names.f4 + names.f5 ≤ b.length) (w : World) (h : Rd w g b rows) :
    Calls Try.prog 32 #[.pointer (some ⟨g, 0, none⟩), rowV names] w fun e w' => SecsRes b rows names w e w' := by
  have hu47 := Try.underlying47
  have hu40 := Try.underlying40
  have HB := Aside0.mk hb
  have HLB := Aside0.mk hl
  have HRL := Aside0.mk hrl
  have HIN := Aside0.mk hin
  have HNM := Aside0.mk (And.intro h0 (And.intro h1 h2))
  have hal := below_alloc (Below.refl w.heap.size w) (.cells #[.int .u32 names.f0, .int .u32 names.f1, .int .u32 names.f2, .int .u32 names.f3, .int .u32 names.f4, .int .u32 names.f5, .int .u32 names.f6, .int .u32 names.f7, .int .u32 names.f8, .int .u32 names.f9] 47)
  have HAL := Aside0.mk hal
  have HRD0 := Aside0.mk (h.below hal)
  have HNB0 := Aside0.mk (heap_alloc_new w (.cells #[.int .u32 names.f0, .int .u32 names.f1, .int .u32 names.f2, .int .u32 names.f3, .int .u32 names.f4, .int .u32 names.f5, .int .u32 names.f6, .int .u32 names.f7, .int .u32 names.f8, .int .u32 names.f9] 47))
  have hrx : ∀ W, Rd W g b rows → ∃ cr Ar, W.cell? ⟨g, 1, none⟩ = some (.slice Ar rows.length cr) ∧ Kd.C k47 W Ar rows.length rows := by
    intro W hW
    obtain ⟨A, c, Ar, cr, e1, e2, e3, e4, e5⟩ := hW.ex
    exact ⟨cr, Ar, (blk_cell e1 1).trans rfl, e4⟩
  obtain ⟨cr, Ar, hc1, hCR⟩ := hrx _ (h.below hal)
  have HCR := Aside0.mk hCR
  obtain ⟨n0, n1, n2, n3, n4, n5, n6, n7, n8, n9⟩ := names
  clear hb hl hrl hin h0 h1 h2 h hrx hal hCR
  unfold rowV
  simp only at HAL HRD0 HNB0 HCR hc1 HNM
  go_enter Try.func32, Try.ntmps32
  go_wp2_with fail
  generalize (w.alloc (.cells #[.int .u32 n0, .int .u32 n1, .int .u32 n2, .int .u32 n3, .int .u32 n4, .int .u32 n5, .int .u32 n6, .int .u32 n7, .int .u32 n8, .int .u32 n9] 47)) = w1 at *
  have HP : Aside0 (w.heap.size < w1.heap.size) := ⟨blk_lt HNB0.out⟩
  have HNB : Aside0 (w1.heap[w.heap.size]? = some (.cells (rowC ⟨n0, n1, n2, n3, n4, n5, n6, n7, n8, n9⟩) 47 (0, 0))) := HNB0
  clear HNB0 hc1
  generalize hp : w.heap.size = p at *
  replace HAL : Aside0 (Below w.heap.size w w1) := ⟨by rw [hp]; exact HAL.out⟩
  have HG0 : Aside0 (Gr k40 40 (Kd.int .i64) 3 w1 w1 (fun _ => False) (fun _ => False) (.slice none 0 0) (.slice none 0 0) [] []) := ⟨Gr.nil _⟩
  have HF0 : Aside0 (foldO (secR b ⟨n0, n1, n2, n3, n4, n5, n6, n7, n8, n9⟩) ([], []) (rows.take 0) = some ([], [])) := ⟨rfl⟩
  go_loopg [4, 5, 14] (rows.length + 1) (fun kq v4 v5 v14 w' => ∃ (i : Nat) (secs : List S40) (nums : List Int), v14 = .int .i64 (i : Int) ∧ Aside0 (i + kq = rows.length + 1) ∧ Aside0 (i ≤ rows.length) ∧ Aside0 (foldO (secR b ⟨n0, n1, n2, n3, n4, n5, n6, n7, n8, n9⟩) ([], []) (rows.take i) = some (secs, nums)) ∧ Aside0 (nums.length = i) ∧ Aside0 (secs.length ≤ i) ∧ Aside0 (∃ S S2, Gr k40 40 (Kd.int .i64) 3 w1 w' S S2 v4 v5 secs nums))
  case atStart => exact ⟨0, [], [], rfl, ⟨by omega⟩, ⟨by omega⟩, HF0, ⟨rfl⟩, ⟨Nat.le_refl _⟩, ⟨⟨_, _, HG0.out⟩⟩⟩
  case round =>
    clear HG0 HF0
    obtain ⟨i, secs, nums, rfl, HK, HI, HF, HLN, HLS, HG⟩ := hrel
    by_cases ci : i < rows.length
    · cases gk with
      | zero => exact absurd HK.out (by have := HI.out; omega)
      | succ gq =>
        obtain ⟨S, S2, hg⟩ := HG.out
        have HI2 := Aside0.mk ci
        have p1 : ((i : Int) < (rows.length : Int)) = True := eq_true (by omega)
        have p2 : (i < rows.length) = True := eq_true ci
        have p3 : 0 ≤ (i : Int) := by omega
        have hw := w64s i (by have := HRL.out; omega)
        obtain ⟨ad, ea, x0, x1, x2, x3, x4, x5, x6, x7, x8, x9⟩ := at_T47 (Kd.C_below HCR.out hg.bl) (i : Int) (by omega) (by omega)
        cases ea
        rw [Int.toNat_natCast] at x0 x1 x2 x3 x4 x5 x6 x7 x8 x9
        have hx := rd47_get rows i ci
        have hrg := HIN.out _ (List.mem_of_getElem? hx)
        have hst := foldO_take HF.out hx
        generalize rd_T47 rows (i : Int) = x at x0 x1 x2 x3 x4 x5 x6 x7 x8 x9 hx hrg hst
        obtain ⟨y0, y1, y2, y3, y4, y5, y6, y7, y8, y9⟩ := x
        simp only at x0 x1 x2 x3 x4 x5 x6 x7 x8 x9
        have HST := Aside0.mk hst
        have HRG := Aside0.mk hrg
        obtain ⟨A4, c4, rfl⟩ := Kd.R_slice hg.r
        obtain ⟨A5, c5, rfl⟩ := Kd.R_slice hg.r2
        have hal := below_alloc (Below.refl wr.heap.size wr) (.cells #[.int .u32 y0, .int .u32 y1, .int .u32 y2, .int .u32 y3, .int .u32 y4, .int .u32 y5, .int .u32 y6, .int .u32 y7, .int .u32 y8, .int .u32 y9] 47)
        have HG2 := Aside0.mk (hg.below hal)
        have HQB0 := Aside0.mk (heap_alloc_new wr (.cells #[.int .u32 y0, .int .u32 y1, .int .u32 y2, .int .u32 y3, .int .u32 y4, .int .u32 y5, .int .u32 y6, .int .u32 y7, .int .u32 y8, .int .u32 y9] 47))
        have HNS : Aside0 (¬ S wr.heap.size ∧ ¬ S2 wr.heap.size ∧ w1.heap.size ≤ wr.heap.size) := ⟨fun h => Nat.lt_irrefl _ (hg.q _ h).2, fun h => Nat.lt_irrefl _ (hg.q2 _ h).2, hg.bl.size⟩
        clear hg ci HG HI hx hrg hst hal
        have hsz : (wr.alloc (.cells #[.int .u32 y0, .int .u32 y1, .int .u32 y2, .int .u32 y3, .int .u32 y4, .int .u32 y5, .int .u32 y6, .int .u32 y7, .int .u32 y8, .int .u32 y9] 47)).heap.size = wr.heap.size + 1 := alloc_size _ _
        by_cases ck : y1 ≠ 1 ∧ y1 ≠ 8
        · have k1 : (y1 != 1) = true := by simpa using ck.1
          have k2 : (y1 != 8) = true := by simpa using ck.2
          have k3 : (y1 == 1) = false := by simpa using ck.1
          have k4 : (y1 == 8) = false := by simpa using ck.2
          have HF2 : Aside0 (foldO (secR b ⟨n0, n1, n2, n3, n4, n5, n6, n7, n8, n9⟩) ([], []) (rows.take (i + 1)) = some (secs, nums ++ [-1])) := ⟨by rw [HST.out]; unfold secR; rw [if_pos ck]⟩
          clear ck HST
          go_wp2_with (first | ((with_reducible refine gate_builtin (b := .append) (xs := #[.tmp 26, .tmp 27]) rfl ?_); at_builtin; refine ev_one (Kd.int .i64) rfl (.tmp 26) (.tmp 27) 71 3 (.int .i64 0) 8 rfl Try.underlying71 info3 rfl (by decide) (by decide) (.slice A5 nums.length c5) nums (-1) [.int .i64 (-1)] S2 rfl (by rw [hsz]; rfl) rfl HG2.out.r2 (by have := HLN.out; have := HI2.out; have := HRL.out; omega) ?_; intro L1 A6 c6 w6 hL1 hr1 hg1; have HN := Aside0.mk (HG2.out.set2 hr1 hg1).1; clear hr1 hg1))
          go_roundg gq
          case measure => omega
          case rel => exact ⟨i + 1, secs, L1, by first | rfl | (simp; done) | (simp [hw]; done), ⟨by have := HK.out; omega⟩, ⟨by have := HI2.out; omega⟩, ⟨by rw [hL1.out]; exact HF2.out⟩, ⟨by rw [hL1.out, List.length_append, HLN.out]; rfl⟩, ⟨by have := HLS.out; omega⟩, ⟨⟨_, _, HN.out⟩⟩⟩
        · have hy0 := (HRG.out.1 y0 (by simp [fieldsL]))
          obtain ⟨Y, rfl⟩ := Int.eq_ofNat_of_zero_le hy0.1
          have HY0 : Aside0 ((Y : Int) < 4294967296) := ⟨hy0.2⟩
          clear hy0
          have hk : y1 = 1 ∨ y1 = 8 := (Classical.em (y1 = 1)).imp id (fun h => Classical.byContradiction fun h2 => ck ⟨h, h2⟩)
          have k5 : (y1 != 1 && y1 != 8) = false := by rcases hk with rfl | rfl <;> rfl
          have HKK := Aside0.mk hk
          have hst2 := HST.out
          rw [secR_in _ _ _ _ ck] at hst2
          have HST2 := Aside0.mk hst2
          have HQB : Aside0 ((wr.alloc (.cells #[.int .u32 (Y : Int), .int .u32 y1, .int .u32 y2, .int .u32 y3, .int .u32 y4, .int .u32 y5, .int .u32 y6, .int .u32 y7, .int .u32 y8, .int .u32 y9] 47)).heap[wr.heap.size]? = some (.cells (rowC ⟨(Y : Int), y1, y2, y3, y4, y5, y6, y7, y8, y9⟩) 47 (0, 0))) := HQB0
          clear ck HST hst2 HQB0
          rcases hk with rfl | rfl
          · go_wp2_with (first | ((with_reducible refine gate_builtin (b := .append) (xs := #[.tmp 29, .tmp 32]) rfl ?_); at_builtin; refine ev_one (Kd.int .i64) rfl (.tmp 29) (.tmp 32) 71 3 (.int .i64 0) 8 rfl Try.underlying71 info3 rfl (by decide) (by decide) (.slice A5 nums.length c5) nums (secs.length : Int) [.int .i64 (secs.length : Int)] S2 rfl (by rw [hsz]; rfl) rfl HG2.out.r2 (by have := HLN.out; have := HI2.out; have := HRL.out; omega) ?_; intro L1 A6 c6 w6 hL1 hr1 hg1; have HN := Aside0.mk (HG2.out.set2 hr1 hg1); clear hr1 hg1))
            generalize wr.heap.size = q at *
            have HQB6 := Aside0.mk (HN.out.2.blk HQB.out HNS.out.2.1)
            have HNB6 := Aside0.mk (blk_below HNB.out HN.out.1.bl)
            have hs : w6.cell? ⟨p, 0, none⟩ = some (.int .u32 n0) ∧ w6.cell? ⟨p, 1, none⟩ = some (.int .u32 n1) ∧ w6.cell? ⟨p, 2, none⟩ = some (.int .u32 n2) ∧ w6.cell? ⟨p, 3, none⟩ = some (.int .u32 n3) ∧ w6.cell? ⟨p, 4, none⟩ = some (.int .u32 n4) ∧ w6.cell? ⟨p, 5, none⟩ = some (.int .u32 n5) ∧ w6.cell? ⟨p, 6, none⟩ = some (.int .u32 n6) ∧ w6.cell? ⟨p, 7, none⟩ = some (.int .u32 n7) ∧ w6.cell? ⟨p, 8, none⟩ = some (.int .u32 n8) ∧ w6.cell? ⟨p, 9, none⟩ = some (.int .u32 n9) ∧ w6.cell? ⟨q, 0, none⟩ = some (.int .u32 (Y : Int)) ∧ w6.cell? ⟨q, 1, none⟩ = some (.int .u32 1) ∧ w6.cell? ⟨q, 2, none⟩ = some (.int .u32 y2) ∧ w6.cell? ⟨q, 5, none⟩ = some (.int .u32 y5) ∧ w6.cell? ⟨q, 8, none⟩ = some (.int .u32 y8) := ⟨(blk_cell HNB6.out 0).trans rfl, (blk_cell HNB6.out 1).trans rfl, (blk_cell HNB6.out 2).trans rfl, (blk_cell HNB6.out 3).trans rfl, (blk_cell HNB6.out 4).trans rfl, (blk_cell HNB6.out 5).trans rfl, (blk_cell HNB6.out 6).trans rfl, (blk_cell HNB6.out 7).trans rfl, (blk_cell HNB6.out 8).trans rfl, (blk_cell HNB6.out 9).trans rfl, (blk_cell HQB6.out 0).trans rfl, (blk_cell HQB6.out 1).trans rfl, (blk_cell HQB6.out 2).trans rfl, (blk_cell HQB6.out 5).trans rfl, (blk_cell HQB6.out 8).trans rfl⟩
            have HRD6 := HRD0.out.below HN.out.1.bl.drew
            have HTC := fun (W : World) (h : Rd W g b rows) => text_calls HB.out HLB.out ⟨n0, n1, n2, n3, n4, n5, n6, n7, n8, n9⟩ HNM.out.1 HNM.out.2.1 HNM.out.2.2 Y HY0.out W h
            have HBD := Aside0.mk (Below.refl w6.heap.size w6).drew
            have HBZ := Aside0.mk (below_alloc (Below.refl w6.heap.size w6) (.cells #[.string ⟨#[]⟩, .int .u32 0, .int .u32 0, .int .u32 0, .int .u32 0, .slice none 0 0] 40)).drew
            have HR0 := HRD0.out.below (below_step HN.out.1.bl HBD.out)
            have HR1 := HRD0.out.below (below_step HN.out.1.bl HBZ.out)
            have HS : Aside0 (∀ w', Below w6.heap.size w6 w' → w'.cell? ⟨p, 0, none⟩ = some (.int .u32 n0) ∧ w'.cell? ⟨p, 1, none⟩ = some (.int .u32 n1) ∧ w'.cell? ⟨p, 2, none⟩ = some (.int .u32 n2) ∧ w'.cell? ⟨p, 3, none⟩ = some (.int .u32 n3) ∧ w'.cell? ⟨p, 4, none⟩ = some (.int .u32 n4) ∧ w'.cell? ⟨p, 5, none⟩ = some (.int .u32 n5) ∧ w'.cell? ⟨p, 6, none⟩ = some (.int .u32 n6) ∧ w'.cell? ⟨p, 7, none⟩ = some (.int .u32 n7) ∧ w'.cell? ⟨p, 8, none⟩ = some (.int .u32 n8) ∧ w'.cell? ⟨p, 9, none⟩ = some (.int .u32 n9) ∧ w'.cell? ⟨q, 0, none⟩ = some (.int .u32 (Y : Int)) ∧ w'.cell? ⟨q, 1, none⟩ = some (.int .u32 1) ∧ w'.cell? ⟨q, 2, none⟩ = some (.int .u32 y2) ∧ w'.cell? ⟨q, 5, none⟩ = some (.int .u32 y5) ∧ w'.cell? ⟨q, 8, none⟩ = some (.int .u32 y8)) := ⟨fun w' hb => keep15 (keepB hb) (keepB hb) hs⟩
            clear HRD6
            cases hT : textS b ⟨n0, n1, n2, n3, n4, n5, n6, n7, n8, n9⟩ (Y : Int) with
            | none =>
              have HTN : ∀ W, Rd W g b rows → Calls Try.prog 65 #[.pointer (some ⟨g, 0, none⟩), .agg #[.int .u32 n0, .int .u32 n1, .int .u32 n2, .int .u32 n3, .int .u32 n4, .int .u32 n5, .int .u32 n6, .int .u32 n7, .int .u32 n8, .int .u32 n9], .int .u32 (Y : Int)] W fun e w' => e = wrongE 5 ∧ Below W.heap.size W w' := fun W h => (HTC W h).mono (fun e w' hh => ⟨by have h1 := hh.1; unfold TxtR at h1; rw [hT] at h1; exact h1, hh.2⟩)
              have HT0 := Aside0.mk (HTN _ HR0)
              have HT1 := Aside0.mk (HTN _ HR1)
              have HNO : Aside0 (secsR b rows ⟨n0, n1, n2, n3, n4, n5, n6, n7, n8, n9⟩ = none) := ⟨by
                have h1 := HST2.out
                rw [hT] at h1
                unfold secsR
                exact foldO_dead h1⟩
              clear HTC HTN hT HST2 HQB6 HNB6 HQB HG2 HR0 HR1
              refine wp_region_held_drew (S := fun w' => w'.cell? ⟨p, 0, none⟩ = some (.int .u32 n0) ∧ w'.cell? ⟨p, 1, none⟩ = some (.int .u32 n1) ∧ w'.cell? ⟨p, 2, none⟩ = some (.int .u32 n2) ∧ w'.cell? ⟨p, 3, none⟩ = some (.int .u32 n3) ∧ w'.cell? ⟨p, 4, none⟩ = some (.int .u32 n4) ∧ w'.cell? ⟨p, 5, none⟩ = some (.int .u32 n5) ∧ w'.cell? ⟨p, 6, none⟩ = some (.int .u32 n6) ∧ w'.cell? ⟨p, 7, none⟩ = some (.int .u32 n7) ∧ w'.cell? ⟨p, 8, none⟩ = some (.int .u32 n8) ∧ w'.cell? ⟨p, 9, none⟩ = some (.int .u32 n9) ∧ w'.cell? ⟨q, 0, none⟩ = some (.int .u32 (Y : Int)) ∧ w'.cell? ⟨q, 1, none⟩ = some (.int .u32 1) ∧ w'.cell? ⟨q, 2, none⟩ = some (.int .u32 y2) ∧ w'.cell? ⟨q, 5, none⟩ = some (.int .u32 y5) ∧ w'.cell? ⟨q, 8, none⟩ = some (.int .u32 y8)) (by kernel_rfl) ?_ (fun hHeld => ?_)
              · exact HS.out _ HBD.out
              refine wpAnyH_take (i := 0) (v := ?_) rfl (by kernel_rfl) (by kernel_rfl) (by kernel_rfl) (fun _ _ _ h => h) (Or.inl ⟨by rfl, ?_⟩) (by assumption) ?_
              rotate_left
              · (intro w hSw; (try dsimp only at hSw); go_simp; (try with_reducible rfl))
              simp only [Act.put, List.setIfInBounds_toArray, List.set_cons_zero, List.set_cons_succ]
              refine wpAnyH_take (i := 1) (v := ?_) rfl (by kernel_rfl) (by kernel_rfl) (by kernel_rfl) (fun _ _ _ h => h) (Or.inl ⟨by rfl, ?_⟩) (by assumption) ?_
              rotate_left
              · (intro w hSw; (try dsimp only at hSw); go_simp; (try with_reducible rfl))
              simp only [Act.put, List.setIfInBounds_toArray, List.set_cons_zero, List.set_cons_succ]
              refine wpAnyH_take (i := 2) (v := ?_) rfl (by kernel_rfl) (by kernel_rfl) (by kernel_rfl) (fun _ _ _ h => h) (Or.inl ⟨by rfl, ?_⟩) (by assumption) ?_
              rotate_left
              · (intro w hSw; (try dsimp only at hSw); go_simp; (try with_reducible rfl))
              simp only [Act.put, List.setIfInBounds_toArray, List.set_cons_zero, List.set_cons_succ]
              refine wpAnyH_take (i := 3) (v := ?_) rfl (by kernel_rfl) (by kernel_rfl) (by kernel_rfl) (fun _ _ _ h => h) (Or.inl ⟨by rfl, ?_⟩) (by assumption) ?_
              rotate_left
              · (intro w hSw; (try dsimp only at hSw); go_simp; (try with_reducible rfl))
              simp only [Act.put, List.setIfInBounds_toArray, List.set_cons_zero, List.set_cons_succ]
              refine wpAnyH_take (i := 5) (v := ?_) rfl (by kernel_rfl) (by kernel_rfl) (by kernel_rfl) (fun _ _ _ h => h) (Or.inl ⟨by rfl, ?_⟩) (by assumption) ?_
              rotate_left
              · (intro w hSw; (try dsimp only at hSw); go_simp; (try with_reducible rfl))
              simp only [Act.put, List.setIfInBounds_toArray, List.set_cons_zero, List.set_cons_succ]
              refine wpAnyH_take (i := 6) (v := ?_) rfl (by kernel_rfl) (by kernel_rfl) (by kernel_rfl) (fun _ _ _ h => h) (Or.inl ⟨by rfl, ?_⟩) (by assumption) ?_
              rotate_left
              · (intro w hSw; (try dsimp only at hSw); go_simp; (try with_reducible rfl))
              simp only [Act.put, List.setIfInBounds_toArray, List.set_cons_zero, List.set_cons_succ]
              refine wpAnyH_take (i := 7) (v := ?_) rfl (by kernel_rfl) (by kernel_rfl) (by kernel_rfl) (fun _ _ _ h => h) (Or.inl ⟨by rfl, ?_⟩) (by assumption) ?_
              rotate_left
              · (intro w hSw; (try dsimp only at hSw); go_simp; (try with_reducible rfl))
              simp only [Act.put, List.setIfInBounds_toArray, List.set_cons_zero, List.set_cons_succ]
              refine wpAnyH_take (i := 8) (v := ?_) rfl (by kernel_rfl) (by kernel_rfl) (by kernel_rfl) (fun _ _ _ h => h) (Or.inl ⟨by rfl, ?_⟩) (by assumption) ?_
              rotate_left
              · (intro w hSw; (try dsimp only at hSw); go_simp; (try with_reducible rfl))
              simp only [Act.put, List.setIfInBounds_toArray, List.set_cons_zero, List.set_cons_succ]
              refine wpAnyH_take (i := 9) (v := ?_) rfl (by kernel_rfl) (by kernel_rfl) (by kernel_rfl) (fun _ _ _ h => h) (Or.inl ⟨by rfl, ?_⟩) (by assumption) ?_
              rotate_left
              · (intro w hSw; (try dsimp only at hSw); go_simp; (try with_reducible rfl))
              simp only [Act.put, List.setIfInBounds_toArray, List.set_cons_zero, List.set_cons_succ]
              refine wpAnyH_take (i := 10) (v := ?_) rfl (by kernel_rfl) (by kernel_rfl) (by kernel_rfl) (fun _ _ _ h => h) (Or.inl ⟨by rfl, ?_⟩) (by assumption) ?_
              rotate_left
              · (intro w hSw; (try dsimp only at hSw); go_simp; (try with_reducible rfl))
              simp only [Act.put, List.setIfInBounds_toArray, List.set_cons_zero, List.set_cons_succ]
              refine wpAnyH_take (i := 11) (v := ?_) rfl (by kernel_rfl) (by kernel_rfl) (by kernel_rfl) (fun _ _ _ h => h) (Or.inl ⟨by rfl, ?_⟩) (by assumption) ?_
              rotate_left
              · (intro w hSw; (try dsimp only at hSw); go_simp; (try with_reducible rfl))
              simp only [Act.put, List.setIfInBounds_toArray, List.set_cons_zero, List.set_cons_succ]
              refine wpAnyH_take (i := 12) (v := ?_) rfl (by kernel_rfl) (by kernel_rfl) (by kernel_rfl) (fun _ _ _ h => h) (Or.inl ⟨by rfl, ?_⟩) (by assumption) ?_
              rotate_left
              · (intro w hSw; (try dsimp only at hSw); go_simp; (try with_reducible rfl))
              simp only [Act.put, List.setIfInBounds_toArray, List.set_cons_zero, List.set_cons_succ]
              refine wpAnyH_ready (rs := [4, 14]) (by kernel_rfl) (by simp) ?_
              refine AllReadyH.cons rfl (fun K hK => ?_) ?_
              · go_simp
                refine HT0.out.mono ?_
                rintro e w' ⟨rfl, hb7⟩
                exact And.intro rfl (SecsRes.no HNO.out (below_step HAL.out (below_step HN.out.1.bl (below_step HBD.out hb7))))
              refine AllReadyH.cons rfl (fun K hK => ?_) ?_
              · go_simp
                refine hK.out _ _ ?_ (fun hHeld2 => ?_)
                · exact HS.out _ HBZ.out
                clear hK K
                try simp only [Act.put, List.setIfInBounds_toArray, List.set_cons_zero, List.set_cons_succ]
                refine wpAnyH_ready (rs := [4]) (by kernel_rfl) (by simp) ?_
                refine AllReadyH.cons rfl (fun K hK => ?_) ?_
                · go_simp
                  refine HT1.out.mono ?_
                  rintro e w' ⟨rfl, hb7⟩
                  exact And.intro rfl (SecsRes.no HNO.out (below_step HAL.out (below_step HN.out.1.bl (below_step HBZ.out hb7))))
                exact AllReadyH.nil
              exact AllReadyH.nil
            | some t =>
              have HTN : ∀ W, Rd W g b rows → Calls Try.prog 65 #[.pointer (some ⟨g, 0, none⟩), .agg #[.int .u32 n0, .int .u32 n1, .int .u32 n2, .int .u32 n3, .int .u32 n4, .int .u32 n5, .int .u32 n6, .int .u32 n7, .int .u32 n8, .int .u32 n9], .int .u32 (Y : Int)] W fun e w' => e = .returned (.string (strOfNums t)) ∧ Below W.heap.size W w' := fun W h => (HTC W h).mono (fun e w' hh => ⟨by have h1 := hh.1; unfold TxtR at h1; rw [hT] at h1; exact h1, hh.2⟩)
              have HT0 := Aside0.mk (HTN _ HR0)
              have HT1 := Aside0.mk (HTN _ HR1)
              have hst3 := HST2.out
              rw [hT, Option.bind_some] at hst3
              have HST3 := Aside0.mk hst3
              have HZB : Aside0 ((w6.alloc (.cells #[.string ⟨#[]⟩, .int .u32 0, .int .u32 0, .int .u32 0, .int .u32 0, .slice none 0 0] 40)).drew.heap[w6.heap.size]? = some (.cells #[.string ⟨#[]⟩, .int .u32 0, .int .u32 0, .int .u32 0, .int .u32 0, .slice none 0 0] 40 (0, 0))) := ⟨heap_alloc_new w6 _⟩
              have HTL := Aside0.mk (textS_len hT)
              clear HTC HTN hT HST2 hst3 HR0 HR1
              refine wp_region_held_drew (S := fun w' => w'.cell? ⟨p, 0, none⟩ = some (.int .u32 n0) ∧ w'.cell? ⟨p, 1, none⟩ = some (.int .u32 n1) ∧ w'.cell? ⟨p, 2, none⟩ = some (.int .u32 n2) ∧ w'.cell? ⟨p, 3, none⟩ = some (.int .u32 n3) ∧ w'.cell? ⟨p, 4, none⟩ = some (.int .u32 n4) ∧ w'.cell? ⟨p, 5, none⟩ = some (.int .u32 n5) ∧ w'.cell? ⟨p, 6, none⟩ = some (.int .u32 n6) ∧ w'.cell? ⟨p, 7, none⟩ = some (.int .u32 n7) ∧ w'.cell? ⟨p, 8, none⟩ = some (.int .u32 n8) ∧ w'.cell? ⟨p, 9, none⟩ = some (.int .u32 n9) ∧ w'.cell? ⟨q, 0, none⟩ = some (.int .u32 (Y : Int)) ∧ w'.cell? ⟨q, 1, none⟩ = some (.int .u32 1) ∧ w'.cell? ⟨q, 2, none⟩ = some (.int .u32 y2) ∧ w'.cell? ⟨q, 5, none⟩ = some (.int .u32 y5) ∧ w'.cell? ⟨q, 8, none⟩ = some (.int .u32 y8)) (by kernel_rfl) ?_ (fun hHeld => ?_)
              · exact HS.out _ HBD.out
              refine wpAnyH_take (i := 0) (v := ?_) rfl (by kernel_rfl) (by kernel_rfl) (by kernel_rfl) (fun _ _ _ h => h) (Or.inl ⟨by rfl, ?_⟩) (by assumption) ?_
              rotate_left
              · (intro w hSw; (try dsimp only at hSw); go_simp; (try with_reducible rfl))
              simp only [Act.put, List.setIfInBounds_toArray, List.set_cons_zero, List.set_cons_succ]
              refine wpAnyH_take (i := 1) (v := ?_) rfl (by kernel_rfl) (by kernel_rfl) (by kernel_rfl) (fun _ _ _ h => h) (Or.inl ⟨by rfl, ?_⟩) (by assumption) ?_
              rotate_left
              · (intro w hSw; (try dsimp only at hSw); go_simp; (try with_reducible rfl))
              simp only [Act.put, List.setIfInBounds_toArray, List.set_cons_zero, List.set_cons_succ]
              refine wpAnyH_take (i := 2) (v := ?_) rfl (by kernel_rfl) (by kernel_rfl) (by kernel_rfl) (fun _ _ _ h => h) (Or.inl ⟨by rfl, ?_⟩) (by assumption) ?_
              rotate_left
              · (intro w hSw; (try dsimp only at hSw); go_simp; (try with_reducible rfl))
              simp only [Act.put, List.setIfInBounds_toArray, List.set_cons_zero, List.set_cons_succ]
              refine wpAnyH_take (i := 3) (v := ?_) rfl (by kernel_rfl) (by kernel_rfl) (by kernel_rfl) (fun _ _ _ h => h) (Or.inl ⟨by rfl, ?_⟩) (by assumption) ?_
              rotate_left
              · (intro w hSw; (try dsimp only at hSw); go_simp; (try with_reducible rfl))
              simp only [Act.put, List.setIfInBounds_toArray, List.set_cons_zero, List.set_cons_succ]
              refine wpAnyH_take (i := 5) (v := ?_) rfl (by kernel_rfl) (by kernel_rfl) (by kernel_rfl) (fun _ _ _ h => h) (Or.inl ⟨by rfl, ?_⟩) (by assumption) ?_
              rotate_left
              · (intro w hSw; (try dsimp only at hSw); go_simp; (try with_reducible rfl))
              simp only [Act.put, List.setIfInBounds_toArray, List.set_cons_zero, List.set_cons_succ]
              refine wpAnyH_take (i := 6) (v := ?_) rfl (by kernel_rfl) (by kernel_rfl) (by kernel_rfl) (fun _ _ _ h => h) (Or.inl ⟨by rfl, ?_⟩) (by assumption) ?_
              rotate_left
              · (intro w hSw; (try dsimp only at hSw); go_simp; (try with_reducible rfl))
              simp only [Act.put, List.setIfInBounds_toArray, List.set_cons_zero, List.set_cons_succ]
              refine wpAnyH_take (i := 7) (v := ?_) rfl (by kernel_rfl) (by kernel_rfl) (by kernel_rfl) (fun _ _ _ h => h) (Or.inl ⟨by rfl, ?_⟩) (by assumption) ?_
              rotate_left
              · (intro w hSw; (try dsimp only at hSw); go_simp; (try with_reducible rfl))
              simp only [Act.put, List.setIfInBounds_toArray, List.set_cons_zero, List.set_cons_succ]
              refine wpAnyH_take (i := 8) (v := ?_) rfl (by kernel_rfl) (by kernel_rfl) (by kernel_rfl) (fun _ _ _ h => h) (Or.inl ⟨by rfl, ?_⟩) (by assumption) ?_
              rotate_left
              · (intro w hSw; (try dsimp only at hSw); go_simp; (try with_reducible rfl))
              simp only [Act.put, List.setIfInBounds_toArray, List.set_cons_zero, List.set_cons_succ]
              refine wpAnyH_take (i := 9) (v := ?_) rfl (by kernel_rfl) (by kernel_rfl) (by kernel_rfl) (fun _ _ _ h => h) (Or.inl ⟨by rfl, ?_⟩) (by assumption) ?_
              rotate_left
              · (intro w hSw; (try dsimp only at hSw); go_simp; (try with_reducible rfl))
              simp only [Act.put, List.setIfInBounds_toArray, List.set_cons_zero, List.set_cons_succ]
              refine wpAnyH_take (i := 10) (v := ?_) rfl (by kernel_rfl) (by kernel_rfl) (by kernel_rfl) (fun _ _ _ h => h) (Or.inl ⟨by rfl, ?_⟩) (by assumption) ?_
              rotate_left
              · (intro w hSw; (try dsimp only at hSw); go_simp; (try with_reducible rfl))
              simp only [Act.put, List.setIfInBounds_toArray, List.set_cons_zero, List.set_cons_succ]
              refine wpAnyH_take (i := 11) (v := ?_) rfl (by kernel_rfl) (by kernel_rfl) (by kernel_rfl) (fun _ _ _ h => h) (Or.inl ⟨by rfl, ?_⟩) (by assumption) ?_
              rotate_left
              · (intro w hSw; (try dsimp only at hSw); go_simp; (try with_reducible rfl))
              simp only [Act.put, List.setIfInBounds_toArray, List.set_cons_zero, List.set_cons_succ]
              refine wpAnyH_take (i := 12) (v := ?_) rfl (by kernel_rfl) (by kernel_rfl) (by kernel_rfl) (fun _ _ _ h => h) (Or.inl ⟨by rfl, ?_⟩) (by assumption) ?_
              rotate_left
              · (intro w hSw; (try dsimp only at hSw); go_simp; (try with_reducible rfl))
              simp only [Act.put, List.setIfInBounds_toArray, List.set_cons_zero, List.set_cons_succ]
              refine wpAnyH_ready (rs := [4, 14]) (by kernel_rfl) (by simp) ?_
              refine AllReadyH.cons rfl (fun K hK => ?_) ?_
              · go_simp
                refine HT0.out.mono ?_
                rintro e w7 ⟨rfl, hb7⟩
                have hb67 := below_step HBD.out hb7
                refine hK.out _ _ ?_ (fun hHeld2 => ?_)
                · exact HS.out _ hb67
                clear hK K
                try simp only [Act.put, List.setIfInBounds_toArray, List.set_cons_zero, List.set_cons_succ]
                refine wpAnyH_take (i := 13) (v := ?_) rfl (by kernel_rfl) (by kernel_rfl) (by kernel_rfl) (fun _ _ _ h => h) (Or.inl ⟨by rfl, ?_⟩) (by assumption) ?_
                rotate_left
                · (intro w hSw; (try dsimp only at hSw); go_simp; (try with_reducible rfl))
                simp only [Act.put, List.setIfInBounds_toArray, List.set_cons_zero, List.set_cons_succ]
                refine wpAnyH_ready (rs := [14]) (by kernel_rfl) (by simp) ?_
                refine AllReadyH.cons rfl (fun K hK => ?_) ?_
                · go_simp
                  refine hK.out _ _ ?_ (fun hHeld3 => ?_)
                  · exact HS.out _ (below_alloc hb67 _)
                  clear hK K
                  try simp only [Act.put, List.setIfInBounds_toArray, List.set_cons_zero, List.set_cons_succ]
                  refine wpAnyH_ready (rs := [15]) (by kernel_rfl) (by simp) ?_
                  refine AllReadyH.cons rfl (fun K hK => ?_) ?_
                  · go_simp
                    refine hK.out _ _ (HS.out _ (below_alloc hb67 _)) (fun hHeld4 => ?_)
                    clear hK K
                    try simp only [Act.put, List.setIfInBounds_toArray, List.set_cons_zero, List.set_cons_succ]
                    refine wpAnyH_done (by kernel_rfl) ?_ _
                    have HX8 := Aside0.mk (heap_alloc_new w7 (.cells #[.string (strOfNums t), .int .u32 1, .int .u32 y2, .int .u32 y8, .int .u32 y5, .slice none 0 0] 40))
                    have HB8 := Aside0.mk (below_alloc hb67 (.cells #[.string (strOfNums t), .int .u32 1, .int .u32 y2, .int .u32 y8, .int .u32 y5, .slice none 0 0] 40))
                    have HL8 := Aside0.mk hb67.size
                    clear hHeld hHeld2 hHeld3 hHeld4 HT0 HT1 HS hs
                    generalize (w7.alloc (.cells #[.string (strOfNums t), .int .u32 1, .int .u32 y2, .int .u32 y8, .int .u32 y5, .slice none 0 0] 40)) = w8 at *
                    generalize w7.heap.size = r at *
                    have HQ8 := Aside0.mk (blk_below HQB6.out HB8.out)
                    have HR8 := HRD0.out.below (below_step HN.out.1.bl HB8.out)
                    have hin := HRG.out
                    have h4 := hin.1 y4 (by simp [fieldsL])
                    have h5 := hin.1 y5 (by simp [fieldsL])
                    have h45 : y4 + y5 ≤ (b.length : Int) := by
                      have h0 := hin.2
                      rcases h0 with h | h | h
                      · cases h
                      · cases h
                      · exact h
                    have HRP := Aside0.mk (rpart_calls (by have := HLB.out; omega) ⟨(Y : Int), 1, y2, y3, y4, y5, y6, y7, y8, y9⟩ h4.1 h5.1 h45 w8 HR8)
                    have HPL : Aside0 ((partB b ⟨(Y : Int), 1, y2, y3, y4, y5, y6, y7, y8, y9⟩).length ≤ 65536) := ⟨by have := partB_len b ⟨(Y : Int), 1, y2, y3, y4, y5, y6, y7, y8, y9⟩ h4.1 h5.1 h45; have := HLB.out; simp only at *; omega⟩
                    have q0 : w8.cell? ⟨q, 0, none⟩ = some (.int .u32 (Y : Int)) := (blk_cell HQ8.out 0).trans rfl
                    have q1 : w8.cell? ⟨q, 1, none⟩ = some (.int .u32 1) := (blk_cell HQ8.out 1).trans rfl
                    have q2 : w8.cell? ⟨q, 2, none⟩ = some (.int .u32 y2) := (blk_cell HQ8.out 2).trans rfl
                    have q3 : w8.cell? ⟨q, 3, none⟩ = some (.int .u32 y3) := (blk_cell HQ8.out 3).trans rfl
                    have q4 : w8.cell? ⟨q, 4, none⟩ = some (.int .u32 y4) := (blk_cell HQ8.out 4).trans rfl
                    have q5 : w8.cell? ⟨q, 5, none⟩ = some (.int .u32 y5) := (blk_cell HQ8.out 5).trans rfl
                    have q6 : w8.cell? ⟨q, 6, none⟩ = some (.int .u32 y6) := (blk_cell HQ8.out 6).trans rfl
                    have q7 : w8.cell? ⟨q, 7, none⟩ = some (.int .u32 y7) := (blk_cell HQ8.out 7).trans rfl
                    have q8 : w8.cell? ⟨q, 8, none⟩ = some (.int .u32 y8) := (blk_cell HQ8.out 8).trans rfl
                    have q9 : w8.cell? ⟨q, 9, none⟩ = some (.int .u32 y9) := (blk_cell HQ8.out 9).trans rfl
                    clear hin h4 h5 h45 HR8
                    go_wp2_with fail
                    refine HRP.out.mono ?_
                    rintro e w9 ⟨A9, c9, rfl, hC9, hc9, hb9⟩
                    have HCL := Aside0.mk (clone_calls A9 c9 _ w9 hC9 hc9 (by have := HPL.out; omega))
                    have HX9 := Aside0.mk (blk_below HX8.out hb9)
                    have HQ9 := Aside0.mk (blk_below HQ8.out hb9)
                    have HB9 := Aside0.mk (below_step HB8.out hb9)
                    clear hC9 hc9 hb9 HRP q0 q1 q2 q3 q4 q5 q6 q7 q8 q9
                    go_wp2_with fail
                    refine HCL.out.mono ?_
                    rintro e w10 ⟨v10, rfl, hr10, hb10⟩
                    have hr10l := hr10
                    obtain ⟨A10, c10, rfl⟩ := Kd.R_slice hr10
                    have HX10 := Aside0.mk (blk_below HX9.out hb10)
                    have HQ10 := Aside0.mk (blk_below HQ9.out hb10)
                    have HB10 := Aside0.mk (below_step HB9.out hb10)
                    have hrl : r < w9.heap.size := blk_lt HX9.out
                    have hql : q < w6.heap.size := blk_lt HQB6.out
                    have hqr : ¬ q = r := by have := HL8.out; omega
                    have hrq : ¬ r = q := fun h => hqr h.symm
                    have d5 : w10.cell? ⟨r, 5, none⟩ = some (.slice none 0 0) := (blk_cell HX10.out 5).trans rfl
                    have f5 := blk_frozen HX10.out 5
                    have HCLB : AllBytes (partB b ⟨(Y : Int), 1, y2, y3, y4, y5, y6, y7, y8, y9⟩) := partB_bytes HB.out _
                    have HSR := Aside0.mk (show SecRg ⟨strOfNums t, 1, y2, y8, y5, partB b ⟨(Y : Int), 1, y2, y3, y4, y5, y6, y7, y8, y9⟩⟩ from ⟨HTL.out, ⟨show (0 : Int) ≤ 1 by decide, show (1 : Int) < 4294967296 by decide⟩, HRG.out.1 y2 (by simp [fieldsL]), HRG.out.1 y8 (by simp [fieldsL]), HRG.out.1 y5 (by simp [fieldsL]), HCLB, by have := HPL.out; simp only at *; omega⟩)
                    have hst4 := HST3.out
                    simp only [if_true] at hst4
                    have HST5 := Aside0.mk hst4
                    clear hst4
                    generalize partB b ⟨(Y : Int), 1, y2, y3, y4, y5, y6, y7, y8, y9⟩ = PB at *
                    have HX11 : Aside0 ((w10.setCell ⟨r, 5, none⟩ (.slice A10 PB.length c10)).heap[r]? = some (.cells #[.string (strOfNums t), .int .u32 1, .int .u32 y2, .int .u32 y8, .int .u32 y5, .slice A10 PB.length c10] 40 (0, 0))) := ⟨blk_put HX10.out 5 _ rfl⟩
                    have HB11 := Aside0.mk (HB10.out.setCell (p := ⟨r, 5, none⟩) HL8.out (.slice A10 PB.length c10))
                    have HV11 := Aside0.mk (Kd.R_far hr10l (p := ⟨r, 5, none⟩) (fun k hk e => Nat.lt_irrefl _ (Nat.lt_of_lt_of_le hrl (by rw [← show k = r from e]; exact hk.1))) (.slice A10 PB.length c10))
                    have HTT : Aside0 (∀ k, (w9.heap.size ≤ k ∧ k < w10.heap.size) → w6.heap.size ≤ k) := ⟨fun k hk => Nat.le_trans HB9.out.size hk.1⟩
                    have HC11 := Aside0.mk (Kd.R_reads' HV11.out).2
                    have q3 : w10.cell? ⟨q, 3, none⟩ = some (.int .u32 y3) := (blk_cell HQ10.out 3).trans rfl
                    have d0 : w10.cell? ⟨r, 0, none⟩ = some (.string (strOfNums t)) := (blk_cell HX10.out 0).trans rfl
                    have d1 : w10.cell? ⟨r, 1, none⟩ = some (.int .u32 1) := (blk_cell HX10.out 1).trans rfl
                    have d2 : w10.cell? ⟨r, 2, none⟩ = some (.int .u32 y2) := (blk_cell HX10.out 2).trans rfl
                    have d3 : w10.cell? ⟨r, 3, none⟩ = some (.int .u32 y8) := (blk_cell HX10.out 3).trans rfl
                    have d4 : w10.cell? ⟨r, 4, none⟩ = some (.int .u32 y5) := (blk_cell HX10.out 4).trans rfl
                    clear HX10 HQ10 HB10 HX9 HQ9 HB9 HX8 HQ8 HB8 HCL hr10 hb10
                    by_cases c3 : y3 = 0
                    · subst c3
                      go_wp2_with fail
                      generalize (w10.setCell ⟨r, 5, none⟩ (.slice A10 PB.length c10)) = w11 at *
                      refine (section_calls ⟨strOfNums t, 1, y2, y8, y5, PB⟩ HSR.out A10 c10 _ HC11.out.2 HC11.out.1).mono ?_
                      rintro e w12 ⟨rb, rfl, hrb, hb12⟩
                      have HX12 := Aside0.mk (blk_below HX11.out hb12)
                      have HB12 := Aside0.mk (below_step HB11.out hb12)
                      have HV12 := Aside0.mk (Kd.R_below HV11.out hb12)
                      clear d0 d1 d2 d3 d4 q3 HX11 HB11 HV11 HC11 d5 f5
                      cases rb with
                      | false =>
                        have HNO : Aside0 (secsR b rows ⟨n0, n1, n2, n3, n4, n5, n6, n7, n8, n9⟩ = none) := ⟨by
                          have h := HST5.out
                          rw [if_neg (fun hh => absurd (hrb.2 hh.2) (by decide))] at h
                          unfold secsR
                          exact foldO_dead h⟩
                        go_wp2_with fail
                        refine (want_no 5 _).mono ?_
                        rintro e w' ⟨rfl, rfl⟩
                        exact And.intro rfl (SecsRes.no HNO.out (below_step HAL.out (below_step HN.out.1.bl HB12.out)))
                      | true =>
                        have HF4 : Aside0 (foldO (secR b ⟨n0, n1, n2, n3, n4, n5, n6, n7, n8, n9⟩) ([], []) (rows.take (i + 1)) = some (secs ++ [⟨strOfNums t, 1, y2, y8, y5, PB⟩], nums ++ [(secs.length : Int)])) := ⟨by have h := HST5.out; rw [if_pos ⟨by trivial, hrb.1 rfl⟩] at h; exact h⟩
                        have HG12 := Aside0.mk (HN.out.1.below HB12.out)
                        have e0 : w12.cell? ⟨r, 0, none⟩ = some (.string (strOfNums t)) := (blk_cell HX12.out 0).trans rfl
                        have e1 : w12.cell? ⟨r, 1, none⟩ = some (.int .u32 1) := (blk_cell HX12.out 1).trans rfl
                        have e2 : w12.cell? ⟨r, 2, none⟩ = some (.int .u32 y2) := (blk_cell HX12.out 2).trans rfl
                        have e3 : w12.cell? ⟨r, 3, none⟩ = some (.int .u32 y8) := (blk_cell HX12.out 3).trans rfl
                        have e4 : w12.cell? ⟨r, 4, none⟩ = some (.int .u32 y5) := (blk_cell HX12.out 4).trans rfl
                        have e5 : w12.cell? ⟨r, 5, none⟩ = some (.slice A10 PB.length c10) := (blk_cell HX12.out 5).trans rfl
                        go_wp2_with fail
                        refine (want_yes 5 _).mono ?_
                        rintro e w' ⟨rfl, rfl⟩
                        clear hrb hb12 HX12 HB12
                        go_wp2_with (first | ((with_reducible refine gate_builtin (b := .append) (xs := #[.tmp 64, .tmp 66]) rfl ?_); at_builtin; refine ev_rows k40 rfl (.tmp 64) (.tmp 66) 22 40 _ 56 rfl Try.underlying22 info40 rfl (by decide) (by decide) (.slice A4 secs.length c4) secs ⟨strOfNums t, 1, y2, y8, y5, PB⟩ [.string (strOfNums t), .int .u32 1, .int .u32 y2, .int .u32 y8, .int .u32 y5, .slice A10 PB.length c10] S (fun k => w9.heap.size ≤ k ∧ k < w10.heap.size) rfl rfl (k40_mkM _ _ _ _ HV12.out) (fun k hk hs => absurd (HN.out.1.q k hs).2 (Nat.not_lt.2 (HTT.out k hk))) HG12.out.r (by have := HLS.out; have := HI2.out; have := HRL.out; omega) ?_; intro L3 A13 c13 w13 hL3 hr3 hg3; have HM := Aside0.mk (HG12.out.set1 (fun k hk => ⟨Nat.le_trans HN.out.1.bl.size (HTT.out k hk), fun h => absurd (HN.out.1.q2 k h).2 (Nat.not_lt.2 (HTT.out k hk))⟩) hr3 hg3); clear hr3 hg3))
                        go_roundg gq
                        case measure => omega
                        case rel => exact ⟨i + 1, L3, L1, by first | rfl | (simp; done) | (simp [hw]; done), ⟨by have := HK.out; omega⟩, ⟨by have := HI2.out; omega⟩, ⟨by rw [hL1.out, hL3.out]; exact HF4.out⟩, ⟨by rw [hL1.out, List.length_append, HLN.out]; rfl⟩, ⟨by rw [hL3.out, List.length_append]; have := HLS.out; simp; omega⟩, ⟨⟨_, _, HM.out.1⟩⟩⟩
                    · have k3 : (y3 == 0) = false := by simpa using c3
                      have HNO : Aside0 (secsR b rows ⟨n0, n1, n2, n3, n4, n5, n6, n7, n8, n9⟩ = none) := ⟨by
                        have h := HST5.out
                        rw [if_neg (fun hh => c3 hh.1)] at h
                        unfold secsR
                        exact foldO_dead h⟩
                      go_wp2_with fail
                      refine (want_no 5 _).mono ?_
                      rintro e w' ⟨rfl, rfl⟩
                      exact And.intro rfl (SecsRes.no HNO.out (below_step HAL.out (below_step HN.out.1.bl HB11.out)))
                  exact AllReadyH.nil
                exact AllReadyH.nil
              refine AllReadyH.cons rfl (fun K hK => ?_) ?_
              · go_simp
                refine hK.out _ _ ?_ (fun hHeld2 => ?_)
                · exact HS.out _ HBZ.out
                clear hK K
                try simp only [Act.put, List.setIfInBounds_toArray, List.set_cons_zero, List.set_cons_succ]
                refine wpAnyH_ready (rs := [4]) (by kernel_rfl) (by simp) ?_
                refine AllReadyH.cons rfl (fun K hK => ?_) ?_
                · go_simp
                  refine HT1.out.mono ?_
                  rintro e w7 ⟨rfl, hb7⟩
                  have hb67 := below_step HBZ.out hb7
                  have hz7 := blk_below HZB.out hb7
                  obtain ⟨⟨z0, f0⟩, ⟨z1, f1⟩, ⟨z2, f2⟩, ⟨z3, f3⟩, ⟨z4, f4⟩, z5, f5⟩ := six_cells hz7
                  refine hK.out _ _ ?_ (fun hHeld3 => ?_)
                  · exact HS.out _ hb67
                  clear hK K
                  try simp only [Act.put, List.setIfInBounds_toArray, List.set_cons_zero, List.set_cons_succ]
                  refine wpAnyH_take (i := 13) (v := ?_) rfl (by kernel_rfl) (by kernel_rfl) (by kernel_rfl) (fun _ _ _ h => h) (Or.inl ⟨by rfl, ?_⟩) (by assumption) ?_
                  rotate_left
                  · (intro w hSw; (try dsimp only at hSw); go_simp; (try with_reducible rfl))
                  simp only [Act.put, List.setIfInBounds_toArray, List.set_cons_zero, List.set_cons_succ]
                  refine wpAnyH_ready (rs := [15]) (by kernel_rfl) (by simp) ?_
                  refine AllReadyH.cons rfl (fun K hK => ?_) ?_
                  · go_simp
                    refine hK.out _ _ (HS.out _ (setc6 hb67 (Nat.le_refl _))) (fun hHeld4 => ?_)
                    clear hK K
                    try simp only [Act.put, List.setIfInBounds_toArray, List.set_cons_zero, List.set_cons_succ]
                    refine wpAnyH_done (by kernel_rfl) ?_ _
                    have HX8 := Aside0.mk (set6 (u0 := .string (strOfNums t)) (u1 := .int .u32 1) (u2 := .int .u32 y2) (u3 := .int .u32 y8) (u4 := .int .u32 y5) (u5 := .slice none 0 0) hz7)
                    have HB8 := Aside0.mk (setc6 (u0 := .string (strOfNums t)) (u1 := .int .u32 1) (u2 := .int .u32 y2) (u3 := .int .u32 y8) (u4 := .int .u32 y5) (u5 := .slice none 0 0) hb67 (Nat.le_refl _))
                    have HL8 := Aside0.mk (Nat.le_refl w6.heap.size)
                    clear hHeld hHeld2 hHeld3 hHeld4 HT0 HT1 HS hs z0 z1 z2 z3 z4 z5 f0 f1 f2 f3 f4 f5 hz7
                    generalize ((((((w7.setCell ⟨w6.heap.size, 0, none⟩ (.string (strOfNums t))).setCell ⟨w6.heap.size, 1, none⟩ (.int .u32 1)).setCell ⟨w6.heap.size, 2, none⟩ (.int .u32 y2)).setCell ⟨w6.heap.size, 3, none⟩ (.int .u32 y8)).setCell ⟨w6.heap.size, 4, none⟩ (.int .u32 y5)).setCell ⟨w6.heap.size, 5, none⟩ (.slice none 0 0)) = w8 at *
                    obtain ⟨r, hr⟩ : ∃ r, r = w6.heap.size := ⟨_, rfl⟩
                    rw [← hr] at HX8 ⊢
                    replace HL8 : Aside0 (w6.heap.size ≤ r) := ⟨by rw [hr]; exact Nat.le_refl _⟩
                    clear hr
                    have HQ8 := Aside0.mk (blk_below HQB6.out HB8.out)
                    have HR8 := HRD0.out.below (below_step HN.out.1.bl HB8.out)
                    have hin := HRG.out
                    have h4 := hin.1 y4 (by simp [fieldsL])
                    have h5 := hin.1 y5 (by simp [fieldsL])
                    have h45 : y4 + y5 ≤ (b.length : Int) := by
                      have h0 := hin.2
                      rcases h0 with h | h | h
                      · cases h
                      · cases h
                      · exact h
                    have HRP := Aside0.mk (rpart_calls (by have := HLB.out; omega) ⟨(Y : Int), 1, y2, y3, y4, y5, y6, y7, y8, y9⟩ h4.1 h5.1 h45 w8 HR8)
                    have HPL : Aside0 ((partB b ⟨(Y : Int), 1, y2, y3, y4, y5, y6, y7, y8, y9⟩).length ≤ 65536) := ⟨by have := partB_len b ⟨(Y : Int), 1, y2, y3, y4, y5, y6, y7, y8, y9⟩ h4.1 h5.1 h45; have := HLB.out; simp only at *; omega⟩
                    have q0 : w8.cell? ⟨q, 0, none⟩ = some (.int .u32 (Y : Int)) := (blk_cell HQ8.out 0).trans rfl
                    have q1 : w8.cell? ⟨q, 1, none⟩ = some (.int .u32 1) := (blk_cell HQ8.out 1).trans rfl
                    have q2 : w8.cell? ⟨q, 2, none⟩ = some (.int .u32 y2) := (blk_cell HQ8.out 2).trans rfl
                    have q3 : w8.cell? ⟨q, 3, none⟩ = some (.int .u32 y3) := (blk_cell HQ8.out 3).trans rfl
                    have q4 : w8.cell? ⟨q, 4, none⟩ = some (.int .u32 y4) := (blk_cell HQ8.out 4).trans rfl
                    have q5 : w8.cell? ⟨q, 5, none⟩ = some (.int .u32 y5) := (blk_cell HQ8.out 5).trans rfl
                    have q6 : w8.cell? ⟨q, 6, none⟩ = some (.int .u32 y6) := (blk_cell HQ8.out 6).trans rfl
                    have q7 : w8.cell? ⟨q, 7, none⟩ = some (.int .u32 y7) := (blk_cell HQ8.out 7).trans rfl
                    have q8 : w8.cell? ⟨q, 8, none⟩ = some (.int .u32 y8) := (blk_cell HQ8.out 8).trans rfl
                    have q9 : w8.cell? ⟨q, 9, none⟩ = some (.int .u32 y9) := (blk_cell HQ8.out 9).trans rfl
                    clear hin h4 h5 h45 HR8
                    go_wp2_with fail
                    refine HRP.out.mono ?_
                    rintro e w9 ⟨A9, c9, rfl, hC9, hc9, hb9⟩
                    have HCL := Aside0.mk (clone_calls A9 c9 _ w9 hC9 hc9 (by have := HPL.out; omega))
                    have HX9 := Aside0.mk (blk_below HX8.out hb9)
                    have HQ9 := Aside0.mk (blk_below HQ8.out hb9)
                    have HB9 := Aside0.mk (below_step HB8.out hb9)
                    clear hC9 hc9 hb9 HRP q0 q1 q2 q3 q4 q5 q6 q7 q8 q9
                    go_wp2_with fail
                    refine HCL.out.mono ?_
                    rintro e w10 ⟨v10, rfl, hr10, hb10⟩
                    have hr10l := hr10
                    obtain ⟨A10, c10, rfl⟩ := Kd.R_slice hr10
                    have HX10 := Aside0.mk (blk_below HX9.out hb10)
                    have HQ10 := Aside0.mk (blk_below HQ9.out hb10)
                    have HB10 := Aside0.mk (below_step HB9.out hb10)
                    have hrl : r < w9.heap.size := blk_lt HX9.out
                    have hql : q < w6.heap.size := blk_lt HQB6.out
                    have hqr : ¬ q = r := by have := HL8.out; omega
                    have hrq : ¬ r = q := fun h => hqr h.symm
                    have d5 : w10.cell? ⟨r, 5, none⟩ = some (.slice none 0 0) := (blk_cell HX10.out 5).trans rfl
                    have f5 := blk_frozen HX10.out 5
                    have HCLB : AllBytes (partB b ⟨(Y : Int), 1, y2, y3, y4, y5, y6, y7, y8, y9⟩) := partB_bytes HB.out _
                    have HSR := Aside0.mk (show SecRg ⟨strOfNums t, 1, y2, y8, y5, partB b ⟨(Y : Int), 1, y2, y3, y4, y5, y6, y7, y8, y9⟩⟩ from ⟨HTL.out, ⟨show (0 : Int) ≤ 1 by decide, show (1 : Int) < 4294967296 by decide⟩, HRG.out.1 y2 (by simp [fieldsL]), HRG.out.1 y8 (by simp [fieldsL]), HRG.out.1 y5 (by simp [fieldsL]), HCLB, by have := HPL.out; simp only at *; omega⟩)
                    have hst4 := HST3.out
                    simp only [if_true] at hst4
                    have HST5 := Aside0.mk hst4
                    clear hst4
                    generalize partB b ⟨(Y : Int), 1, y2, y3, y4, y5, y6, y7, y8, y9⟩ = PB at *
                    have HX11 : Aside0 ((w10.setCell ⟨r, 5, none⟩ (.slice A10 PB.length c10)).heap[r]? = some (.cells #[.string (strOfNums t), .int .u32 1, .int .u32 y2, .int .u32 y8, .int .u32 y5, .slice A10 PB.length c10] 40 (0, 0))) := ⟨blk_put HX10.out 5 _ rfl⟩
                    have HB11 := Aside0.mk (HB10.out.setCell (p := ⟨r, 5, none⟩) HL8.out (.slice A10 PB.length c10))
                    have HV11 := Aside0.mk (Kd.R_far hr10l (p := ⟨r, 5, none⟩) (fun k hk e => Nat.lt_irrefl _ (Nat.lt_of_lt_of_le hrl (by rw [← show k = r from e]; exact hk.1))) (.slice A10 PB.length c10))
                    have HTT : Aside0 (∀ k, (w9.heap.size ≤ k ∧ k < w10.heap.size) → w6.heap.size ≤ k) := ⟨fun k hk => Nat.le_trans HB9.out.size hk.1⟩
                    have HC11 := Aside0.mk (Kd.R_reads' HV11.out).2
                    have q3 : w10.cell? ⟨q, 3, none⟩ = some (.int .u32 y3) := (blk_cell HQ10.out 3).trans rfl
                    have d0 : w10.cell? ⟨r, 0, none⟩ = some (.string (strOfNums t)) := (blk_cell HX10.out 0).trans rfl
                    have d1 : w10.cell? ⟨r, 1, none⟩ = some (.int .u32 1) := (blk_cell HX10.out 1).trans rfl
                    have d2 : w10.cell? ⟨r, 2, none⟩ = some (.int .u32 y2) := (blk_cell HX10.out 2).trans rfl
                    have d3 : w10.cell? ⟨r, 3, none⟩ = some (.int .u32 y8) := (blk_cell HX10.out 3).trans rfl
                    have d4 : w10.cell? ⟨r, 4, none⟩ = some (.int .u32 y5) := (blk_cell HX10.out 4).trans rfl
                    clear HX10 HQ10 HB10 HX9 HQ9 HB9 HX8 HQ8 HB8 HCL hr10 hb10
                    by_cases c3 : y3 = 0
                    · subst c3
                      go_wp2_with fail
                      generalize (w10.setCell ⟨r, 5, none⟩ (.slice A10 PB.length c10)) = w11 at *
                      refine (section_calls ⟨strOfNums t, 1, y2, y8, y5, PB⟩ HSR.out A10 c10 _ HC11.out.2 HC11.out.1).mono ?_
                      rintro e w12 ⟨rb, rfl, hrb, hb12⟩
                      have HX12 := Aside0.mk (blk_below HX11.out hb12)
                      have HB12 := Aside0.mk (below_step HB11.out hb12)
                      have HV12 := Aside0.mk (Kd.R_below HV11.out hb12)
                      clear d0 d1 d2 d3 d4 q3 HX11 HB11 HV11 HC11 d5 f5
                      cases rb with
                      | false =>
                        have HNO : Aside0 (secsR b rows ⟨n0, n1, n2, n3, n4, n5, n6, n7, n8, n9⟩ = none) := ⟨by
                          have h := HST5.out
                          rw [if_neg (fun hh => absurd (hrb.2 hh.2) (by decide))] at h
                          unfold secsR
                          exact foldO_dead h⟩
                        go_wp2_with fail
                        refine (want_no 5 _).mono ?_
                        rintro e w' ⟨rfl, rfl⟩
                        exact And.intro rfl (SecsRes.no HNO.out (below_step HAL.out (below_step HN.out.1.bl HB12.out)))
                      | true =>
                        have HF4 : Aside0 (foldO (secR b ⟨n0, n1, n2, n3, n4, n5, n6, n7, n8, n9⟩) ([], []) (rows.take (i + 1)) = some (secs ++ [⟨strOfNums t, 1, y2, y8, y5, PB⟩], nums ++ [(secs.length : Int)])) := ⟨by have h := HST5.out; rw [if_pos ⟨by trivial, hrb.1 rfl⟩] at h; exact h⟩
                        have HG12 := Aside0.mk (HN.out.1.below HB12.out)
                        have e0 : w12.cell? ⟨r, 0, none⟩ = some (.string (strOfNums t)) := (blk_cell HX12.out 0).trans rfl
                        have e1 : w12.cell? ⟨r, 1, none⟩ = some (.int .u32 1) := (blk_cell HX12.out 1).trans rfl
                        have e2 : w12.cell? ⟨r, 2, none⟩ = some (.int .u32 y2) := (blk_cell HX12.out 2).trans rfl
                        have e3 : w12.cell? ⟨r, 3, none⟩ = some (.int .u32 y8) := (blk_cell HX12.out 3).trans rfl
                        have e4 : w12.cell? ⟨r, 4, none⟩ = some (.int .u32 y5) := (blk_cell HX12.out 4).trans rfl
                        have e5 : w12.cell? ⟨r, 5, none⟩ = some (.slice A10 PB.length c10) := (blk_cell HX12.out 5).trans rfl
                        go_wp2_with fail
                        refine (want_yes 5 _).mono ?_
                        rintro e w' ⟨rfl, rfl⟩
                        clear hrb hb12 HX12 HB12
                        go_wp2_with (first | ((with_reducible refine gate_builtin (b := .append) (xs := #[.tmp 64, .tmp 66]) rfl ?_); at_builtin; refine ev_rows k40 rfl (.tmp 64) (.tmp 66) 22 40 _ 56 rfl Try.underlying22 info40 rfl (by decide) (by decide) (.slice A4 secs.length c4) secs ⟨strOfNums t, 1, y2, y8, y5, PB⟩ [.string (strOfNums t), .int .u32 1, .int .u32 y2, .int .u32 y8, .int .u32 y5, .slice A10 PB.length c10] S (fun k => w9.heap.size ≤ k ∧ k < w10.heap.size) rfl rfl (k40_mkM _ _ _ _ HV12.out) (fun k hk hs => absurd (HN.out.1.q k hs).2 (Nat.not_lt.2 (HTT.out k hk))) HG12.out.r (by have := HLS.out; have := HI2.out; have := HRL.out; omega) ?_; intro L3 A13 c13 w13 hL3 hr3 hg3; have HM := Aside0.mk (HG12.out.set1 (fun k hk => ⟨Nat.le_trans HN.out.1.bl.size (HTT.out k hk), fun h => absurd (HN.out.1.q2 k h).2 (Nat.not_lt.2 (HTT.out k hk))⟩) hr3 hg3); clear hr3 hg3))
                        go_roundg gq
                        case measure => omega
                        case rel => exact ⟨i + 1, L3, L1, by first | rfl | (simp; done) | (simp [hw]; done), ⟨by have := HK.out; omega⟩, ⟨by have := HI2.out; omega⟩, ⟨by rw [hL1.out, hL3.out]; exact HF4.out⟩, ⟨by rw [hL1.out, List.length_append, HLN.out]; rfl⟩, ⟨by rw [hL3.out, List.length_append]; have := HLS.out; simp; omega⟩, ⟨⟨_, _, HM.out.1⟩⟩⟩
                    · have k3 : (y3 == 0) = false := by simpa using c3
                      have HNO : Aside0 (secsR b rows ⟨n0, n1, n2, n3, n4, n5, n6, n7, n8, n9⟩ = none) := ⟨by
                        have h := HST5.out
                        rw [if_neg (fun hh => c3 hh.1)] at h
                        unfold secsR
                        exact foldO_dead h⟩
                      go_wp2_with fail
                      refine (want_no 5 _).mono ?_
                      rintro e w' ⟨rfl, rfl⟩
                      exact And.intro rfl (SecsRes.no HNO.out (below_step HAL.out (below_step HN.out.1.bl HB11.out)))
                  exact AllReadyH.nil
                exact AllReadyH.nil
              exact AllReadyH.nil
          · go_wp2_with (first | ((with_reducible refine gate_builtin (b := .append) (xs := #[.tmp 29, .tmp 32]) rfl ?_); at_builtin; refine ev_one (Kd.int .i64) rfl (.tmp 29) (.tmp 32) 71 3 (.int .i64 0) 8 rfl Try.underlying71 info3 rfl (by decide) (by decide) (.slice A5 nums.length c5) nums (secs.length : Int) [.int .i64 (secs.length : Int)] S2 rfl (by rw [hsz]; rfl) rfl HG2.out.r2 (by have := HLN.out; have := HI2.out; have := HRL.out; omega) ?_; intro L1 A6 c6 w6 hL1 hr1 hg1; have HN := Aside0.mk (HG2.out.set2 hr1 hg1); clear hr1 hg1))
            generalize wr.heap.size = q at *
            have HQB6 := Aside0.mk (HN.out.2.blk HQB.out HNS.out.2.1)
            have HNB6 := Aside0.mk (blk_below HNB.out HN.out.1.bl)
            have hs : w6.cell? ⟨p, 0, none⟩ = some (.int .u32 n0) ∧ w6.cell? ⟨p, 1, none⟩ = some (.int .u32 n1) ∧ w6.cell? ⟨p, 2, none⟩ = some (.int .u32 n2) ∧ w6.cell? ⟨p, 3, none⟩ = some (.int .u32 n3) ∧ w6.cell? ⟨p, 4, none⟩ = some (.int .u32 n4) ∧ w6.cell? ⟨p, 5, none⟩ = some (.int .u32 n5) ∧ w6.cell? ⟨p, 6, none⟩ = some (.int .u32 n6) ∧ w6.cell? ⟨p, 7, none⟩ = some (.int .u32 n7) ∧ w6.cell? ⟨p, 8, none⟩ = some (.int .u32 n8) ∧ w6.cell? ⟨p, 9, none⟩ = some (.int .u32 n9) ∧ w6.cell? ⟨q, 0, none⟩ = some (.int .u32 (Y : Int)) ∧ w6.cell? ⟨q, 1, none⟩ = some (.int .u32 8) ∧ w6.cell? ⟨q, 2, none⟩ = some (.int .u32 y2) ∧ w6.cell? ⟨q, 5, none⟩ = some (.int .u32 y5) ∧ w6.cell? ⟨q, 8, none⟩ = some (.int .u32 y8) := ⟨(blk_cell HNB6.out 0).trans rfl, (blk_cell HNB6.out 1).trans rfl, (blk_cell HNB6.out 2).trans rfl, (blk_cell HNB6.out 3).trans rfl, (blk_cell HNB6.out 4).trans rfl, (blk_cell HNB6.out 5).trans rfl, (blk_cell HNB6.out 6).trans rfl, (blk_cell HNB6.out 7).trans rfl, (blk_cell HNB6.out 8).trans rfl, (blk_cell HNB6.out 9).trans rfl, (blk_cell HQB6.out 0).trans rfl, (blk_cell HQB6.out 1).trans rfl, (blk_cell HQB6.out 2).trans rfl, (blk_cell HQB6.out 5).trans rfl, (blk_cell HQB6.out 8).trans rfl⟩
            have HRD6 := HRD0.out.below HN.out.1.bl.drew
            have HTC := fun (W : World) (h : Rd W g b rows) => text_calls HB.out HLB.out ⟨n0, n1, n2, n3, n4, n5, n6, n7, n8, n9⟩ HNM.out.1 HNM.out.2.1 HNM.out.2.2 Y HY0.out W h
            have HBD := Aside0.mk (Below.refl w6.heap.size w6).drew
            have HBZ := Aside0.mk (below_alloc (Below.refl w6.heap.size w6) (.cells #[.string ⟨#[]⟩, .int .u32 0, .int .u32 0, .int .u32 0, .int .u32 0, .slice none 0 0] 40)).drew
            have HR0 := HRD0.out.below (below_step HN.out.1.bl HBD.out)
            have HR1 := HRD0.out.below (below_step HN.out.1.bl HBZ.out)
            have HS : Aside0 (∀ w', Below w6.heap.size w6 w' → w'.cell? ⟨p, 0, none⟩ = some (.int .u32 n0) ∧ w'.cell? ⟨p, 1, none⟩ = some (.int .u32 n1) ∧ w'.cell? ⟨p, 2, none⟩ = some (.int .u32 n2) ∧ w'.cell? ⟨p, 3, none⟩ = some (.int .u32 n3) ∧ w'.cell? ⟨p, 4, none⟩ = some (.int .u32 n4) ∧ w'.cell? ⟨p, 5, none⟩ = some (.int .u32 n5) ∧ w'.cell? ⟨p, 6, none⟩ = some (.int .u32 n6) ∧ w'.cell? ⟨p, 7, none⟩ = some (.int .u32 n7) ∧ w'.cell? ⟨p, 8, none⟩ = some (.int .u32 n8) ∧ w'.cell? ⟨p, 9, none⟩ = some (.int .u32 n9) ∧ w'.cell? ⟨q, 0, none⟩ = some (.int .u32 (Y : Int)) ∧ w'.cell? ⟨q, 1, none⟩ = some (.int .u32 8) ∧ w'.cell? ⟨q, 2, none⟩ = some (.int .u32 y2) ∧ w'.cell? ⟨q, 5, none⟩ = some (.int .u32 y5) ∧ w'.cell? ⟨q, 8, none⟩ = some (.int .u32 y8)) := ⟨fun w' hb => keep15 (keepB hb) (keepB hb) hs⟩
            clear HRD6
            cases hT : textS b ⟨n0, n1, n2, n3, n4, n5, n6, n7, n8, n9⟩ (Y : Int) with
            | none =>
              have HTN : ∀ W, Rd W g b rows → Calls Try.prog 65 #[.pointer (some ⟨g, 0, none⟩), .agg #[.int .u32 n0, .int .u32 n1, .int .u32 n2, .int .u32 n3, .int .u32 n4, .int .u32 n5, .int .u32 n6, .int .u32 n7, .int .u32 n8, .int .u32 n9], .int .u32 (Y : Int)] W fun e w' => e = wrongE 5 ∧ Below W.heap.size W w' := fun W h => (HTC W h).mono (fun e w' hh => ⟨by have h1 := hh.1; unfold TxtR at h1; rw [hT] at h1; exact h1, hh.2⟩)
              have HT0 := Aside0.mk (HTN _ HR0)
              have HT1 := Aside0.mk (HTN _ HR1)
              have HNO : Aside0 (secsR b rows ⟨n0, n1, n2, n3, n4, n5, n6, n7, n8, n9⟩ = none) := ⟨by
                have h1 := HST2.out
                rw [hT] at h1
                unfold secsR
                exact foldO_dead h1⟩
              clear HTC HTN hT HST2 HQB6 HNB6 HQB HG2 HR0 HR1
              refine wp_region_held_drew (S := fun w' => w'.cell? ⟨p, 0, none⟩ = some (.int .u32 n0) ∧ w'.cell? ⟨p, 1, none⟩ = some (.int .u32 n1) ∧ w'.cell? ⟨p, 2, none⟩ = some (.int .u32 n2) ∧ w'.cell? ⟨p, 3, none⟩ = some (.int .u32 n3) ∧ w'.cell? ⟨p, 4, none⟩ = some (.int .u32 n4) ∧ w'.cell? ⟨p, 5, none⟩ = some (.int .u32 n5) ∧ w'.cell? ⟨p, 6, none⟩ = some (.int .u32 n6) ∧ w'.cell? ⟨p, 7, none⟩ = some (.int .u32 n7) ∧ w'.cell? ⟨p, 8, none⟩ = some (.int .u32 n8) ∧ w'.cell? ⟨p, 9, none⟩ = some (.int .u32 n9) ∧ w'.cell? ⟨q, 0, none⟩ = some (.int .u32 (Y : Int)) ∧ w'.cell? ⟨q, 1, none⟩ = some (.int .u32 8) ∧ w'.cell? ⟨q, 2, none⟩ = some (.int .u32 y2) ∧ w'.cell? ⟨q, 5, none⟩ = some (.int .u32 y5) ∧ w'.cell? ⟨q, 8, none⟩ = some (.int .u32 y8)) (by kernel_rfl) ?_ (fun hHeld => ?_)
              · exact HS.out _ HBD.out
              refine wpAnyH_take (i := 0) (v := ?_) rfl (by kernel_rfl) (by kernel_rfl) (by kernel_rfl) (fun _ _ _ h => h) (Or.inl ⟨by rfl, ?_⟩) (by assumption) ?_
              rotate_left
              · (intro w hSw; (try dsimp only at hSw); go_simp; (try with_reducible rfl))
              simp only [Act.put, List.setIfInBounds_toArray, List.set_cons_zero, List.set_cons_succ]
              refine wpAnyH_take (i := 1) (v := ?_) rfl (by kernel_rfl) (by kernel_rfl) (by kernel_rfl) (fun _ _ _ h => h) (Or.inl ⟨by rfl, ?_⟩) (by assumption) ?_
              rotate_left
              · (intro w hSw; (try dsimp only at hSw); go_simp; (try with_reducible rfl))
              simp only [Act.put, List.setIfInBounds_toArray, List.set_cons_zero, List.set_cons_succ]
              refine wpAnyH_take (i := 2) (v := ?_) rfl (by kernel_rfl) (by kernel_rfl) (by kernel_rfl) (fun _ _ _ h => h) (Or.inl ⟨by rfl, ?_⟩) (by assumption) ?_
              rotate_left
              · (intro w hSw; (try dsimp only at hSw); go_simp; (try with_reducible rfl))
              simp only [Act.put, List.setIfInBounds_toArray, List.set_cons_zero, List.set_cons_succ]
              refine wpAnyH_take (i := 3) (v := ?_) rfl (by kernel_rfl) (by kernel_rfl) (by kernel_rfl) (fun _ _ _ h => h) (Or.inl ⟨by rfl, ?_⟩) (by assumption) ?_
              rotate_left
              · (intro w hSw; (try dsimp only at hSw); go_simp; (try with_reducible rfl))
              simp only [Act.put, List.setIfInBounds_toArray, List.set_cons_zero, List.set_cons_succ]
              refine wpAnyH_take (i := 5) (v := ?_) rfl (by kernel_rfl) (by kernel_rfl) (by kernel_rfl) (fun _ _ _ h => h) (Or.inl ⟨by rfl, ?_⟩) (by assumption) ?_
              rotate_left
              · (intro w hSw; (try dsimp only at hSw); go_simp; (try with_reducible rfl))
              simp only [Act.put, List.setIfInBounds_toArray, List.set_cons_zero, List.set_cons_succ]
              refine wpAnyH_take (i := 6) (v := ?_) rfl (by kernel_rfl) (by kernel_rfl) (by kernel_rfl) (fun _ _ _ h => h) (Or.inl ⟨by rfl, ?_⟩) (by assumption) ?_
              rotate_left
              · (intro w hSw; (try dsimp only at hSw); go_simp; (try with_reducible rfl))
              simp only [Act.put, List.setIfInBounds_toArray, List.set_cons_zero, List.set_cons_succ]
              refine wpAnyH_take (i := 7) (v := ?_) rfl (by kernel_rfl) (by kernel_rfl) (by kernel_rfl) (fun _ _ _ h => h) (Or.inl ⟨by rfl, ?_⟩) (by assumption) ?_
              rotate_left
              · (intro w hSw; (try dsimp only at hSw); go_simp; (try with_reducible rfl))
              simp only [Act.put, List.setIfInBounds_toArray, List.set_cons_zero, List.set_cons_succ]
              refine wpAnyH_take (i := 8) (v := ?_) rfl (by kernel_rfl) (by kernel_rfl) (by kernel_rfl) (fun _ _ _ h => h) (Or.inl ⟨by rfl, ?_⟩) (by assumption) ?_
              rotate_left
              · (intro w hSw; (try dsimp only at hSw); go_simp; (try with_reducible rfl))
              simp only [Act.put, List.setIfInBounds_toArray, List.set_cons_zero, List.set_cons_succ]
              refine wpAnyH_take (i := 9) (v := ?_) rfl (by kernel_rfl) (by kernel_rfl) (by kernel_rfl) (fun _ _ _ h => h) (Or.inl ⟨by rfl, ?_⟩) (by assumption) ?_
              rotate_left
              · (intro w hSw; (try dsimp only at hSw); go_simp; (try with_reducible rfl))
              simp only [Act.put, List.setIfInBounds_toArray, List.set_cons_zero, List.set_cons_succ]
              refine wpAnyH_take (i := 10) (v := ?_) rfl (by kernel_rfl) (by kernel_rfl) (by kernel_rfl) (fun _ _ _ h => h) (Or.inl ⟨by rfl, ?_⟩) (by assumption) ?_
              rotate_left
              · (intro w hSw; (try dsimp only at hSw); go_simp; (try with_reducible rfl))
              simp only [Act.put, List.setIfInBounds_toArray, List.set_cons_zero, List.set_cons_succ]
              refine wpAnyH_take (i := 11) (v := ?_) rfl (by kernel_rfl) (by kernel_rfl) (by kernel_rfl) (fun _ _ _ h => h) (Or.inl ⟨by rfl, ?_⟩) (by assumption) ?_
              rotate_left
              · (intro w hSw; (try dsimp only at hSw); go_simp; (try with_reducible rfl))
              simp only [Act.put, List.setIfInBounds_toArray, List.set_cons_zero, List.set_cons_succ]
              refine wpAnyH_take (i := 12) (v := ?_) rfl (by kernel_rfl) (by kernel_rfl) (by kernel_rfl) (fun _ _ _ h => h) (Or.inl ⟨by rfl, ?_⟩) (by assumption) ?_
              rotate_left
              · (intro w hSw; (try dsimp only at hSw); go_simp; (try with_reducible rfl))
              simp only [Act.put, List.setIfInBounds_toArray, List.set_cons_zero, List.set_cons_succ]
              refine wpAnyH_ready (rs := [4, 14]) (by kernel_rfl) (by simp) ?_
              refine AllReadyH.cons rfl (fun K hK => ?_) ?_
              · go_simp
                refine HT0.out.mono ?_
                rintro e w' ⟨rfl, hb7⟩
                exact And.intro rfl (SecsRes.no HNO.out (below_step HAL.out (below_step HN.out.1.bl (below_step HBD.out hb7))))
              refine AllReadyH.cons rfl (fun K hK => ?_) ?_
              · go_simp
                refine hK.out _ _ ?_ (fun hHeld2 => ?_)
                · exact HS.out _ HBZ.out
                clear hK K
                try simp only [Act.put, List.setIfInBounds_toArray, List.set_cons_zero, List.set_cons_succ]
                refine wpAnyH_ready (rs := [4]) (by kernel_rfl) (by simp) ?_
                refine AllReadyH.cons rfl (fun K hK => ?_) ?_
                · go_simp
                  refine HT1.out.mono ?_
                  rintro e w' ⟨rfl, hb7⟩
                  exact And.intro rfl (SecsRes.no HNO.out (below_step HAL.out (below_step HN.out.1.bl (below_step HBZ.out hb7))))
                exact AllReadyH.nil
              exact AllReadyH.nil
            | some t =>
              have HTN : ∀ W, Rd W g b rows → Calls Try.prog 65 #[.pointer (some ⟨g, 0, none⟩), .agg #[.int .u32 n0, .int .u32 n1, .int .u32 n2, .int .u32 n3, .int .u32 n4, .int .u32 n5, .int .u32 n6, .int .u32 n7, .int .u32 n8, .int .u32 n9], .int .u32 (Y : Int)] W fun e w' => e = .returned (.string (strOfNums t)) ∧ Below W.heap.size W w' := fun W h => (HTC W h).mono (fun e w' hh => ⟨by have h1 := hh.1; unfold TxtR at h1; rw [hT] at h1; exact h1, hh.2⟩)
              have HT0 := Aside0.mk (HTN _ HR0)
              have HT1 := Aside0.mk (HTN _ HR1)
              have hst3 := HST2.out
              rw [hT, Option.bind_some] at hst3
              have HST3 := Aside0.mk hst3
              have HZB : Aside0 ((w6.alloc (.cells #[.string ⟨#[]⟩, .int .u32 0, .int .u32 0, .int .u32 0, .int .u32 0, .slice none 0 0] 40)).drew.heap[w6.heap.size]? = some (.cells #[.string ⟨#[]⟩, .int .u32 0, .int .u32 0, .int .u32 0, .int .u32 0, .slice none 0 0] 40 (0, 0))) := ⟨heap_alloc_new w6 _⟩
              have HTL := Aside0.mk (textS_len hT)
              clear HTC HTN hT HST2 hst3 HR0 HR1
              refine wp_region_held_drew (S := fun w' => w'.cell? ⟨p, 0, none⟩ = some (.int .u32 n0) ∧ w'.cell? ⟨p, 1, none⟩ = some (.int .u32 n1) ∧ w'.cell? ⟨p, 2, none⟩ = some (.int .u32 n2) ∧ w'.cell? ⟨p, 3, none⟩ = some (.int .u32 n3) ∧ w'.cell? ⟨p, 4, none⟩ = some (.int .u32 n4) ∧ w'.cell? ⟨p, 5, none⟩ = some (.int .u32 n5) ∧ w'.cell? ⟨p, 6, none⟩ = some (.int .u32 n6) ∧ w'.cell? ⟨p, 7, none⟩ = some (.int .u32 n7) ∧ w'.cell? ⟨p, 8, none⟩ = some (.int .u32 n8) ∧ w'.cell? ⟨p, 9, none⟩ = some (.int .u32 n9) ∧ w'.cell? ⟨q, 0, none⟩ = some (.int .u32 (Y : Int)) ∧ w'.cell? ⟨q, 1, none⟩ = some (.int .u32 8) ∧ w'.cell? ⟨q, 2, none⟩ = some (.int .u32 y2) ∧ w'.cell? ⟨q, 5, none⟩ = some (.int .u32 y5) ∧ w'.cell? ⟨q, 8, none⟩ = some (.int .u32 y8)) (by kernel_rfl) ?_ (fun hHeld => ?_)
              · exact HS.out _ HBD.out
              refine wpAnyH_take (i := 0) (v := ?_) rfl (by kernel_rfl) (by kernel_rfl) (by kernel_rfl) (fun _ _ _ h => h) (Or.inl ⟨by rfl, ?_⟩) (by assumption) ?_
              rotate_left
              · (intro w hSw; (try dsimp only at hSw); go_simp; (try with_reducible rfl))
              simp only [Act.put, List.setIfInBounds_toArray, List.set_cons_zero, List.set_cons_succ]
              refine wpAnyH_take (i := 1) (v := ?_) rfl (by kernel_rfl) (by kernel_rfl) (by kernel_rfl) (fun _ _ _ h => h) (Or.inl ⟨by rfl, ?_⟩) (by assumption) ?_
              rotate_left
              · (intro w hSw; (try dsimp only at hSw); go_simp; (try with_reducible rfl))
              simp only [Act.put, List.setIfInBounds_toArray, List.set_cons_zero, List.set_cons_succ]
              refine wpAnyH_take (i := 2) (v := ?_) rfl (by kernel_rfl) (by kernel_rfl) (by kernel_rfl) (fun _ _ _ h => h) (Or.inl ⟨by rfl, ?_⟩) (by assumption) ?_
              rotate_left
              · (intro w hSw; (try dsimp only at hSw); go_simp; (try with_reducible rfl))
              simp only [Act.put, List.setIfInBounds_toArray, List.set_cons_zero, List.set_cons_succ]
              refine wpAnyH_take (i := 3) (v := ?_) rfl (by kernel_rfl) (by kernel_rfl) (by kernel_rfl) (fun _ _ _ h => h) (Or.inl ⟨by rfl, ?_⟩) (by assumption) ?_
              rotate_left
              · (intro w hSw; (try dsimp only at hSw); go_simp; (try with_reducible rfl))
              simp only [Act.put, List.setIfInBounds_toArray, List.set_cons_zero, List.set_cons_succ]
              refine wpAnyH_take (i := 5) (v := ?_) rfl (by kernel_rfl) (by kernel_rfl) (by kernel_rfl) (fun _ _ _ h => h) (Or.inl ⟨by rfl, ?_⟩) (by assumption) ?_
              rotate_left
              · (intro w hSw; (try dsimp only at hSw); go_simp; (try with_reducible rfl))
              simp only [Act.put, List.setIfInBounds_toArray, List.set_cons_zero, List.set_cons_succ]
              refine wpAnyH_take (i := 6) (v := ?_) rfl (by kernel_rfl) (by kernel_rfl) (by kernel_rfl) (fun _ _ _ h => h) (Or.inl ⟨by rfl, ?_⟩) (by assumption) ?_
              rotate_left
              · (intro w hSw; (try dsimp only at hSw); go_simp; (try with_reducible rfl))
              simp only [Act.put, List.setIfInBounds_toArray, List.set_cons_zero, List.set_cons_succ]
              refine wpAnyH_take (i := 7) (v := ?_) rfl (by kernel_rfl) (by kernel_rfl) (by kernel_rfl) (fun _ _ _ h => h) (Or.inl ⟨by rfl, ?_⟩) (by assumption) ?_
              rotate_left
              · (intro w hSw; (try dsimp only at hSw); go_simp; (try with_reducible rfl))
              simp only [Act.put, List.setIfInBounds_toArray, List.set_cons_zero, List.set_cons_succ]
              refine wpAnyH_take (i := 8) (v := ?_) rfl (by kernel_rfl) (by kernel_rfl) (by kernel_rfl) (fun _ _ _ h => h) (Or.inl ⟨by rfl, ?_⟩) (by assumption) ?_
              rotate_left
              · (intro w hSw; (try dsimp only at hSw); go_simp; (try with_reducible rfl))
              simp only [Act.put, List.setIfInBounds_toArray, List.set_cons_zero, List.set_cons_succ]
              refine wpAnyH_take (i := 9) (v := ?_) rfl (by kernel_rfl) (by kernel_rfl) (by kernel_rfl) (fun _ _ _ h => h) (Or.inl ⟨by rfl, ?_⟩) (by assumption) ?_
              rotate_left
              · (intro w hSw; (try dsimp only at hSw); go_simp; (try with_reducible rfl))
              simp only [Act.put, List.setIfInBounds_toArray, List.set_cons_zero, List.set_cons_succ]
              refine wpAnyH_take (i := 10) (v := ?_) rfl (by kernel_rfl) (by kernel_rfl) (by kernel_rfl) (fun _ _ _ h => h) (Or.inl ⟨by rfl, ?_⟩) (by assumption) ?_
              rotate_left
              · (intro w hSw; (try dsimp only at hSw); go_simp; (try with_reducible rfl))
              simp only [Act.put, List.setIfInBounds_toArray, List.set_cons_zero, List.set_cons_succ]
              refine wpAnyH_take (i := 11) (v := ?_) rfl (by kernel_rfl) (by kernel_rfl) (by kernel_rfl) (fun _ _ _ h => h) (Or.inl ⟨by rfl, ?_⟩) (by assumption) ?_
              rotate_left
              · (intro w hSw; (try dsimp only at hSw); go_simp; (try with_reducible rfl))
              simp only [Act.put, List.setIfInBounds_toArray, List.set_cons_zero, List.set_cons_succ]
              refine wpAnyH_take (i := 12) (v := ?_) rfl (by kernel_rfl) (by kernel_rfl) (by kernel_rfl) (fun _ _ _ h => h) (Or.inl ⟨by rfl, ?_⟩) (by assumption) ?_
              rotate_left
              · (intro w hSw; (try dsimp only at hSw); go_simp; (try with_reducible rfl))
              simp only [Act.put, List.setIfInBounds_toArray, List.set_cons_zero, List.set_cons_succ]
              refine wpAnyH_ready (rs := [4, 14]) (by kernel_rfl) (by simp) ?_
              refine AllReadyH.cons rfl (fun K hK => ?_) ?_
              · go_simp
                refine HT0.out.mono ?_
                rintro e w7 ⟨rfl, hb7⟩
                have hb67 := below_step HBD.out hb7
                refine hK.out _ _ ?_ (fun hHeld2 => ?_)
                · exact HS.out _ hb67
                clear hK K
                try simp only [Act.put, List.setIfInBounds_toArray, List.set_cons_zero, List.set_cons_succ]
                refine wpAnyH_take (i := 13) (v := ?_) rfl (by kernel_rfl) (by kernel_rfl) (by kernel_rfl) (fun _ _ _ h => h) (Or.inl ⟨by rfl, ?_⟩) (by assumption) ?_
                rotate_left
                · (intro w hSw; (try dsimp only at hSw); go_simp; (try with_reducible rfl))
                simp only [Act.put, List.setIfInBounds_toArray, List.set_cons_zero, List.set_cons_succ]
                refine wpAnyH_ready (rs := [14]) (by kernel_rfl) (by simp) ?_
                refine AllReadyH.cons rfl (fun K hK => ?_) ?_
                · go_simp
                  refine hK.out _ _ ?_ (fun hHeld3 => ?_)
                  · exact HS.out _ (below_alloc hb67 _)
                  clear hK K
                  try simp only [Act.put, List.setIfInBounds_toArray, List.set_cons_zero, List.set_cons_succ]
                  refine wpAnyH_ready (rs := [15]) (by kernel_rfl) (by simp) ?_
                  refine AllReadyH.cons rfl (fun K hK => ?_) ?_
                  · go_simp
                    refine hK.out _ _ (HS.out _ (below_alloc hb67 _)) (fun hHeld4 => ?_)
                    clear hK K
                    try simp only [Act.put, List.setIfInBounds_toArray, List.set_cons_zero, List.set_cons_succ]
                    refine wpAnyH_done (by kernel_rfl) ?_ _
                    have HX8 := Aside0.mk (heap_alloc_new w7 (.cells #[.string (strOfNums t), .int .u32 8, .int .u32 y2, .int .u32 y8, .int .u32 y5, .slice none 0 0] 40))
                    have HB8 := Aside0.mk (below_alloc hb67 (.cells #[.string (strOfNums t), .int .u32 8, .int .u32 y2, .int .u32 y8, .int .u32 y5, .slice none 0 0] 40))
                    have HL8 := Aside0.mk hb67.size
                    clear hHeld hHeld2 hHeld3 hHeld4 HT0 HT1 HS hs
                    generalize (w7.alloc (.cells #[.string (strOfNums t), .int .u32 8, .int .u32 y2, .int .u32 y8, .int .u32 y5, .slice none 0 0] 40)) = w8 at *
                    generalize w7.heap.size = r at *
                    have HQ8 := Aside0.mk (blk_below HQB6.out HB8.out)
                    have HR8 := HRD0.out.below (below_step HN.out.1.bl HB8.out)
                    have hql : q < w6.heap.size := blk_lt HQB6.out
                    have hqr : ¬ q = r := by have := HL8.out; omega
                    have hrq : ¬ r = q := fun h => hqr h.symm
                    have hst4 := HST3.out
                    simp only [show ((8 : Int) = 1) = False from eq_false (by decide), if_false] at hst4
                    have HST5 := Aside0.mk hst4
                    clear hst4
                    have HX11 := HX8
                    have HB11 := HB8
                    have HV11 : Aside0 (Kd.R (Kd.int .u8) 5 w8 0 (fun _ => False) (.slice none 0 0) []) := ⟨Kd.R_nil _ _ _ _ _⟩
                    have HTT : Aside0 (∀ k : Nat, False → w6.heap.size ≤ k) := ⟨fun k hk => hk.elim⟩
                    have HSR : Aside0 (SecRg ⟨strOfNums t, 8, y2, y8, y5, []⟩) := ⟨HTL.out, ⟨show (0 : Int) ≤ 8 by decide, show (8 : Int) < 4294967296 by decide⟩, HRG.out.1 y2 (by simp [fieldsL]), HRG.out.1 y8 (by simp [fieldsL]), HRG.out.1 y5 (by simp [fieldsL]), fun x hx => absurd hx (List.not_mem_nil), show (0 : Nat) < 9223372036854775808 by decide⟩
                    have HC11 := Aside0.mk (Kd.R_reads' HV11.out).2
                    have q3 : w8.cell? ⟨q, 3, none⟩ = some (.int .u32 y3) := (blk_cell HQ8.out 3).trans rfl
                    have q1 : w8.cell? ⟨q, 1, none⟩ = some (.int .u32 8) := (blk_cell HQ8.out 1).trans rfl
                    have d0 : w8.cell? ⟨r, 0, none⟩ = some (.string (strOfNums t)) := (blk_cell HX8.out 0).trans rfl
                    have d1 : w8.cell? ⟨r, 1, none⟩ = some (.int .u32 8) := (blk_cell HX8.out 1).trans rfl
                    have d2 : w8.cell? ⟨r, 2, none⟩ = some (.int .u32 y2) := (blk_cell HX8.out 2).trans rfl
                    have d3 : w8.cell? ⟨r, 3, none⟩ = some (.int .u32 y8) := (blk_cell HX8.out 3).trans rfl
                    have d4 : w8.cell? ⟨r, 4, none⟩ = some (.int .u32 y5) := (blk_cell HX8.out 4).trans rfl
                    have d5 : w8.cell? ⟨r, 5, none⟩ = some (.slice none 0 0) := (blk_cell HX8.out 5).trans rfl
                    clear HX8 HQ8 HB8 HRD0 HR8
                    by_cases c3 : y3 = 0
                    · subst c3
                      go_wp2_with fail
                      refine (section_calls ⟨strOfNums t, 8, y2, y8, y5, []⟩ HSR.out none 0 _ HC11.out.2 HC11.out.1).mono ?_
                      rintro e w12 ⟨rb, rfl, hrb, hb12⟩
                      have HX12 := Aside0.mk (blk_below HX11.out hb12)
                      have HB12 := Aside0.mk (below_step HB11.out hb12)
                      have HV12 := Aside0.mk (Kd.R_below HV11.out hb12)
                      clear d0 d1 d2 d3 d4 q3 HX11 HB11 HV11 HC11 d5 q1
                      cases rb with
                      | false =>
                        have HNO : Aside0 (secsR b rows ⟨n0, n1, n2, n3, n4, n5, n6, n7, n8, n9⟩ = none) := ⟨by
                          have h := HST5.out
                          rw [if_neg (fun hh => absurd (hrb.2 hh.2) (by decide))] at h
                          unfold secsR
                          exact foldO_dead h⟩
                        go_wp2_with fail
                        refine (want_no 5 _).mono ?_
                        rintro e w' ⟨rfl, rfl⟩
                        exact And.intro rfl (SecsRes.no HNO.out (below_step HAL.out (below_step HN.out.1.bl HB12.out)))
                      | true =>
                        have HF4 : Aside0 (foldO (secR b ⟨n0, n1, n2, n3, n4, n5, n6, n7, n8, n9⟩) ([], []) (rows.take (i + 1)) = some (secs ++ [⟨strOfNums t, 8, y2, y8, y5, []⟩], nums ++ [(secs.length : Int)])) := ⟨by have h := HST5.out; rw [if_pos ⟨by trivial, hrb.1 rfl⟩] at h; exact h⟩
                        have HG12 := Aside0.mk (HN.out.1.below HB12.out)
                        have e0 : w12.cell? ⟨r, 0, none⟩ = some (.string (strOfNums t)) := (blk_cell HX12.out 0).trans rfl
                        have e1 : w12.cell? ⟨r, 1, none⟩ = some (.int .u32 8) := (blk_cell HX12.out 1).trans rfl
                        have e2 : w12.cell? ⟨r, 2, none⟩ = some (.int .u32 y2) := (blk_cell HX12.out 2).trans rfl
                        have e3 : w12.cell? ⟨r, 3, none⟩ = some (.int .u32 y8) := (blk_cell HX12.out 3).trans rfl
                        have e4 : w12.cell? ⟨r, 4, none⟩ = some (.int .u32 y5) := (blk_cell HX12.out 4).trans rfl
                        have e5 : w12.cell? ⟨r, 5, none⟩ = some (.slice none 0 0) := (blk_cell HX12.out 5).trans rfl
                        go_wp2_with fail
                        refine (want_yes 5 _).mono ?_
                        rintro e w' ⟨rfl, rfl⟩
                        clear hrb hb12 HX12 HB12
                        go_wp2_with (first | ((with_reducible refine gate_builtin (b := .append) (xs := #[.tmp 64, .tmp 66]) rfl ?_); at_builtin; refine ev_rows k40 rfl (.tmp 64) (.tmp 66) 22 40 _ 56 rfl Try.underlying22 info40 rfl (by decide) (by decide) (.slice A4 secs.length c4) secs ⟨strOfNums t, 8, y2, y8, y5, []⟩ [.string (strOfNums t), .int .u32 8, .int .u32 y2, .int .u32 y8, .int .u32 y5, .slice none 0 0] S (fun _ => False) rfl rfl (k40_mkM _ _ _ _ HV12.out) (fun k hk hs => absurd (HN.out.1.q k hs).2 (Nat.not_lt.2 (HTT.out k hk))) HG12.out.r (by have := HLS.out; have := HI2.out; have := HRL.out; omega) ?_; intro L3 A13 c13 w13 hL3 hr3 hg3; have HM := Aside0.mk (HG12.out.set1 (fun k hk => ⟨Nat.le_trans HN.out.1.bl.size (HTT.out k hk), fun h => absurd (HN.out.1.q2 k h).2 (Nat.not_lt.2 (HTT.out k hk))⟩) hr3 hg3); clear hr3 hg3))
                        go_roundg gq
                        case measure => omega
                        case rel => exact ⟨i + 1, L3, L1, by first | rfl | (simp; done) | (simp [hw]; done), ⟨by have := HK.out; omega⟩, ⟨by have := HI2.out; omega⟩, ⟨by rw [hL1.out, hL3.out]; exact HF4.out⟩, ⟨by rw [hL1.out, List.length_append, HLN.out]; rfl⟩, ⟨by rw [hL3.out, List.length_append]; have := HLS.out; simp; omega⟩, ⟨⟨_, _, HM.out.1⟩⟩⟩
                    · have k3 : (y3 == 0) = false := by simpa using c3
                      have HNO : Aside0 (secsR b rows ⟨n0, n1, n2, n3, n4, n5, n6, n7, n8, n9⟩ = none) := ⟨by
                        have h := HST5.out
                        rw [if_neg (fun hh => c3 hh.1)] at h
                        unfold secsR
                        exact foldO_dead h⟩
                      go_wp2_with fail
                      refine (want_no 5 _).mono ?_
                      rintro e w' ⟨rfl, rfl⟩
                      exact And.intro rfl (SecsRes.no HNO.out (below_step HAL.out (below_step HN.out.1.bl HB11.out)))
                  exact AllReadyH.nil
                exact AllReadyH.nil
              refine AllReadyH.cons rfl (fun K hK => ?_) ?_
              · go_simp
                refine hK.out _ _ ?_ (fun hHeld2 => ?_)
                · exact HS.out _ HBZ.out
                clear hK K
                try simp only [Act.put, List.setIfInBounds_toArray, List.set_cons_zero, List.set_cons_succ]
                refine wpAnyH_ready (rs := [4]) (by kernel_rfl) (by simp) ?_
                refine AllReadyH.cons rfl (fun K hK => ?_) ?_
                · go_simp
                  refine HT1.out.mono ?_
                  rintro e w7 ⟨rfl, hb7⟩
                  have hb67 := below_step HBZ.out hb7
                  have hz7 := blk_below HZB.out hb7
                  obtain ⟨⟨z0, f0⟩, ⟨z1, f1⟩, ⟨z2, f2⟩, ⟨z3, f3⟩, ⟨z4, f4⟩, z5, f5⟩ := six_cells hz7
                  refine hK.out _ _ ?_ (fun hHeld3 => ?_)
                  · exact HS.out _ hb67
                  clear hK K
                  try simp only [Act.put, List.setIfInBounds_toArray, List.set_cons_zero, List.set_cons_succ]
                  refine wpAnyH_take (i := 13) (v := ?_) rfl (by kernel_rfl) (by kernel_rfl) (by kernel_rfl) (fun _ _ _ h => h) (Or.inl ⟨by rfl, ?_⟩) (by assumption) ?_
                  rotate_left
                  · (intro w hSw; (try dsimp only at hSw); go_simp; (try with_reducible rfl))
                  simp only [Act.put, List.setIfInBounds_toArray, List.set_cons_zero, List.set_cons_succ]
                  refine wpAnyH_ready (rs := [15]) (by kernel_rfl) (by simp) ?_
                  refine AllReadyH.cons rfl (fun K hK => ?_) ?_
                  · go_simp
                    refine hK.out _ _ (HS.out _ (setc6 hb67 (Nat.le_refl _))) (fun hHeld4 => ?_)
                    clear hK K
                    try simp only [Act.put, List.setIfInBounds_toArray, List.set_cons_zero, List.set_cons_succ]
                    refine wpAnyH_done (by kernel_rfl) ?_ _
                    have HX8 := Aside0.mk (set6 (u0 := .string (strOfNums t)) (u1 := .int .u32 8) (u2 := .int .u32 y2) (u3 := .int .u32 y8) (u4 := .int .u32 y5) (u5 := .slice none 0 0) hz7)
                    have HB8 := Aside0.mk (setc6 (u0 := .string (strOfNums t)) (u1 := .int .u32 8) (u2 := .int .u32 y2) (u3 := .int .u32 y8) (u4 := .int .u32 y5) (u5 := .slice none 0 0) hb67 (Nat.le_refl _))
                    have HL8 := Aside0.mk (Nat.le_refl w6.heap.size)
                    clear hHeld hHeld2 hHeld3 hHeld4 HT0 HT1 HS hs z0 z1 z2 z3 z4 z5 f0 f1 f2 f3 f4 f5 hz7
                    generalize ((((((w7.setCell ⟨w6.heap.size, 0, none⟩ (.string (strOfNums t))).setCell ⟨w6.heap.size, 1, none⟩ (.int .u32 8)).setCell ⟨w6.heap.size, 2, none⟩ (.int .u32 y2)).setCell ⟨w6.heap.size, 3, none⟩ (.int .u32 y8)).setCell ⟨w6.heap.size, 4, none⟩ (.int .u32 y5)).setCell ⟨w6.heap.size, 5, none⟩ (.slice none 0 0)) = w8 at *
                    obtain ⟨r, hr⟩ : ∃ r, r = w6.heap.size := ⟨_, rfl⟩
                    rw [← hr] at HX8 ⊢
                    replace HL8 : Aside0 (w6.heap.size ≤ r) := ⟨by rw [hr]; exact Nat.le_refl _⟩
                    clear hr
                    have HQ8 := Aside0.mk (blk_below HQB6.out HB8.out)
                    have HR8 := HRD0.out.below (below_step HN.out.1.bl HB8.out)
                    have hql : q < w6.heap.size := blk_lt HQB6.out
                    have hqr : ¬ q = r := by have := HL8.out; omega
                    have hrq : ¬ r = q := fun h => hqr h.symm
                    have hst4 := HST3.out
                    simp only [show ((8 : Int) = 1) = False from eq_false (by decide), if_false] at hst4
                    have HST5 := Aside0.mk hst4
                    clear hst4
                    have HX11 := HX8
                    have HB11 := HB8
                    have HV11 : Aside0 (Kd.R (Kd.int .u8) 5 w8 0 (fun _ => False) (.slice none 0 0) []) := ⟨Kd.R_nil _ _ _ _ _⟩
                    have HTT : Aside0 (∀ k : Nat, False → w6.heap.size ≤ k) := ⟨fun k hk => hk.elim⟩
                    have HSR : Aside0 (SecRg ⟨strOfNums t, 8, y2, y8, y5, []⟩) := ⟨HTL.out, ⟨show (0 : Int) ≤ 8 by decide, show (8 : Int) < 4294967296 by decide⟩, HRG.out.1 y2 (by simp [fieldsL]), HRG.out.1 y8 (by simp [fieldsL]), HRG.out.1 y5 (by simp [fieldsL]), fun x hx => absurd hx (List.not_mem_nil), show (0 : Nat) < 9223372036854775808 by decide⟩
                    have HC11 := Aside0.mk (Kd.R_reads' HV11.out).2
                    have q3 : w8.cell? ⟨q, 3, none⟩ = some (.int .u32 y3) := (blk_cell HQ8.out 3).trans rfl
                    have q1 : w8.cell? ⟨q, 1, none⟩ = some (.int .u32 8) := (blk_cell HQ8.out 1).trans rfl
                    have d0 : w8.cell? ⟨r, 0, none⟩ = some (.string (strOfNums t)) := (blk_cell HX8.out 0).trans rfl
                    have d1 : w8.cell? ⟨r, 1, none⟩ = some (.int .u32 8) := (blk_cell HX8.out 1).trans rfl
                    have d2 : w8.cell? ⟨r, 2, none⟩ = some (.int .u32 y2) := (blk_cell HX8.out 2).trans rfl
                    have d3 : w8.cell? ⟨r, 3, none⟩ = some (.int .u32 y8) := (blk_cell HX8.out 3).trans rfl
                    have d4 : w8.cell? ⟨r, 4, none⟩ = some (.int .u32 y5) := (blk_cell HX8.out 4).trans rfl
                    have d5 : w8.cell? ⟨r, 5, none⟩ = some (.slice none 0 0) := (blk_cell HX8.out 5).trans rfl
                    clear HX8 HQ8 HB8 HRD0 HR8
                    by_cases c3 : y3 = 0
                    · subst c3
                      go_wp2_with fail
                      refine (section_calls ⟨strOfNums t, 8, y2, y8, y5, []⟩ HSR.out none 0 _ HC11.out.2 HC11.out.1).mono ?_
                      rintro e w12 ⟨rb, rfl, hrb, hb12⟩
                      have HX12 := Aside0.mk (blk_below HX11.out hb12)
                      have HB12 := Aside0.mk (below_step HB11.out hb12)
                      have HV12 := Aside0.mk (Kd.R_below HV11.out hb12)
                      clear d0 d1 d2 d3 d4 q3 HX11 HB11 HV11 HC11 d5 q1
                      cases rb with
                      | false =>
                        have HNO : Aside0 (secsR b rows ⟨n0, n1, n2, n3, n4, n5, n6, n7, n8, n9⟩ = none) := ⟨by
                          have h := HST5.out
                          rw [if_neg (fun hh => absurd (hrb.2 hh.2) (by decide))] at h
                          unfold secsR
                          exact foldO_dead h⟩
                        go_wp2_with fail
                        refine (want_no 5 _).mono ?_
                        rintro e w' ⟨rfl, rfl⟩
                        exact And.intro rfl (SecsRes.no HNO.out (below_step HAL.out (below_step HN.out.1.bl HB12.out)))
                      | true =>
                        have HF4 : Aside0 (foldO (secR b ⟨n0, n1, n2, n3, n4, n5, n6, n7, n8, n9⟩) ([], []) (rows.take (i + 1)) = some (secs ++ [⟨strOfNums t, 8, y2, y8, y5, []⟩], nums ++ [(secs.length : Int)])) := ⟨by have h := HST5.out; rw [if_pos ⟨by trivial, hrb.1 rfl⟩] at h; exact h⟩
                        have HG12 := Aside0.mk (HN.out.1.below HB12.out)
                        have e0 : w12.cell? ⟨r, 0, none⟩ = some (.string (strOfNums t)) := (blk_cell HX12.out 0).trans rfl
                        have e1 : w12.cell? ⟨r, 1, none⟩ = some (.int .u32 8) := (blk_cell HX12.out 1).trans rfl
                        have e2 : w12.cell? ⟨r, 2, none⟩ = some (.int .u32 y2) := (blk_cell HX12.out 2).trans rfl
                        have e3 : w12.cell? ⟨r, 3, none⟩ = some (.int .u32 y8) := (blk_cell HX12.out 3).trans rfl
                        have e4 : w12.cell? ⟨r, 4, none⟩ = some (.int .u32 y5) := (blk_cell HX12.out 4).trans rfl
                        have e5 : w12.cell? ⟨r, 5, none⟩ = some (.slice none 0 0) := (blk_cell HX12.out 5).trans rfl
                        go_wp2_with fail
                        refine (want_yes 5 _).mono ?_
                        rintro e w' ⟨rfl, rfl⟩
                        clear hrb hb12 HX12 HB12
                        go_wp2_with (first | ((with_reducible refine gate_builtin (b := .append) (xs := #[.tmp 64, .tmp 66]) rfl ?_); at_builtin; refine ev_rows k40 rfl (.tmp 64) (.tmp 66) 22 40 _ 56 rfl Try.underlying22 info40 rfl (by decide) (by decide) (.slice A4 secs.length c4) secs ⟨strOfNums t, 8, y2, y8, y5, []⟩ [.string (strOfNums t), .int .u32 8, .int .u32 y2, .int .u32 y8, .int .u32 y5, .slice none 0 0] S (fun _ => False) rfl rfl (k40_mkM _ _ _ _ HV12.out) (fun k hk hs => absurd (HN.out.1.q k hs).2 (Nat.not_lt.2 (HTT.out k hk))) HG12.out.r (by have := HLS.out; have := HI2.out; have := HRL.out; omega) ?_; intro L3 A13 c13 w13 hL3 hr3 hg3; have HM := Aside0.mk (HG12.out.set1 (fun k hk => ⟨Nat.le_trans HN.out.1.bl.size (HTT.out k hk), fun h => absurd (HN.out.1.q2 k h).2 (Nat.not_lt.2 (HTT.out k hk))⟩) hr3 hg3); clear hr3 hg3))
                        go_roundg gq
                        case measure => omega
                        case rel => exact ⟨i + 1, L3, L1, by first | rfl | (simp; done) | (simp [hw]; done), ⟨by have := HK.out; omega⟩, ⟨by have := HI2.out; omega⟩, ⟨by rw [hL1.out, hL3.out]; exact HF4.out⟩, ⟨by rw [hL1.out, List.length_append, HLN.out]; rfl⟩, ⟨by rw [hL3.out, List.length_append]; have := HLS.out; simp; omega⟩, ⟨⟨_, _, HM.out.1⟩⟩⟩
                    · have k3 : (y3 == 0) = false := by simpa using c3
                      have HNO : Aside0 (secsR b rows ⟨n0, n1, n2, n3, n4, n5, n6, n7, n8, n9⟩ = none) := ⟨by
                        have h := HST5.out
                        rw [if_neg (fun hh => c3 hh.1)] at h
                        unfold secsR
                        exact foldO_dead h⟩
                      go_wp2_with fail
                      refine (want_no 5 _).mono ?_
                      rintro e w' ⟨rfl, rfl⟩
                      exact And.intro rfl (SecsRes.no HNO.out (below_step HAL.out (below_step HN.out.1.bl HB11.out)))
                  exact AllReadyH.nil
                exact AllReadyH.nil
              exact AllReadyH.nil
    · obtain ⟨S, S2, hg⟩ := HG.out
      have hi : i = rows.length := by have := HI.out; omega
      have p1 : ((i : Int) < (rows.length : Int)) = False := eq_false (by omega)
      have p2 : (i < rows.length) = False := eq_false ci
      have HZ : Aside0 (secsR b rows ⟨n0, n1, n2, n3, n4, n5, n6, n7, n8, n9⟩ = some (secs, nums)) := ⟨by unfold secsR; have h := HF.out; rw [hi, List.take_length] at h; exact h⟩
      have HG2 := Aside0.mk hg
      clear ci HG hg HNB HCR HRD0 hi
      go_wp2_with fail
      go_ret2
      exact SecsRes.ok HZ.out (HG2.out.base HAL.out)
end Go.Proofs.Ytockojajbnnbpaa.E
namespace Go.Proofs.Ytockojajbnnbpaa.E
open Go.RowKit Go.Proofs.Ytockojajbnnbpaa.Q Go.Proofs.YtockojajbnnbpaaW.PrintWords Go.Proofs.YtockojajbnnbpaaW.PrintLast Go.Proofs.YtockojajbnnbpaaW.PrintMore
set_option linter.unusedVariables false
set_option linter.unusedSimpArgs false
def ixZ (rows : List S47) : Int := match rows.findIdx? (fun x => x.f1 == 2) with | none => -1 | some k => (k : Int)
theorem ixZ_some {rows : List S47} {i : Nat} {x : S47} (h : ∀ j, j < i → ∀ y, rows[j]? = some y → y.f1 ≠ 2) (hi : rows[i]? = some x) (hx : x.f1 = 2) : ixZ rows = (i : Int) := by
  have hl := (List.getElem?_eq_some_iff.1 hi).1
  have he := (List.getElem?_eq_some_iff.1 hi).2
  have : rows.findIdx? (fun x => x.f1 == 2) = some i := by
    rw [List.findIdx?_eq_some_iff_getElem]
    refine ⟨hl, by rw [he]; simpa using hx, fun j hj => ?_⟩
    have := h j hj _ (List.getElem?_eq_getElem (by omega))
    simpa using this
  unfold ixZ
  rw [this]
theorem ixZ_none {rows : List S47} (h : ∀ j, j < rows.length → ∀ y, rows[j]? = some y → y.f1 ≠ 2) : ixZ rows = -1 := by
  have : rows.findIdx? (fun x => x.f1 == 2) = none := by
    rw [List.findIdx?_eq_none_iff]
    intro x hx
    obtain ⟨j, hj, rfl⟩ := List.mem_iff_getElem.1 hx
    have := h j hj _ (List.getElem?_eq_getElem hj)
    simpa using this
  unfold ixZ
  rw [this]
set_option maxRecDepth 100000 in
set_option maxHeartbeats 4000000 in
theorem is2_calls69 (x0 x1 x2 x3 x4 x5 x6 x7 x8 x9 : Int) (w : World) :
    Calls Try.prog 69 #[.agg #[.int .u32 x0, .int .u32 x1, .int .u32 x2, .int .u32 x3, .int .u32 x4, .int .u32 x5, .int .u32 x6, .int .u32 x7, .int .u32 x8, .int .u32 x9]] w fun e w' => e = .returned (.bool (x1 == 2)) ∧ Below w.heap.size w w' := by
  have hu47 := Try.underlying47
  have hal := below_alloc (Below.refl w.heap.size w) (.cells #[.int .u32 x0, .int .u32 x1, .int .u32 x2, .int .u32 x3, .int .u32 x4, .int .u32 x5, .int .u32 x6, .int .u32 x7, .int .u32 x8, .int .u32 x9] 47)
  have HAL := Aside0.mk hal
  clear hal
  generalize hq : (x1 == 2) = q
  go_enter Try.func69, Try.ntmps69
  go_wp2
  go_ret
  exact ⟨by first | rfl | (rw [← hq]; done) | simp [hq], HAL.out⟩
set_option maxRecDepth 100000 in
set_option maxHeartbeats 4000000 in
theorem is2_calls71 (x0 x1 x2 x3 x4 x5 x6 x7 x8 x9 : Int) (w : World) :
    Calls Try.prog 71 #[.agg #[.int .u32 x0, .int .u32 x1, .int .u32 x2, .int .u32 x3, .int .u32 x4, .int .u32 x5, .int .u32 x6, .int .u32 x7, .int .u32 x8, .int .u32 x9]] w fun e w' => e = .returned (.bool (x1 == 2)) ∧ Below w.heap.size w w' := by
  have hu47 := Try.underlying47
  have hal := below_alloc (Below.refl w.heap.size w) (.cells #[.int .u32 x0, .int .u32 x1, .int .u32 x2, .int .u32 x3, .int .u32 x4, .int .u32 x5, .int .u32 x6, .int .u32 x7, .int .u32 x8, .int .u32 x9] 47)
  have HAL := Aside0.mk hal
  clear hal
  generalize hq : (x1 == 2) = q
  go_enter Try.func71, Try.ntmps71
  go_wp2
  go_ret
  exact ⟨by first | rfl | (rw [← hq]; done) | simp [hq], HAL.out⟩
set_option maxRecDepth 100000 in
set_option maxHeartbeats 8000000 in
theorem ixf_calls (g : Nat) (hg : ∀ (x0 x1 x2 x3 x4 x5 x6 x7 x8 x9 : Int) (w : World), Calls Try.prog g #[.agg #[.int .u32 x0, .int .u32 x1, .int .u32 x2, .int .u32 x3, .int .u32 x4, .int .u32 x5, .int .u32 x6, .int .u32 x7, .int .u32 x8, .int .u32 x9]] w fun e w' => e = .returned (.bool (x1 == 2)) ∧ Below w.heap.size w w')
    (eg : ∀ args w, (callFunc g args).run Try.prog w = .ok (.enter g args) w) (A : Option Addr) (c : Nat) (rows : List S47) (hl : rows.length ≤ 65536) (w : World) (h : Kd.C k47 w A rows.length rows) :
    Calls Try.prog 68 #[.slice A rows.length c, .func (.func g) #[] #[]] w fun e w' => e = .returned (.int .i64 (ixZ rows)) ∧ Below w.heap.size w w' := by
  have hu47 := Try.underlying47
  have HG := Aside0.mk hg
  have HL := Aside0.mk hl
  have HC := Aside0.mk h
  have HB0 := Aside0.mk (Below.refl w.heap.size w)
  clear hg h hl
  go_enter Try.func68, Try.ntmps68
  go_wp2_with fail
  go_loopg [8] (rows.length + 1) (fun kq v8 w' => ∃ (i : Nat), v8 = .int .i64 (i : Int) ∧ Aside0 (i + kq = rows.length + 1) ∧ Aside0 (i ≤ rows.length) ∧ Aside0 (∀ j, j < i → ∀ y, rows[j]? = some y → y.f1 ≠ 2) ∧ Aside0 (Below w.heap.size w w'))
  case atStart => exact ⟨0, rfl, ⟨by omega⟩, ⟨by omega⟩, ⟨fun j hj => absurd hj (Nat.not_lt_zero _)⟩, HB0⟩
  case round =>
    obtain ⟨i, rfl, HK, HI, HF, HB⟩ := hrel
    by_cases ci : i < rows.length
    · cases gk with
      | zero => exact absurd HK.out (by have := HI.out; omega)
      | succ gq =>
        have HI2 := Aside0.mk ci
        have p1 : ((i : Int) < (rows.length : Int)) = True := eq_true (by omega)
        have p2 : (i < rows.length) = True := eq_true ci
        have p3 : 0 ≤ (i : Int) := by omega
        have hw := w64s i (by have := HL.out; omega)
        obtain ⟨ad, ea, x0, x1, x2, x3, x4, x5, x6, x7, x8, x9⟩ := at_T47 (Kd.C_below HC.out HB.out) (i : Int) (by omega) (by omega)
        cases ea
        rw [Int.toNat_natCast] at x0 x1 x2 x3 x4 x5 x6 x7 x8 x9
        have hx := rd47_get rows i ci
        generalize rd_T47 rows (i : Int) = x at x0 x1 x2 x3 x4 x5 x6 x7 x8 x9 hx
        obtain ⟨y0, y1, y2, y3, y4, y5, y6, y7, y8, y9⟩ := x
        simp only at x0 x1 x2 x3 x4 x5 x6 x7 x8 x9
        have HX := Aside0.mk hx
        clear hx ci
        by_cases cy : y1 = 2
        · have q1 : (y1 == 2) = true := by simpa using cy
          have HZ := Aside0.mk (ixZ_some HF.out HX.out cy)
          clear cy
          go_wp2_with fail
          refine (HG.out y0 y1 y2 y3 y4 y5 y6 y7 y8 y9 _).mono ?_
          rintro e w2 ⟨rfl, hb2⟩
          rw [q1]
          have HB2 := Aside0.mk (below_step HB.out hb2)
          clear hb2
          go_wp2_with fail
          go_ret
          exact ⟨show Ending.returned (.int .i64 (i : Int)) = _ from by rw [HZ.out], HB2.out⟩
        · have q1 : (y1 == 2) = false := by simpa using cy
          have HF2 : Aside0 (∀ j, j < i + 1 → ∀ y, rows[j]? = some y → y.f1 ≠ 2) := ⟨fun j hj y hy => by
            rcases Nat.lt_succ_iff_lt_or_eq.1 hj with h | h
            · exact HF.out j h y hy
            · subst h
              rw [HX.out] at hy
              rw [← Option.some.inj hy]
              exact cy⟩
          clear cy
          go_wp2_with fail
          refine (HG.out y0 y1 y2 y3 y4 y5 y6 y7 y8 y9 _).mono ?_
          rintro e w2 ⟨rfl, hb2⟩
          rw [q1]
          have HB2 := Aside0.mk (below_step HB.out hb2)
          clear hb2
          go_wp2_with fail
          go_roundg gq
          case measure => omega
          case rel => exact ⟨i + 1, by first | rfl | (simp; done) | (simp [hw]; done), ⟨by have := HK.out; omega⟩, ⟨by have := HI2.out; omega⟩, HF2, HB2⟩
    · have p1 : ((i : Int) < (rows.length : Int)) = False := eq_false (by omega)
      have p2 : (i < rows.length) = False := eq_false ci
      have HZ := Aside0.mk (ixZ_none (rows := rows) (fun j hj => HF.out j (by have := HI.out; omega)))
      clear ci
      go_wp2_with fail
      go_ret
      exact ⟨show Ending.returned (.int .i64 (-1)) = _ from by rw [HZ.out], HB.out⟩
set_option maxRecDepth 100000 in
set_option maxHeartbeats 4000000 in
theorem ctf_calls (A : Option Addr) (c : Nat) (rows : List S47) (hl : rows.length ≤ 65536) (w : World) (h : Kd.C k47 w A rows.length rows) :
    Calls Try.prog 70 #[.slice A rows.length c, .func (.func 71) #[] #[]] w fun e w' => e = .returned (.bool (decide (0 ≤ ixZ rows))) ∧ Below w.heap.size w w' := by
  have HI := Aside0.mk (ixf_calls 71 is2_calls71 (fun args w => rfl) A c rows hl w h)
  generalize ixZ rows = z at *
  clear h
  go_enter Try.func70, Try.ntmps70
  go_wp2_with fail
  refine HI.out.mono ?_
  rintro e w2 ⟨rfl, hb⟩
  go_wp2_with fail
  go_ret
  exact ⟨by first | rfl | simp, hb⟩
end Go.Proofs.Ytockojajbnnbpaa.E
namespace Go.Proofs.Ytockojajbnnbpaa.E
open Go
set_option linter.unusedVariables false
section
variable {P : Program} {ops : Array Oper} {Q : Exit → Act → World → Prop} {I : Array Bool → Act → World → Prop}
def StepI (P : Program) (ops : Array Oper) (Q : Exit → Act → World → Prop) (I : Array Bool → Act → World → Prop) (i : Nat) : Prop :=
  ∀ L a w, L.size = ops.size → i ∈ Region.ready .any ops L → I L a w → wpOp P ops Q i (fun a' w' => I (L.setIfInBounds i true) a' w') a w
theorem StepI.mk {i : Nat} {o : Oper} (ho : ops[i]? = some o)
    (h : ∀ L a w, L.size = ops.size → L.getD i true = false → (o.after.all fun e => !Region.binds .any e || L.getD e.on false) = true → I L a w → ∀ K : Act → World → Prop, Shut (∀ a w, I (L.setIfInBounds i true) a w → K a w) → if Region.wanted o (yielded ops a.tmps) = true then Oper.wp P o a w K Q else K (a.put o.dst undef) w) : StepI P ops Q I i := by
  intro L a w hsz hr hI
  have hr2 := (List.mem_filter.1 hr).2
  rw [ho, Option.map_some, Option.getD_some, Bool.and_eq_true] at hr2
  exact wpOp_step ho (fun K hK => h L a w hsz (by simpa using hr2.1) hr2.2 hI K (fun a w hh => hK a w hh))
def unl (L : Array Bool) : Nat := (L.toList.filter (!·)).length
theorem filt_set : ∀ (l : List Bool) (i : Nat), l[i]? = some false → ((l.set i true).filter (!·)).length + 1 = (l.filter (!·)).length
  | [], i, h => by simp at h
  | x :: l, 0, h => by
    rw [List.getElem?_cons_zero] at h
    rw [Option.some.inj h]
    simp
  | x :: l, i + 1, h => by
    rw [List.getElem?_cons_succ] at h
    have := filt_set l i h
    rw [List.set_cons_succ]
    cases x
    · simp only [List.filter_cons, Bool.not_false, if_true, List.length_cons]; omega
    · simpa [List.filter_cons] using this
theorem unl_set {L : Array Bool} {i : Nat} (h : L.getD i true = false) : unl (L.setIfInBounds i true) + 1 = unl L := by
  unfold unl
  rw [Array.toList_setIfInBounds]
  refine filt_set _ _ ?_
  rw [Array.getElem?_toList]
  rw [Array.getD_eq_getD_getElem?] at h
  cases hh : L[i]? with
  | none => rw [hh] at h; cases h
  | some x => rw [hh] at h; rw [show x = false from h]
end
end Go.Proofs.Ytockojajbnnbpaa.E
namespace Go.Proofs.Ytockojajbnnbpaa.E
open Go
set_option linter.unusedVariables false
section
variable {P : Program} {ops : Array Oper} {Q : Exit → Act → World → Prop} {I : Array Bool → Act → World → Prop} {S : World → Prop}
theorem wpAnyH_inv (hS : ∀ L a w, I L a w → S w) (hs : ∀ i, i < ops.size → StepI P ops Q I i) (he : ∀ L a w, L.size = ops.size → Region.ready .any ops L = [] → I L a w → Q .normal a w) :
    ∀ (fuel : Nat) (L : Array Bool) (a : Act) (w : World), L.size = ops.size → unl L ≤ fuel → I L a w → wpAnyH P .any ops Q S fuel L a w
  | 0, L, a, w, hz, hu, hI => by
    have hr : Region.ready .any ops L = [] := by
      refine List.eq_nil_iff_forall_not_mem.2 fun i hi => ?_
      have h1 := (List.mem_filter.1 hi).2
      rw [Bool.and_eq_true] at h1
      have := unl_set (i := i) (L := L) (by simpa using h1.1)
      omega
    exact ⟨hr, he L a w hz hr hI⟩
  | fuel + 1, L, a, w, hz, hu, hI => by
    refine ⟨fun hr => he L a w hz hr hI, fun i hi => ?_⟩
    have h0 := List.mem_filter.1 hi
    have h1 := h0.2
    rw [Bool.and_eq_true] at h1
    have hl : L.getD i true = false := by simpa using h1.1
    have := unl_set hl
    exact wpOp_mono (fun a' w' h => ⟨hS _ _ _ h, wpAnyH_inv hS hs he fuel _ a' w' (by rw [Array.size_setIfInBounds]; exact hz) (by omega) h⟩) (hs i (List.mem_range.1 h0.1) L a w hz hi hI)
theorem StepI.old {i : Nat} (h : ∀ L a w, I L a w → L.getD i true = true) : StepI P ops Q I i := by
  intro L a w hz hr hI
  have h1 := (List.mem_filter.1 hr).2
  rw [Bool.and_eq_true, h L a w hI] at h1
  cases h1.1
theorem steps_of {n : Nat} (old new : List Nat) (hcov : (List.range n).all (fun i => old.contains i || new.contains i) = true) (ho : ∀ i ∈ old, ∀ L a w, I L a w → L.getD i true = true) (hn : ∀ i ∈ new, StepI P ops Q I i) : ∀ i, i < n → StepI P ops Q I i := by
  intro i hi
  have h := List.all_eq_true.1 hcov i (List.mem_range.2 hi)
  rw [Bool.or_eq_true] at h
  rcases h with h | h
  · exact StepI.old (ho i (by simpa using h))
  · exact hn i (by simpa using h)
theorem pre_of {A : Array Edge} {L : Array Bool} (hp : (A.all fun e => !Region.binds .any e || L.getD e.on false) = true) {k : Nat} {e : Edge} (hk : A[k]? = some e) (hb : Region.binds .any e = true) : L.getD e.on false = true := by
  have h := Array.all_eq_true.1 hp k (Array.getElem?_eq_some_iff.1 hk).1
  rw [(Array.getElem?_eq_some_iff.1 hk).2, hb] at h
  simpa using h
theorem not_ready {L : Array Bool} {i : Nat} {o : Oper} (hr : Region.ready .any ops L = []) (ho : ops[i]? = some o) (hall : (o.after.all fun e => !Region.binds .any e || L.getD e.on false) = true) : L.getD i true = true := by
  cases hl : L.getD i true with
  | true => rfl
  | false =>
    have : i ∈ Region.ready .any ops L := by
      refine List.mem_filter.2 ⟨List.mem_range.2 ?_, ?_⟩
      · exact (Array.getElem?_eq_some_iff.1 ho).1
      · rw [ho, hl, Option.map_some, Option.getD_some, hall]; rfl
    rw [hr] at this
    cases this
end
end Go.Proofs.Ytockojajbnnbpaa.E
namespace Go.Proofs.Ytockojajbnnbpaa.E
open Go.RowKit Go.Proofs.Ytockojajbnnbpaa.Q Go.Proofs.YtockojajbnnbpaaW.PrintWords Go.Proofs.YtockojajbnnbpaaW.PrintLast Go.Proofs.YtockojajbnnbpaaW.PrintMore
set_option linter.unusedVariables false
set_option linter.unusedSimpArgs false
set_option maxRecDepth 100000 in
set_option maxHeartbeats 4000000 in
theorem fld_calls (p : Nat) (A : Option Addr) (c : Nat) (e : List Int) (he : AllBytes e) (hl : e.length < 140737488355328) (at_ n : Nat) (hn : n = 2 ∨ n = 4) (ha : at_ + n ≤ e.length) (w : World)
    (hp : w.cell? ⟨p, 0, none⟩ = some (.slice A e.length c)) (hC : Kd.C (Kd.int .u8) w A e.length e) (hc : e.length ≤ c) :
    Calls Try.prog 91 #[.int .i64 (at_ : Int), .int .i64 (n : Int), .pointer (some ⟨p, 0, none⟩)] w fun x w' => x = .returned (.int .u32 (gw e at_ n)) ∧ Below w.heap.size w w' := by
  have hg := Get_calls A c e he hl (at_ : Int) (n : Int) w hC hc
  rw [getV_ok e at_ n hn ha] at hg
  have HR := Aside0.mk (gw_rg e he at_ n (by omega))
  have HG := Aside0.mk hg
  generalize gw e at_ n = v at *
  clear hg hC
  go_enter Try.func91, Try.ntmps91
  go_wp2_with fail
  refine HG.out.mono ?_
  rintro x w2 ⟨rfl, hb⟩
  have hm : v % 4294967296 = v := Int.emod_eq_of_lt HR.out.1 HR.out.2
  go_wp2_with fail
  go_ret
  exact ⟨by first | rfl | simp [hm], hb⟩
def SymR (b : List Int) (names : S47) (nums e : List Int) (en : Ending) : Prop :=
  match symR b names nums e with
  | none => en = wrongE 5
  | some y => en = .returned (symV y)
theorem alloc_size2 (w : World) (o : Obj) : (w.alloc o).heap.size = w.heap.size + 1 := Array.size_push ..
theorem three_alloc (w : World) (a b c : Obj) : (((w.alloc a).alloc b).alloc c).heap[w.heap.size]? = some a ∧ (((w.alloc a).alloc b).alloc c).heap[w.heap.size + 1]? = some b ∧ (((w.alloc a).alloc b).alloc c).heap[w.heap.size + 1 + 1]? = some c ∧ Below w.heap.size w (((w.alloc a).alloc b).alloc c) := by
  have h1 := heap_alloc_new w a
  have h2 := heap_alloc_new (w.alloc a) b
  have h3 := heap_alloc_new ((w.alloc a).alloc b) c
  have s1 := alloc_size2 w a
  have s2 := alloc_size2 (w.alloc a) b
  refine ⟨blk_below (blk_below h1 (below_alloc (Below.refl _ _) b)) (below_alloc (Below.refl _ _) c), ?_, ?_, ?_⟩
  · rw [← s1]; exact blk_below h2 (below_alloc (Below.refl _ _) c)
  · rw [← s1, ← s2]; exact h3
  · exact below_alloc (below_alloc (below_alloc (Below.refl _ _) a) b) c
theorem rd_mem (l : List Int) (i : Nat) (h : i < l.length) : rd l (i : Int) ∈ l := by
  rw [rd_at l (i : Int) (by omega) (by omega)]
  exact List.getElem_mem _
theorem shr4 (x : Int) (h : 0 ≤ x ∧ x ≤ 255) : shr .u8 x 4 = x / 16 := by
  rfl
theorem set7c {w W : World} {r : Nat} {u0 u1 u2 u3 u4 u5 u6 : Value} (h : Below w.heap.size w W) (hr : w.heap.size ≤ r) : Below w.heap.size w (((((((W.setCell ⟨r, 0, none⟩ u0).setCell ⟨r, 1, none⟩ u1).setCell ⟨r, 2, none⟩ u2).setCell ⟨r, 3, none⟩ u3).setCell ⟨r, 4, none⟩ u4).setCell ⟨r, 5, none⟩ u5).setCell ⟨r, 6, none⟩ u6) :=
  ((((((h.setCell hr u0).setCell hr u1).setCell hr u2).setCell hr u3).setCell hr u4).setCell hr u5).setCell hr u6
theorem set7 {W : World} {r t : Nat} {v0 v1 v2 v3 v4 v5 v6 u0 u1 u2 u3 u4 u5 u6 : Value} (h : W.heap[r]? = some (.cells #[v0, v1, v2, v3, v4, v5, v6] t (0, 0))) :
    (((((((W.setCell ⟨r, 0, none⟩ u0).setCell ⟨r, 1, none⟩ u1).setCell ⟨r, 2, none⟩ u2).setCell ⟨r, 3, none⟩ u3).setCell ⟨r, 4, none⟩ u4).setCell ⟨r, 5, none⟩ u5).setCell ⟨r, 6, none⟩ u6).heap[r]? = some (.cells #[u0, u1, u2, u3, u4, u5, u6] t (0, 0)) := by
  have h1 : (W.setCell ⟨r, 0, none⟩ u0).heap[r]? = some (.cells #[u0, v1, v2, v3, v4, v5, v6] t (0, 0)) := blk_put h 0 u0 rfl
  have h2 : ((W.setCell ⟨r, 0, none⟩ u0).setCell ⟨r, 1, none⟩ u1).heap[r]? = some (.cells #[u0, u1, v2, v3, v4, v5, v6] t (0, 0)) := blk_put h1 1 u1 rfl
  have h3 : (((W.setCell ⟨r, 0, none⟩ u0).setCell ⟨r, 1, none⟩ u1).setCell ⟨r, 2, none⟩ u2).heap[r]? = some (.cells #[u0, u1, u2, v3, v4, v5, v6] t (0, 0)) := blk_put h2 2 u2 rfl
  have h4 : ((((W.setCell ⟨r, 0, none⟩ u0).setCell ⟨r, 1, none⟩ u1).setCell ⟨r, 2, none⟩ u2).setCell ⟨r, 3, none⟩ u3).heap[r]? = some (.cells #[u0, u1, u2, u3, v4, v5, v6] t (0, 0)) := blk_put h3 3 u3 rfl
  have h5 : (((((W.setCell ⟨r, 0, none⟩ u0).setCell ⟨r, 1, none⟩ u1).setCell ⟨r, 2, none⟩ u2).setCell ⟨r, 3, none⟩ u3).setCell ⟨r, 4, none⟩ u4).heap[r]? = some (.cells #[u0, u1, u2, u3, u4, v5, v6] t (0, 0)) := blk_put h4 4 u4 rfl
  have h6 : ((((((W.setCell ⟨r, 0, none⟩ u0).setCell ⟨r, 1, none⟩ u1).setCell ⟨r, 2, none⟩ u2).setCell ⟨r, 3, none⟩ u3).setCell ⟨r, 4, none⟩ u4).setCell ⟨r, 5, none⟩ u5).heap[r]? = some (.cells #[u0, u1, u2, u3, u4, u5, v6] t (0, 0)) := blk_put h5 5 u5 rfl
  have h7 : (((((((W.setCell ⟨r, 0, none⟩ u0).setCell ⟨r, 1, none⟩ u1).setCell ⟨r, 2, none⟩ u2).setCell ⟨r, 3, none⟩ u3).setCell ⟨r, 4, none⟩ u4).setCell ⟨r, 5, none⟩ u5).setCell ⟨r, 6, none⟩ u6).heap[r]? = some (.cells #[u0, u1, u2, u3, u4, u5, u6] t (0, 0)) := blk_put h6 6 u6 rfl
  exact h7
theorem seven_cells {W : World} {r t : Nat} {v0 v1 v2 v3 v4 v5 v6 : Value} (h : W.heap[r]? = some (.cells #[v0, v1, v2, v3, v4, v5, v6] t (0, 0))) :
    (W.cell? ⟨r, 0, none⟩ = some v0 ∧ W.frozen? ⟨r, 0, none⟩ = false) ∧ (W.cell? ⟨r, 1, none⟩ = some v1 ∧ W.frozen? ⟨r, 1, none⟩ = false) ∧ (W.cell? ⟨r, 2, none⟩ = some v2 ∧ W.frozen? ⟨r, 2, none⟩ = false) ∧ (W.cell? ⟨r, 3, none⟩ = some v3 ∧ W.frozen? ⟨r, 3, none⟩ = false) ∧ (W.cell? ⟨r, 4, none⟩ = some v4 ∧ W.frozen? ⟨r, 4, none⟩ = false) ∧ (W.cell? ⟨r, 5, none⟩ = some v5 ∧ W.frozen? ⟨r, 5, none⟩ = false) ∧ W.cell? ⟨r, 6, none⟩ = some v6 ∧ W.frozen? ⟨r, 6, none⟩ = false :=
  ⟨⟨(blk_cell h 0).trans rfl, blk_frozen h 0⟩, ⟨(blk_cell h 1).trans rfl, blk_frozen h 1⟩, ⟨(blk_cell h 2).trans rfl, blk_frozen h 2⟩, ⟨(blk_cell h 3).trans rfl, blk_frozen h 3⟩, ⟨(blk_cell h 4).trans rfl, blk_frozen h 4⟩, ⟨(blk_cell h 5).trans rfl, blk_frozen h 5⟩, (blk_cell h 6).trans rfl, blk_frozen h 6⟩
set_option maxRecDepth 1000000 in
set_option maxHeartbeats 4000000 in
theorem and15n : ∀ n : Fin 256, Go.bits .and .u8 (n.val : Int) 15 = (n.val : Int) % 16 := by decide
theorem and15 (x : Int) (h : 0 ≤ x ∧ x ≤ 255) : Go.bits .and .u8 x 15 = x % 16 := by
  have := and15n ⟨x.toNat, by omega⟩
  simpa [Int.toNat_of_nonneg h.1] using this
def symT (g p : Nat) (ad : Addr) (e : List Int) (c cn : Nat) (An : Option Addr) (nl : Nat) (n0 n1 n2 n3 n4 n5 n6 n7 n8 n9 V29 : Int) (V33 : Bool) (T : List Int) (Y : Nat) (b3 b4 b6 b8 b21 b22 : Bool) (r : Nat) : Array Value := #[(.pointer (some ⟨g, 0, none⟩)), (.slice (some ad) e.length c), (.agg #[.int .u32 n0, .int .u32 n1, .int .u32 n2, .int .u32 n3, .int .u32 n4, .int .u32 n5, .int .u32 n6, .int .u32 n7, .int .u32 n8, .int .u32 n9]), (.slice An nl cn), undef, (.pointer (some ⟨p, 0, none⟩)), (.pointer (some ⟨p + 1, 0, none⟩)), undef, (.pointer (some ⟨p + 1 + 1, 0, none⟩)), (.func (.func 91) #[] #[.pointer (some ⟨p, 0, none⟩)]), (if b22 = true then .pointer (some ⟨r, 0, none⟩) else undef), undef, (.func (.func 91) #[] #[.pointer (some ⟨p, 0, none⟩)]), (.pointer (some ⟨g, 0, none⟩)), (.agg #[.int .u32 n0, .int .u32 n1, .int .u32 n2, .int .u32 n3, .int .u32 n4, .int .u32 n5, .int .u32 n6, .int .u32 n7, .int .u32 n8, .int .u32 n9]), (.func (.func 91) #[] #[.pointer (some ⟨p, 0, none⟩)]), (if b3 = true then .int .u32 (Y : Int) else undef), (if b4 = true then .string (strOfNums T) else undef), (.func (.func 91) #[] #[.pointer (some ⟨p, 0, none⟩)]), (if b6 = true then .int .u32 (gw e 4 4) else undef), (.func (.func 91) #[] #[.pointer (some ⟨p, 0, none⟩)]), (if b8 = true then .int .u32 (gw e 8 4) else undef), (.slice (some ad) e.length c), (.pointer (some ⟨ad.block, ad.off + 12, none⟩)), (.int .u8 (rd e 12)), (.int .u8 (rd e 12 / 16)), (.slice (some ad) e.length c), (.pointer (some ⟨ad.block, ad.off + 12, none⟩)), (.int .u8 (rd e 12)), (.int .u8 V29), (.slice (some ad) e.length c), (.pointer (some ⟨ad.block, ad.off + 13, none⟩)), (.int .u8 (rd e 13)), (.bool V33), (if b21 = true then (.agg #[.string (strOfNums T), .int .u32 (gw e 4 4), .int .u32 (gw e 8 4), .int .u8 (rd e 12 / 16), .int .u8 V29, .bool V33, .int .i64 0]) else undef), undef, undef, undef, undef, undef, undef, undef, undef, undef, undef, undef, undef, undef, undef, undef, undef, undef, undef, undef, undef, undef, undef, undef, undef, undef, undef, undef, undef, undef, undef, undef, undef, undef, undef, undef, undef, undef, undef, undef, undef, undef, undef, undef, undef, undef]
def symC (e : List Int) (V29 : Int) (V33 : Bool) (T : List Int) (b : Bool) : Array Value := if b = true then #[.string (strOfNums T), .int .u32 (gw e 4 4), .int .u32 (gw e 8 4), .int .u8 (rd e 12 / 16), .int .u8 V29, .bool V33, .int .i64 0] else #[.string ⟨#[]⟩, .int .u32 0, .int .u32 0, .int .u8 0, .int .u8 0, .bool false, .int .i64 0]
def symI (g p : Nat) (ad : Addr) (e : List Int) (c cn : Nat) (An : Option Addr) (nl : Nat) (n0 n1 n2 n3 n4 n5 n6 n7 n8 n9 V29 : Int) (V33 : Bool) (T : List Int) (Y : Nat) (b : List Int) (w1 : World) (L : Array Bool) (a : Act) (w' : World) : Prop :=
  ∃ (b3 b4 b6 b8 b21 b22 b23 : Bool) (r : Nat), L = #[true, true, true, b3, b4, true, b6, true, b8, true, true, true, true, true, true, true, true, true, true, true, true, b21, b22, b23] ∧ a = { tmps := symT g p ad e c cn An nl n0 n1 n2 n3 n4 n5 n6 n7 n8 n9 V29 V33 T Y b3 b4 b6 b8 b21 b22 r, defers := [] } ∧ Below w1.heap.size w1 w' ∧ (b23 = true → b22 = true) ∧ (b4 = true → textS b ⟨n0, n1, n2, n3, n4, n5, n6, n7, n8, n9⟩ (Y : Int) = some T) ∧ (b22 = true → w1.heap.size ≤ r ∧ w'.heap[r]? = some (.cells (symC e V29 V33 T b23) 94 (0, 0)))
set_option maxRecDepth 100000 in
set_option maxHeartbeats 16000000 in
theorem rsymbol_calls {g : Nat} {b : List Int} {rows : List S47} (hb : AllBytes b) (hl : b.length ≤ 65536) (names : S47) (h0 : 0 ≤ names.f4) (h1 : 0 ≤ names.f5) (h2 : names.f4 + names.f5 ≤ b.length)
    (nums : List Int) (hnl : nums.length ≤ 65536) (e : List Int) (he : AllBytes e) (hel : e.length = 16) (A : Option Addr) (c : Nat) (An : Option Addr) (cn : Nat) (w : World) (h : Rd w g b rows)
    (hC : Kd.C (Kd.int .u8) w A e.length e) (hc : e.length ≤ c) (hN : Kd.C (Kd.int .i64) w An nums.length nums) :
    Calls Try.prog 73 #[.pointer (some ⟨g, 0, none⟩), .slice A e.length c, .agg #[.int .u32 names.f0, .int .u32 names.f1, .int .u32 names.f2, .int .u32 names.f3, .int .u32 names.f4, .int .u32 names.f5, .int .u32 names.f6, .int .u32 names.f7, .int .u32 names.f8, .int .u32 names.f9], .slice An nums.length cn] w fun en w' => SymR b names nums e en ∧ Below w.heap.size w w' := by
  have hu47 := Try.underlying47
  have hu94 := Try.underlying94
  have HB := Aside0.mk hb
  have HLB := Aside0.mk hl
  have HE := Aside0.mk he
  have HN := Aside0.mk hN
  have HNL := Aside0.mk hnl
  have HCE := Aside0.mk hC
  have HCC := Aside0.mk hc
  have HEL := Aside0.mk hel
  have HNM := Aside0.mk (And.intro h0 (And.intro h1 h2))
  have HRD := Aside0.mk h
  clear hb hl he hel hN hnl hC hc h0 h1 h2 h
  obtain ⟨n0, n1, n2, n3, n4, n5, n6, n7, n8, n9⟩ := names
  simp only at HNM ⊢
  obtain ⟨X1, X2, X3, X4⟩ := three_alloc w (.cells #[.slice A e.length c] 27) (.cells #[.int .u32 n0, .int .u32 n1, .int .u32 n2, .int .u32 n3, .int .u32 n4, .int .u32 n5, .int .u32 n6, .int .u32 n7, .int .u32 n8, .int .u32 n9] 47) (.cells #[.string ⟨#[]⟩, .int .u32 0, .int .u32 0, .int .u8 0, .int .u8 0, .bool false, .int .i64 0] 94)
  have H5 : Aside0 ((((w.alloc (.cells #[.slice A e.length c] 27)).alloc (.cells #[.int .u32 n0, .int .u32 n1, .int .u32 n2, .int .u32 n3, .int .u32 n4, .int .u32 n5, .int .u32 n6, .int .u32 n7, .int .u32 n8, .int .u32 n9] 47)).alloc (.cells #[.string ⟨#[]⟩, .int .u32 0, .int .u32 0, .int .u8 0, .int .u8 0, .bool false, .int .i64 0] 94)).heap[w.heap.size]? = some (.cells #[.slice A e.length c] 27 (0, 0))) := ⟨X1⟩
  have H6 : Aside0 ((((w.alloc (.cells #[.slice A e.length c] 27)).alloc (.cells #[.int .u32 n0, .int .u32 n1, .int .u32 n2, .int .u32 n3, .int .u32 n4, .int .u32 n5, .int .u32 n6, .int .u32 n7, .int .u32 n8, .int .u32 n9] 47)).alloc (.cells #[.string ⟨#[]⟩, .int .u32 0, .int .u32 0, .int .u8 0, .int .u8 0, .bool false, .int .i64 0] 94)).heap[w.heap.size + 1]? = some (.cells #[.int .u32 n0, .int .u32 n1, .int .u32 n2, .int .u32 n3, .int .u32 n4, .int .u32 n5, .int .u32 n6, .int .u32 n7, .int .u32 n8, .int .u32 n9] 47 (0, 0))) := ⟨X2⟩
  have H8 : Aside0 ((((w.alloc (.cells #[.slice A e.length c] 27)).alloc (.cells #[.int .u32 n0, .int .u32 n1, .int .u32 n2, .int .u32 n3, .int .u32 n4, .int .u32 n5, .int .u32 n6, .int .u32 n7, .int .u32 n8, .int .u32 n9] 47)).alloc (.cells #[.string ⟨#[]⟩, .int .u32 0, .int .u32 0, .int .u8 0, .int .u8 0, .bool false, .int .i64 0] 94)).heap[w.heap.size + 1 + 1]? = some (.cells #[.string ⟨#[]⟩, .int .u32 0, .int .u32 0, .int .u8 0, .int .u8 0, .bool false, .int .i64 0] 94 (0, 0))) := ⟨X3⟩
  have HAL := Aside0.mk X4
  clear X1 X2 X3 X4
  go_enter Try.func73, Try.ntmps73
  go_wp2_with fail
  generalize (((w.alloc (.cells #[.slice A e.length c] 27)).alloc (.cells #[.int .u32 n0, .int .u32 n1, .int .u32 n2, .int .u32 n3, .int .u32 n4, .int .u32 n5, .int .u32 n6, .int .u32 n7, .int .u32 n8, .int .u32 n9] 47)).alloc (.cells #[.string ⟨#[]⟩, .int .u32 0, .int .u32 0, .int .u8 0, .int .u8 0, .bool false, .int .i64 0] 94)) = w1 at *
  have HLP : Aside0 (w.heap.size ≤ w.heap.size) := ⟨Nat.le_refl _⟩
  obtain ⟨p, hp⟩ : ∃ p, p = w.heap.size := ⟨_, rfl⟩
  rw [← hp] at H5 H6 H8 ⊢
  have hpp := hp
  clear HLP
  have HP := Aside0.mk hp
  clear hp hpp
  obtain ⟨ad, ea, _⟩ := Kd.at_int HCE.out 12 (by decide) (by have := HEL.out; omega)
  cases ea
  have HC1 := Aside0.mk (Kd.C_below HCE.out HAL.out)
  have hB12 := HE.out (rd e 12) (rd_mem e 12 (by have := HEL.out; omega))
  have hB13 := HE.out (rd e 13) (rd_mem e 13 (by have := HEL.out; omega))
  have HB12 := Aside0.mk hB12
  have HB13 := Aside0.mk hB13
  clear hB12 hB13
  have HSC : Aside0 (∀ W, Below w1.heap.size w1 W → W.cell? ⟨p, 0, none⟩ = some (.slice (some ad) e.length c) ∧ W.cell? ⟨p + 1, 0, none⟩ = some (.int .u32 n0) ∧ W.cell? ⟨p + 1, 1, none⟩ = some (.int .u32 n1) ∧ W.cell? ⟨p + 1, 2, none⟩ = some (.int .u32 n2) ∧ W.cell? ⟨p + 1, 3, none⟩ = some (.int .u32 n3) ∧ W.cell? ⟨p + 1, 4, none⟩ = some (.int .u32 n4) ∧ W.cell? ⟨p + 1, 5, none⟩ = some (.int .u32 n5) ∧ W.cell? ⟨p + 1, 6, none⟩ = some (.int .u32 n6) ∧ W.cell? ⟨p + 1, 7, none⟩ = some (.int .u32 n7) ∧ W.cell? ⟨p + 1, 8, none⟩ = some (.int .u32 n8) ∧ W.cell? ⟨p + 1, 9, none⟩ = some (.int .u32 n9) ∧ W.cell? ⟨ad.block, ad.off + 12, none⟩ = some (.int .u8 (rd e 12)) ∧ W.cell? ⟨ad.block, ad.off + 13, none⟩ = some (.int .u8 (rd e 13))) := ⟨fun W hW => by
    have g5 := blk_below H5.out hW
    have g6 := blk_below H6.out hW
    obtain ⟨a1, e1, b1⟩ := Kd.at_int (Kd.C_below HC1.out hW) 12 (by decide) (by have := HEL.out; omega)
    obtain ⟨a2, e2, b2⟩ := Kd.at_int (Kd.C_below HC1.out hW) 13 (by decide) (by have := HEL.out; omega)
    cases e1
    cases e2
    exact ⟨(blk_cell g5 0).trans rfl, (blk_cell g6 0).trans rfl, (blk_cell g6 1).trans rfl, (blk_cell g6 2).trans rfl, (blk_cell g6 3).trans rfl, (blk_cell g6 4).trans rfl, (blk_cell g6 5).trans rfl, (blk_cell g6 6).trans rfl, (blk_cell g6 7).trans rfl, (blk_cell g6 8).trans rfl, (blk_cell g6 9).trans rfl, b1, b2⟩⟩
  have HFL : Aside0 (∀ (at_ n : Nat), n = 2 ∨ n = 4 → at_ + n ≤ 16 → ∀ W, Below w1.heap.size w1 W → Calls Try.prog 91 #[.int .i64 (at_ : Int), .int .i64 (n : Int), .pointer (some ⟨p, 0, none⟩)] W fun x w' => x = .returned (.int .u32 (gw e at_ n)) ∧ Below W.heap.size W w') := ⟨fun at_ n hn ha W hW => fld_calls p (some ad) c e HE.out (by have := HEL.out; omega) at_ n hn (by have := HEL.out; omega) W (HSC.out W hW).1 (Kd.C_below HC1.out hW) HCC.out⟩
  obtain ⟨Y, hY⟩ := Int.eq_ofNat_of_zero_le (gw_rg e HE.out 0 4 (by decide)).1
  have HYL : Aside0 ((Y : Int) < 4294967296) := ⟨by have := (gw_rg e HE.out 0 4 (by decide)).2; omega⟩
  have HYE := Aside0.mk hY
  have HTX : Aside0 (∀ W, Below w1.heap.size w1 W → Calls Try.prog 65 #[.pointer (some ⟨g, 0, none⟩), .agg #[.int .u32 n0, .int .u32 n1, .int .u32 n2, .int .u32 n3, .int .u32 n4, .int .u32 n5, .int .u32 n6, .int .u32 n7, .int .u32 n8, .int .u32 n9], .int .u32 (Y : Int)] W fun x w' => TxtR b ⟨n0, n1, n2, n3, n4, n5, n6, n7, n8, n9⟩ Y x ∧ Below W.heap.size W w') := ⟨fun W hW => text_calls HB.out HLB.out ⟨n0, n1, n2, n3, n4, n5, n6, n7, n8, n9⟩ HNM.out.1 HNM.out.2.1 HNM.out.2.2 Y HYL.out W (HRD.out.below (below_step HAL.out hW))⟩
  clear hY
  have hel : e.length = 16 := HEL.out
  have hB12 := HB12.out
  have hB13 := HB13.out
  have q12 : ((12 : Int) < (e.length : Int)) = True := eq_true (by omega)
  have q13 : ((13 : Int) < (e.length : Int)) = True := eq_true (by omega)
  have r12 : (12 < e.length) = True := eq_true (by omega)
  have r13 : (13 < e.length) = True := eq_true (by omega)
  have hshr : shr .u8 (rd e 12) 4 = rd e 12 / 16 := shr4 _ HB12.out
  have hand15 : Go.bits .and .u8 (rd e 12) 15 = rd e 12 % 16 := and15 _ HB12.out
  clear hel hB12 hB13
  obtain ⟨V29, hV29⟩ : ∃ V, V = rd e 12 % 16 := ⟨_, rfl⟩
  obtain ⟨V33, hV33⟩ : ∃ V, V = (rd e 13 == 2) := ⟨_, rfl⟩
  obtain ⟨T, hT⟩ : ∃ T, T = (textS b ⟨n0, n1, n2, n3, n4, n5, n6, n7, n8, n9⟩ (Y : Int)).getD [] := ⟨_, rfl⟩
  have HF0 : Aside0 (∀ W, Below w1.heap.size w1 W → Calls Try.prog 91 #[.int .i64 0, .int .i64 4, .pointer (some ⟨p, 0, none⟩)] W fun x w' => x = .returned (.int .u32 (Y : Int)) ∧ Below W.heap.size W w') := ⟨fun W hW => by have h := HFL.out 0 4 (Or.inr rfl) (by decide) W hW; rw [HYE.out] at h; exact h⟩
  have HF4 : Aside0 (∀ W, Below w1.heap.size w1 W → Calls Try.prog 91 #[.int .i64 4, .int .i64 4, .pointer (some ⟨p, 0, none⟩)] W fun x w' => x = .returned (.int .u32 (gw e 4 4)) ∧ Below W.heap.size W w') := ⟨fun W hW => HFL.out 4 4 (Or.inr rfl) (by decide) W hW⟩
  have HF8 : Aside0 (∀ W, Below w1.heap.size w1 W → Calls Try.prog 91 #[.int .i64 8, .int .i64 4, .pointer (some ⟨p, 0, none⟩)] W fun x w' => x = .returned (.int .u32 (gw e 8 4)) ∧ Below W.heap.size W w') := ⟨fun W hW => HFL.out 8 4 (Or.inr rfl) (by decide) W hW⟩
  have HF14 : Aside0 (∀ W, Below w1.heap.size w1 W → Calls Try.prog 91 #[.int .i64 14, .int .i64 2, .pointer (some ⟨p, 0, none⟩)] W fun x w' => x = .returned (.int .u32 (gw e 14 2)) ∧ Below W.heap.size W w') := ⟨fun W hW => HFL.out 14 2 (Or.inl rfl) (by decide) W hW⟩
  have HTS : Aside0 (∀ x, TxtR b ⟨n0, n1, n2, n3, n4, n5, n6, n7, n8, n9⟩ Y x → x = wrongE 5 ∧ symR b ⟨n0, n1, n2, n3, n4, n5, n6, n7, n8, n9⟩ nums e = none ∨ textS b ⟨n0, n1, n2, n3, n4, n5, n6, n7, n8, n9⟩ (Y : Int) = some T ∧ x = .returned (.string (strOfNums T))) := ⟨fun x hx => by
    unfold TxtR at hx
    rw [hT]
    cases hh : textS b ⟨n0, n1, n2, n3, n4, n5, n6, n7, n8, n9⟩ (Y : Int) with
    | none => rw [hh] at hx; exact Or.inl ⟨hx, by unfold symR; rw [HYE.out, hh]; rfl⟩
    | some t => rw [hh] at hx; exact Or.inr ⟨rfl, hx⟩⟩
  obtain ⟨M, hM⟩ := Int.eq_ofNat_of_zero_le (gw_rg e HE.out 14 2 (by decide)).1
  have HML : Aside0 ((M : Int) < 4294967296) := ⟨by have := (gw_rg e HE.out 14 2 (by decide)).2; omega⟩
  rw [hM] at HF14
  have HSN : Aside0 (textS b ⟨n0, n1, n2, n3, n4, n5, n6, n7, n8, n9⟩ (Y : Int) = some T → inR nums (M : Int) = none → symR b ⟨n0, n1, n2, n3, n4, n5, n6, n7, n8, n9⟩ nums e = none) := ⟨fun h1 h2 => by unfold symR; rw [HYE.out, h1, hM]; show (inR nums (M : Int)).bind _ = none; rw [h2]; rfl⟩
  have HSK : Aside0 (textS b ⟨n0, n1, n2, n3, n4, n5, n6, n7, n8, n9⟩ (Y : Int) = some T → ¬ (rd e 12 % 16 ≤ 3 ∧ (rd e 13 = 0 ∨ rd e 13 = 2)) → symR b ⟨n0, n1, n2, n3, n4, n5, n6, n7, n8, n9⟩ nums e = none) := ⟨fun h1 h2 => by unfold symR; rw [HYE.out, h1, hM]; show (inR nums (M : Int)).bind _ = none; cases inR nums (M : Int) with | none => rfl | some m => exact if_neg h2⟩
  have HSY : Aside0 (∀ m, textS b ⟨n0, n1, n2, n3, n4, n5, n6, n7, n8, n9⟩ (Y : Int) = some T → inR nums (M : Int) = some m → (rd e 12 % 16 ≤ 3 ∧ (rd e 13 = 0 ∨ rd e 13 = 2)) → symR b ⟨n0, n1, n2, n3, n4, n5, n6, n7, n8, n9⟩ nums e = some ⟨strOfNums T, gw e 4 4, gw e 8 4, rd e 12 / 16, rd e 12 % 16, rd e 13 == 2, m⟩) := ⟨fun m h1 h3 h2 => by unfold symR; rw [HYE.out, h1, hM]; show (inR nums (M : Int)).bind _ = _; rw [h3]; exact if_pos h2⟩
  clear hM
  clear hT HFL
  refine wp_region_held_drew (S := fun W => Below w1.heap.size w1 W) (by kernel_rfl) ?_ (fun hHeld => ?_)
  · exact (Below.refl w1.heap.size w1).drew
  refine wpAnyH_take (i := 0) (v := ?_) rfl (by kernel_rfl) (by kernel_rfl) (by kernel_rfl) (fun _ _ _ h => h) (Or.inl ⟨by rfl, ?_⟩) (by assumption) ?_
  rotate_left
  · (intro w hSw; go_simp; (try with_reducible rfl))
  simp only [Act.put, List.setIfInBounds_toArray, List.set_cons_zero, List.set_cons_succ]
  refine wpAnyH_take (i := 1) (v := ?_) rfl (by kernel_rfl) (by kernel_rfl) (by kernel_rfl) (fun _ _ _ h => h) (Or.inl ⟨by rfl, ?_⟩) (by assumption) ?_
  rotate_left
  · (intro w hSw; replace hSw := HSC.out w hSw; go_simp; (try with_reducible rfl))
  simp only [Act.put, List.setIfInBounds_toArray, List.set_cons_zero, List.set_cons_succ]
  refine wpAnyH_take (i := 2) (v := ?_) rfl (by kernel_rfl) (by kernel_rfl) (by kernel_rfl) (fun _ _ _ h => h) (Or.inl ⟨by rfl, ?_⟩) (by assumption) ?_
  rotate_left
  · (intro w hSw; go_simp; (try with_reducible rfl))
  simp only [Act.put, List.setIfInBounds_toArray, List.set_cons_zero, List.set_cons_succ]
  refine wpAnyH_take (i := 5) (v := ?_) rfl (by kernel_rfl) (by kernel_rfl) (by kernel_rfl) (fun _ _ _ h => h) (Or.inl ⟨by rfl, ?_⟩) (by assumption) ?_
  rotate_left
  · (intro w hSw; go_simp; (try with_reducible rfl))
  simp only [Act.put, List.setIfInBounds_toArray, List.set_cons_zero, List.set_cons_succ]
  refine wpAnyH_take (i := 7) (v := ?_) rfl (by kernel_rfl) (by kernel_rfl) (by kernel_rfl) (fun _ _ _ h => h) (Or.inl ⟨by rfl, ?_⟩) (by assumption) ?_
  rotate_left
  · (intro w hSw; go_simp; (try with_reducible rfl))
  simp only [Act.put, List.setIfInBounds_toArray, List.set_cons_zero, List.set_cons_succ]
  refine wpAnyH_take (i := 9) (v := ?_) rfl (by kernel_rfl) (by kernel_rfl) (by kernel_rfl) (fun _ _ _ h => h) (Or.inl ⟨by rfl, ?_⟩) (by assumption) ?_
  rotate_left
  · (intro w hSw; replace hSw := HSC.out w hSw; go_simp; (try with_reducible rfl))
  simp only [Act.put, List.setIfInBounds_toArray, List.set_cons_zero, List.set_cons_succ]
  refine wpAnyH_take (i := 10) (v := ?_) rfl (by kernel_rfl) (by kernel_rfl) (by kernel_rfl) (fun _ _ _ h => h) (Or.inl ⟨by rfl, ?_⟩) (by assumption) ?_
  rotate_left
  · (intro w hSw; go_simp; (try with_reducible rfl))
  simp only [Act.put, List.setIfInBounds_toArray, List.set_cons_zero, List.set_cons_succ]
  refine wpAnyH_take (i := 11) (v := ?_) rfl (by kernel_rfl) (by kernel_rfl) (by kernel_rfl) (fun _ _ _ h => h) (Or.inl ⟨by rfl, ?_⟩) (by assumption) ?_
  rotate_left
  · (intro w hSw; replace hSw := HSC.out w hSw; go_simp; (try with_reducible rfl))
  simp only [Act.put, List.setIfInBounds_toArray, List.set_cons_zero, List.set_cons_succ]
  refine wpAnyH_take (i := 12) (v := .int .u8 (rd e 12 / 16)) rfl (by kernel_rfl) (by kernel_rfl) (by kernel_rfl) (fun _ _ _ h => h) (Or.inl ⟨by rfl, ?_⟩) (by assumption) ?_
  · (intro w hSw; go_simp; (try with_reducible rfl))
  simp only [Act.put, List.setIfInBounds_toArray, List.set_cons_zero, List.set_cons_succ]
  refine wpAnyH_take (i := 13) (v := ?_) rfl (by kernel_rfl) (by kernel_rfl) (by kernel_rfl) (fun _ _ _ h => h) (Or.inl ⟨by rfl, ?_⟩) (by assumption) ?_
  rotate_left
  · (intro w hSw; replace hSw := HSC.out w hSw; go_simp; (try with_reducible rfl))
  simp only [Act.put, List.setIfInBounds_toArray, List.set_cons_zero, List.set_cons_succ]
  refine wpAnyH_take (i := 14) (v := ?_) rfl (by kernel_rfl) (by kernel_rfl) (by kernel_rfl) (fun _ _ _ h => h) (Or.inl ⟨by rfl, ?_⟩) (by assumption) ?_
  rotate_left
  · (intro w hSw; go_simp; (try with_reducible rfl))
  simp only [Act.put, List.setIfInBounds_toArray, List.set_cons_zero, List.set_cons_succ]
  refine wpAnyH_take (i := 15) (v := ?_) rfl (by kernel_rfl) (by kernel_rfl) (by kernel_rfl) (fun _ _ _ h => h) (Or.inl ⟨by rfl, ?_⟩) (by assumption) ?_
  rotate_left
  · (intro w hSw; replace hSw := HSC.out w hSw; go_simp; (try with_reducible rfl))
  simp only [Act.put, List.setIfInBounds_toArray, List.set_cons_zero, List.set_cons_succ]
  refine wpAnyH_take (i := 16) (v := .int .u8 V29) rfl (by kernel_rfl) (by kernel_rfl) (by kernel_rfl) (fun _ _ _ h => h) (Or.inl ⟨by rfl, ?_⟩) (by assumption) ?_
  · (intro w hSw; go_simp; (try with_reducible rfl))
  simp only [Act.put, List.setIfInBounds_toArray, List.set_cons_zero, List.set_cons_succ]
  refine wpAnyH_take (i := 17) (v := ?_) rfl (by kernel_rfl) (by kernel_rfl) (by kernel_rfl) (fun _ _ _ h => h) (Or.inl ⟨by rfl, ?_⟩) (by assumption) ?_
  rotate_left
  · (intro w hSw; replace hSw := HSC.out w hSw; go_simp; (try with_reducible rfl))
  simp only [Act.put, List.setIfInBounds_toArray, List.set_cons_zero, List.set_cons_succ]
  refine wpAnyH_take (i := 18) (v := ?_) rfl (by kernel_rfl) (by kernel_rfl) (by kernel_rfl) (fun _ _ _ h => h) (Or.inl ⟨by rfl, ?_⟩) (by assumption) ?_
  rotate_left
  · (intro w hSw; go_simp; (try with_reducible rfl))
  simp only [Act.put, List.setIfInBounds_toArray, List.set_cons_zero, List.set_cons_succ]
  refine wpAnyH_take (i := 19) (v := ?_) rfl (by kernel_rfl) (by kernel_rfl) (by kernel_rfl) (fun _ _ _ h => h) (Or.inl ⟨by rfl, ?_⟩) (by assumption) ?_
  rotate_left
  · (intro w hSw; replace hSw := HSC.out w hSw; go_simp; (try with_reducible rfl))
  simp only [Act.put, List.setIfInBounds_toArray, List.set_cons_zero, List.set_cons_succ]
  refine wpAnyH_take (i := 20) (v := .bool V33) rfl (by kernel_rfl) (by kernel_rfl) (by kernel_rfl) (fun _ _ _ h => h) (Or.inl ⟨by rfl, ?_⟩) (by assumption) ?_
  · (intro w hSw; go_simp; (try with_reducible rfl))
  simp only [Act.put, List.setIfInBounds_toArray, List.set_cons_zero, List.set_cons_succ]
  refine wpAnyH_inv (I := (symI g p ad e c cn An nums.length n0 n1 n2 n3 n4 n5 n6 n7 n8 n9 V29 V33 T Y b w1)) ?hS ?hst ?he _ _ _ _ ?hsz ?hu ?h0
  case hsz => kernel_rfl
  case hu => exact Nat.le_of_ble_eq_true (by kernel_rfl)
  case h0 =>
    refine ⟨false, false, false, false, false, false, false, 0, ?_, ?_, hHeld, fun h => Bool.noConfusion h, fun h => Bool.noConfusion h, fun h => Bool.noConfusion h⟩
    · kernel_rfl
    · kernel_rfl
  case hS => rintro L a w' ⟨b3, b4, b6, b8, b21, b22, b23, r, hL, ha, hB, _⟩; exact hB
  case hst =>
    refine steps_of [0, 1, 2, 5, 7, 9, 10, 11, 12, 13, 14, 15, 16, 17, 18, 19, 20] [3, 4, 6, 8, 21, 22, 23] (by kernel_rfl) ?_ ?_
    · rintro i hi L a w' ⟨b3, b4, b6, b8, b21, b22, b23, r, rfl, _⟩
      simp only [List.mem_cons, List.not_mem_nil, or_false] at hi
      rcases hi with rfl | rfl | rfl | rfl | rfl | rfl | rfl | rfl | rfl | rfl | rfl | rfl | rfl | rfl | rfl | rfl | rfl <;> rfl
    · have HV29 := Aside0.mk hV29
      have HV33 := Aside0.mk hV33
      clear HSC hHeld hV29 hV33
      refine List.forall_mem_cons.2 ⟨?_, List.forall_mem_cons.2 ⟨?_, List.forall_mem_cons.2 ⟨?_, List.forall_mem_cons.2 ⟨?_, List.forall_mem_cons.2 ⟨?_, List.forall_mem_cons.2 ⟨?_, List.forall_mem_cons.2 ⟨?_, fun _ h => absurd h (List.not_mem_nil)⟩⟩⟩⟩⟩⟩⟩
      · refine StepI.mk rfl (fun L a w' hz hn hp hI K hK => ?_)
        obtain ⟨b3, b4, b6, b8, b21, b22, b23, r, rfl, rfl, hB, h23, hT4, hR⟩ := hI
        have e0 : b3 = false := hn
        subst e0 
        clear hz hn hp
        unfold symT
        simp only [if_true, Bool.false_eq_true, if_false]
        go_simp
        refine (HF0.out _ hB).mono ?_
        rintro x w2 ⟨rfl, hb⟩
        refine hK.out _ _ ⟨true, b4, b6, b8, b21, b22, b23, r, rfl, rfl, below_step hB hb, h23, hT4, fun h => ⟨(hR h).1, blk_below (hR h).2 hb⟩⟩
      · refine StepI.mk rfl (fun L a w' hz hn hp hI K hK => ?_)
        obtain ⟨b3, b4, b6, b8, b21, b22, b23, r, rfl, rfl, hB, h23, hT4, hR⟩ := hI
        have e0 : b4 = false := hn
        have e3 : b3 = true := pre_of hp (k := 2) (e := ⟨3, .data⟩) rfl rfl
        subst e0 e3
        clear hz hn hp
        unfold symT
        simp only [if_true, Bool.false_eq_true, if_false]
        go_simp
        refine (HTX.out _ hB).mono ?_
        rintro x w2 ⟨hx, hb⟩
        rcases HTS.out x hx with ⟨rfl, hno⟩ | ⟨hts, rfl⟩
        · exact And.intro rfl ⟨by unfold SymR; rw [hno]; exact rfl, below_step HAL.out (below_step hB hb)⟩
        refine hK.out _ _ ⟨true, true, b6, b8, b21, b22, b23, r, rfl, rfl, below_step hB hb, h23, fun _ => hts, fun h => ⟨(hR h).1, blk_below (hR h).2 hb⟩⟩
      · refine StepI.mk rfl (fun L a w' hz hn hp hI K hK => ?_)
        obtain ⟨b3, b4, b6, b8, b21, b22, b23, r, rfl, rfl, hB, h23, hT4, hR⟩ := hI
        have e0 : b6 = false := hn
        have e4 : b4 = true := pre_of hp (k := 1) (e := ⟨4, .chain⟩) rfl rfl
        subst e0 e4
        clear hz hn hp
        unfold symT
        simp only [if_true, Bool.false_eq_true, if_false]
        go_simp
        refine (HF4.out _ hB).mono ?_
        rintro x w2 ⟨rfl, hb⟩
        refine hK.out _ _ ⟨b3, true, true, b8, b21, b22, b23, r, rfl, rfl, below_step hB hb, h23, hT4, fun h => ⟨(hR h).1, blk_below (hR h).2 hb⟩⟩
      · refine StepI.mk rfl (fun L a w' hz hn hp hI K hK => ?_)
        obtain ⟨b3, b4, b6, b8, b21, b22, b23, r, rfl, rfl, hB, h23, hT4, hR⟩ := hI
        have e0 : b8 = false := hn
        have e6 : b6 = true := pre_of hp (k := 1) (e := ⟨6, .chain⟩) rfl rfl
        subst e0 e6
        clear hz hn hp
        unfold symT
        simp only [if_true, Bool.false_eq_true, if_false]
        go_simp
        refine (HF8.out _ hB).mono ?_
        rintro x w2 ⟨rfl, hb⟩
        refine hK.out _ _ ⟨b3, b4, true, true, b21, b22, b23, r, rfl, rfl, below_step hB hb, h23, hT4, fun h => ⟨(hR h).1, blk_below (hR h).2 hb⟩⟩
      · refine StepI.mk rfl (fun L a w' hz hn hp hI K hK => ?_)
        obtain ⟨b3, b4, b6, b8, b21, b22, b23, r, rfl, rfl, hB, h23, hT4, hR⟩ := hI
        have e0 : b21 = false := hn
        have e4 : b4 = true := pre_of hp (k := 0) (e := ⟨4, .data⟩) rfl rfl
        have e6 : b6 = true := pre_of hp (k := 1) (e := ⟨6, .data⟩) rfl rfl
        have e8 : b8 = true := pre_of hp (k := 2) (e := ⟨8, .data⟩) rfl rfl
        subst e0 e4 e6 e8
        clear hz hn hp
        unfold symT
        simp only [if_true, Bool.false_eq_true, if_false]
        go_simp
        refine hK.out _ _ ⟨b3, true, true, true, true, b22, b23, r, rfl, rfl, hB, h23, hT4, hR⟩
      · refine StepI.mk rfl (fun L a w' hz hn hp hI K hK => ?_)
        obtain ⟨b3, b4, b6, b8, b21, b22, b23, r, rfl, rfl, hB, h23, hT4, hR⟩ := hI
        have e0 : b22 = false := hn
        subst e0 
        clear hz hn hp
        unfold symT
        simp only [if_true, Bool.false_eq_true, if_false]
        have e23 : b23 = false := by cases b23 with | false => rfl | true => exact Bool.noConfusion (h23 rfl)
        subst e23
        go_simp
        refine hK.out _ _ ⟨b3, b4, b6, b8, b21, true, false, w'.heap.size, rfl, rfl, below_alloc hB _, fun _ => rfl, hT4, fun _ => ⟨hB.size, heap_alloc_new w' _⟩⟩
      · refine StepI.mk rfl (fun L a w' hz hn hp hI K hK => ?_)
        obtain ⟨b3, b4, b6, b8, b21, b22, b23, r, rfl, rfl, hB, h23, hT4, hR⟩ := hI
        have e0 : b23 = false := hn
        have e22 : b22 = true := pre_of hp (k := 0) (e := ⟨22, .data⟩) rfl rfl
        have e21 : b21 = true := pre_of hp (k := 1) (e := ⟨21, .data⟩) rfl rfl
        subst e0 e22 e21
        clear hz hn hp
        unfold symT
        simp only [if_true, Bool.false_eq_true, if_false]
        have hr := hR rfl
        have hr2 : w'.heap[r]? = some (.cells #[.string ⟨#[]⟩, .int .u32 0, .int .u32 0, .int .u8 0, .int .u8 0, .bool false, .int .i64 0] 94 (0, 0)) := hr.2
        obtain ⟨⟨z0, f0⟩, ⟨z1, f1⟩, ⟨z2, f2⟩, ⟨z3, f3⟩, ⟨z4, f4⟩, ⟨z5, f5⟩, z6, f6⟩ := seven_cells hr2
        go_simp
        refine hK.out _ _ ⟨b3, b4, b6, b8, true, true, true, r, rfl, rfl, set7c hB hr.1, fun _ => rfl, hT4, fun _ => ⟨hr.1, set7 hr2⟩⟩
  case he =>
    intro L a w2 hz hr hI
    obtain ⟨b3, b4, b6, b8, b21, b22, b23, r, rfl, rfl, hB, h23, hT4, hR⟩ := hI
    have e3 : b3 = true := not_ready (i := 3) hr rfl (by kernel_rfl)
    subst e3
    have e4 : b4 = true := not_ready (i := 4) hr rfl (by kernel_rfl)
    subst e4
    have e6 : b6 = true := not_ready (i := 6) hr rfl (by kernel_rfl)
    subst e6
    have e8 : b8 = true := not_ready (i := 8) hr rfl (by kernel_rfl)
    subst e8
    have e21 : b21 = true := not_ready (i := 21) hr rfl (by kernel_rfl)
    subst e21
    have e22 : b22 = true := not_ready (i := 22) hr rfl (by kernel_rfl)
    subst e22
    have e23 : b23 = true := not_ready (i := 23) hr rfl (by kernel_rfl)
    subst e23
    have HV29 := Aside0.mk hV29
    have HV33 := Aside0.mk hV33
    have HX2 : Aside0 (w2.heap[r]? = some (.cells #[.string (strOfNums T), .int .u32 (gw e 4 4), .int .u32 (gw e 8 4), .int .u8 (rd e 12 / 16), .int .u8 V29, .bool V33, .int .i64 0] 94 (0, 0))) := ⟨(hR rfl).2⟩
    have HLR := Aside0.mk (hR rfl).1
    have HTT := Aside0.mk (hT4 rfl)
    have HB2 := Aside0.mk hB
    clear hz hr hT4 hR h23 hB HTX HTS HF0 HF4 HF8 hHeld hV29 hV33 q12 r12 hshr hand15
    unfold symT
    simp only [if_true]
    go_wp2_with fail
    refine (HF14.out _ HB2.out).mono ?_
    rintro x w3 ⟨rfl, hb3⟩
    have HX3 := Aside0.mk (blk_below HX2.out hb3)
    have HB3 := Aside0.mk (below_step HB2.out hb3)
    have H83 := Aside0.mk (blk_below H8.out HB3.out)
    obtain ⟨c0, _, _, _, _, _, _, _, _, _, _, _, c13⟩ := HSC.out w3 HB3.out
    have hpl : p < w1.heap.size := blk_lt H5.out
    have hp8 : p + 1 + 1 < w1.heap.size := blk_lt H8.out
    have hlr := HLR.out
    have hadl : ad.block < w1.heap.size := World.block_lt_of_cell? w1 ⟨ad.block, ad.off + 13, none⟩ (HSC.out w1 (Below.refl _ _)).2.2.2.2.2.2.2.2.2.2.2.2
    have n1_ : ¬ p = r := by omega
    have n2_ : ¬ r = p := by omega
    have n3_ : ¬ ad.block = r := by omega
    have n4_ : ¬ r = ad.block := by omega
    have n5_ : ¬ p + 1 + 1 = r := by omega
    have n6_ : ¬ r = p + 1 + 1 := by omega
    have hpw : w.heap.size ≤ p := Nat.le_of_eq HP.out.symm
    have HRW : Aside0 (w.heap.size ≤ r) := ⟨by omega⟩
    have HPW : Aside0 (w.heap.size ≤ p + 1 + 1) := ⟨by omega⟩
    obtain ⟨⟨z0, f0⟩, ⟨z1, f1⟩, ⟨z2, f2⟩, ⟨z3, f3⟩, ⟨z4, f4⟩, ⟨z5, f5⟩, z6, f6⟩ := seven_cells HX3.out
    obtain ⟨⟨y0, g0⟩, ⟨y1, g1⟩, ⟨y2, g2⟩, ⟨y3, g3⟩, ⟨y4, g4⟩, ⟨y5, g5⟩, y6, g6⟩ := seven_cells H83.out
    clear hb3 HX2 HB2 hpl hp8 hlr hadl hpw H5 H6 H8 HSC HF14 HLR
    obtain ⟨V12, hV12⟩ : ∃ V, V = rd e 12 / 16 := ⟨_, rfl⟩
    rw [← hV12] at HX3 HSY z3 ⊢
    clear hV12
    have HBW := Aside0.mk (below_step HAL.out HB3.out)
    by_cases cm0 : M = 0
    · have k0 : ((M : Int) == 0) = true := by rw [cm0]; rfl
      have HIR : Aside0 (inR nums (M : Int) = some (-1)) := ⟨by rw [cm0]; rfl⟩
      clear cm0
      have HBZ := Aside0.mk (HBW.out.setCell (p := ⟨r, 6, none⟩) HRW.out (.int .i64 (-1)))
      have HPZ : Aside0 ((w3.setCell ⟨r, 6, none⟩ (.int .i64 (-1))).heap[p + 1 + 1]? = some (.cells #[.string ⟨#[]⟩, .int .u32 0, .int .u32 0, .int .u8 0, .int .u8 0, .bool false, .int .i64 0] 94 (0, 0))) := ⟨((Fr.refl (fun k => k = r) w3).setCell rfl _).blk H83.out n5_⟩
      by_cases c29 : V29 ≤ 3
      · have p29 : decide (V29 ≤ 3) = true := decide_eq_true c29
        have q29 : (V29 ≤ 3) = True := eq_true c29
        by_cases z13 : rd e 13 = 0
        · have t13 : (rd e 13 == 0) = true := by simpa using z13
          have HS : Aside0 (symR b ⟨n0, n1, n2, n3, n4, n5, n6, n7, n8, n9⟩ nums e = some ⟨strOfNums T, gw e 4 4, gw e 8 4, V12, V29, V33, (-1)⟩) := ⟨by have h := HSY.out ((-1)) HTT.out HIR.out ⟨by rw [← HV29.out]; exact c29, Or.inl z13⟩; rw [← HV29.out, ← HV33.out] at h; exact h⟩
          clear c29 z13
          go_wp2_with fail
          refine (want_yes 5 _).mono ?_
          rintro e' w' ⟨rfl, rfl⟩
          go_wp2_with fail
          refine bodyPost_ret (results_cell_row rfl _ _ (p + 1 + 1) 94 #[.string (strOfNums T), .int .u32 (gw e 4 4), .int .u32 (gw e 8 4), .int .u8 V12, .int .u8 V29, .bool V33, .int .i64 (-1)] (0, 0) _ rfl (set7 HPZ.out) Try.underlying94 rfl (by kernel_rfl)) rfl ?_
          exact ⟨by unfold SymR; rw [HS.out]; exact rfl, set7c HBZ.out HPW.out⟩
        · have t13 : (rd e 13 == 0) = false := by simpa using z13
          by_cases z14 : rd e 13 = 2
          · have t14 : V33 = true := by rw [HV33.out]; simpa using z14
            have HS : Aside0 (symR b ⟨n0, n1, n2, n3, n4, n5, n6, n7, n8, n9⟩ nums e = some ⟨strOfNums T, gw e 4 4, gw e 8 4, V12, V29, true, (-1)⟩) := ⟨by have h := HSY.out ((-1)) HTT.out HIR.out ⟨by rw [← HV29.out]; exact c29, Or.inr z14⟩; rw [← HV29.out, ← HV33.out, t14] at h; exact h⟩
            clear c29 z13 z14
            go_wp2_with fail
            refine (want_yes 5 _).mono ?_
            rintro e' w' ⟨rfl, rfl⟩
            go_wp2_with fail
            refine bodyPost_ret (results_cell_row rfl _ _ (p + 1 + 1) 94 #[.string (strOfNums T), .int .u32 (gw e 4 4), .int .u32 (gw e 8 4), .int .u8 V12, .int .u8 V29, .bool true, .int .i64 (-1)] (0, 0) _ rfl (set7 HPZ.out) Try.underlying94 rfl (by kernel_rfl)) rfl ?_
            exact ⟨by unfold SymR; rw [HS.out]; exact rfl, set7c HBZ.out HPW.out⟩
          · have t14 : V33 = false := by rw [HV33.out]; simpa using z14
            have HS := Aside0.mk (HSK.out HTT.out (fun hh => by rcases hh.2 with h | h; exact z13 h; exact z14 h))
            clear c29 z13 z14
            go_wp2_with fail
            refine (want_no 5 _).mono ?_
            rintro e' w' ⟨rfl, rfl⟩
            exact And.intro rfl ⟨by unfold SymR; rw [HS.out]; exact rfl, HBZ.out⟩
      · have p29 : decide (V29 ≤ 3) = false := decide_eq_false c29
        have q29 : (V29 ≤ 3) = False := eq_false c29
        have HS := Aside0.mk (HSK.out HTT.out (fun hh => c29 (by rw [HV29.out]; exact hh.1)))
        clear c29
        go_wp2_with fail
        refine (want_no 5 _).mono ?_
        rintro e' w' ⟨rfl, rfl⟩
        exact And.intro rfl ⟨by unfold SymR; rw [HS.out]; exact rfl, HBZ.out⟩
    have k0 : ((M : Int) == 0) = false := beq_eq_false_iff_ne.2 (by omega)
    by_cases cm65521 : M = 65521
    · have k65521 : ((M : Int) == 65521) = true := by rw [cm65521]; rfl
      have HIR : Aside0 (inR nums (M : Int) = some (-2)) := ⟨by rw [cm65521]; rfl⟩
      clear cm65521
      have HBZ := Aside0.mk (HBW.out.setCell (p := ⟨r, 6, none⟩) HRW.out (.int .i64 (-2)))
      have HPZ : Aside0 ((w3.setCell ⟨r, 6, none⟩ (.int .i64 (-2))).heap[p + 1 + 1]? = some (.cells #[.string ⟨#[]⟩, .int .u32 0, .int .u32 0, .int .u8 0, .int .u8 0, .bool false, .int .i64 0] 94 (0, 0))) := ⟨((Fr.refl (fun k => k = r) w3).setCell rfl _).blk H83.out n5_⟩
      by_cases c29 : V29 ≤ 3
      · have p29 : decide (V29 ≤ 3) = true := decide_eq_true c29
        have q29 : (V29 ≤ 3) = True := eq_true c29
        by_cases z13 : rd e 13 = 0
        · have t13 : (rd e 13 == 0) = true := by simpa using z13
          have HS : Aside0 (symR b ⟨n0, n1, n2, n3, n4, n5, n6, n7, n8, n9⟩ nums e = some ⟨strOfNums T, gw e 4 4, gw e 8 4, V12, V29, V33, (-2)⟩) := ⟨by have h := HSY.out ((-2)) HTT.out HIR.out ⟨by rw [← HV29.out]; exact c29, Or.inl z13⟩; rw [← HV29.out, ← HV33.out] at h; exact h⟩
          clear c29 z13
          go_wp2_with fail
          refine (want_yes 5 _).mono ?_
          rintro e' w' ⟨rfl, rfl⟩
          go_wp2_with fail
          refine bodyPost_ret (results_cell_row rfl _ _ (p + 1 + 1) 94 #[.string (strOfNums T), .int .u32 (gw e 4 4), .int .u32 (gw e 8 4), .int .u8 V12, .int .u8 V29, .bool V33, .int .i64 (-2)] (0, 0) _ rfl (set7 HPZ.out) Try.underlying94 rfl (by kernel_rfl)) rfl ?_
          exact ⟨by unfold SymR; rw [HS.out]; exact rfl, set7c HBZ.out HPW.out⟩
        · have t13 : (rd e 13 == 0) = false := by simpa using z13
          by_cases z14 : rd e 13 = 2
          · have t14 : V33 = true := by rw [HV33.out]; simpa using z14
            have HS : Aside0 (symR b ⟨n0, n1, n2, n3, n4, n5, n6, n7, n8, n9⟩ nums e = some ⟨strOfNums T, gw e 4 4, gw e 8 4, V12, V29, true, (-2)⟩) := ⟨by have h := HSY.out ((-2)) HTT.out HIR.out ⟨by rw [← HV29.out]; exact c29, Or.inr z14⟩; rw [← HV29.out, ← HV33.out, t14] at h; exact h⟩
            clear c29 z13 z14
            go_wp2_with fail
            refine (want_yes 5 _).mono ?_
            rintro e' w' ⟨rfl, rfl⟩
            go_wp2_with fail
            refine bodyPost_ret (results_cell_row rfl _ _ (p + 1 + 1) 94 #[.string (strOfNums T), .int .u32 (gw e 4 4), .int .u32 (gw e 8 4), .int .u8 V12, .int .u8 V29, .bool true, .int .i64 (-2)] (0, 0) _ rfl (set7 HPZ.out) Try.underlying94 rfl (by kernel_rfl)) rfl ?_
            exact ⟨by unfold SymR; rw [HS.out]; exact rfl, set7c HBZ.out HPW.out⟩
          · have t14 : V33 = false := by rw [HV33.out]; simpa using z14
            have HS := Aside0.mk (HSK.out HTT.out (fun hh => by rcases hh.2 with h | h; exact z13 h; exact z14 h))
            clear c29 z13 z14
            go_wp2_with fail
            refine (want_no 5 _).mono ?_
            rintro e' w' ⟨rfl, rfl⟩
            exact And.intro rfl ⟨by unfold SymR; rw [HS.out]; exact rfl, HBZ.out⟩
      · have p29 : decide (V29 ≤ 3) = false := decide_eq_false c29
        have q29 : (V29 ≤ 3) = False := eq_false c29
        have HS := Aside0.mk (HSK.out HTT.out (fun hh => c29 (by rw [HV29.out]; exact hh.1)))
        clear c29
        go_wp2_with fail
        refine (want_no 5 _).mono ?_
        rintro e' w' ⟨rfl, rfl⟩
        exact And.intro rfl ⟨by unfold SymR; rw [HS.out]; exact rfl, HBZ.out⟩
    have k65521 : ((M : Int) == 65521) = false := beq_eq_false_iff_ne.2 (by omega)
    by_cases cm65522 : M = 65522
    · have k65522 : ((M : Int) == 65522) = true := by rw [cm65522]; rfl
      have HIR : Aside0 (inR nums (M : Int) = some (-3)) := ⟨by rw [cm65522]; rfl⟩
      clear cm65522
      have HBZ := Aside0.mk (HBW.out.setCell (p := ⟨r, 6, none⟩) HRW.out (.int .i64 (-3)))
      have HPZ : Aside0 ((w3.setCell ⟨r, 6, none⟩ (.int .i64 (-3))).heap[p + 1 + 1]? = some (.cells #[.string ⟨#[]⟩, .int .u32 0, .int .u32 0, .int .u8 0, .int .u8 0, .bool false, .int .i64 0] 94 (0, 0))) := ⟨((Fr.refl (fun k => k = r) w3).setCell rfl _).blk H83.out n5_⟩
      by_cases c29 : V29 ≤ 3
      · have p29 : decide (V29 ≤ 3) = true := decide_eq_true c29
        have q29 : (V29 ≤ 3) = True := eq_true c29
        by_cases z13 : rd e 13 = 0
        · have t13 : (rd e 13 == 0) = true := by simpa using z13
          have HS : Aside0 (symR b ⟨n0, n1, n2, n3, n4, n5, n6, n7, n8, n9⟩ nums e = some ⟨strOfNums T, gw e 4 4, gw e 8 4, V12, V29, V33, (-3)⟩) := ⟨by have h := HSY.out ((-3)) HTT.out HIR.out ⟨by rw [← HV29.out]; exact c29, Or.inl z13⟩; rw [← HV29.out, ← HV33.out] at h; exact h⟩
          clear c29 z13
          go_wp2_with fail
          refine (want_yes 5 _).mono ?_
          rintro e' w' ⟨rfl, rfl⟩
          go_wp2_with fail
          refine bodyPost_ret (results_cell_row rfl _ _ (p + 1 + 1) 94 #[.string (strOfNums T), .int .u32 (gw e 4 4), .int .u32 (gw e 8 4), .int .u8 V12, .int .u8 V29, .bool V33, .int .i64 (-3)] (0, 0) _ rfl (set7 HPZ.out) Try.underlying94 rfl (by kernel_rfl)) rfl ?_
          exact ⟨by unfold SymR; rw [HS.out]; exact rfl, set7c HBZ.out HPW.out⟩
        · have t13 : (rd e 13 == 0) = false := by simpa using z13
          by_cases z14 : rd e 13 = 2
          · have t14 : V33 = true := by rw [HV33.out]; simpa using z14
            have HS : Aside0 (symR b ⟨n0, n1, n2, n3, n4, n5, n6, n7, n8, n9⟩ nums e = some ⟨strOfNums T, gw e 4 4, gw e 8 4, V12, V29, true, (-3)⟩) := ⟨by have h := HSY.out ((-3)) HTT.out HIR.out ⟨by rw [← HV29.out]; exact c29, Or.inr z14⟩; rw [← HV29.out, ← HV33.out, t14] at h; exact h⟩
            clear c29 z13 z14
            go_wp2_with fail
            refine (want_yes 5 _).mono ?_
            rintro e' w' ⟨rfl, rfl⟩
            go_wp2_with fail
            refine bodyPost_ret (results_cell_row rfl _ _ (p + 1 + 1) 94 #[.string (strOfNums T), .int .u32 (gw e 4 4), .int .u32 (gw e 8 4), .int .u8 V12, .int .u8 V29, .bool true, .int .i64 (-3)] (0, 0) _ rfl (set7 HPZ.out) Try.underlying94 rfl (by kernel_rfl)) rfl ?_
            exact ⟨by unfold SymR; rw [HS.out]; exact rfl, set7c HBZ.out HPW.out⟩
          · have t14 : V33 = false := by rw [HV33.out]; simpa using z14
            have HS := Aside0.mk (HSK.out HTT.out (fun hh => by rcases hh.2 with h | h; exact z13 h; exact z14 h))
            clear c29 z13 z14
            go_wp2_with fail
            refine (want_no 5 _).mono ?_
            rintro e' w' ⟨rfl, rfl⟩
            exact And.intro rfl ⟨by unfold SymR; rw [HS.out]; exact rfl, HBZ.out⟩
      · have p29 : decide (V29 ≤ 3) = false := decide_eq_false c29
        have q29 : (V29 ≤ 3) = False := eq_false c29
        have HS := Aside0.mk (HSK.out HTT.out (fun hh => c29 (by rw [HV29.out]; exact hh.1)))
        clear c29
        go_wp2_with fail
        refine (want_no 5 _).mono ?_
        rintro e' w' ⟨rfl, rfl⟩
        exact And.intro rfl ⟨by unfold SymR; rw [HS.out]; exact rfl, HBZ.out⟩
    have k65522 : ((M : Int) == 65522) = false := beq_eq_false_iff_ne.2 (by omega)
    have HIR0 : Aside0 (inR nums (M : Int) = (nums[M]?).bind fun m => if 0 ≤ m then some m else none) := ⟨by unfold inR; rw [if_neg (by omega), if_neg (by omega), if_neg (by omega)]; rfl⟩
    have hwm := wrap64 (M : Int)
    clear hwm
    have hw : wrap64 (M : Int) = (M : Int) := by have := HML.out; unfold wrap64; omega
    have p0 : 0 ≤ (M : Int) := by omega
    by_cases cl : M < nums.length
    · obtain ⟨an, ea, b0⟩ := Kd.at_int (Kd.C_below HN.out HBW.out) (M : Int) (by omega) (by omega)
      cases ea
      rw [Int.toNat_natCast] at b0
      have hg : nums[M]? = some (rd nums (M : Int)) := by rw [rd_at nums (M : Int) (by omega) (by omega)]; exact List.getElem?_eq_getElem _
      have HIR1 := HIR0.out
      rw [hg, Option.bind_some] at HIR1
      have p1 : ((M : Int) < (nums.length : Int)) = True := eq_true (by omega)
      have p1d : decide ((M : Int) < (nums.length : Int)) = true := decide_eq_true (by omega)
      have p2 : (M < nums.length) = True := eq_true cl
      have p2d : decide (M < nums.length) = true := decide_eq_true cl
      generalize rd nums (M : Int) = m at *
      by_cases c0m : 0 ≤ m
      · have HIR : Aside0 (inR nums (M : Int) = some m) := ⟨by rw [HIR1, if_pos c0m]⟩
        have p3 : decide (0 ≤ m) = true := decide_eq_true c0m
        have p3p : (0 ≤ m) = True := eq_true c0m
        have p3q : (m ≥ 0) = True := eq_true c0m
        clear hg HIR1 c0m cl cm0 cm65521 cm65522
        go_wp2_with fail
        refine (want_yes 5 _).mono ?_
        rintro e' w' ⟨rfl, rfl⟩
        have HBZ := Aside0.mk (HBW.out.setCell (p := ⟨r, 6, none⟩) HRW.out (.int .i64 m))
        have HPZ : Aside0 ((w3.setCell ⟨r, 6, none⟩ (.int .i64 m)).heap[p + 1 + 1]? = some (.cells #[.string ⟨#[]⟩, .int .u32 0, .int .u32 0, .int .u8 0, .int .u8 0, .bool false, .int .i64 0] 94 (0, 0))) := ⟨((Fr.refl (fun k => k = r) w3).setCell rfl _).blk H83.out n5_⟩
        by_cases c29 : V29 ≤ 3
        · have p29 : decide (V29 ≤ 3) = true := decide_eq_true c29
          have q29 : (V29 ≤ 3) = True := eq_true c29
          by_cases z13 : rd e 13 = 0
          · have t13 : (rd e 13 == 0) = true := by simpa using z13
            have HS : Aside0 (symR b ⟨n0, n1, n2, n3, n4, n5, n6, n7, n8, n9⟩ nums e = some ⟨strOfNums T, gw e 4 4, gw e 8 4, V12, V29, V33, m⟩) := ⟨by have h := HSY.out (m) HTT.out HIR.out ⟨by rw [← HV29.out]; exact c29, Or.inl z13⟩; rw [← HV29.out, ← HV33.out] at h; exact h⟩
            clear c29 z13
            go_wp2_with fail
            refine (want_yes 5 _).mono ?_
            rintro e' w' ⟨rfl, rfl⟩
            go_wp2_with fail
            refine bodyPost_ret (results_cell_row rfl _ _ (p + 1 + 1) 94 #[.string (strOfNums T), .int .u32 (gw e 4 4), .int .u32 (gw e 8 4), .int .u8 V12, .int .u8 V29, .bool V33, .int .i64 m] (0, 0) _ rfl (set7 HPZ.out) Try.underlying94 rfl (by kernel_rfl)) rfl ?_
            exact ⟨by unfold SymR; rw [HS.out]; exact rfl, set7c HBZ.out HPW.out⟩
          · have t13 : (rd e 13 == 0) = false := by simpa using z13
            by_cases z14 : rd e 13 = 2
            · have t14 : V33 = true := by rw [HV33.out]; simpa using z14
              have HS : Aside0 (symR b ⟨n0, n1, n2, n3, n4, n5, n6, n7, n8, n9⟩ nums e = some ⟨strOfNums T, gw e 4 4, gw e 8 4, V12, V29, true, m⟩) := ⟨by have h := HSY.out (m) HTT.out HIR.out ⟨by rw [← HV29.out]; exact c29, Or.inr z14⟩; rw [← HV29.out, ← HV33.out, t14] at h; exact h⟩
              clear c29 z13 z14
              go_wp2_with fail
              refine (want_yes 5 _).mono ?_
              rintro e' w' ⟨rfl, rfl⟩
              go_wp2_with fail
              refine bodyPost_ret (results_cell_row rfl _ _ (p + 1 + 1) 94 #[.string (strOfNums T), .int .u32 (gw e 4 4), .int .u32 (gw e 8 4), .int .u8 V12, .int .u8 V29, .bool true, .int .i64 m] (0, 0) _ rfl (set7 HPZ.out) Try.underlying94 rfl (by kernel_rfl)) rfl ?_
              exact ⟨by unfold SymR; rw [HS.out]; exact rfl, set7c HBZ.out HPW.out⟩
            · have t14 : V33 = false := by rw [HV33.out]; simpa using z14
              have HS := Aside0.mk (HSK.out HTT.out (fun hh => by rcases hh.2 with h | h; exact z13 h; exact z14 h))
              clear c29 z13 z14
              go_wp2_with fail
              refine (want_no 5 _).mono ?_
              rintro e' w' ⟨rfl, rfl⟩
              exact And.intro rfl ⟨by unfold SymR; rw [HS.out]; exact rfl, HBZ.out⟩
        · have p29 : decide (V29 ≤ 3) = false := decide_eq_false c29
          have q29 : (V29 ≤ 3) = False := eq_false c29
          have HS := Aside0.mk (HSK.out HTT.out (fun hh => c29 (by rw [HV29.out]; exact hh.1)))
          clear c29
          go_wp2_with fail
          refine (want_no 5 _).mono ?_
          rintro e' w' ⟨rfl, rfl⟩
          exact And.intro rfl ⟨by unfold SymR; rw [HS.out]; exact rfl, HBZ.out⟩
      · have HIR : Aside0 (inR nums (M : Int) = none) := ⟨by rw [HIR1, if_neg c0m]⟩
        have p3 : decide (0 ≤ m) = false := decide_eq_false c0m
        have p3p : (0 ≤ m) = False := eq_false c0m
        have HS := Aside0.mk (HSN.out HTT.out HIR.out)
        clear hg HIR1 c0m cl cm0 cm65521 cm65522
        go_wp2_with fail
        refine (want_no 5 _).mono ?_
        rintro e' w' ⟨rfl, rfl⟩
        exact And.intro rfl ⟨by unfold SymR; rw [HS.out]; exact rfl, HBW.out⟩
    · have HIR : Aside0 (inR nums (M : Int) = none) := ⟨by rw [HIR0.out, List.getElem?_eq_none (by omega)]; rfl⟩
      have p1 : ((M : Int) < (nums.length : Int)) = False := eq_false (by omega)
      have p1d : decide ((M : Int) < (nums.length : Int)) = false := decide_eq_false (by omega)
      have p2 : (M < nums.length) = False := eq_false cl
      have p2d : decide (M < nums.length) = false := decide_eq_false cl
      have HS := Aside0.mk (HSN.out HTT.out HIR.out)
      clear cl cm0 cm65521 cm65522
      go_wp2_with fail
      refine (want_no 5 _).mono ?_
      rintro e' w' ⟨rfl, rfl⟩
      exact And.intro rfl ⟨by unfold SymR; rw [HS.out]; exact rfl, HBW.out⟩
end Go.Proofs.Ytockojajbnnbpaa.E
namespace Go.Proofs.Ytockojajbnnbpaa.E
open Go.RowKit Go.Proofs.Ytockojajbnnbpaa.Q Go.Proofs.YtockojajbnnbpaaW.PrintWords Go.Proofs.YtockojajbnnbpaaW.PrintLast Go.Proofs.YtockojajbnnbpaaW.PrintMore
set_option linter.unusedVariables false
set_option linter.unusedSimpArgs false
theorem zloop (X : List Int) (hl : X.length < 4611686018427387904) (er : Int) : ∀ (d k i : Nat), i + d = X.length → d < k → ends_Zero.l0 k er X (X.length : Int) (i : Int) = some ((X.drop i).all (· == 0) && (er == 0))
  | d, 0, i, h, hk => absurd hk (Nat.not_lt_zero _)
  | 0, k + 1, i, h, hk => by
    have hi : i = X.length := by omega
    subst hi
    unfold ends_Zero.l0
    rw [if_neg (by omega), List.drop_length]
    rfl
  | d + 1, k + 1, i, h, hk => by
    have hi : i < X.length := by omega
    have hd : X.drop i = X[i] :: X.drop (i + 1) := List.drop_eq_getElem_cons hi
    have hr : rd X (i : Int) = X[i] := by rw [rd_at X (i : Int) (by omega) (by omega)]; rfl
    unfold ends_Zero.l0
    rw [if_pos (by omega), if_pos (by omega), if_pos (by omega), hr, hd, List.all_cons]
    by_cases c : X[i] = 0
    · rw [if_pos c, w64s i (by omega), zloop X hl er d k (i + 1) (by omega) (by omega)]
      have : (X[i] == 0) = true := by simpa using c
      rw [this, Bool.true_and]
    · rw [if_neg c]
      have : (X[i] == 0) = false := by simpa using c
      rw [this, Bool.false_and, Bool.false_and]
theorem all_zero : ∀ (X : List Int), X.all (· == 0) = decide (X = List.replicate X.length 0)
  | [] => rfl
  | x :: X => by
    rw [List.all_cons, all_zero X]
    by_cases c : x = 0
    · subst c; simp [List.replicate_succ]
    · have : (x == 0) = false := by simpa using c
      rw [this, Bool.false_and]
      symm
      rw [decide_eq_false_iff_not]
      intro h
      rw [List.length_cons, List.replicate_succ] at h
      exact c (List.cons.inj h).1
theorem zero_is (L : List Int) (hl : L.length ≤ 65536) : ends_Zero.f 20 L 0 16 = some (decide (L.take 16 = List.replicate 16 0)) := by
  unfold ends_Zero.f
  rw [part_is L (by omega) 0 16, if_neg (by omega)]
  by_cases c : (L.length : Int) - 0 < 16
  · rw [if_pos c]
    show ends_Zero.l0 20 4 [] 0 0 = _
    have h : ¬ L.take 16 = List.replicate 16 0 := by
      intro h
      have := congrArg List.length h
      rw [List.length_take, List.length_replicate] at this
      omega
    rw [decide_eq_false h]
    rfl
  · rw [if_neg c]
    have hc : cutAt L 0 16 = L.take 16 := gw_cut L 0 16
    rw [Option.bind_some, hc]
    have hlt : (L.take 16).length = 16 := by rw [List.length_take]; omega
    have h := zloop (L.take 16) (by omega) 0 16 20 0 (by omega) (by decide)
    rw [List.drop_zero, all_zero, hlt] at h
    rw [hlt]
    simpa using h
theorem Zero_calls (A : Option Addr) (c : Nat) (L : List Int) (hl : L.length ≤ 65536) (w : World) (h : Kd.C (Kd.int .u8) w A L.length L) (hc : L.length ≤ c) :
    Calls Try.prog 72 #[.slice A L.length c, .int .i64 0, .int .i64 16] w fun e w' => e = .returned (.bool (decide (L.take 16 = List.replicate 16 0))) ∧ Below w.heap.size w w' :=
  ends_Zero.calls 20 A c L 0 16 _ w h hc (zero_is L hl)
theorem chunk_at (L : List Int) (i : Nat) (h : 16 * (i + 1) < L.length) (hm : L.length % 16 = 0) : ((chunks L 16).drop 1)[i]? = some ((L.take (16 * (i + 1) + 16)).drop (16 * (i + 1))) := by
  unfold chunks
  rw [List.getElem?_drop, List.getElem?_map, List.getElem?_range (by omega)]
  show some ((L.drop (16 * (1 + i))).take 16) = some _
  congr 1
  rw [List.drop_take, show 16 * (i + 1) + 16 - 16 * (i + 1) = 16 by omega, show 16 * (1 + i) = 16 * (i + 1) by omega]
theorem chunk_n (L : List Int) (i : Nat) (hm : L.length % 16 = 0) (h : ¬ 16 * (i + 1) < L.length) (hi : i ≤ ((chunks L 16).drop 1).length) : i = ((chunks L 16).drop 1).length := by
  unfold chunks at *
  rw [List.length_drop, List.length_map, List.length_range] at *
  omega
theorem chunk_lt (L : List Int) (i : Nat) (hm : L.length % 16 = 0) (h : 16 * (i + 1) < L.length) : i < ((chunks L 16).drop 1).length := by
  unfold chunks at *
  rw [List.length_drop, List.length_map, List.length_range] at *
  omega
theorem chunk_max (L : List Int) (hl : L.length ≤ 65536) : ((chunks L 16).drop 1).length ≤ 4096 := by
  unfold chunks at *
  rw [List.length_drop, List.length_map, List.length_range] at *
  omega
theorem dropR (kl : IntKind) (A : Option Addr) (c : Nat) (xs : List S47) (m : Nat) (hm : m ≤ xs.length) (hc : xs.length ≤ c) :
    ∃ A' : Option Addr, (∀ W : World, (Instr.slice 48 (.slice A xs.length c) (some (.int kl (m : Int))) none none).run Try.prog W = .ok (.slice A' (xs.drop m).length (c - m)) W) ∧ (∀ W : World, Kd.C k47 W A xs.length xs → Kd.C k47 W A' (xs.drop m).length (xs.drop m)) := by
  obtain ⟨i0, hi, hiz⟩ := Option.map_eq_some_iff.1 info47
  simp only [Prod.mk.injEq] at hiz
  have hel : Try.prog.elem 48 = 47 := by simp [Program.elem, Try.underlying48]
  have hu : Try.prog.underlying 48 = some (.slice (Try.prog.elem 48)) := by rw [hel]; exact Try.underlying48
  have hl : (xs.drop m).length = xs.length - m := List.length_drop
  refine ⟨if c = m then A else A.map (·.add (m * 10)), fun W => ?_, fun W h => ?_⟩
  · rw [run_slice_l W 48 A xs.length c hu kl (m : Int) (by omega) (by omega), hel, hl]
    simp [sizeOf, typeInfo, hi, hiz.2.1, sliced, Result.andThen]
  · exact Kd.C_drop h hm hc
end Go.Proofs.Ytockojajbnnbpaa.E
