-- The reference's memory: StoreCap, LoadCap, by hand. Lean checks it.
import Derived.Test.YtiiemfnaegapmaaH10
namespace Go.Proofs.Ytiiemfnaegapmaa.Q
open Go.Proofs.Ytiiemfnaegapmaa.Pure Go.Proofs.Ytiiemfnaegapmaa.Z
open Go.RowKit Go.Proofs.YtiiemfnaegapmaaW.PrintWords Go.Proofs.YtiiemfnaegapmaaW.PrintLast Go.Proofs.YtiiemfnaegapmaaW.PrintMore
set_option linter.unusedVariables false
set_option linter.unusedSimpArgs false
def byteAt (a m : Int) (k : Nat) : Int := if k < 4 then nth a k else nth m (k - 4)
/-- Behind the first j bytes of a capability's store. -/
def stCk (B : Nat → Int) (n : Nat) (a m : Int) (j : Nat) : Nat → Int := fun i => if n ≤ i ∧ i < n + j then byteAt a m (i - n) else B i
theorem stCk_zero (B : Nat → Int) (n : Nat) (a m : Int) : stCk B n a m 0 = B := by
  funext i; unfold stCk; rw [if_neg (by omega)]
theorem stCk_step (B : Nat → Int) (n : Nat) (a m : Int) (j : Nat) : upB (stCk B n a m j) (n + j) (byteAt a m j) = stCk B n a m (j + 1) := by
  funext i
  unfold upB stCk
  by_cases e : i = n + j
  · rw [if_pos e, if_pos (by omega)]
    congr 1
    omega
  · rw [if_neg e]
    by_cases c : n ≤ i ∧ i < n + j
    · rw [if_pos c, if_pos (by omega)]
    · rw [if_neg c, if_neg (by omega)]
theorem stCk_eight (B : Nat → Int) (n : Nat) (a m : Int) : stCk B n a m 8 = stC B n a m := by
  funext i
  unfold stCk stC byteAt
  by_cases c : n ≤ i ∧ i < n + 8
  · rw [if_pos c]
    by_cases d : i < n + 4
    · rw [if_pos (by omega), if_pos (by omega)]
    · rw [if_neg (by omega), if_neg (by omega), if_pos (by omega), show i - n - 4 = i - (n + 4) by omega]
  · rw [if_neg c, if_neg (by omega), if_neg (by omega)]
def arr8 (a m : Int) : Array Value := #[.int .u8 (nth a 0), .int .u8 (nth a 1), .int .u8 (nth a 2), .int .u8 (nth a 3), .int .u8 (nth m 0), .int .u8 (nth m 1), .int .u8 (nth m 2), .int .u8 (nth m 3)]
theorem arr8_get (a m : Int) (j : Nat) (hj : j < 8) : (arr8 a m)[j]? = some (.int .u8 (byteAt a m j)) := by
  have : j = 0 ∨ j = 1 ∨ j = 2 ∨ j = 3 ∨ j = 4 ∨ j = 5 ∨ j = 6 ∨ j = 7 := by omega
  rcases this with h | h | h | h | h | h | h | h <;> subst h <;> rfl
set_option maxRecDepth 100000 in
set_option maxHeartbeats 8000000 in
theorem rStoreCap_ok {h gb gt : Nat} {B : Nat → Int} {T : Nat → Bool} (n : Nat) (q0 : Bool) (q1 q2 q3 q4 q5 q6 : Int) (h1 : 0 ≤ q1 ∧ q1 < 4294967296) (h2 : 0 ≤ q2 ∧ q2 ≤ 255) (h3 : 0 ≤ q3 ∧ q3 ≤ 255) (h4 : 0 ≤ q4 ∧ q4 ≤ 255) (h5 : 0 ≤ q5 ∧ q5 ≤ 65535) (h6 : 0 ≤ q6 ∧ q6 ≤ 65535) (w : World) (hM : RMem w h gb gt B T) (hd : n % 8 = 0) (hn : n + 8 ≤ 65536) :
    Calls Try.prog 32 #[.pointer (some ⟨h, 0, none⟩), .int .u32 n, .agg #[.bool q0, .int .u32 q1, .int .u8 q2, .int .u8 q3, .int .u8 q4, .int .u16 q5, .int .u16 q6]] w fun e w' => e = .returned (.int .i64 0) ∧ RMem w' h gb gt (stC B n q1 (num2 q2 q3 q4 q5 q6)) (upT T (n / 8) q0) ∧ Fr (fun k => k = gb ∨ k = gt) w w' := by
  have HM := Aside0.mk hM
  have HN := Aside0.mk hn
  have HB : Aside0 (Below w.heap.size w (w.alloc (.cells #[.bool q0, .int .u32 q1, .int .u8 q2, .int .u8 q3, .int .u8 q4, .int .u16 q5, .int .u16 q6] 30))) := ⟨(Below.refl _ _).alloc (Nat.le_refl _) _⟩
  have HM1 := Aside0.mk (HM.out.below HB.out)
  have hu30 := Try.underlying30
  have hu51 := Try.underlying51
  have ht : Int.tmod (n : Int) 8 = 0 := by rw [Int.tmod_eq_emod_of_nonneg (by omega)]; omega
  have d1 : decide (65536 ≤ (n : Int)) = false := decide_eq_false (by omega)
  have HBC := Aside0.mk (rbytes_callsE q0 q1 q2 q3 q4 q5 q6 h1 h2 h3 h4 h5 h6)
  clear hM hd hn h1 h2 h3 h4 h5 h6
  go_enter Try.func32, Try.ntmps32
  go_wp2_with fail
  refine (HBC.out _).mono ?_
  rintro e w3 ⟨rfl, hb⟩
  have HM3 := Aside0.mk (HM1.out.below hb)
  have HB3 := Aside0.mk (below_step HB.out hb)
  have BQ := Aside0.mk (blk_below (heap_alloc_new w (.cells #[.bool q0, .int .u32 q1, .int .u8 q2, .int .u8 q3, .int .u8 q4, .int .u16 q5, .int .u16 q6] 30)) hb)
  clear hb ht d1 HBC
  go_wp2_with fail
  have HM4 := Aside0.mk (HM3.out.below ((Below.refl w3.heap.size w3).alloc (Nat.le_refl _) (.cells (arr8 q1 (num2 q2 q3 q4 q5 q6)) 51)))
  have HB4 := Aside0.mk (below_step HB3.out ((Below.refl w3.heap.size w3).alloc (Nat.le_refl _) (.cells (arr8 q1 (num2 q2 q3 q4 q5 q6)) 51)))
  have BA := Aside0.mk (heap_alloc_new w3 (.cells (arr8 q1 (num2 q2 q3 q4 q5 q6)) 51))
  replace BQ := Aside0.mk (blk_below BQ.out ((Below.refl w3.heap.size w3).alloc (Nat.le_refl _) (.cells (arr8 q1 (num2 q2 q3 q4 q5 q6)) 51)))
  have NE : Aside0 ((gb ≠ w3.heap.size ∧ gt ≠ w3.heap.size) ∧ gb ≠ w.heap.size ∧ gt ≠ w.heap.size) := ⟨by have h1 := HM.out.lt; have h2 := HB3.out.size; omega⟩
  obtain ⟨w4, hw4⟩ : ∃ w4, w4 = w3.alloc (.cells (arr8 q1 (num2 q2 q3 q4 q5 q6)) 51) := ⟨_, rfl⟩
  show Code.wp _ _ _ _ (w3.alloc (.cells (arr8 q1 (num2 q2 q3 q4 q5 q6)) 51))
  rw [← hw4] at HM4 HB4 BA BQ ⊢
  clear hw4 HM1 HM3
  have HM0 : Aside0 (RMem w4 h gb gt (stCk B n q1 (num2 q2 q3 q4 q5 q6) 0) T) := ⟨by rw [stCk_zero]; exact HM4.out⟩
  have HF0 : Aside0 (Fr (fun k => k = gb ∨ k = gt) w w4) := ⟨Fr.of_below HB4.out⟩
  go_loopg [8] (9) (fun kq v8 w' => ∃ j : Nat, v8 = .int .i64 (j : Int) ∧ Aside0 (j + kq = 9) ∧ Aside0 (j ≤ 8) ∧ Aside0 (RMem w' h gb gt (stCk B n q1 (num2 q2 q3 q4 q5 q6) j) T) ∧ Aside0 (w'.heap[w3.heap.size]? = some (.cells (arr8 q1 (num2 q2 q3 q4 q5 q6)) 51 (0, 0))) ∧ Aside0 (w'.heap[w.heap.size]? = some (.cells #[.bool q0, .int .u32 q1, .int .u8 q2, .int .u8 q3, .int .u8 q4, .int .u16 q5, .int .u16 q6] 30 (0, 0))) ∧ Aside0 (Fr (fun k => k = gb ∨ k = gt) w w'))
  case atStart => exact ⟨0, rfl, ⟨rfl⟩, ⟨by omega⟩, HM0, BA, BQ, HF0⟩
  case round =>
    clear HM0 HF0 BA BQ HM4 HB4
    obtain ⟨j, rfl, HK, HJ, HM5, BA, BQ, HF⟩ := hrel
    by_cases c : j < 8
    · cases gk with
      | zero => exact absurd HK.out (by have := HJ.out; omega)
      | succ gk =>
        have hn2 : n + j < 65536 := by have := HN.out; omega
        have hc0 := HM5.out.c0
        have hcell := HM5.out.byte (n + j) hn2
        have hfr := HM5.out.freeB (n + j)
        have hca : wr.cell? ⟨w3.heap.size, j, none⟩ = some (.int .u8 (byteAt q1 (num2 q2 q3 q4 q5 q6) j)) := (blk_cell BA.out j).trans (arr8_get _ _ j c)
        have HM6 : Aside0 (RMem (wr.setCell ⟨gb, n + j, none⟩ (.int .u8 (byteAt q1 (num2 q2 q3 q4 q5 q6) j))) h gb gt (stCk B n q1 (num2 q2 q3 q4 q5 q6) (j + 1)) T) := ⟨by rw [← stCk_step]; exact HM5.out.setB (n + j) hn2 _⟩
        obtain ⟨y, hy⟩ : ∃ y, y = byteAt q1 (num2 q2 q3 q4 q5 q6) j := ⟨_, rfl⟩
        rw [← hy] at hca HM6
        clear hy
        have HC := Aside0.mk c
        have d5 : decide ((j : Int) < 8) = true := decide_eq_true (by omega)
        have i1 : (0 : Int) ≤ (j : Int) := by omega
        have i2 : (j : Int) < 8 := by omega
        have i3 : IntKind.i64.wrap ((n : Int) + (j : Int)) = (n : Int) + (j : Int) := by rw [IntKind.wrap_i64]; omega
        have i4 : IntKind.i64.wrap (n : Int) = (n : Int) := by rw [IntKind.wrap_i64]; omega
        have i5 : ((n : Int) + (j : Int)).toNat = n + j := by omega
        have i6 : (0 : Int) ≤ (n : Int) + (j : Int) := by omega
        have i7 : (n : Int) + (j : Int) < 65536 := by omega
        clear c
        go_wp2
        go_region
        go_wp2
        go_roundg gk
        case measure => omega
        case rel => exact ⟨j + 1, by go_num, ⟨by have := HK.out; omega⟩, ⟨by have := HC.out; omega⟩, ⟨⟨HM6.out.hd, HM6.out.bs, HM6.out.ts⟩⟩, ⟨blk_far BA.out (Ne.symm NE.out.1.1) _⟩, ⟨blk_far BQ.out (Ne.symm NE.out.2.1) _⟩, ⟨(HF.out.setCell (.inl rfl) _).drew⟩⟩
    · have hj : j = 8 := by have := HJ.out; omega
      subst hj
      have HM6 : Aside0 (RMem wr h gb gt (stC B n q1 (num2 q2 q3 q4 q5 q6)) T) := ⟨by rw [← stCk_eight]; exact HM5.out⟩
      have hr2 : n / 8 < 8192 := by have := HN.out; omega
      have HR := Aside0.mk hr2
      have hc1 := HM6.out.c1
      have hcq : wr.cell? ⟨w.heap.size, 0, none⟩ = some (.bool q0) := (blk_cell BQ.out 0).trans rfl
      have hct := HM6.out.tag (n / 8) hr2
      have hft := HM6.out.freeT (n / 8)
      have q1' : Int.tdiv (n : Int) 8 = (n : Int) / 8 := Int.tdiv_eq_ediv_of_nonneg (by omega)
      have q2' : IntKind.u32.wrap ((n : Int) / 8) = (n : Int) / 8 := by have := HN.out; simp [IntKind.wrap, IntKind.bits, IntKind.signed]; omega
      have q3' : (0 : Int) ≤ (n : Int) / 8 := by omega
      have q4' : (n : Int) / 8 < 8192 := by omega
      have q5' : ((n : Int) / 8).toNat = n / 8 := by omega
      clear hr2 c
      go_wp2
      go_region
      go_wp2
      go_ret
      exact ⟨rfl, ⟨(HM6.out.setT (n / 8) HR.out q0).hd, (HM6.out.setT (n / 8) HR.out q0).bs, (HM6.out.setT (n / 8) HR.out q0).ts⟩, (HF.out.setCell (.inr rfl) _).drew⟩
end Go.Proofs.Ytiiemfnaegapmaa.Q
