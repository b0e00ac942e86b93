-- The memory's functions: Bytes, Tags, LoadCap, StoreCap, Copy, by hand. Lean checks it.
import Derived.Test.YtiiemfnaegapmaaH2
import Derived.Laws.Cover3
import Derived.Deep.RegionHeld3
import Derived.Deep.WholeRow
namespace Go.Proofs.Ytiiemfnaegapmaa.Q
open Go.Proofs.Ytiiemfnaegapmaa.Pure Go.Proofs.Ytiiemfnaegapmaa.Z
open Go.RowKit Go.Proofs.YtiiemfnaegapmaaW.PrintWords Go.Proofs.YtiiemfnaegapmaaW.PrintLast Go.Proofs.YtiiemfnaegapmaaW.PrintMore
set_option linter.unusedVariables false
set_option linter.unusedSimpArgs false
set_option maxHeartbeats 4000000 in
theorem Bytes_ok {g : Nat} {B : Nat → Int} {T : Nat → Bool} (n s : Nat) (w : World) (hM : Mem w g true B T) (hn : n + s ≤ 65536) :
    Calls Try.prog 10 #[.pointer (some ⟨g, 0, none⟩), .int .i64 n, .int .i64 s] w fun e w' => ∃ v, e = .returned (.tuple #[v, .int .i64 0]) ∧ Kd.R (Kd.int .u8) 5 w' w.heap.size (fun _ => True) v (row B n s) ∧ Below w.heap.size w w' := by
  have HM := Aside0.mk hM
  have hp : isPart (n : Int) (s : Int) = true := by unfold isPart; exact decide_eq_true ⟨by omega, by omega, by omega⟩
  obtain ⟨A2, hsl, hC⟩ : ∃ A2, (∀ w : World, (Instr.sliceAt 61 (.pointer (some ⟨g, 1, none⟩)) (some (.int .i64 (n : Int))) (some (.int .i64 ((n : Int) + (s : Int)))) none).run Try.prog w = .ok (.slice A2 s (65536 - n)) w) ∧ Kd.C (Kd.int .u8) w A2 (row B n s).length (row B n s) := by
    refine ⟨_, slice61_2 g n s .i64 .i64 hn, ?_⟩
    by_cases e : 65536 = n
    · have hz : s = 0 := by omega
      subst hz
      exact C_none _ _ _
    · rw [if_neg e]
      exact hM.C n s hn
  have hcall := bytes_Clone.calls A2 (65536 - n) (row B n s) (row B n s) w hC (by rw [row_len]; omega) (by unfold bytes_Clone.f; rw [if_pos (by rw [row_len]; omega)])
  rw [row_len] at hcall
  have HCALL := Aside0.mk hcall
  have h1 : (n : Int) + s ≤ 65536 := by omega
  clear hM hn hC hcall
  go_enter Try.func10, Try.ntmps10
  go_wp2_with fail
  refine (none_calls HM.out).mono ?_
  rintro e w1 ⟨rfl, rfl⟩
  go_wp2_with fail
  refine (part_calls (n : Int) (s : Int) _).mono ?_
  rw [hp]
  rintro e w1 ⟨rfl, rfl⟩
  go_wp2_with fail
  refine HCALL.out.mono ?_
  rintro e w1 ⟨v, rfl, hR, hb⟩
  have HR1 := Aside0.mk hR
  have HB1 := Aside0.mk hb
  clear hR hb
  go_wp2
  go_ret2
  exact ⟨_, rfl, HR1.out, HB1.out⟩
/-- How many of so many granules have a tag. -/
def cntT (T : Nat → Bool) (lo : Nat) : Nat → Nat
  | 0 => 0
  | k + 1 => cntT T lo k + (if T (lo + k) = true then 1 else 0)
theorem cntT_le (T : Nat → Bool) (lo : Nat) : ∀ k, cntT T lo k ≤ k
  | 0 => Nat.le_refl _
  | k + 1 => by have := cntT_le T lo k; unfold cntT; split <;> omega
/-- How many granules there are of so many bytes. -/
def spanN (n s : Nat) : Nat := if s = 0 then 0 else (n + s - 1) / 8 + 1 - n / 8
theorem int_eq {k : IntKind} {a b : Int} (h : a = b) : Value.int k a = .int k b := by rw [h]
theorem ret2i {k k2 : IntKind} {a b c : Int} (h : a = b) : Ending.returned (.tuple #[.int k a, .int k2 c]) = .returned (.tuple #[.int k b, .int k2 c]) := by rw [h]
set_option maxHeartbeats 8000000 in
theorem Tags_ok {g : Nat} {B : Nat → Int} {T : Nat → Bool} (n s : Nat) (w : World) (hM : Mem w g true B T) (hn : n + s ≤ 65536) :
    Calls Try.prog 11 #[.pointer (some ⟨g, 0, none⟩), .int .i64 n, .int .i64 s] w fun e w' => e = .returned (.tuple #[.int .i64 (cntT T (n / 8) (spanN n s)), .int .i64 0]) ∧ w = w' := by
  have HM := Aside0.mk hM
  have hp : isPart (n : Int) (s : Int) = true := by unfold isPart; exact decide_eq_true ⟨by omega, by omega, by omega⟩
  have h1 : (n : Int) + s ≤ 65536 := by omega
  have HN := Aside0.mk hn
  clear hM hn
  go_enter Try.func11, Try.ntmps11
  go_wp2_with fail
  refine (none_calls HM.out).mono ?_
  rintro e w1 ⟨rfl, rfl⟩
  go_wp2_with fail
  refine (part_calls (n : Int) (s : Int) _).mono ?_
  rw [hp]
  rintro e w1 ⟨rfl, rfl⟩
  clear hp
  go_wp2_with fail
  go_loopg [8, 9] (spanN n s + 1) (fun kq v8 v9 w' => ∃ j : Nat, v8 = .int .i64 (cntT T (n / 8) j : Nat) ∧ v9 = .int .i64 ((n / 8 + j : Nat) : Int) ∧ Aside0 (j + kq = spanN n s + 1) ∧ Aside0 (j ≤ spanN n s) ∧ w' = w)
  case atStart => exact ⟨0, rfl, by simp, ⟨by omega⟩, ⟨by omega⟩, rfl⟩
  case round =>
    obtain ⟨j, rfl, rfl, HK, HJ, rfl⟩ := hrel
    have hc0 := cntT_le T (n / 8) j
    generalize hq : cntT T (n / 8) j = q at hc0
    have HQ := Aside0.mk hq
    clear hq
    by_cases hs : 0 < s
    · have hsp : spanN n s = (n + s - 1) / 8 + 1 - n / 8 := by unfold spanN; rw [if_neg (by omega)]
      have hN := HN.out
      have hK := HK.out
      have hJ := HJ.out
      rw [hsp] at hK hJ
      have hd1 : Int.tdiv ((n : Int) + s - 1) 8 = (((n + s - 1) / 8 : Nat) : Int) := by rw [Int.tdiv_eq_ediv_of_nonneg (by omega)]; omega
      by_cases c : j < (n + s - 1) / 8 + 1 - n / 8
      · cases gk with
        | zero => exact absurd hK (by omega)
        | succ gk =>
          have hj8 : n / 8 + j < 8192 := by omega
          have hcell := HM.out.tag (n / 8 + j) hj8
          have hdec : decide ((n : Int) / 8 + (j : Int) ≤ ((n + s - 1 : Nat) : Int) / 8) = true := decide_eq_true (by omega)
          have HLT : Aside0 (j < spanN n s) := ⟨by omega⟩
          clear hsp hK hJ hN c
          cases ht : T (n / 8 + j) with
          | true =>
            rw [ht] at hcell
            have HT := Aside0.mk ht
            clear ht
            go_wp2
            go_roundg gk
            case measure => omega
            case rel => exact ⟨j + 1, by unfold cntT; rw [if_pos HT.out, HQ.out]; go_num, int_eq (by omega), ⟨by have := HK.out; omega⟩, ⟨by have := HLT.out; omega⟩, rfl⟩
          | false =>
            rw [ht] at hcell
            have HT := Aside0.mk ht
            clear ht
            go_wp2
            go_roundg gk
            case measure => omega
            case rel => exact ⟨j + 1, by unfold cntT; rw [if_neg (by rw [HT.out]; decide), HQ.out]; rfl, int_eq (by omega), ⟨by have := HK.out; omega⟩, ⟨by have := HLT.out; omega⟩, rfl⟩
      · have hdec : decide ((n : Int) / 8 + (j : Int) ≤ ((n + s - 1 : Nat) : Int) / 8) = false := decide_eq_false (by omega)
        have HE : Aside0 (j = spanN n s) := ⟨by omega⟩
        clear hsp hK hJ hN c
        go_wp2
        go_ret2
        exact ⟨ret2i (by rw [← HE.out, HQ.out]), rfl⟩
    · have HE : Aside0 (j = spanN n s) := ⟨by have := HJ.out; have h0 : spanN n s = 0 := by unfold spanN; rw [if_pos (by omega)]
                                              omega⟩
      have hdec : decide ((0 : Int) < (s : Int)) = false := decide_eq_false (by omega)
      have hdec2 : decide (0 < s) = false := decide_eq_false hs
      go_wp2
      go_ret2
      exact ⟨ret2i (by rw [← HE.out, HQ.out]), rfl⟩
end Go.Proofs.Ytiiemfnaegapmaa.Q
