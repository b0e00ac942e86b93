-- The reference's memory: New, Tags, Bytes, by hand. Lean checks it.
import Derived.Test.YtiiemfnaegapmaaH8
namespace Go.Proofs.Ytiiemfnaegapmaa.Q
open Go.Proofs.Ytiiemfnaegapmaa.Pure Go.Proofs.Ytiiemfnaegapmaa.Z
open Go.RowKit Go.Proofs.YtiiemfnaegapmaaW.PrintWords Go.Proofs.YtiiemfnaegapmaaW.PrintLast Go.Proofs.YtiiemfnaegapmaaW.PrintMore
set_option linter.unusedVariables false
set_option linter.unusedSimpArgs false
theorem slice36 (g n s : Nat) (k1 k2 : IntKind) (h : n + s ≤ 65536) (w : World) :
    (Instr.sliceAt 36 (.slice (some ⟨g, 0, none⟩) 65536 65536) (some (.int k1 (n : Int))) (some (.int k2 ((n : Int) + (s : Int)))) none).run Try.prog w = .ok (.slice (if 65536 = n then some ⟨g, 0, none⟩ else some ⟨g, n, none⟩) s (65536 - n)) w := by
  have e : ((n : Int) + (s : Int)) = ((n + s : Nat) : Int) := by omega
  rw [e]
  unfold Instr.sliceAt
  rw [Sem.run_bind, run_underlying Try.underlying36]
  simp only [Result.andThen_ok]
  unfold Instr.slice Instr.sliceBounds
  rw [Sem.run_bind, run_underlying Try.underlying36]
  simp only [Result.andThen_ok, Sem.run_bind, Sem.run_pure]
  rw [run_bound (x := undef) (n := n + s) w h]
  simp only [Result.andThen_ok]
  rw [run_bound (x := undef) (n := n) w (by omega)]
  simp only [Result.andThen_ok]
  rw [Try.sizeOf5]
  simp only [Result.andThen_ok, Option.map_some]
  rw [Addr.add_mid, Nat.mul_one, Nat.zero_add, show n + s - n = s by omega]
/-- How many of the first granules have a tag, and are touched. -/
def rcnt (T : Nat → Bool) (n s : Nat) : Nat → Nat
  | 0 => 0
  | k + 1 => rcnt T n s k + (if T k = true ∧ 0 < s ∧ n < 8 * k + 8 ∧ 8 * k < n + s then 1 else 0)
theorem rcnt_low (T : Nat → Bool) (n s : Nat) : ∀ k, k ≤ n / 8 → rcnt T n s k = 0
  | 0, _ => rfl
  | k + 1, h => by
    unfold rcnt
    rw [rcnt_low T n s k (by omega), if_neg (by omega)]
theorem rcnt_mid (T : Nat → Bool) (n s : Nat) : ∀ k, k ≤ spanN n s → rcnt T n s (n / 8 + k) = cntT T (n / 8) k
  | 0, _ => rcnt_low T n s _ (Nat.le_refl _)
  | k + 1, h => by
    have ih := rcnt_mid T n s k (by omega)
    unfold spanN at h
    split at h
    · omega
    · rw [← Nat.add_assoc]
      unfold rcnt cntT
      rw [ih]
      by_cases c : T (n / 8 + k) = true
      · rw [if_pos c, if_pos ⟨c, by omega, by omega, by omega⟩]
      · rw [if_neg c, if_neg (fun x => c x.1)]
theorem rcnt_high (T : Nat → Bool) (n s : Nat) (j : Nat) : ∀ k, rcnt T n s (n / 8 + spanN n s + k) = rcnt T n s (n / 8 + spanN n s)
  | 0 => rfl
  | k + 1 => by
    rw [← Nat.add_assoc]
    show rcnt T n s (n / 8 + spanN n s + k) + _ = _
    rw [rcnt_high T n s j k, if_neg, Nat.add_zero]
    unfold spanN
    split <;> omega
theorem rcnt_is (T : Nat → Bool) (n s : Nat) (h : n + s ≤ 65536) : rcnt T n s 8192 = cntT T (n / 8) (spanN n s) := by
  have hs : n / 8 + spanN n s ≤ 8192 := by unfold spanN; split <;> omega
  have h1 := rcnt_high T n s 0 (8192 - (n / 8 + spanN n s))
  rw [show n / 8 + spanN n s + (8192 - (n / 8 + spanN n s)) = 8192 by omega] at h1
  rw [h1, rcnt_mid T n s _ (Nat.le_refl _)]
theorem rcnt_le (T : Nat → Bool) (n s : Nat) : ∀ k, rcnt T n s k ≤ k
  | 0 => Nat.le_refl _
  | k + 1 => by have := rcnt_le T n s k; unfold rcnt; split <;> omega
set_option maxRecDepth 100000 in
set_option maxHeartbeats 8000000 in
theorem rTags_ok {h gb gt : Nat} {B : Nat → Int} {T : Nat → Bool} (n s : Nat) (w : World) (hM : RMem w h gb gt B T) (hn : n + s ≤ 65536) :
    Calls Try.prog 34 #[.pointer (some ⟨h, 0, none⟩), .int .i64 n, .int .i64 s] w fun e w' => e = .returned (.tuple #[.int .i64 (cntT T (n / 8) (spanN n s)), .int .i64 0]) ∧ w = w' := by
  rw [← rcnt_is T n s hn]
  have HM := Aside0.mk hM
  have HN := Aside0.mk hn
  have d1 : decide ((n : Int) < 0) = false := decide_eq_false (by omega)
  have d2 : decide ((s : Int) < 0) = false := decide_eq_false (by omega)
  have d3 : decide (65536 < (n : Int)) = false := decide_eq_false (by omega)
  have hw : wrap64 (65536 - (n : Int)) = 65536 - (n : Int) := by unfold wrap64; omega
  have d4 : decide (65536 - (n : Int) < (s : Int)) = false := decide_eq_false (by omega)
  have ho : ∃ m, m = 8192 := ⟨_, rfl⟩
  obtain ⟨m, hm⟩ := ho
  have HMM := Aside0.mk hm
  rw [← hm]
  clear hM hn hm
  go_enter Try.func34, Try.ntmps34
  go_wp2_with fail
  clear d1 d2 d3 hw d4
  go_loopg [8, 9] (m + 1) (fun kq v8 v9 w' => ∃ j : Nat, v8 = .int .i64 (rcnt T n s j : Nat) ∧ v9 = .int .i64 (j : Int) ∧ Aside0 (j + kq = m + 1) ∧ Aside0 (j ≤ m) ∧ w' = w)
  case atStart => exact ⟨0, rfl, rfl, ⟨by omega⟩, ⟨by omega⟩, rfl⟩
  case round =>
    obtain ⟨j, rfl, rfl, HK, HI, rfl⟩ := hrel
    have hq0 := rcnt_le T n s j
    have hj8 : j ≤ 8192 := by have := HI.out; have := HMM.out; omega
    obtain ⟨q, hq⟩ : ∃ q, q = rcnt T n s j := ⟨_, rfl⟩
    rw [← hq] at hq0 ⊢
    have HQ := Aside0.mk hq
    have hw1 : wrap64 ((q : Int) + 1) = (q : Int) + 1 := by unfold wrap64; omega
    have hw2 : wrap64 ((j : Int) + 1) = (j : Int) + 1 := by unfold wrap64; omega
    have hw3 : wrap64 (8 * (j : Int)) = 8 * (j : Int) := by unfold wrap64; omega
    have hw4 : wrap64 (8 * (j : Int) + 8) = 8 * (j : Int) + 8 := by unfold wrap64; omega
    have hw5 : wrap64 ((n : Int) + (s : Int)) = (n : Int) + (s : Int) := by have := HN.out; unfold wrap64; omega
    clear hq hq0
    by_cases c : j < m
    · cases gk with
      | zero => exact absurd HK.out (by have := HI.out; omega)
      | succ gk =>
        have hlt : j < 8192 := by have := HMM.out; omega
        have hc1 := HM.out.c1
        have hcell := HM.out.tag j hlt
        have HC := Aside0.mk c
        have d5 : decide ((j : Int) < 8192) = true := decide_eq_true (by omega)
        have hj0 : (0 : Int) ≤ (j : Int) := by omega
        cases ht : T j with
        | false =>
          rw [ht] at hcell
          have NO : Aside0 (¬ (T j = true ∧ 0 < s ∧ n < 8 * j + 8 ∧ 8 * j < n + s)) := ⟨fun x => by rw [ht] at x; exact absurd x.1 (by decide)⟩
          clear ht c
          go_wp2
          go_roundg gk
          case measure => omega
          case rel => exact ⟨j + 1, int_eq (by unfold rcnt; rw [if_neg NO.out, HQ.out]; rfl), int_eq (by omega), ⟨by have := HK.out; omega⟩, ⟨by have := HC.out; omega⟩, rfl⟩
        | true =>
          rw [ht] at hcell
          have HT := Aside0.mk ht
          clear ht c
          by_cases e0 : 0 < s
          rotate_left
          · have NO : Aside0 (¬ (T j = true ∧ 0 < s ∧ n < 8 * j + 8 ∧ 8 * j < n + s)) := ⟨fun x => by omega⟩
            have f0 : decide ((0 : Int) < (s : Int)) = false := decide_eq_false (by omega)
            have g0 : decide (0 < s) = false := decide_eq_false (by omega)
            clear e0 
            go_wp2
            go_roundg gk
            case measure => omega
            case rel => exact ⟨j + 1, int_eq (by unfold rcnt; rw [if_neg NO.out, HQ.out]; rfl), int_eq (by omega), ⟨by have := HK.out; omega⟩, ⟨by have := HC.out; omega⟩, rfl⟩
          have f0 : decide ((0 : Int) < (s : Int)) = true := decide_eq_true (by omega)
          have g0 : decide (0 < s) = true := decide_eq_true (by omega)
          by_cases e1 : n < 8 * j + 8
          rotate_left
          · have NO : Aside0 (¬ (T j = true ∧ 0 < s ∧ n < 8 * j + 8 ∧ 8 * j < n + s)) := ⟨fun x => by omega⟩
            have f1 : decide ((n : Int) < 8 * (j : Int) + 8) = false := decide_eq_false (by omega)
            have g1 : decide (n < 8 * j + 8) = false := decide_eq_false (by omega)
            clear e1 e0
            go_wp2
            go_roundg gk
            case measure => omega
            case rel => exact ⟨j + 1, int_eq (by unfold rcnt; rw [if_neg NO.out, HQ.out]; rfl), int_eq (by omega), ⟨by have := HK.out; omega⟩, ⟨by have := HC.out; omega⟩, rfl⟩
          have f1 : decide ((n : Int) < 8 * (j : Int) + 8) = true := decide_eq_true (by omega)
          have g1 : decide (n < 8 * j + 8) = true := decide_eq_true (by omega)
          by_cases e2 : 8 * j < n + s
          rotate_left
          · have NO : Aside0 (¬ (T j = true ∧ 0 < s ∧ n < 8 * j + 8 ∧ 8 * j < n + s)) := ⟨fun x => by omega⟩
            have f2 : decide (8 * (j : Int) < (n : Int) + (s : Int)) = false := decide_eq_false (by omega)
            have g2 : decide (8 * j < n + s) = false := decide_eq_false (by omega)
            clear e2 e0 e1
            go_wp2
            go_roundg gk
            case measure => omega
            case rel => exact ⟨j + 1, int_eq (by unfold rcnt; rw [if_neg NO.out, HQ.out]; rfl), int_eq (by omega), ⟨by have := HK.out; omega⟩, ⟨by have := HC.out; omega⟩, rfl⟩
          have f2 : decide (8 * (j : Int) < (n : Int) + (s : Int)) = true := decide_eq_true (by omega)
          have g2 : decide (8 * j < n + s) = true := decide_eq_true (by omega)
          have YES : Aside0 (T j = true ∧ 0 < s ∧ n < 8 * j + 8 ∧ 8 * j < n + s) := ⟨⟨HT.out, e0, e1, e2⟩⟩
          clear e0 e1 e2
          go_wp2
          go_roundg gk
          case measure => omega
          case rel => exact ⟨j + 1, int_eq (by unfold rcnt; rw [if_pos YES.out, ← HQ.out, hw1]; omega), int_eq (by omega), ⟨by have := HK.out; omega⟩, ⟨by have := HC.out; omega⟩, rfl⟩
    · have hi : j = m := by have := HI.out; omega
      have hi2 : j = 8192 := by rw [hi]; exact HMM.out
      have d5 : decide ((j : Int) < 8192) = false := decide_eq_false (by omega)
      have HJ := Aside0.mk hi
      clear hi hi2 c hw1 hw2 hw3 hw4 hw5
      go_wp2
      go_ret2
      exact ⟨ret2i (by rw [HQ.out, HJ.out]), rfl⟩
end Go.Proofs.Ytiiemfnaegapmaa.Q
