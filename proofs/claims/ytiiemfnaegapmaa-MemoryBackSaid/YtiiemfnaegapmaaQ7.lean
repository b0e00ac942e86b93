-- A walk, out of the kit's print program run by wip/ownprint.sh and turned by wip/qprune.py. Lean checks it.
import Derived.Test.YtiiemfnaegapmaaQ0
import Derived.Test.YtiiemfnaegapmaaQ6
namespace Go.Proofs.Ytiiemfnaegapmaa.Q
open Go.RowKit Go.Proofs.YtiiemfnaegapmaaW.PrintWords Go.Proofs.YtiiemfnaegapmaaW.PrintLast Go.Proofs.YtiiemfnaegapmaaW.PrintMore
attribute [local go_sem] max2_int min2_int max_two min_two max_three min_three max_four min_four   -- for this text's walks alone
set_option linter.unusedVariables false
set_option linter.unusedSimpArgs false

/-! ### ends_Put: function 37 -/
-- by hand: making
/-- The lowest bytes of a number. -/
def lowBytes : Nat → Int → List Int
  | 0, _ => []
  | k + 1, n => lowBytes k n ++ [n / 2 ^ (8 * k) % 256]
theorem lowBytes_len (k : Nat) (n : Int) : (lowBytes k n).length = k := by
  induction k with
  | zero => rfl
  | succ k ih => simp [lowBytes, ih]
def ends_Put.f (a0 : Int) (a1 : Int) : Option (List Int × Int) :=
  if 0 ≤ a0 ∧ a0 < 18446744073709551616 then (if a1 = 1 ∨ a1 = 2 ∨ a1 = 4 ∨ a1 = 8 then (if a1 < 8 ∧ a0 / 2 ^ (8 * a1.toNat) ≠ 0 then some ([], 2) else some (lowBytes a1.toNat a0, 0)) else some ([], 2)) else none
theorem R_make0 (k : IntKind) (e : Nat) (w : World) (base m : Nat) (hm : m ≤ 1000) (hb : base ≤ w.heap.size) : Kd.R (Kd.int k) e (w.alloc (.cells (madeCells #[.int k 0] m) e)) base (fun _ => True) (.slice (some ⟨w.heap.size, 0, none⟩) 0 m) [] :=
  Kd.R_of_own ⟨rfl, .inr ⟨w.heap.size, m, madeCells #[.int k 0] m, rfl, hb, heap_alloc_new w _, Nat.zero_le _, by simp only [maxLen]; omega, by simp [size_madeCells], by simp [encs]⟩⟩ (fun _ _ => trivial)
theorem run_make0 (n : Nat) (hn : n ≤ 1000) (w : World) :
    (Instr.makeSlice 36 (.int .i64 0) (.int .i64 (n : Int))).run Try.prog w = .ok (.slice (some ⟨w.heap.size, 0, none⟩) 0 n) (w.alloc (.cells (madeCells #[.int .u8 0] n) 5)) := by
  obtain ⟨i0, hi0, hz0⟩ := Option.map_eq_some_iff.1 info5
  simp only [Prod.mk.injEq] at hz0
  have hr := run_make (P := Try.prog) w 36 5 i0 _ Try.underlying36 hi0 hz0.1 .i64 .i64 0 (n : Int) (by omega) (by omega) (by rw [hz0.2.2]; omega) (by omega)
  simp only [Int.toNat_natCast, hz0.2.1, Nat.mul_one] at hr
  exact hr
theorem lowBytes_succ (k : Nat) (n : Int) : lowBytes (k + 1) n = lowBytes k n ++ [n / 2 ^ (8 * k) % 256] := rfl
set_option maxHeartbeats 8000000 in
set_option maxRecDepth 100000 in
/-- From the make on: so many bytes are put. -/
theorem put_core (n : Nat) (hn : n = 1 ∨ n = 2 ∨ n = 4 ∨ n = 8) (a0 : Int) (x0 : 0 ≤ a0) (x1 : a0 < 18446744073709551616) (hfit : n < 8 → a0 / 2 ^ (8 * n) = 0) (w : World) :
    Calls Try.prog 37 #[.int .u64 a0, .int .i64 (n : Int)] w fun e w' => ∃ v0_ : Value, e = .returned (.tuple #[v0_, .int .i64 0]) ∧ Kd.R (Kd.int .u8) 5 w' w.heap.size (fun _ => True) v0_ (lowBytes n a0) ∧ Below w.heap.size w w' := by
  have HB := Aside0.mk (Below.refl w.heap.size w)
  have hm := Aside0.mk (show ends_may.f (n : Int) = some true by unfold ends_may.f; rcases hn with rfl | rfl | rfl | rfl <;> decide)
  have hn8 : n ≤ 8 := by omega
  have hmk := run_make0 n (by omega)
  have HF := Aside0.mk hfit
  have HN := Aside0.mk hn
  clear hfit hn
  have hgo : (decide ((n : Int) < 8) = true ∧ (a0 / 2 ^ (8 * n) != 0) = false) ∨ decide ((n : Int) < 8) = false := by
    by_cases c8 : n < 8
    · exact .inl ⟨by simp; omega, by rw [HF.out c8]; rfl⟩
    · exact .inr (by simp; omega)
  rcases hgo with ⟨c8b, hqb⟩ | c8b
  all_goals
    go_enter Try.func37, Try.ntmps37
    go_wp2_with fail
    refine (ends_may.calls _ true _ hm.out).mono ?_
    rintro e w1 ⟨rfl, ⟨nd, rfl⟩⟩
    go_wp2
    go_loopg [6, 26] n (fun kq v6 v26 w' => ∃ j : Nat, v26 = .int .i64 j ∧ Aside0 (j + kq = n) ∧ j ≤ n ∧ Aside0 (Kd.R (Kd.int .u8) 5 w' w.heap.size (fun _ => True) v6 (lowBytes j a0)) ∧ Aside0 (Below w.heap.size w w'))
    case atStart => exact ⟨0, rfl, ⟨by omega⟩, by omega, ⟨R_make0 .u8 5 (w.drewN nd) w.heap.size n (by omega) (Nat.le_refl _)⟩, ⟨below_alloc (pw_below_drewN HB.out nd) _⟩⟩
    case round =>
      obtain ⟨j, rfl, hj, hjn, HO, HB⟩ := hrel
      rcases Nat.lt_or_ge j n with hlt | hge
      · have hb : decide (j < n) = true := decide_eq_true hlt
        have hbl : (lowBytes j a0).length = j := lowBytes_len j a0
        have HBL := Aside0.mk hbl
        clear hbl hb
        have hb : decide (j < n) = true := decide_eq_true hlt
        go_wp2_with (first | ((with_reducible refine gate_builtin (b := .append) (xs := #[.tmp 29, .tmp 36]) rfl ?_); at_builtin; refine Kd.R_append (Kd.int .u8) (w0 := w) w.heap.size rfl (.tmp 29) (.tmp 36) 36 5 (.int .u8 0) 1 rfl Try.underlying36 info5 rfl (by decide) (by omega) u6 (lowBytes j a0) (a0 / 2 ^ (8 * j) % 256) [.int .u8 (a0 / 2 ^ (8 * j) % 256)] (fun _ => True) (fun _ => False) rfl rfl ?aP (fun _ hk => hk.elim) ?aF ?aO ?aB ?aS ?aL ?_; (case aP => exact rfl); (case aB => exact HB.out); (case aF => exact (fun _ _ => trivial)); (case aO => exact HO.out); (case aS => exact below_size HB.out); (case aL => rw [HBL.out]; omega); intro v1 w7 ho hb7 hg hat; have n0_ := Aside0.mk (hb7); have n1_ := Aside0.mk (ho); clear HB; clear HO; have HB := n0_; have HO := n1_; clear n0_ n1_; clear ho hb7 hg hat))
        obtain ⟨gk, rfl⟩ : ∃ m, gk = m + 1 := ⟨gk - 1, by have := hj.out; omega⟩
        go_roundg gk
        case measure => omega
        case rel => exact ⟨j + 1, by go_num, ⟨by have := hj.out; omega⟩, by omega, HO, HB⟩
      · obtain rfl : j = n := by omega
        have hb : decide (j < j) = false := by simp
        go_wp2
        go_ret2
        exact ⟨_, rfl, HO.out, HB.out⟩
set_option maxHeartbeats 8000000 in
set_option maxRecDepth 100000 in
theorem ends_Put.calls (a0 : Int) (a1 : Int) (r1 : List Int) (r2 : Int) (w : World) (h : ends_Put.f a0 a1 = some (r1, r2)) :
    Calls Try.prog 37 #[.int .u64 a0, .int .i64 a1] w fun e w' => ∃ v0_ : Value, e = .returned (.tuple #[v0_, .int .i64 r2]) ∧ Kd.R (Kd.int .u8) 5 w' w.heap.size (fun _ => True) v0_ r1 ∧ Below w.heap.size w w' := by
  have HB := Aside0.mk (Below.refl w.heap.size w)
  unfold ends_Put.f at h
  have hr : 0 ≤ a0 ∧ a0 < 18446744073709551616 := by
    by_cases g : 0 ≤ a0 ∧ a0 < 18446744073709551616
    · exact g
    · rw [if_neg g] at h; cases h
  rw [if_pos hr] at h
  obtain ⟨x0, x1⟩ := hr
  by_cases c1 : a1 = 1 ∨ a1 = 2 ∨ a1 = 4 ∨ a1 = 8
  · rw [if_pos c1] at h
    obtain ⟨n, rfl⟩ := Int.eq_ofNat_of_zero_le (show 0 ≤ a1 by omega)
    rw [Int.toNat_natCast] at h
    by_cases c2 : (n : Int) < 8 ∧ a0 / 2 ^ (8 * n) ≠ 0
    · rw [if_pos c2] at h
      simp only [Option.some.injEq, Prod.mk.injEq] at h
      obtain ⟨rfl, rfl⟩ := h
      have hm := Aside0.mk (show ends_may.f (n : Int) = some true by unfold ends_may.f; rcases c1 with h | h | h | h <;> rw [h] <;> decide)
      have c8b : decide ((n : Int) < 8) = true := decide_eq_true c2.1
      have hqb : (a0 / 2 ^ (8 * n) != 0) = true := by simp [c2.2]
      have hn8 : n ≤ 8 := by omega
      clear c1 c2
      go_enter Try.func37, Try.ntmps37
      go_wp2_with fail
      refine (ends_may.calls _ true _ hm.out).mono ?_
      rintro e w1 ⟨rfl, ⟨nd, rfl⟩⟩
      go_wp2
      go_ret2
      exact ⟨_, rfl, Kd.R_nil _ _ _ _ _, pw_below_drewN HB.out nd⟩
    · rw [if_neg c2] at h
      simp only [Option.some.injEq, Prod.mk.injEq] at h
      obtain ⟨rfl, rfl⟩ := h
      refine put_core n (by omega) a0 x0 x1 (fun h8 => ?_) w
      by_cases g : a0 / 2 ^ (8 * n) = 0
      · exact g
      · exact absurd ⟨by omega, g⟩ c2
  · rw [if_neg c1] at h
    simp only [Option.some.injEq, Prod.mk.injEq] at h
    obtain ⟨rfl, rfl⟩ := h
    have hm := Aside0.mk (show ends_may.f a1 = some false by
      unfold ends_may.f
      rw [if_neg (fun g => c1 (.inl g)), if_neg (fun g => c1 (.inr (.inl g))), if_neg (fun g => c1 (.inr (.inr (.inl g)))), if_neg (fun g => c1 (.inr (.inr (.inr g))))])
    clear c1
    go_enter Try.func37, Try.ntmps37
    go_wp2_with fail
    refine (ends_may.calls a1 false _ hm.out).mono ?_
    rintro e w1 ⟨rfl, ⟨nd, rfl⟩⟩
    go_wp2
    go_ret2
    exact ⟨_, rfl, Kd.R_nil _ _ _ _ _, pw_below_drewN HB.out nd⟩

end Go.Proofs.Ytiiemfnaegapmaa.Q
