-- The reference's memory: Load, what is refused, Tags, Bytes, by hand. Lean checks it.
import Derived.Test.YtiiemfnaegapmaaH6
namespace Go.Proofs.Ytiiemfnaegapmaa.Q
open Go.Proofs.Ytiiemfnaegapmaa.Pure Go.Proofs.Ytiiemfnaegapmaa.Z
open Go.RowKit Go.Proofs.YtiiemfnaegapmaaW.PrintWords Go.Proofs.YtiiemfnaegapmaaW.PrintLast Go.Proofs.YtiiemfnaegapmaaW.PrintMore
set_option linter.unusedVariables false
set_option linter.unusedSimpArgs false
theorem row_cons (B : Nat → Int) (m k : Nat) : row B m (k + 1) = B m :: row B (m + 1) k := by
  unfold row
  rw [List.range_succ_eq_map, List.map_cons, List.map_map]
  congr 1
  apply List.map_congr_left
  intro x _
  simp only [Function.comp]
  congr 1
  omega
theorem numRow (B : Nat → Int) (m k : Nat) : numOf (row B m (k + 1)) = B m + 256 * numOf (row B (m + 1) k) := by
  rw [row_cons]
  rfl
theorem numRow3 {B : Nat → Int} (hB : ∀ i, 0 ≤ B i ∧ B i ≤ 255) (m k : Nat) (hk : k ≤ 3) : 0 ≤ numOf (row B m k) ∧ numOf (row B m k) ≤ 16777215 := by
  have h := numOf_range (row B m k) (row_bytes hB m k)
  rw [row_len] at h
  have h2 : (2 : Int) ^ (8 * k) ≤ 16777216 := by
    have : k = 0 ∨ k = 1 ∨ k = 2 ∨ k = 3 := by omega
    rcases this with h | h | h | h <;> subst h <;> decide
  omega
set_option maxRecDepth 100000 in
set_option maxHeartbeats 8000000 in
theorem rLoad_1 {h gb gt : Nat} {B : Nat → Int} {T : Nat → Bool} (hB : ∀ i, 0 ≤ B i ∧ B i ≤ 255) (n : Nat) (w : World) (hM : RMem w h gb gt B T) (hd : (n : Int) % 1 = 0) (hn : n + 1 ≤ 65536) :
    Calls Try.prog 35 #[.pointer (some ⟨h, 0, none⟩), .int .u32 n, .int .i64 1] w fun e w' => e = .returned (.tuple #[.int .u32 (numOf (row B n 1)), .int .i64 0]) ∧ w = w' := by
  have HN := Aside0.mk hn
  have HM := Aside0.mk hM
  have HBY := Aside0.mk hB
  have hw1 : wrap64 (n : Int) = n := by unfold wrap64; omega
  have hw2 : wrap64 ((n : Int) + 1) = (n : Int) + 1 := by unfold wrap64; omega
  have d2 : decide (65536 < (n : Int) + 1) = false := decide_eq_false (by omega)
  have hd1 : Int.tmod (n : Int) 1 = 0 := by rw [Int.tmod_eq_emod_of_nonneg (by omega)]; exact hd
  clear hM hn hd hB
  go_enter Try.func35, Try.ntmps35
  go_wp2_with fail
  clear hw1 hw2 d2
  go_loopg [8, 9] (1 + 1) (fun kq v8 v9 w' => ∃ j : Nat, v8 = .int .u32 (numOf (row B (n + 1 - j) j)) ∧ v9 = .int .i64 (1 - 1 - (j : Int)) ∧ Aside0 (j + kq = 1 + 1) ∧ Aside0 (j ≤ 1) ∧ w' = w)
  case atStart => exact ⟨0, rfl, by simp, ⟨by omega⟩, ⟨by omega⟩, rfl⟩
  case round =>
    obtain ⟨j, rfl, rfl, HK, HI, rfl⟩ := hrel
    have hj : j = 0 ∨ j = 1 := by have := HI.out; omega
    rcases hj with rfl | rfl
    · cases gk with
      | zero => exact absurd HK.out (by omega)
      | succ gk =>
        rw [show (1 : Int) - 1 - (((0 : Nat)) : Int) = 0 from rfl]
        have hc0 := HM.out.c0
        have hcell := HM.out.byte (n) (by have := HN.out; omega)
        have hy := HBY.out (n)
        have hr := numRow3 HBY.out (n + 1 - 0) 0 (by omega)
        have HD : Aside0 (256 * numOf (row B (n + 1 - 0) 0) + B (n) = numOf (row B (n + 1 - 1) 1)) := ⟨by rw [numRow B (n + 1 - 1) 0, show n + 1 - 1 + 1 = n + 1 - 0 by omega, show n + 1 - 1 = n by omega]; omega⟩
        have hlt : n < 65536 := by have := HN.out; omega
        obtain ⟨x, hx⟩ : ∃ x, x = numOf (row B (n + 1 - 0) 0) := ⟨_, rfl⟩
        rw [← hx] at hr HD ⊢
        clear hx
        obtain ⟨y, hyy⟩ : ∃ y, y = B (n) := ⟨_, rfl⟩
        rw [← hyy] at hy HD hcell
        clear hyy
        obtain ⟨hr0, hr1⟩ := hr
        obtain ⟨hy0, hy1⟩ := hy
        go_wp2
        go_roundg gk
        case measure => omega
        case rel => exact ⟨1, int_eq HD.out, int_eq (by omega), ⟨by have := HK.out; omega⟩, ⟨by omega⟩, rfl⟩
    · rw [show (1 : Int) - 1 - (((1 : Nat)) : Int) = -1 from rfl]
      go_wp2
      go_ret2
      exact ⟨ret2i (by rw [show n + 1 - 1 = n by omega]), rfl⟩
set_option maxRecDepth 100000 in
set_option maxHeartbeats 8000000 in
theorem rLoad_2 {h gb gt : Nat} {B : Nat → Int} {T : Nat → Bool} (hB : ∀ i, 0 ≤ B i ∧ B i ≤ 255) (n : Nat) (w : World) (hM : RMem w h gb gt B T) (hd : (n : Int) % 2 = 0) (hn : n + 2 ≤ 65536) :
    Calls Try.prog 35 #[.pointer (some ⟨h, 0, none⟩), .int .u32 n, .int .i64 2] w fun e w' => e = .returned (.tuple #[.int .u32 (numOf (row B n 2)), .int .i64 0]) ∧ w = w' := by
  have HN := Aside0.mk hn
  have HM := Aside0.mk hM
  have HBY := Aside0.mk hB
  have hw1 : wrap64 (n : Int) = n := by unfold wrap64; omega
  have hw2 : wrap64 ((n : Int) + 2) = (n : Int) + 2 := by unfold wrap64; omega
  have d2 : decide (65536 < (n : Int) + 2) = false := decide_eq_false (by omega)
  have hd1 : Int.tmod (n : Int) 2 = 0 := by rw [Int.tmod_eq_emod_of_nonneg (by omega)]; exact hd
  clear hM hn hd hB
  go_enter Try.func35, Try.ntmps35
  go_wp2_with fail
  clear hw1 hw2 d2
  go_loopg [8, 9] (2 + 1) (fun kq v8 v9 w' => ∃ j : Nat, v8 = .int .u32 (numOf (row B (n + 2 - j) j)) ∧ v9 = .int .i64 (2 - 1 - (j : Int)) ∧ Aside0 (j + kq = 2 + 1) ∧ Aside0 (j ≤ 2) ∧ w' = w)
  case atStart => exact ⟨0, rfl, by simp, ⟨by omega⟩, ⟨by omega⟩, rfl⟩
  case round =>
    obtain ⟨j, rfl, rfl, HK, HI, rfl⟩ := hrel
    have hj : j = 0 ∨ j = 1 ∨ j = 2 := by have := HI.out; omega
    rcases hj with rfl | rfl | rfl
    · cases gk with
      | zero => exact absurd HK.out (by omega)
      | succ gk =>
        rw [show (2 : Int) - 1 - (((0 : Nat)) : Int) = 1 from rfl]
        have hc0 := HM.out.c0
        have hcell := HM.out.byte (n + 1) (by have := HN.out; omega)
        have hy := HBY.out (n + 1)
        have hr := numRow3 HBY.out (n + 2 - 0) 0 (by omega)
        have HD : Aside0 (256 * numOf (row B (n + 2 - 0) 0) + B (n + 1) = numOf (row B (n + 2 - 1) 1)) := ⟨by rw [numRow B (n + 2 - 1) 0, show n + 2 - 1 + 1 = n + 2 - 0 by omega, show n + 2 - 1 = n + 1 by omega]; omega⟩
        have hlt : n + 1 < 65536 := by have := HN.out; omega
        obtain ⟨x, hx⟩ : ∃ x, x = numOf (row B (n + 2 - 0) 0) := ⟨_, rfl⟩
        rw [← hx] at hr HD ⊢
        clear hx
        obtain ⟨y, hyy⟩ : ∃ y, y = B (n + 1) := ⟨_, rfl⟩
        rw [← hyy] at hy HD hcell
        clear hyy
        obtain ⟨hr0, hr1⟩ := hr
        obtain ⟨hy0, hy1⟩ := hy
        go_wp2
        go_roundg gk
        case measure => omega
        case rel => exact ⟨1, int_eq HD.out, int_eq (by omega), ⟨by have := HK.out; omega⟩, ⟨by omega⟩, rfl⟩
    · cases gk with
      | zero => exact absurd HK.out (by omega)
      | succ gk =>
        rw [show (2 : Int) - 1 - (((1 : Nat)) : Int) = 0 from rfl]
        have hc0 := HM.out.c0
        have hcell := HM.out.byte (n) (by have := HN.out; omega)
        have hy := HBY.out (n)
        have hr := numRow3 HBY.out (n + 2 - 1) 1 (by omega)
        have HD : Aside0 (256 * numOf (row B (n + 2 - 1) 1) + B (n) = numOf (row B (n + 2 - 2) 2)) := ⟨by rw [numRow B (n + 2 - 2) 1, show n + 2 - 2 + 1 = n + 2 - 1 by omega, show n + 2 - 2 = n by omega]; omega⟩
        have hlt : n < 65536 := by have := HN.out; omega
        obtain ⟨x, hx⟩ : ∃ x, x = numOf (row B (n + 2 - 1) 1) := ⟨_, rfl⟩
        rw [← hx] at hr HD ⊢
        clear hx
        obtain ⟨y, hyy⟩ : ∃ y, y = B (n) := ⟨_, rfl⟩
        rw [← hyy] at hy HD hcell
        clear hyy
        obtain ⟨hr0, hr1⟩ := hr
        obtain ⟨hy0, hy1⟩ := hy
        go_wp2
        go_roundg gk
        case measure => omega
        case rel => exact ⟨2, int_eq HD.out, int_eq (by omega), ⟨by have := HK.out; omega⟩, ⟨by omega⟩, rfl⟩
    · rw [show (2 : Int) - 1 - (((2 : Nat)) : Int) = -1 from rfl]
      go_wp2
      go_ret2
      exact ⟨ret2i (by rw [show n + 2 - 2 = n by omega]), rfl⟩
set_option maxRecDepth 100000 in
set_option maxHeartbeats 8000000 in
theorem rLoad_4 {h gb gt : Nat} {B : Nat → Int} {T : Nat → Bool} (hB : ∀ i, 0 ≤ B i ∧ B i ≤ 255) (n : Nat) (w : World) (hM : RMem w h gb gt B T) (hd : (n : Int) % 4 = 0) (hn : n + 4 ≤ 65536) :
    Calls Try.prog 35 #[.pointer (some ⟨h, 0, none⟩), .int .u32 n, .int .i64 4] w fun e w' => e = .returned (.tuple #[.int .u32 (numOf (row B n 4)), .int .i64 0]) ∧ w = w' := by
  have HN := Aside0.mk hn
  have HM := Aside0.mk hM
  have HBY := Aside0.mk hB
  have hw1 : wrap64 (n : Int) = n := by unfold wrap64; omega
  have hw2 : wrap64 ((n : Int) + 4) = (n : Int) + 4 := by unfold wrap64; omega
  have d2 : decide (65536 < (n : Int) + 4) = false := decide_eq_false (by omega)
  have hd1 : Int.tmod (n : Int) 4 = 0 := by rw [Int.tmod_eq_emod_of_nonneg (by omega)]; exact hd
  clear hM hn hd hB
  go_enter Try.func35, Try.ntmps35
  go_wp2_with fail
  clear hw1 hw2 d2
  go_loopg [8, 9] (4 + 1) (fun kq v8 v9 w' => ∃ j : Nat, v8 = .int .u32 (numOf (row B (n + 4 - j) j)) ∧ v9 = .int .i64 (4 - 1 - (j : Int)) ∧ Aside0 (j + kq = 4 + 1) ∧ Aside0 (j ≤ 4) ∧ w' = w)
  case atStart => exact ⟨0, rfl, by simp, ⟨by omega⟩, ⟨by omega⟩, rfl⟩
  case round =>
    obtain ⟨j, rfl, rfl, HK, HI, rfl⟩ := hrel
    have hj : j = 0 ∨ j = 1 ∨ j = 2 ∨ j = 3 ∨ j = 4 := by have := HI.out; omega
    rcases hj with rfl | rfl | rfl | rfl | rfl
    · cases gk with
      | zero => exact absurd HK.out (by omega)
      | succ gk =>
        rw [show (4 : Int) - 1 - (((0 : Nat)) : Int) = 3 from rfl]
        have hc0 := HM.out.c0
        have hcell := HM.out.byte (n + 3) (by have := HN.out; omega)
        have hy := HBY.out (n + 3)
        have hr := numRow3 HBY.out (n + 4 - 0) 0 (by omega)
        have HD : Aside0 (256 * numOf (row B (n + 4 - 0) 0) + B (n + 3) = numOf (row B (n + 4 - 1) 1)) := ⟨by rw [numRow B (n + 4 - 1) 0, show n + 4 - 1 + 1 = n + 4 - 0 by omega, show n + 4 - 1 = n + 3 by omega]; omega⟩
        have hlt : n + 3 < 65536 := by have := HN.out; omega
        obtain ⟨x, hx⟩ : ∃ x, x = numOf (row B (n + 4 - 0) 0) := ⟨_, rfl⟩
        rw [← hx] at hr HD ⊢
        clear hx
        obtain ⟨y, hyy⟩ : ∃ y, y = B (n + 3) := ⟨_, rfl⟩
        rw [← hyy] at hy HD hcell
        clear hyy
        obtain ⟨hr0, hr1⟩ := hr
        obtain ⟨hy0, hy1⟩ := hy
        go_wp2
        go_roundg gk
        case measure => omega
        case rel => exact ⟨1, int_eq HD.out, int_eq (by omega), ⟨by have := HK.out; omega⟩, ⟨by omega⟩, rfl⟩
    · cases gk with
      | zero => exact absurd HK.out (by omega)
      | succ gk =>
        rw [show (4 : Int) - 1 - (((1 : Nat)) : Int) = 2 from rfl]
        have hc0 := HM.out.c0
        have hcell := HM.out.byte (n + 2) (by have := HN.out; omega)
        have hy := HBY.out (n + 2)
        have hr := numRow3 HBY.out (n + 4 - 1) 1 (by omega)
        have HD : Aside0 (256 * numOf (row B (n + 4 - 1) 1) + B (n + 2) = numOf (row B (n + 4 - 2) 2)) := ⟨by rw [numRow B (n + 4 - 2) 1, show n + 4 - 2 + 1 = n + 4 - 1 by omega, show n + 4 - 2 = n + 2 by omega]; omega⟩
        have hlt : n + 2 < 65536 := by have := HN.out; omega
        obtain ⟨x, hx⟩ : ∃ x, x = numOf (row B (n + 4 - 1) 1) := ⟨_, rfl⟩
        rw [← hx] at hr HD ⊢
        clear hx
        obtain ⟨y, hyy⟩ : ∃ y, y = B (n + 2) := ⟨_, rfl⟩
        rw [← hyy] at hy HD hcell
        clear hyy
        obtain ⟨hr0, hr1⟩ := hr
        obtain ⟨hy0, hy1⟩ := hy
        go_wp2
        go_roundg gk
        case measure => omega
        case rel => exact ⟨2, int_eq HD.out, int_eq (by omega), ⟨by have := HK.out; omega⟩, ⟨by omega⟩, rfl⟩
    · cases gk with
      | zero => exact absurd HK.out (by omega)
      | succ gk =>
        rw [show (4 : Int) - 1 - (((2 : Nat)) : Int) = 1 from rfl]
        have hc0 := HM.out.c0
        have hcell := HM.out.byte (n + 1) (by have := HN.out; omega)
        have hy := HBY.out (n + 1)
        have hr := numRow3 HBY.out (n + 4 - 2) 2 (by omega)
        have HD : Aside0 (256 * numOf (row B (n + 4 - 2) 2) + B (n + 1) = numOf (row B (n + 4 - 3) 3)) := ⟨by rw [numRow B (n + 4 - 3) 2, show n + 4 - 3 + 1 = n + 4 - 2 by omega, show n + 4 - 3 = n + 1 by omega]; omega⟩
        have hlt : n + 1 < 65536 := by have := HN.out; omega
        obtain ⟨x, hx⟩ : ∃ x, x = numOf (row B (n + 4 - 2) 2) := ⟨_, rfl⟩
        rw [← hx] at hr HD ⊢
        clear hx
        obtain ⟨y, hyy⟩ : ∃ y, y = B (n + 1) := ⟨_, rfl⟩
        rw [← hyy] at hy HD hcell
        clear hyy
        obtain ⟨hr0, hr1⟩ := hr
        obtain ⟨hy0, hy1⟩ := hy
        go_wp2
        go_roundg gk
        case measure => omega
        case rel => exact ⟨3, int_eq HD.out, int_eq (by omega), ⟨by have := HK.out; omega⟩, ⟨by omega⟩, rfl⟩
    · cases gk with
      | zero => exact absurd HK.out (by omega)
      | succ gk =>
        rw [show (4 : Int) - 1 - (((3 : Nat)) : Int) = 0 from rfl]
        have hc0 := HM.out.c0
        have hcell := HM.out.byte (n) (by have := HN.out; omega)
        have hy := HBY.out (n)
        have hr := numRow3 HBY.out (n + 4 - 3) 3 (by omega)
        have HD : Aside0 (256 * numOf (row B (n + 4 - 3) 3) + B (n) = numOf (row B (n + 4 - 4) 4)) := ⟨by rw [numRow B (n + 4 - 4) 3, show n + 4 - 4 + 1 = n + 4 - 3 by omega, show n + 4 - 4 = n by omega]; omega⟩
        have hlt : n < 65536 := by have := HN.out; omega
        obtain ⟨x, hx⟩ : ∃ x, x = numOf (row B (n + 4 - 3) 3) := ⟨_, rfl⟩
        rw [← hx] at hr HD ⊢
        clear hx
        obtain ⟨y, hyy⟩ : ∃ y, y = B (n) := ⟨_, rfl⟩
        rw [← hyy] at hy HD hcell
        clear hyy
        obtain ⟨hr0, hr1⟩ := hr
        obtain ⟨hy0, hy1⟩ := hy
        go_wp2
        go_roundg gk
        case measure => omega
        case rel => exact ⟨4, int_eq HD.out, int_eq (by omega), ⟨by have := HK.out; omega⟩, ⟨by omega⟩, rfl⟩
    · rw [show (4 : Int) - 1 - (((4 : Nat)) : Int) = -1 from rfl]
      go_wp2
      go_ret2
      exact ⟨ret2i (by rw [show n + 4 - 4 = n by omega]), rfl⟩
end Go.Proofs.Ytiiemfnaegapmaa.Q
