-- The memory's functions: what is refused, Load, Bytes, Tags, by hand. Lean checks it.
import Derived.Test.YtiiemfnaegapmaaH1
namespace Go.Proofs.Ytiiemfnaegapmaa.Q
open Go.Proofs.Ytiiemfnaegapmaa.Pure Go.Proofs.Ytiiemfnaegapmaa.Z
open Go.RowKit Go.Proofs.YtiiemfnaegapmaaW.PrintWords Go.Proofs.YtiiemfnaegapmaaW.PrintLast Go.Proofs.YtiiemfnaegapmaaW.PrintMore
set_option linter.unusedVariables false
set_option linter.unusedSimpArgs false
theorem isNum_is {s : Int} (h : isNum s = true) : ∃ k : Nat, s = (k : Int) ∧ (k = 1 ∨ k = 2 ∨ k = 4) := by
  unfold isNum at h
  rcases of_decide_eq_true h with h | h | h
  · exact ⟨1, h, .inl rfl⟩
  · exact ⟨2, h, .inr (.inl rfl)⟩
  · exact ⟨4, h, .inr (.inr rfl)⟩
theorem run_bound {x : Value} {k : IntKind} {n y : Nat} {c : BoundsCode} (w : World) (h : n ≤ y) : (Instr.sliceBound (.int k n) y c).run Try.prog w = .ok n w := by
  unfold Instr.sliceBound
  simp [asIntOf, h]
theorem slice61_3 (g n s : Nat) (k1 k2 k3 : IntKind) (h : n + s ≤ 65536) (hs : ¬ s = 0) (w : World) :
    (Instr.sliceAt 61 (.pointer (some ⟨g, 1, none⟩)) (some (.int k1 (n : Int))) (some (.int k2 ((n : Int) + (s : Int)))) (some (.int k3 ((n : Int) + (s : Int))))).run Try.prog w = .ok (.slice (some ⟨g, 1 + n, none⟩) s s) w := by
  have e : ((n : Int) + (s : Int)) = ((n + s : Nat) : Int) := by omega
  rw [e]
  unfold Instr.sliceAt Instr.sliceBounds
  rw [Sem.run_bind, run_underlying Try.underlying61]
  simp only [Result.andThen_ok, Instr.sureAddr, Sem.run_bind, Sem.run_pure]
  rw [run_bound (x := undef) (n := n + s) w h]
  simp only [Result.andThen_ok]
  rw [run_bound (x := undef) (n := n + s) w (Nat.le_refl _)]
  simp only [Result.andThen_ok]
  rw [run_bound (x := undef) (n := n) w (by omega)]
  simp only [Result.andThen_ok]
  rw [Try.sizeOf5]
  simp only [Result.andThen_ok]
  rw [if_neg (by omega), Addr.add_mid, Nat.mul_one, show n + s - n = s by omega]
theorem slice61_2 (g n s : Nat) (k1 k2 : IntKind) (h : n + s ≤ 65536) (w : World) :
    (Instr.sliceAt 61 (.pointer (some ⟨g, 1, none⟩)) (some (.int k1 (n : Int))) (some (.int k2 ((n : Int) + (s : Int)))) none).run Try.prog w = .ok (.slice (some (if 65536 = n then ⟨g, 1, none⟩ else ⟨g, 1 + n, none⟩)) s (65536 - n)) w := by
  have e : ((n : Int) + (s : Int)) = ((n + s : Nat) : Int) := by omega
  rw [e]
  unfold Instr.sliceAt Instr.sliceBounds
  rw [Sem.run_bind, run_underlying Try.underlying61]
  simp only [Result.andThen_ok, Instr.sureAddr, Sem.run_bind, Sem.run_pure]
  rw [run_bound (x := undef) (n := n + s) w h]
  simp only [Result.andThen_ok]
  rw [run_bound (x := undef) (n := n) w (by omega)]
  simp only [Result.andThen_ok]
  rw [Try.sizeOf5]
  simp only [Result.andThen_ok]
  rw [Addr.add_mid, Nat.mul_one, show n + s - n = s by omega]
set_option maxHeartbeats 4000000 in
theorem Store_bad {g : Nat} {B : Nat → Int} {T : Nat → Bool} (a s v : Int) (w : World) (hM : Mem w g true B T) (ha : 0 ≤ a ∧ a < 4294967296) (hb : (isNum s && isThere a s) = false) :
    Calls Try.prog 8 #[.pointer (some ⟨g, 0, none⟩), .int .u32 a, .int .i64 s, .int .u32 v] w fun e w' => e = .returned (.int .i64 2) ∧ w = w' := by
  have HM := Aside0.mk hM
  have HA := Aside0.mk ha
  clear hM ha
  cases hc : isNum s with
  | false =>
    clear hb
    go_enter Try.func8, Try.ntmps8
    go_wp2_with fail
    refine (none_calls HM.out).mono ?_
    rintro e w1 ⟨rfl, rfl⟩
    go_wp2_with fail
    refine (number_calls s _).mono ?_
    rw [hc]
    rintro e w1 ⟨rfl, rfl⟩
    go_wp2
    go_ret
    exact ⟨rfl, rfl⟩
  | true =>
    have hd : isThere a s = false := by rw [hc, Bool.true_and] at hb; exact hb
    have HS : Aside0 (1 ≤ s ∧ s ≤ 8) := ⟨by obtain ⟨k, rfl, h⟩ := isNum_is hc; omega⟩
    clear hb
    go_enter Try.func8, Try.ntmps8
    go_wp2_with fail
    refine (none_calls HM.out).mono ?_
    rintro e w1 ⟨rfl, rfl⟩
    go_wp2_with fail
    refine (number_calls s _).mono ?_
    rw [hc]
    rintro e w1 ⟨rfl, rfl⟩
    go_wp2_with fail
    refine (there_calls a s HA.out HS.out _).mono ?_
    rw [hd]
    rintro e w1 ⟨rfl, rfl⟩
    go_wp2
    go_ret
    exact ⟨rfl, rfl⟩
set_option maxHeartbeats 4000000 in
theorem Load_ok {g : Nat} {B : Nat → Int} {T : Nat → Bool} (hB : ∀ i, 0 ≤ B i ∧ B i ≤ 255) (n s : Nat) (w : World) (hM : Mem w g true B T) (hs : s = 1 ∨ s = 2 ∨ s = 4) (hd : (n : Int) % s = 0) (hn : n + s ≤ 65536) :
    Calls Try.prog 14 #[.pointer (some ⟨g, 0, none⟩), .int .u32 n, .int .i64 s] w fun e w' => e = .returned (.tuple #[.int .u32 (numOf (row B n s)), .int .i64 0]) ∧ Below w.heap.size w w' := by
  have HM := Aside0.mk hM
  have HBY := Aside0.mk hB
  have hnum : isNum (s : Int) = true := by unfold isNum; rcases hs with h | h | h <;> subst h <;> rfl
  have hth : isThere (n : Int) (s : Int) = true := by unfold isThere; exact decide_eq_true ⟨hd, by omega⟩
  have HS := Aside0.mk hs
  have HN := Aside0.mk hn
  have hsl := slice61_3 g n s .u32 .i64 .i64 hn (by omega)
  have h1 : (n : Int) + s ≤ 65536 := by omega
  clear hM hd hs hn hB
  go_enter Try.func14, Try.ntmps14
  go_wp2_with fail
  refine (none_calls HM.out).mono ?_
  rintro e w1 ⟨rfl, rfl⟩
  go_wp2_with fail
  refine (number_calls (s : Int) _).mono ?_
  rw [hnum]
  rintro e w1 ⟨rfl, rfl⟩
  go_wp2_with fail
  refine (there_calls (n : Int) (s : Int) (by have := HN.out; omega) (by have := HS.out; omega) _).mono ?_
  rw [hth]
  rintro e w1 ⟨rfl, rfl⟩
  clear hnum hth
  have hg : ends_Get.f 20 (row B n s) 0 s = some (numOf (row B n s), 0) := by
    rw [get_is _ (row_bytes HBY.out n s) (by rw [row_len]; omega) 0 s 20 (by decide)]
    unfold getV
    rw [if_pos (by have := HS.out; omega), if_neg (by rw [row_len]; omega), if_neg (by rw [row_len]; omega)]
    unfold cutAt
    rw [show ((0 : Int) + (s : Int)).toNat = s by omega, show (0 : Int).toNat = 0 from rfl, List.drop_zero, List.take_of_length_le (by rw [row_len]; omega)]
  have HG := Aside0.mk hg
  have hC := HM.out.C n s (by have := HN.out; omega)
  have HC := Aside0.mk hC
  clear hg hC
  have hcall := ends_Get.calls 20 (some ⟨g, 1 + n, none⟩) s (row B n s) 0 s _ 0 w HC.out (by rw [row_len]; exact Nat.le_refl _) HG.out
  rw [row_len] at hcall
  have HCALL := Aside0.mk hcall
  have hnr := numOf_range (row B n s) (row_bytes HBY.out n s)
  have hn0 : 0 ≤ numOf (row B n s) := hnr.1
  have hn1 : numOf (row B n s) % 4294967296 = numOf (row B n s) := by
    have h4 : (2 : Int) ^ (8 * (row B n s).length) ≤ 4294967296 := by rw [row_len]; rcases HS.out with h | h | h <;> subst h <;> decide
    have := hnr.2
    exact Int.emod_eq_of_lt hn0 (by omega)
  clear hcall hnr
  go_wp2_with fail
  refine HCALL.out.mono ?_
  rintro e w1 ⟨rfl, hb⟩
  have HB1 := Aside0.mk hb
  clear hb
  go_wp2
  go_ret2
  exact ⟨rfl, HB1.out⟩
/-! ### refusals, printed by mkH2.py -/
/-- None: no pointer, or to one that is not made. -/
def Un (w : World) (p : Value) : Prop := p = .pointer none ∨ ∃ g B T, p = .pointer (some ⟨g, 0, none⟩) ∧ Mem w g false B T
theorem Un.below {w w1 : World} {p : Value} (h : Un w p) (k : Below w.heap.size w w1) : Un w1 p := by
  rcases h with h | ⟨g, B, T, h, hm⟩
  · exact .inl h
  · exact .inr ⟨g, B, T, h, hm.below k⟩
theorem none_un {w : World} {p : Value} (h : Un w p) : Calls Try.prog 22 #[p] w fun e w' => e = .returned (.bool true) ∧ w = w' := by
  rcases h with rfl | ⟨g, B, T, rfl, hm⟩
  · exact none_nil w
  · exact none_calls hm
set_option maxHeartbeats 4000000 in
theorem Store_un (a s v : Int) (w : World) (p : Value) (hU : Un w p) :
    Calls Try.prog 8 #[p, .int .u32 a, .int .i64 s, .int .u32 v] w fun e w' => e = .returned (.int .i64 1) ∧ w = w' := by
  have HU := Aside0.mk hU
  clear hU
  go_enter Try.func8, Try.ntmps8
  go_wp2_with fail
  refine (none_un HU.out).mono ?_
  rintro e w1 ⟨rfl, rfl⟩
  go_wp2
  go_ret
  exact ⟨rfl, rfl⟩
set_option maxHeartbeats 4000000 in
theorem Load_bad {g : Nat} {B : Nat → Int} {T : Nat → Bool} (a s : Int) (w : World) (hM : Mem w g true B T) (ha : 0 ≤ a ∧ a < 4294967296) (hb : (isNum s && isThere a s) = false) :
    Calls Try.prog 14 #[.pointer (some ⟨g, 0, none⟩), .int .u32 a, .int .i64 s] w fun e w' => e = .returned (.tuple #[.int .u32 0, .int .i64 2]) ∧ w = w' := by
  have HM := Aside0.mk hM
  have HA := Aside0.mk ha
  clear hM ha
  cases hc : isNum s with
  | false =>
    clear hb
    go_enter Try.func14, Try.ntmps14
    go_wp2_with fail
    refine (none_calls HM.out).mono ?_
    rintro e w1 ⟨rfl, rfl⟩
    go_wp2_with fail
    refine (number_calls s _).mono ?_
    rw [hc]
    rintro e w1 ⟨rfl, rfl⟩
    go_wp2
    go_ret2
    exact ⟨rfl, rfl⟩
  | true =>
    have hd : isThere a s = false := by rw [hc, Bool.true_and] at hb; exact hb
    have HS : Aside0 (1 ≤ s ∧ s ≤ 8) := ⟨by obtain ⟨k, rfl, h⟩ := isNum_is hc; omega⟩
    clear hb
    go_enter Try.func14, Try.ntmps14
    go_wp2_with fail
    refine (none_calls HM.out).mono ?_
    rintro e w1 ⟨rfl, rfl⟩
    go_wp2_with fail
    refine (number_calls s _).mono ?_
    rw [hc]
    rintro e w1 ⟨rfl, rfl⟩
    go_wp2_with fail
    refine (there_calls a s HA.out HS.out _).mono ?_
    rw [hd]
    rintro e w1 ⟨rfl, rfl⟩
    go_wp2
    go_ret2
    exact ⟨rfl, rfl⟩
set_option maxHeartbeats 4000000 in
theorem Load_un (a s : Int) (w : World) (p : Value) (hU : Un w p) :
    Calls Try.prog 14 #[p, .int .u32 a, .int .i64 s] w fun e w' => e = .returned (.tuple #[.int .u32 0, .int .i64 1]) ∧ w = w' := by
  have HU := Aside0.mk hU
  clear hU
  go_enter Try.func14, Try.ntmps14
  go_wp2_with fail
  refine (none_un HU.out).mono ?_
  rintro e w1 ⟨rfl, rfl⟩
  go_wp2
  go_ret2
  exact ⟨rfl, rfl⟩
set_option maxHeartbeats 4000000 in
theorem LoadCap_bad {g : Nat} {B : Nat → Int} {T : Nat → Bool} (a : Int) (w : World) (hM : Mem w g true B T) (ha : 0 ≤ a ∧ a < 4294967296) (hb : isThere a 8 = false) :
    Calls Try.prog 15 #[.pointer (some ⟨g, 0, none⟩), .int .u32 a] w fun e w' => e = .returned (.tuple #[.agg #[.bool false, .int .u32 0, .int .u8 0, .int .u8 0, .int .u8 0, .int .u16 0, .int .u16 0], .int .i64 2]) ∧ Below w.heap.size w w' := by
  have HM := Aside0.mk hM
  have HA := Aside0.mk ha
  have HB : Aside0 (Below w.heap.size w (w.alloc (.cells #[.bool false, .int .u32 0, .int .u8 0, .int .u8 0, .int .u8 0, .int .u16 0, .int .u16 0] 30))) := ⟨(Below.refl _ _).alloc (Nat.le_refl _) _⟩
  have hu30 := Try.underlying30
  clear hM ha
  go_enter Try.func15, Try.ntmps15
  go_wp2_with fail
  refine (none_calls (HM.out.below HB.out)).mono ?_
  rintro e w1 ⟨rfl, rfl⟩
  go_wp2_with fail
  refine (there_calls a 8 HA.out (by decide) _).mono ?_
  rw [hb]
  rintro e w1 ⟨rfl, rfl⟩
  go_wp2
  exact bodyPost_ret (v := .tuple #[.agg #[.bool false, .int .u32 0, .int .u8 0, .int .u8 0, .int .u8 0, .int .u16 0, .int .u16 0], .int .i64 2]) (by simp [results, Try.results15, go_sem]) rfl ⟨rfl, HB.out⟩
set_option maxHeartbeats 4000000 in
theorem LoadCap_un (a : Int) (w : World) (p : Value) (hU : Un w p) :
    Calls Try.prog 15 #[p, .int .u32 a] w fun e w' => e = .returned (.tuple #[.agg #[.bool false, .int .u32 0, .int .u8 0, .int .u8 0, .int .u8 0, .int .u16 0, .int .u16 0], .int .i64 1]) ∧ Below w.heap.size w w' := by
  have HU := Aside0.mk hU
  have HB : Aside0 (Below w.heap.size w (w.alloc (.cells #[.bool false, .int .u32 0, .int .u8 0, .int .u8 0, .int .u8 0, .int .u16 0, .int .u16 0] 30))) := ⟨(Below.refl _ _).alloc (Nat.le_refl _) _⟩
  have hu30 := Try.underlying30
  clear hU
  go_enter Try.func15, Try.ntmps15
  go_wp2_with fail
  refine (none_un (HU.out.below HB.out)).mono ?_
  rintro e w1 ⟨rfl, rfl⟩
  go_wp2
  exact bodyPost_ret (v := .tuple #[.agg #[.bool false, .int .u32 0, .int .u8 0, .int .u8 0, .int .u8 0, .int .u16 0, .int .u16 0], .int .i64 1]) (by simp [results, Try.results15, go_sem]) rfl ⟨rfl, HB.out⟩
set_option maxHeartbeats 4000000 in
theorem StoreCap_bad {g : Nat} {B : Nat → Int} {T : Nat → Bool} (a : Int) (q0 : Bool) (q1 q2 q3 q4 q5 q6 : Int) (w : World) (hM : Mem w g true B T) (ha : 0 ≤ a ∧ a < 4294967296) (hb : isThere a 8 = false) :
    Calls Try.prog 9 #[.pointer (some ⟨g, 0, none⟩), .int .u32 a, .agg #[.bool q0, .int .u32 q1, .int .u8 q2, .int .u8 q3, .int .u8 q4, .int .u16 q5, .int .u16 q6]] w fun e w' => e = .returned (.int .i64 2) ∧ Below w.heap.size w w' := by
  have HM := Aside0.mk hM
  have HA := Aside0.mk ha
  have HB : Aside0 (Below w.heap.size w (w.alloc (.cells #[.bool q0, .int .u32 q1, .int .u8 q2, .int .u8 q3, .int .u8 q4, .int .u16 q5, .int .u16 q6] 30))) := ⟨(Below.refl _ _).alloc (Nat.le_refl _) _⟩
  have hu30 := Try.underlying30
  clear hM ha
  go_enter Try.func9, Try.ntmps9
  go_wp2_with fail
  refine (none_calls (HM.out.below HB.out)).mono ?_
  rintro e w1 ⟨rfl, rfl⟩
  go_wp2_with fail
  refine (there_calls a 8 HA.out (by decide) _).mono ?_
  rw [hb]
  rintro e w1 ⟨rfl, rfl⟩
  go_wp2
  go_ret
  exact ⟨rfl, HB.out⟩
set_option maxHeartbeats 4000000 in
theorem StoreCap_un (a : Int) (q0 : Bool) (q1 q2 q3 q4 q5 q6 : Int) (w : World) (p : Value) (hU : Un w p) :
    Calls Try.prog 9 #[p, .int .u32 a, .agg #[.bool q0, .int .u32 q1, .int .u8 q2, .int .u8 q3, .int .u8 q4, .int .u16 q5, .int .u16 q6]] w fun e w' => e = .returned (.int .i64 1) ∧ Below w.heap.size w w' := by
  have HU := Aside0.mk hU
  have HB : Aside0 (Below w.heap.size w (w.alloc (.cells #[.bool q0, .int .u32 q1, .int .u8 q2, .int .u8 q3, .int .u8 q4, .int .u16 q5, .int .u16 q6] 30))) := ⟨(Below.refl _ _).alloc (Nat.le_refl _) _⟩
  have hu30 := Try.underlying30
  clear hU
  go_enter Try.func9, Try.ntmps9
  go_wp2_with fail
  refine (none_un (HU.out.below HB.out)).mono ?_
  rintro e w1 ⟨rfl, rfl⟩
  go_wp2
  go_ret
  exact ⟨rfl, HB.out⟩
set_option maxHeartbeats 4000000 in
theorem Bytes_bad {g : Nat} {B : Nat → Int} {T : Nat → Bool} (a s : Int) (w : World) (hM : Mem w g true B T) (hb : isPart a s = false) :
    Calls Try.prog 10 #[.pointer (some ⟨g, 0, none⟩), .int .i64 a, .int .i64 s] w fun e w' => e = .returned (.tuple #[.slice none 0 0, .int .i64 2]) ∧ w = w' := by
  have HM := Aside0.mk hM
  clear hM
  go_enter Try.func10, Try.ntmps10
  go_wp2_with fail
  refine (none_calls HM.out).mono ?_
  rintro e w1 ⟨rfl, rfl⟩
  go_wp2_with fail
  refine (part_calls a s _).mono ?_
  rw [hb]
  rintro e w1 ⟨rfl, rfl⟩
  go_wp2
  go_ret2
  exact ⟨rfl, rfl⟩
set_option maxHeartbeats 4000000 in
theorem Bytes_un (a s : Int) (w : World) (p : Value) (hU : Un w p) :
    Calls Try.prog 10 #[p, .int .i64 a, .int .i64 s] w fun e w' => e = .returned (.tuple #[.slice none 0 0, .int .i64 1]) ∧ w = w' := by
  have HU := Aside0.mk hU
  clear hU
  go_enter Try.func10, Try.ntmps10
  go_wp2_with fail
  refine (none_un HU.out).mono ?_
  rintro e w1 ⟨rfl, rfl⟩
  go_wp2
  go_ret2
  exact ⟨rfl, rfl⟩
set_option maxHeartbeats 4000000 in
theorem Tags_bad {g : Nat} {B : Nat → Int} {T : Nat → Bool} (a s : Int) (w : World) (hM : Mem w g true B T) (hb : isPart a s = false) :
    Calls Try.prog 11 #[.pointer (some ⟨g, 0, none⟩), .int .i64 a, .int .i64 s] w fun e w' => e = .returned (.tuple #[.int .i64 0, .int .i64 2]) ∧ w = w' := by
  have HM := Aside0.mk hM
  clear hM
  go_enter Try.func11, Try.ntmps11
  go_wp2_with fail
  refine (none_calls HM.out).mono ?_
  rintro e w1 ⟨rfl, rfl⟩
  go_wp2_with fail
  refine (part_calls a s _).mono ?_
  rw [hb]
  rintro e w1 ⟨rfl, rfl⟩
  go_wp2
  go_ret2
  exact ⟨rfl, rfl⟩
set_option maxHeartbeats 4000000 in
theorem Tags_un (a s : Int) (w : World) (p : Value) (hU : Un w p) :
    Calls Try.prog 11 #[p, .int .i64 a, .int .i64 s] w fun e w' => e = .returned (.tuple #[.int .i64 0, .int .i64 1]) ∧ w = w' := by
  have HU := Aside0.mk hU
  clear hU
  go_enter Try.func11, Try.ntmps11
  go_wp2_with fail
  refine (none_un HU.out).mono ?_
  rintro e w1 ⟨rfl, rfl⟩
  go_wp2
  go_ret2
  exact ⟨rfl, rfl⟩
set_option maxHeartbeats 4000000 in
theorem Copy_un  (w : World) (p : Value) (hU : Un w p) :
    Calls Try.prog 16 #[p] w fun e w' => e = .returned (.pointer none) ∧ w = w' := by
  have HU := Aside0.mk hU
  clear hU
  go_enter Try.func16, Try.ntmps16
  go_wp2_with fail
  refine (none_un HU.out).mono ?_
  rintro e w1 ⟨rfl, rfl⟩
  go_wp2
  go_ret
  exact ⟨rfl, rfl⟩
end Go.Proofs.Ytiiemfnaegapmaa.Q
