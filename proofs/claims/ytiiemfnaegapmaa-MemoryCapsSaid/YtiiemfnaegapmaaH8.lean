-- The reference's memory: what is refused, Tags, Bytes, by hand. Lean checks it.
import Derived.Test.YtiiemfnaegapmaaH7
namespace Go.Proofs.Ytiiemfnaegapmaa.Q
open Go.Proofs.Ytiiemfnaegapmaa.Pure Go.Proofs.Ytiiemfnaegapmaa.Z
open Go.RowKit Go.Proofs.YtiiemfnaegapmaaW.PrintWords Go.Proofs.YtiiemfnaegapmaaW.PrintLast Go.Proofs.YtiiemfnaegapmaaW.PrintMore
set_option linter.unusedVariables false
set_option linter.unusedSimpArgs false
set_option maxRecDepth 100000 in
set_option maxHeartbeats 8000000 in
theorem rStore_badA (h : Nat) (a s : Int) (v : Int) (w : World) (hb : isNum s = false) :
    Calls Try.prog 31 #[.pointer (some ⟨h, 0, none⟩), .int .u32 a, .int .i64 s, .int .u32 v] w fun e w' => e = .returned (.int .i64 2) ∧ w = w' := by
  unfold isNum at hb
  have hb' := of_decide_eq_false hb
  have c1 : (s == 1) = false := by simp; omega
  have c2 : (s == 2) = false := by simp; omega
  have c4 : (s == 4) = false := by simp; omega
  have e1 : (s != 1) = true := by simp; omega
  have e2 : (s != 2) = true := by simp; omega
  have e4 : (s != 4) = true := by simp; omega
  clear hb hb'
  go_enter Try.func31, Try.ntmps31
  go_wp2
  go_ret
  exact ⟨rfl, rfl⟩
set_option maxRecDepth 100000 in
set_option maxHeartbeats 8000000 in
theorem rStore_badB2 (h : Nat) (a : Int) (v : Int) (w : World) (ha0 : 0 ≤ a) (ha1 : a ≤ 4294967295) (hb : ¬ a % 2 = 0) :
    Calls Try.prog 31 #[.pointer (some ⟨h, 0, none⟩), .int .u32 a, .int .i64 2, .int .u32 v] w fun e w' => e = .returned (.int .i64 2) ∧ w = w' := by
  have ht : Int.tmod a 2 = a % 2 := Int.tmod_eq_emod_of_nonneg ha0
  have c1 : (a % 2 == 0) = false := by simpa using hb
  go_enter Try.func31, Try.ntmps31
  go_wp2
  go_ret
  exact ⟨rfl, rfl⟩
set_option maxRecDepth 100000 in
set_option maxHeartbeats 8000000 in
theorem rStore_badB4 (h : Nat) (a : Int) (v : Int) (w : World) (ha0 : 0 ≤ a) (ha1 : a ≤ 4294967295) (hb : ¬ a % 4 = 0) :
    Calls Try.prog 31 #[.pointer (some ⟨h, 0, none⟩), .int .u32 a, .int .i64 4, .int .u32 v] w fun e w' => e = .returned (.int .i64 2) ∧ w = w' := by
  have ht : Int.tmod a 4 = a % 4 := Int.tmod_eq_emod_of_nonneg ha0
  have c1 : (a % 4 == 0) = false := by simpa using hb
  go_enter Try.func31, Try.ntmps31
  go_wp2
  go_ret
  exact ⟨rfl, rfl⟩
set_option maxRecDepth 100000 in
set_option maxHeartbeats 8000000 in
theorem rStore_badC1 (h : Nat) (a : Int) (v : Int) (w : World) (ha0 : 0 ≤ a) (ha1 : a ≤ 4294967295) (hd : a % 1 = 0) (hb : 65536 < a + 1) :
    Calls Try.prog 31 #[.pointer (some ⟨h, 0, none⟩), .int .u32 a, .int .i64 1, .int .u32 v] w fun e w' => e = .returned (.int .i64 2) ∧ w = w' := by
  have ht : Int.tmod a 1 = 0 := by rw [Int.tmod_eq_emod_of_nonneg ha0]; exact hd
  have c1 : decide (65536 < a + 1) = true := decide_eq_true hb
  clear hb hd
  go_enter Try.func31, Try.ntmps31
  go_wp2
  go_ret
  exact ⟨rfl, rfl⟩
set_option maxRecDepth 100000 in
set_option maxHeartbeats 8000000 in
theorem rStore_badC2 (h : Nat) (a : Int) (v : Int) (w : World) (ha0 : 0 ≤ a) (ha1 : a ≤ 4294967295) (hd : a % 2 = 0) (hb : 65536 < a + 2) :
    Calls Try.prog 31 #[.pointer (some ⟨h, 0, none⟩), .int .u32 a, .int .i64 2, .int .u32 v] w fun e w' => e = .returned (.int .i64 2) ∧ w = w' := by
  have ht : Int.tmod a 2 = 0 := by rw [Int.tmod_eq_emod_of_nonneg ha0]; exact hd
  have c1 : decide (65536 < a + 2) = true := decide_eq_true hb
  clear hb hd
  go_enter Try.func31, Try.ntmps31
  go_wp2
  go_ret
  exact ⟨rfl, rfl⟩
set_option maxRecDepth 100000 in
set_option maxHeartbeats 8000000 in
theorem rStore_badC4 (h : Nat) (a : Int) (v : Int) (w : World) (ha0 : 0 ≤ a) (ha1 : a ≤ 4294967295) (hd : a % 4 = 0) (hb : 65536 < a + 4) :
    Calls Try.prog 31 #[.pointer (some ⟨h, 0, none⟩), .int .u32 a, .int .i64 4, .int .u32 v] w fun e w' => e = .returned (.int .i64 2) ∧ w = w' := by
  have ht : Int.tmod a 4 = 0 := by rw [Int.tmod_eq_emod_of_nonneg ha0]; exact hd
  have c1 : decide (65536 < a + 4) = true := decide_eq_true hb
  clear hb hd
  go_enter Try.func31, Try.ntmps31
  go_wp2
  go_ret
  exact ⟨rfl, rfl⟩
theorem rStore_bad (h : Nat) (a s : Int) (v : Int) (w : World) (ha : 0 ≤ a ∧ a < 4294967296) (hb : (isNum s && isThere a s) = false) :
    Calls Try.prog 31 #[.pointer (some ⟨h, 0, none⟩), .int .u32 a, .int .i64 s, .int .u32 v] w fun e w' => e = .returned (.int .i64 2) ∧ w = w' := by
  cases hc : isNum s with
  | false => exact rStore_badA h a s v w hc
  | true =>
    rw [hc, Bool.true_and] at hb
    unfold isThere at hb
    have hb := of_decide_eq_false hb
    obtain ⟨k, rfl, hk⟩ := isNum_is hc
    rcases hk with rfl | rfl | rfl
    · exact rStore_badC1 h a v w ha.1 (by omega) (by omega) (by omega)
    · by_cases c : a % 2 = 0
      · exact rStore_badC2 h a v w ha.1 (by omega) c (by omega)
      · exact rStore_badB2 h a v w ha.1 (by omega) c
    · by_cases c : a % 4 = 0
      · exact rStore_badC4 h a v w ha.1 (by omega) c (by omega)
      · exact rStore_badB4 h a v w ha.1 (by omega) c
set_option maxRecDepth 100000 in
set_option maxHeartbeats 8000000 in
theorem rLoad_badA (h : Nat) (a s : Int)  (w : World) (hb : isNum s = false) :
    Calls Try.prog 35 #[.pointer (some ⟨h, 0, none⟩), .int .u32 a, .int .i64 s] w fun e w' => e = .returned (.tuple #[.int .u32 0, .int .i64 2]) ∧ w = w' := by
  unfold isNum at hb
  have hb' := of_decide_eq_false hb
  have c1 : (s == 1) = false := by simp; omega
  have c2 : (s == 2) = false := by simp; omega
  have c4 : (s == 4) = false := by simp; omega
  have e1 : (s != 1) = true := by simp; omega
  have e2 : (s != 2) = true := by simp; omega
  have e4 : (s != 4) = true := by simp; omega
  clear hb hb'
  go_enter Try.func35, Try.ntmps35
  go_wp2
  go_ret2
  exact ⟨rfl, rfl⟩
set_option maxRecDepth 100000 in
set_option maxHeartbeats 8000000 in
theorem rLoad_badB2 (h : Nat) (a : Int)  (w : World) (ha0 : 0 ≤ a) (ha1 : a ≤ 4294967295) (hb : ¬ a % 2 = 0) :
    Calls Try.prog 35 #[.pointer (some ⟨h, 0, none⟩), .int .u32 a, .int .i64 2] w fun e w' => e = .returned (.tuple #[.int .u32 0, .int .i64 2]) ∧ w = w' := by
  have ht : Int.tmod a 2 = a % 2 := Int.tmod_eq_emod_of_nonneg ha0
  have c1 : (a % 2 == 0) = false := by simpa using hb
  go_enter Try.func35, Try.ntmps35
  go_wp2
  go_ret2
  exact ⟨rfl, rfl⟩
set_option maxRecDepth 100000 in
set_option maxHeartbeats 8000000 in
theorem rLoad_badB4 (h : Nat) (a : Int)  (w : World) (ha0 : 0 ≤ a) (ha1 : a ≤ 4294967295) (hb : ¬ a % 4 = 0) :
    Calls Try.prog 35 #[.pointer (some ⟨h, 0, none⟩), .int .u32 a, .int .i64 4] w fun e w' => e = .returned (.tuple #[.int .u32 0, .int .i64 2]) ∧ w = w' := by
  have ht : Int.tmod a 4 = a % 4 := Int.tmod_eq_emod_of_nonneg ha0
  have c1 : (a % 4 == 0) = false := by simpa using hb
  go_enter Try.func35, Try.ntmps35
  go_wp2
  go_ret2
  exact ⟨rfl, rfl⟩
set_option maxRecDepth 100000 in
set_option maxHeartbeats 8000000 in
theorem rLoad_badC1 (h : Nat) (a : Int)  (w : World) (ha0 : 0 ≤ a) (ha1 : a ≤ 4294967295) (hd : a % 1 = 0) (hb : 65536 < a + 1) :
    Calls Try.prog 35 #[.pointer (some ⟨h, 0, none⟩), .int .u32 a, .int .i64 1] w fun e w' => e = .returned (.tuple #[.int .u32 0, .int .i64 2]) ∧ w = w' := by
  have ht : Int.tmod a 1 = 0 := by rw [Int.tmod_eq_emod_of_nonneg ha0]; exact hd
  have c1 : decide (65536 < a + 1) = true := decide_eq_true hb
  clear hb hd
  go_enter Try.func35, Try.ntmps35
  go_wp2
  go_ret2
  exact ⟨rfl, rfl⟩
set_option maxRecDepth 100000 in
set_option maxHeartbeats 8000000 in
theorem rLoad_badC2 (h : Nat) (a : Int)  (w : World) (ha0 : 0 ≤ a) (ha1 : a ≤ 4294967295) (hd : a % 2 = 0) (hb : 65536 < a + 2) :
    Calls Try.prog 35 #[.pointer (some ⟨h, 0, none⟩), .int .u32 a, .int .i64 2] w fun e w' => e = .returned (.tuple #[.int .u32 0, .int .i64 2]) ∧ w = w' := by
  have ht : Int.tmod a 2 = 0 := by rw [Int.tmod_eq_emod_of_nonneg ha0]; exact hd
  have c1 : decide (65536 < a + 2) = true := decide_eq_true hb
  clear hb hd
  go_enter Try.func35, Try.ntmps35
  go_wp2
  go_ret2
  exact ⟨rfl, rfl⟩
set_option maxRecDepth 100000 in
set_option maxHeartbeats 8000000 in
theorem rLoad_badC4 (h : Nat) (a : Int)  (w : World) (ha0 : 0 ≤ a) (ha1 : a ≤ 4294967295) (hd : a % 4 = 0) (hb : 65536 < a + 4) :
    Calls Try.prog 35 #[.pointer (some ⟨h, 0, none⟩), .int .u32 a, .int .i64 4] w fun e w' => e = .returned (.tuple #[.int .u32 0, .int .i64 2]) ∧ w = w' := by
  have ht : Int.tmod a 4 = 0 := by rw [Int.tmod_eq_emod_of_nonneg ha0]; exact hd
  have c1 : decide (65536 < a + 4) = true := decide_eq_true hb
  clear hb hd
  go_enter Try.func35, Try.ntmps35
  go_wp2
  go_ret2
  exact ⟨rfl, rfl⟩
theorem rLoad_bad (h : Nat) (a s : Int)  (w : World) (ha : 0 ≤ a ∧ a < 4294967296) (hb : (isNum s && isThere a s) = false) :
    Calls Try.prog 35 #[.pointer (some ⟨h, 0, none⟩), .int .u32 a, .int .i64 s] w fun e w' => e = .returned (.tuple #[.int .u32 0, .int .i64 2]) ∧ w = w' := by
  cases hc : isNum s with
  | false => exact rLoad_badA h a s w hc
  | true =>
    rw [hc, Bool.true_and] at hb
    unfold isThere at hb
    have hb := of_decide_eq_false hb
    obtain ⟨k, rfl, hk⟩ := isNum_is hc
    rcases hk with rfl | rfl | rfl
    · exact rLoad_badC1 h a w ha.1 (by omega) (by omega) (by omega)
    · by_cases c : a % 2 = 0
      · exact rLoad_badC2 h a w ha.1 (by omega) c (by omega)
      · exact rLoad_badB2 h a w ha.1 (by omega) c
    · by_cases c : a % 4 = 0
      · exact rLoad_badC4 h a w ha.1 (by omega) c (by omega)
      · exact rLoad_badB4 h a w ha.1 (by omega) c
set_option maxRecDepth 100000 in
set_option maxHeartbeats 8000000 in
theorem rStoreCap_badB (h : Nat) (a : Int) (q0 : Bool) (q1 q2 q3 q4 q5 q6 : Int) (w : World) (ha0 : 0 ≤ a) (ha1 : a ≤ 4294967295) (hb : ¬ a % 8 = 0) :
    Calls Try.prog 32 #[.pointer (some ⟨h, 0, none⟩), .int .u32 a, .agg #[.bool q0, .int .u32 q1, .int .u8 q2, .int .u8 q3, .int .u8 q4, .int .u16 q5, .int .u16 q6]] w fun e w' => e = .returned (.int .i64 2) ∧ Below w.heap.size w w' := by
  have hu30 := Try.underlying30
  have HB : Aside0 (Below w.heap.size w (w.alloc (.cells #[.bool q0, .int .u32 q1, .int .u8 q2, .int .u8 q3, .int .u8 q4, .int .u16 q5, .int .u16 q6] 30))) := ⟨(Below.refl _ _).alloc (Nat.le_refl _) _⟩
  have ht : Int.tmod a 8 = a % 8 := Int.tmod_eq_emod_of_nonneg ha0
  have c1 : (a % 8 == 0) = false := by simpa using hb
  go_enter Try.func32, Try.ntmps32
  go_wp2
  go_ret
  exact ⟨rfl, HB.out⟩
set_option maxRecDepth 100000 in
set_option maxHeartbeats 8000000 in
theorem rStoreCap_badC (h : Nat) (a : Int) (q0 : Bool) (q1 q2 q3 q4 q5 q6 : Int) (w : World) (ha0 : 0 ≤ a) (ha1 : a ≤ 4294967295) (hd : a % 8 = 0) (hb : 65536 ≤ a) :
    Calls Try.prog 32 #[.pointer (some ⟨h, 0, none⟩), .int .u32 a, .agg #[.bool q0, .int .u32 q1, .int .u8 q2, .int .u8 q3, .int .u8 q4, .int .u16 q5, .int .u16 q6]] w fun e w' => e = .returned (.int .i64 2) ∧ Below w.heap.size w w' := by
  have hu30 := Try.underlying30
  have HB : Aside0 (Below w.heap.size w (w.alloc (.cells #[.bool q0, .int .u32 q1, .int .u8 q2, .int .u8 q3, .int .u8 q4, .int .u16 q5, .int .u16 q6] 30))) := ⟨(Below.refl _ _).alloc (Nat.le_refl _) _⟩
  have ht : Int.tmod a 8 = 0 := by rw [Int.tmod_eq_emod_of_nonneg ha0]; exact hd
  have c1 : decide (65536 ≤ a) = true := decide_eq_true hb
  clear hb hd
  go_enter Try.func32, Try.ntmps32
  go_wp2
  go_ret
  exact ⟨rfl, HB.out⟩
theorem rStoreCap_bad (h : Nat) (a : Int) (q0 : Bool) (q1 q2 q3 q4 q5 q6 : Int) (w : World) (ha : 0 ≤ a ∧ a < 4294967296) (hb : isThere a 8 = false) :
    Calls Try.prog 32 #[.pointer (some ⟨h, 0, none⟩), .int .u32 a, .agg #[.bool q0, .int .u32 q1, .int .u8 q2, .int .u8 q3, .int .u8 q4, .int .u16 q5, .int .u16 q6]] w fun e w' => e = .returned (.int .i64 2) ∧ Below w.heap.size w w' := by
  unfold isThere at hb
  have hb := of_decide_eq_false hb
  by_cases c : a % 8 = 0
  · exact rStoreCap_badC h a q0 q1 q2 q3 q4 q5 q6 w ha.1 (by omega) c (by omega)
  · exact rStoreCap_badB h a q0 q1 q2 q3 q4 q5 q6 w ha.1 (by omega) c
set_option maxRecDepth 100000 in
set_option maxHeartbeats 8000000 in
theorem rLoadCap_badB (h : Nat) (a : Int)  (w : World) (ha0 : 0 ≤ a) (ha1 : a ≤ 4294967295) (hb : ¬ a % 8 = 0) :
    Calls Try.prog 36 #[.pointer (some ⟨h, 0, none⟩), .int .u32 a] w fun e w' => e = .returned (.tuple #[.agg #[.bool false, .int .u32 0, .int .u8 0, .int .u8 0, .int .u8 0, .int .u16 0, .int .u16 0], .int .i64 2]) ∧ Below w.heap.size w w' := by
  have hu30 := Try.underlying30
  have HB : Aside0 (Below w.heap.size w (w.alloc (.cells #[.bool false, .int .u32 0, .int .u8 0, .int .u8 0, .int .u8 0, .int .u16 0, .int .u16 0] 30))) := ⟨(Below.refl _ _).alloc (Nat.le_refl _) _⟩
  have ht : Int.tmod a 8 = a % 8 := Int.tmod_eq_emod_of_nonneg ha0
  have c1 : (a % 8 == 0) = false := by simpa using hb
  go_enter Try.func36, Try.ntmps36
  go_wp2
  exact bodyPost_ret (v := .tuple #[.agg #[.bool false, .int .u32 0, .int .u8 0, .int .u8 0, .int .u8 0, .int .u16 0, .int .u16 0], .int .i64 2]) (by simp [results, Try.results36, go_sem]) rfl ⟨rfl, HB.out⟩
set_option maxRecDepth 100000 in
set_option maxHeartbeats 8000000 in
theorem rLoadCap_badC (h : Nat) (a : Int)  (w : World) (ha0 : 0 ≤ a) (ha1 : a ≤ 4294967295) (hd : a % 8 = 0) (hb : 65536 ≤ a) :
    Calls Try.prog 36 #[.pointer (some ⟨h, 0, none⟩), .int .u32 a] w fun e w' => e = .returned (.tuple #[.agg #[.bool false, .int .u32 0, .int .u8 0, .int .u8 0, .int .u8 0, .int .u16 0, .int .u16 0], .int .i64 2]) ∧ Below w.heap.size w w' := by
  have hu30 := Try.underlying30
  have HB : Aside0 (Below w.heap.size w (w.alloc (.cells #[.bool false, .int .u32 0, .int .u8 0, .int .u8 0, .int .u8 0, .int .u16 0, .int .u16 0] 30))) := ⟨(Below.refl _ _).alloc (Nat.le_refl _) _⟩
  have ht : Int.tmod a 8 = 0 := by rw [Int.tmod_eq_emod_of_nonneg ha0]; exact hd
  have c1 : decide (65536 ≤ a) = true := decide_eq_true hb
  clear hb hd
  go_enter Try.func36, Try.ntmps36
  go_wp2
  exact bodyPost_ret (v := .tuple #[.agg #[.bool false, .int .u32 0, .int .u8 0, .int .u8 0, .int .u8 0, .int .u16 0, .int .u16 0], .int .i64 2]) (by simp [results, Try.results36, go_sem]) rfl ⟨rfl, HB.out⟩
theorem rLoadCap_bad (h : Nat) (a : Int)  (w : World) (ha : 0 ≤ a ∧ a < 4294967296) (hb : isThere a 8 = false) :
    Calls Try.prog 36 #[.pointer (some ⟨h, 0, none⟩), .int .u32 a] w fun e w' => e = .returned (.tuple #[.agg #[.bool false, .int .u32 0, .int .u8 0, .int .u8 0, .int .u8 0, .int .u16 0, .int .u16 0], .int .i64 2]) ∧ Below w.heap.size w w' := by
  unfold isThere at hb
  have hb := of_decide_eq_false hb
  by_cases c : a % 8 = 0
  · exact rLoadCap_badC h a w ha.1 (by omega) c (by omega)
  · exact rLoadCap_badB h a w ha.1 (by omega) c
set_option maxRecDepth 100000 in
set_option maxHeartbeats 8000000 in
theorem rBytes_bad (h : Nat) (a s : Int) (w : World) (hb : isPart a s = false) :
    Calls Try.prog 33 #[.pointer (some ⟨h, 0, none⟩), .int .i64 a, .int .i64 s] w fun e w' => e = .returned (.tuple #[.slice none 0 0, .int .i64 2]) ∧ w = w' := by
  unfold isPart at hb
  have hb := of_decide_eq_false hb
  by_cases c1 : a < 0
  · have d1 : decide (a < 0) = true := decide_eq_true c1
    clear hb c1
    go_enter Try.func33, Try.ntmps33
    go_wp2
    go_ret2
    exact ⟨rfl, rfl⟩
  have d1 : decide (a < 0) = false := decide_eq_false c1
  by_cases c2 : s < 0
  · have d2 : decide (s < 0) = true := decide_eq_true c2
    clear hb c1 c2
    go_enter Try.func33, Try.ntmps33
    go_wp2
    go_ret2
    exact ⟨rfl, rfl⟩
  have d2 : decide (s < 0) = false := decide_eq_false c2
  by_cases c3 : 65536 < a
  · have d3 : decide (65536 < a) = true := decide_eq_true c3
    clear hb c1 c2 c3
    go_enter Try.func33, Try.ntmps33
    go_wp2
    go_ret2
    exact ⟨rfl, rfl⟩
  have d3 : decide (65536 < a) = false := decide_eq_false c3
  have hw : wrap64 (65536 - a) = 65536 - a := by unfold wrap64; omega
  have d4 : decide (65536 - a < s) = true := decide_eq_true (by omega)
  clear hb c1 c2 c3
  go_enter Try.func33, Try.ntmps33
  go_wp2
  go_ret2
  exact ⟨rfl, rfl⟩
set_option maxRecDepth 100000 in
set_option maxHeartbeats 8000000 in
theorem rTags_bad (h : Nat) (a s : Int) (w : World) (hb : isPart a s = false) :
    Calls Try.prog 34 #[.pointer (some ⟨h, 0, none⟩), .int .i64 a, .int .i64 s] w fun e w' => e = .returned (.tuple #[.int .i64 0, .int .i64 2]) ∧ w = w' := by
  unfold isPart at hb
  have hb := of_decide_eq_false hb
  by_cases c1 : a < 0
  · have d1 : decide (a < 0) = true := decide_eq_true c1
    clear hb c1
    go_enter Try.func34, Try.ntmps34
    go_wp2
    go_ret2
    exact ⟨rfl, rfl⟩
  have d1 : decide (a < 0) = false := decide_eq_false c1
  by_cases c2 : s < 0
  · have d2 : decide (s < 0) = true := decide_eq_true c2
    clear hb c1 c2
    go_enter Try.func34, Try.ntmps34
    go_wp2
    go_ret2
    exact ⟨rfl, rfl⟩
  have d2 : decide (s < 0) = false := decide_eq_false c2
  by_cases c3 : 65536 < a
  · have d3 : decide (65536 < a) = true := decide_eq_true c3
    clear hb c1 c2 c3
    go_enter Try.func34, Try.ntmps34
    go_wp2
    go_ret2
    exact ⟨rfl, rfl⟩
  have d3 : decide (65536 < a) = false := decide_eq_false c3
  have hw : wrap64 (65536 - a) = 65536 - a := by unfold wrap64; omega
  have d4 : decide (65536 - a < s) = true := decide_eq_true (by omega)
  clear hb c1 c2 c3
  go_enter Try.func34, Try.ntmps34
  go_wp2
  go_ret2
  exact ⟨rfl, rfl⟩
end Go.Proofs.Ytiiemfnaegapmaa.Q
