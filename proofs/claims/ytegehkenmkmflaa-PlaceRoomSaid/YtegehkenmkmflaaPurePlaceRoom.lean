/- The law PlaceRoom in plain Lean: Room and Next of the drawing answer as the law's own reference says, at every number. -/
import Derived.Test.YtegehkenmkmflaaQ16
import Derived.OpenShut
namespace Go.Proofs.Ytegehkenmkmflaa.Pure
open Go.RowKit Go.Proofs.Ytegehkenmkmflaa.Q Go.Proofs.YtegehkenmkmflaaW.PrintWords Go.Proofs.YtegehkenmkmflaaW.PrintLast Go.Proofs.YtegehkenmkmflaaW.PrintMore
set_option linter.unusedVariables false
set_option linter.unusedSimpArgs false
theorem u64w (n : Int) : IntKind.u64.wrap n = n % 18446744073709551616 := by simp [IntKind.wrap, IntKind.bits, IntKind.signed]
theorem u16w (n : Int) : IntKind.u16.wrap n = n % 65536 := by simp [IntKind.wrap, IntKind.bits, IntKind.signed]
theorem wraps_u64 (n : Int) (h₀ : 0 ≤ n) (h₁ : n < 2 ^ 64) : IntKind.u64.wrap n = n := by rw [u64w]; omega
theorem u64_mask (i : Nat) (hi : i ≤ 64) (x : Int) (h₀ : 0 ≤ x) (h₁ : x < 18446744073709551616) : Go.bits .and .u64 x (2 ^ i - 1) = x % 2 ^ i :=
  bits_mask .u64 64 (by decide) wraps_u64 i hi x h₀ (by simpa using h₁)
theorem tmod_nn {a b : Int} (h : 0 ≤ a) : Int.tmod a b = a % b := Int.tmod_eq_emod_of_nonneg h
theorem tdiv_nn {a b : Int} (h : 0 ≤ a) : Int.tdiv a b = a / b := Int.tdiv_eq_ediv_of_nonneg h
theorem mod_id {x m : Int} (h0 : 0 ≤ x) (h1 : x < m) : x % m = x := Int.emod_eq_of_lt h0 h1
theorem shl_at {x e : Int} (h0 : 0 ≤ e) (h1 : e ≤ 64) : shl .u64 x e = x * 2 ^ e.toNat % 18446744073709551616 := by
  unfold shl; rw [Nat.min_eq_left (by show e.toNat ≤ 64; omega), u64w]
theorem shr_at {x e : Int} (h0 : 0 ≤ e) (h1 : e ≤ 64) : shr .u64 x e = x / 2 ^ e.toNat := by
  unfold shr; rw [Nat.min_eq_left (by show e.toNat ≤ 64; omega)]

theorem cases16 {e : Int} (h0 : 0 ≤ e) (h1 : e < 16) : e = 0 ∨ e = 1 ∨ e = 2 ∨ e = 3 ∨ e = 4 ∨ e = 5 ∨ e = 6 ∨ e = 7 ∨ e = 8 ∨ e = 9 ∨ e = 10 ∨ e = 11 ∨ e = 12 ∨ e = 13 ∨ e = 14 ∨ e = 15 := by omega


theorem i64w (n : Int) (h0 : -9223372036854775808 ≤ n) (h1 : n ≤ 9223372036854775807) : wrap64 n = n := by unfold wrap64; omega
theorem shl_i64 {e : Int} (h0 : 0 ≤ e) (h1 : e ≤ 40) : shl .i64 1 e = 2 ^ e.toNat := by
  unfold shl
  rw [Nat.min_eq_left (by show e.toNat ≤ 64; omega), IntKind.wrap_i64, Int.one_mul]
  have h : (2 : Int) ^ e.toNat ≤ 2 ^ 40 := by
    have := Nat.pow_le_pow_right (show 0 < 2 by decide) (show e.toNat ≤ 40 by omega)
    have h2 : ((2 ^ e.toNat : Nat) : Int) ≤ ((2 ^ 40 : Nat) : Int) := Int.ofNat_le.2 this
    simpa using h2
  have hp : (0 : Int) < 2 ^ e.toNat := Int.pow_pos (by decide)
  omega
theorem shr_i64 {x e : Int} (h0 : 0 ≤ e) (h1 : e ≤ 40) : shr .i64 x e = x / 2 ^ e.toNat := by
  unfold shr; rw [Nat.min_eq_left (by show e.toNat ≤ 64; omega)]
theorem andNot_i64 (x : Int) (i : Nat) (hi : i ≤ 40) (x0 : 0 ≤ x) (x1 : x < 9223372036854775808) : Go.bits .andNot .i64 x (2 ^ i - 1) = x / 2 ^ i * 2 ^ i := by
  obtain ⟨a, rfl⟩ := Int.eq_ofNat_of_zero_le x0
  have hm : ((2 : Int) ^ i - 1) = ((2 ^ i - 1 : Nat) : Int) := by
    rw [Int.natCast_sub (Nat.two_pow_pos i)]; simp
  have hlt : 2 ^ i - 1 < 2 ^ 64 := by
    have := Nat.pow_le_pow_right (show 0 < 2 by decide) (show i ≤ 64 by omega)
    have := Nat.two_pow_pos i
    omega
  have ha : a < 2 ^ 64 := by omega
  have key : (BitVec.ofNat 64 a &&& ~~~(BitVec.ofNat 64 (2 ^ i - 1))).toNat = a / 2 ^ i * 2 ^ i := by
    apply Nat.eq_of_testBit_eq
    intro j
    rw [← Nat.shiftLeft_eq, ← Nat.shiftRight_eq_div_pow, Nat.testBit_shiftLeft, Nat.testBit_shiftRight]
    have e1 : (BitVec.ofNat 64 a &&& ~~~(BitVec.ofNat 64 (2 ^ i - 1))).toNat.testBit j = (BitVec.ofNat 64 a &&& ~~~(BitVec.ofNat 64 (2 ^ i - 1))).getLsbD j := rfl
    rw [e1, BitVec.getLsbD_and, BitVec.getLsbD_not, BitVec.getLsbD_ofNat, BitVec.getLsbD_ofNat, Nat.testBit_two_pow_sub_one]
    by_cases h64 : j < 64
    · by_cases hji : j < i
      · simp [h64, hji]
        intro h; omega
      · have : i ≤ j := by omega
        simp [h64, hji, this]
    · have hz : a.testBit (i + (j - i)) = false := by
        apply Nat.testBit_lt_two_pow
        exact Nat.lt_of_lt_of_le ha (Nat.pow_le_pow_right (by decide) (by omega))
      simp [h64]
      intro h
      exact hz
  rw [hm]
  simp only [Go.bits, BitVec.ofInt_natCast]
  rw [IntKind.wrap_i64]
  have e2 : ((BitVec.ofNat IntKind.i64.bits a &&& ~~~BitVec.ofNat IntKind.i64.bits (2 ^ i - 1)).toNat : Int) = ((a / 2 ^ i * 2 ^ i : Nat) : Int) := by
    rw [← key]; rfl
  rw [e2]
  have hle : a / 2 ^ i * 2 ^ i ≤ a := Nat.div_mul_le_self _ _
  have hc : ((a / 2 ^ i * 2 ^ i : Nat) : Int) = (a : Int) / 2 ^ i * 2 ^ i := by
    rw [Int.natCast_mul, Int.natCast_ediv]; simp
  omega
/-- The next multiple. -/
def ceilTo (n u : Int) : Int := (n + u - 1) / u * u
theorem pow_le_256 (i : Nat) (hi : i ≤ 8) : (1 : Int) ≤ 2 ^ i ∧ (2 : Int) ^ i ≤ 256 := by
  have : i = 0 ∨ i = 1 ∨ i = 2 ∨ i = 3 ∨ i = 4 ∨ i = 5 ∨ i = 6 ∨ i = 7 ∨ i = 8 := by omega
  rcases this with h | h | h | h | h | h | h | h | h <;> subst h <;> decide
theorem up_is (n : Int) (i : Nat) (hi : i ≤ 8) (n0 : 0 ≤ n) (n1 : n ≤ 1000000) : place_up.f n (2 ^ i) = some (ceilTo n (2 ^ i)) := by
  obtain ⟨h1, h2⟩ := pow_le_256 i hi
  unfold place_up.f ceilTo
  rw [i64w (n + 2 ^ i) (by omega) (by omega), i64w _ (by omega) (by omega), i64w (2 ^ i - 1) (by omega) (by omega), andNot_i64 _ i (by omega) (by omega) (by omega)]
theorem ceil_pos (n u : Int) (hu : 0 < u) : ceilTo n u = (n + u - 1) / u * u := rfl
/-- The room for so many bytes, from an exponent on. -/
def roomFrom (n : Int) : Nat → Int → Int × Int × Bool
  | 0, _ => (0, 0, false)
  | d + 1, e => if ceilTo n (2 ^ e.toNat) / 2 ^ e.toNat ≤ 511 then (e, ceilTo n (2 ^ e.toNat), true) else roomFrom n d (e + 1)
def roomV (n : Int) : Int × Int × Bool := if n < 0 then (0, 0, false) else roomFrom n 6 3
theorem room_loop (n : Int) (n0 : 0 ≤ n) (n1 : n ≤ 130816) (d : Nat) : ∀ (k : Nat) (e : Int), 3 ≤ e → e + d = 9 → 0 < d → d < k → place_Room.l0 k n e = some (roomFrom n d e) := by
  induction d with
  | zero => intro k e _ _ h; omega
  | succ d ih =>
    intro k e h0 h1 _ hk
    obtain ⟨k, rfl⟩ : ∃ m, k = m + 1 := ⟨k - 1, by omega⟩
    obtain ⟨g1, g2⟩ := pow_le_256 e.toNat (by omega)
    simp only [place_Room.l0, roomFrom]
    rw [if_pos (by omega), shl_i64 (by omega) (by omega), up_is n e.toNat (by omega) n0 (by omega)]
    simp only [Option.bind_some]
    rw [shr_i64 (by omega) (by omega)]
    by_cases c : ceilTo n (2 ^ e.toNat) / 2 ^ e.toNat ≤ 511
    · rw [if_pos c, if_pos c]
    · rw [if_neg c, if_neg c]
      by_cases h8 : e = 8
      · exfalso
        subst h8
        apply c
        unfold ceilTo
        simp
        omega
      · rw [show (e + 1) % 256 = e + 1 by omega]
        exact ih k (e + 1) (by omega) (by omega) (by omega) (by omega)
theorem roomFrom_big (n : Int) (h : 130816 < n) (d : Nat) : ∀ e : Int, 3 ≤ e → e + d ≤ 9 → roomFrom n d e = (0, 0, false) := by
  induction d with
  | zero => intro e _ _; rfl
  | succ d ih =>
    intro e h0 h1
    unfold roomFrom
    rw [if_neg, ih (e + 1) (by omega) (by omega)]
    unfold ceilTo
    have : e = 3 ∨ e = 4 ∨ e = 5 ∨ e = 6 ∨ e = 7 ∨ e = 8 := by omega
    rcases this with g | g | g | g | g | g <;> subst g <;> simp <;> omega
theorem room_is (n : Int) (k : Nat) (hk : 10 ≤ k) : place_Room.f k n = some (roomV n) := by
  obtain ⟨k, rfl⟩ : ∃ m, k = m + 1 := ⟨k - 1, by omega⟩
  unfold place_Room.f roomV
  by_cases c : n < 0
  · rw [if_pos c, if_pos c]; simp [place_Room.j0]
  · rw [if_neg c, if_neg c]
    by_cases c2 : n > 130816
    · rw [decide_eq_true c2, roomFrom_big n c2 6 3 (by decide) (by decide)]; simp [place_Room.j0]
    · rw [decide_eq_false c2]
      simp only [place_Room.j0]
      rw [if_neg (by decide)]
      exact room_loop n (by omega) (by omega) 6 k 3 (by decide) (by decide) (by decide) (by omega)
/-- What is told of a room. -/
theorem roomFrom_told (n : Int) (n0 : 0 ≤ n) (d : Nat) : ∀ e : Int, 3 ≤ e → e + d ≤ 9 → (roomFrom n d e).2.2 = true → ∃ j : Nat, 3 ≤ j ∧ j ≤ 8 ∧ roomFrom n d e = ((j : Int), ceilTo n (2 ^ j), true) ∧ ceilTo n (2 ^ j) / 2 ^ j ≤ 511 := by
  induction d with
  | zero => intro e _ _ h; simp [roomFrom] at h
  | succ d ih =>
    intro e h0 h1 h
    unfold roomFrom at h ⊢
    split at h
    · rename_i g
      rw [if_pos g]
      exact ⟨e.toNat, by omega, by omega, by rw [Int.toNat_of_nonneg (by omega)], g⟩
    · rename_i g
      rw [if_neg g]
      exact ih (e + 1) (by omega) (by omega) h
theorem roomFrom_not (n : Int) (d : Nat) : ∀ e : Int, (roomFrom n d e).2.2 = false → roomFrom n d e = (0, 0, false) := by
  induction d with
  | zero => intro e _; rfl
  | succ d ih =>
    intro e h
    unfold roomFrom at h ⊢
    split at h
    · simp at h
    · rename_i g
      rw [if_neg g]
      exact ih (e + 1) h
theorem roomFrom_small (n : Int) (n0 : 0 ≤ n) (h : n ≤ 130816) : (roomFrom n 6 3).2.2 = true := by
  have hb : ∀ (d : Nat) (e : Int), 3 ≤ e → e + d = 9 → 0 < d → (roomFrom n d e).2.2 = true := by
    intro d
    induction d with
    | zero => intro e _ _ h; omega
    | succ d ih =>
      intro e h0 h1 _
      unfold roomFrom
      split
      · rfl
      · rename_i g
        by_cases h8 : e = 8
        · exfalso
          subst h8
          apply g
          unfold ceilTo
          simp
          omega
        · exact ih (e + 1) (by omega) (by omega) (by omega)
  exact hb 6 3 (by decide) (by decide) (by decide)
/-- A power of two that may be asked for. -/
def isPow (a : Int) : Prop := a = 1 ∨ a = 2 ∨ a = 4 ∨ a = 8 ∨ a = 16 ∨ a = 32 ∨ a = 64 ∨ a = 128 ∨ a = 256
instance (a : Int) : Decidable (isPow a) := by unfold isPow; infer_instance
theorem isPow_of {a : Int} (h : isPow a) : ∃ j : Nat, j ≤ 8 ∧ a = 2 ^ j := by
  rcases h with h | h | h | h | h | h | h | h | h <;> subst h
  · exact ⟨0, by decide, by decide⟩
  · exact ⟨1, by decide, by decide⟩
  · exact ⟨2, by decide, by decide⟩
  · exact ⟨3, by decide, by decide⟩
  · exact ⟨4, by decide, by decide⟩
  · exact ⟨5, by decide, by decide⟩
  · exact ⟨6, by decide, by decide⟩
  · exact ⟨7, by decide, by decide⟩
  · exact ⟨8, by decide, by decide⟩
theorem pow_test (a : Int) (h0 : 1 ≤ a) (h1 : a ≤ 256) : (Go.bits .and .i64 a (wrap64 (a - 1)) != 0) = !decide (isPow a) := by
  have all : ∀ m : Fin 257, 1 ≤ m.val → (Go.bits .and .i64 (m.val : Int) (wrap64 ((m.val : Int) - 1)) != 0) = !decide (isPow (m.val : Int)) := by decide +kernel
  obtain ⟨m, rfl⟩ := Int.eq_ofNat_of_zero_le (show 0 ≤ a by omega)
  exact all ⟨m, by omega⟩ (by show 1 ≤ m; omega)
theorem max_pow (i j : Nat) (hi : i ≤ 8) (hj : j ≤ 8) : mx ((2 : Int) ^ i) (2 ^ j) = 2 ^ (max i j) := by
  unfold mx
  have hm : ∀ x y : Nat, x < y → (2 : Int) ^ x < 2 ^ y := by
    intro x y h
    have := Nat.pow_lt_pow_right (show 1 < 2 by decide) h
    have h2 : ((2 ^ x : Nat) : Int) < ((2 ^ y : Nat) : Int) := Int.ofNat_lt.2 this
    simpa using h2
  rcases Nat.lt_trichotomy i j with h | h | h
  · rw [if_pos (hm i j h), Nat.max_eq_right (by omega)]
  · subst h; rw [if_neg (by omega), Nat.max_self]
  · have := hm j i h
    rw [if_neg (by omega), Nat.max_eq_left (by omega)]
def nextV (at_ n a : Int) : Int × Int × Bool :=
  if (roomV n).2.2 = true ∧ 0 ≤ at_ ∧ at_ ≤ 65280 ∧ isPow a then
    (if ceilTo at_ (mx a (2 ^ (roomV n).1.toNat)) > 65280 - (roomV n).2.1 then (0, 0, false) else (ceilTo at_ (mx a (2 ^ (roomV n).1.toNat)), (roomV n).2.1, true)) else (0, 0, false)
theorem roomV_told (n : Int) (h : (roomV n).2.2 = true) : 0 ≤ n ∧ ∃ j : Nat, 3 ≤ j ∧ j ≤ 8 ∧ roomV n = ((j : Int), ceilTo n (2 ^ j), true) ∧ ceilTo n (2 ^ j) / 2 ^ j ≤ 511 := by
  unfold roomV at h ⊢
  by_cases c : n < 0
  · rw [if_pos c] at h; simp at h
  · rw [if_neg c] at h ⊢
    exact ⟨by omega, roomFrom_told n (by omega) 6 3 (by decide) (by decide) h⟩
theorem roomV_not (n : Int) (h : (roomV n).2.2 = false) : roomV n = (0, 0, false) := by
  unfold roomV at h ⊢
  by_cases c : n < 0
  · rw [if_pos c]
  · rw [if_neg c] at h ⊢
    exact roomFrom_not n 6 3 h
theorem ceil_range (n : Int) (j : Nat) (hj : j ≤ 8) (n0 : 0 ≤ n) (h : ceilTo n (2 ^ j) / 2 ^ j ≤ 511) : n ≤ ceilTo n (2 ^ j) ∧ ceilTo n (2 ^ j) ≤ 130816 ∧ ceilTo n (2 ^ j) % 2 ^ j = 0 := by
  unfold ceilTo at *
  have : j = 0 ∨ j = 1 ∨ j = 2 ∨ j = 3 ∨ j = 4 ∨ j = 5 ∨ j = 6 ∨ j = 7 ∨ j = 8 := by omega
  rcases this with g | g | g | g | g | g | g | g | g <;> subst g <;> simp at h ⊢ <;> omega
theorem next_is (at_ n a : Int) (k : Nat) (hk : 12 ≤ k) : place_Next.f k at_ n a = some (nextV at_ n a) := by
  obtain ⟨k, rfl⟩ : ∃ m, k = m + 1 := ⟨k - 1, by omega⟩
  unfold place_Next.f
  rw [room_is n (k + 1) (by omega)]
  simp only [Option.bind_some]
  have hno : ∀ e s : Int, place_Next.j0 (k + 1) at_ a s e true = some (0, 0, false) := by intro e s; simp [place_Next.j0]
  unfold nextV
  cases hr : (roomV n).2.2 with
  | false =>
    rw [if_neg (by decide), hno, if_neg (fun g => absurd g.1 (by decide))]
  | true =>
    rw [if_pos rfl]
    obtain ⟨n0, j, j3, j8, hv, hq⟩ := roomV_told n hr
    obtain ⟨r1, r2, r3⟩ := ceil_range n j j8 n0 hq
    rw [hv]
    by_cases c1 : at_ < 0
    · rw [if_pos c1, hno, if_neg (by omega)]
    rw [if_neg c1]
    by_cases c2 : at_ > 65280
    · rw [if_pos c2, hno, if_neg (by omega)]
    rw [if_neg c2]
    by_cases c3 : a < 1
    · rw [if_pos c3, hno, if_neg (by unfold isPow; omega)]
    rw [if_neg c3]
    by_cases c4 : a > 256
    · rw [if_pos c4, hno, if_neg (by unfold isPow; omega)]
    rw [if_neg c4, pow_test a (by omega) (by omega)]
    by_cases c5 : isPow a
    · rw [decide_eq_true c5, if_pos ⟨rfl, by omega, by omega, c5⟩]
      simp only [Bool.not_true, place_Next.j0]
      obtain ⟨i, i8, rfl⟩ := isPow_of c5
      rw [if_neg (by decide), if_pos (by omega), shl_i64 (by omega) (by omega), Int.toNat_natCast, max_pow i j i8 j8, up_is at_ (max i j) (by omega) (by omega) (by omega)]
      simp only [Option.bind_some]
      rw [i64w (65280 - ceilTo n (2 ^ j)) (by omega) (by omega)]
      split <;> rfl
    · rw [decide_eq_false c5, if_neg (fun g => c5 g.2.2.2)]
      simp [place_Next.j0]

theorem rroom_big (n : Int) (h : n > 130816) (h1 : n ≤ 9223372036854775807) (d : Nat) : ∀ (k : Nat) (e : Int), 3 ≤ e → e + d = 9 → 2 * d + 3 ≤ k → bulwarkref15_Room.l0 k n e = some (0, 0, false) := by
  induction d with
  | zero =>
    intro k e h0 h1 hk
    obtain ⟨k, rfl⟩ : ∃ m, k = m + 2 := ⟨k - 2, by omega⟩
    simp only [bulwarkref15_Room.l0]
    rw [if_neg (by omega)]
    simp [bulwarkref15_Room.j1]
  | succ d ih =>
    intro k e h0 h2 hk
    obtain ⟨k, rfl⟩ : ∃ m, k = m + 2 := ⟨k - 2, by omega⟩
    have hr := ih k (e + 1) (by omega) (by omega) (by omega)
    simp only [bulwarkref15_Room.l0]
    rw [if_pos (by omega), decide_eq_true (by omega)]
    simp only [bulwarkref15_Room.j1, if_true]
    rw [if_pos (by omega), shl_i64 (by omega) (by omega), i64w (e + 1) (by omega) (by omega), hr]
    have : e = 3 ∨ e = 4 ∨ e = 5 ∨ e = 6 ∨ e = 7 ∨ e = 8 := by omega
    rcases this with g | g | g | g | g | g <;> subst g <;> simp only [Int.reduceToNat, Int.reducePow, tmod_nn (show 0 ≤ n by omega), tdiv_nn (show 0 ≤ n by omega)] <;>
    · rw [if_neg (by decide)]
      first | rw [i64w (n / 8) (by omega) (by omega), i64w (n / 8 + 1) (by omega) (by omega)] | rw [i64w (n / 16) (by omega) (by omega), i64w (n / 16 + 1) (by omega) (by omega)] | rw [i64w (n / 32) (by omega) (by omega), i64w (n / 32 + 1) (by omega) (by omega)] | rw [i64w (n / 64) (by omega) (by omega), i64w (n / 64 + 1) (by omega) (by omega)] | rw [i64w (n / 128) (by omega) (by omega), i64w (n / 128 + 1) (by omega) (by omega)] | rw [i64w (n / 256) (by omega) (by omega), i64w (n / 256 + 1) (by omega) (by omega)]
      split
      · rw [if_neg (by omega)]
      · rw [if_neg (by omega)]
theorem rroom_loop (n : Int) (n0 : 0 ≤ n) (n1 : n ≤ 130816) (d : Nat) : ∀ (k : Nat) (e : Int), 3 ≤ e → e + d = 9 → 2 * d + 3 ≤ k → bulwarkref15_Room.l0 k n e = some (roomFrom n d e) := by
  induction d with
  | zero =>
    intro k e h0 h1 hk
    obtain ⟨k, rfl⟩ : ∃ m, k = m + 2 := ⟨k - 2, by omega⟩
    simp only [bulwarkref15_Room.l0]
    rw [if_neg (by omega)]
    simp [bulwarkref15_Room.j1, roomFrom]
  | succ d ih =>
    intro k e h0 h2 hk
    obtain ⟨k, rfl⟩ : ∃ m, k = m + 2 := ⟨k - 2, by omega⟩
    have hr := ih k (e + 1) (by omega) (by omega) (by omega)
    simp only [bulwarkref15_Room.l0, roomFrom]
    rw [if_pos (by omega), decide_eq_true (by omega)]
    simp only [bulwarkref15_Room.j1, if_true]
    rw [if_pos (by omega), shl_i64 (by omega) (by omega), i64w (e + 1) (by omega) (by omega), hr]
    unfold ceilTo
    have : e = 3 ∨ e = 4 ∨ e = 5 ∨ e = 6 ∨ e = 7 ∨ e = 8 := by omega
    rcases this with g | g | g | g | g | g <;> subst g <;> simp only [Int.reduceToNat, Int.reducePow, tmod_nn n0, tdiv_nn n0] <;>
    · rw [if_neg (by decide)]
      first | rw [i64w (n / 8) (by omega) (by omega), i64w (n / 8 + 1) (by omega) (by omega)] | rw [i64w (n / 16) (by omega) (by omega), i64w (n / 16 + 1) (by omega) (by omega)] | rw [i64w (n / 32) (by omega) (by omega), i64w (n / 32 + 1) (by omega) (by omega)] | rw [i64w (n / 64) (by omega) (by omega), i64w (n / 64 + 1) (by omega) (by omega)] | rw [i64w (n / 128) (by omega) (by omega), i64w (n / 128 + 1) (by omega) (by omega)] | rw [i64w (n / 256) (by omega) (by omega), i64w (n / 256 + 1) (by omega) (by omega)]
      split
      · split
        · rw [if_pos (by omega)]
          rw [i64w _ (by omega) (by omega)]
          simp only [Option.some.injEq, Prod.mk.injEq, and_true]
          omega
        · rw [if_neg (by omega)]
      · split
        · rw [if_pos (by omega)]
          rw [i64w _ (by omega) (by omega)]
          simp only [Option.some.injEq, Prod.mk.injEq, and_true]
          omega
        · rw [if_neg (by omega)]
theorem rroom_is (n : Int) (h0 : -9223372036854775808 ≤ n) (h1 : n ≤ 9223372036854775807) (k : Nat) (hk : 20 ≤ k) : bulwarkref15_Room.f k n = some (roomV n) := by
  unfold bulwarkref15_Room.f roomV
  by_cases c : n < 0
  · rw [if_pos c]
    obtain ⟨k, rfl⟩ : ∃ m, k = m + 2 := ⟨k - 2, by omega⟩
    simp only [bulwarkref15_Room.l0]
    rw [if_pos (by decide), decide_eq_false (by omega)]
    simp [bulwarkref15_Room.j1]
  · rw [if_neg c]
    by_cases c2 : n > 130816
    · rw [rroom_big n c2 h1 6 k 3 (by decide) (by decide) (by omega), roomFrom_big n c2 6 3 (by decide) (by decide)]
    · exact rroom_loop n (by omega) (by omega) 6 k 3 (by decide) (by decide) (by omega)
theorem power_loop (a : Int) (d : Nat) : ∀ (k : Nat) (i : Nat), i + d = 9 → d < k → ∃ r : Bool, bulwarkref15_power.l0 k a (2 ^ i) = some r ∧ (r = true ↔ ∃ j : Nat, i ≤ j ∧ j ≤ 8 ∧ a = 2 ^ j) := by
  induction d with
  | zero =>
    intro k i h hk
    obtain ⟨k, rfl⟩ : ∃ m, k = m + 1 := ⟨k - 1, by omega⟩
    obtain rfl : i = 9 := by omega
    simp only [bulwarkref15_power.l0]
    rw [if_neg (by decide)]
    exact ⟨false, rfl, (by intro h; cases h), (by rintro ⟨j, h1, h2, _⟩; omega)⟩
  | succ d ih =>
    intro k i h hk
    obtain ⟨k, rfl⟩ : ∃ m, k = m + 1 := ⟨k - 1, by omega⟩
    obtain ⟨g1, g2⟩ := pow_le_256 i (by omega)
    obtain ⟨r, hr, hri⟩ := ih k (i + 1) (by omega) (by omega)
    have hp : wrap64 (2 * 2 ^ i) = 2 ^ (i + 1) := by rw [i64w _ (by omega) (by omega), Int.pow_succ]; omega
    simp only [bulwarkref15_power.l0]
    rw [if_pos g2, hp, hr]
    by_cases c : (2 : Int) ^ i = a
    · rw [if_pos c]
      exact ⟨true, rfl, (fun _ => ⟨i, by omega, by omega, c.symm⟩), (fun _ => rfl)⟩
    · rw [if_neg c]
      refine ⟨r, rfl, hri.trans ⟨?_, ?_⟩⟩
      · rintro ⟨j, h1, h2, h3⟩; exact ⟨j, by omega, h2, h3⟩
      · rintro ⟨j, h1, h2, h3⟩
        refine ⟨j, ?_, h2, h3⟩
        rcases Nat.lt_or_ge i j with g | g
        · omega
        · exfalso
          obtain rfl : j = i := by omega
          exact c h3.symm
theorem isPow_iff (a : Int) : isPow a ↔ ∃ j : Nat, 0 ≤ j ∧ j ≤ 8 ∧ a = 2 ^ j := by
  constructor
  · intro h
    obtain ⟨j, h1, h2⟩ := isPow_of h
    exact ⟨j, by omega, h1, h2⟩
  · rintro ⟨j, _, h1, rfl⟩
    have : j = 0 ∨ j = 1 ∨ j = 2 ∨ j = 3 ∨ j = 4 ∨ j = 5 ∨ j = 6 ∨ j = 7 ∨ j = 8 := by omega
    rcases this with h | h | h | h | h | h | h | h | h <;> subst h <;> decide
theorem power_is15 (a : Int) (k : Nat) (hk : 11 ≤ k) : bulwarkref15_power.f k a = some (decide (isPow a)) := by
  unfold bulwarkref15_power.f
  obtain ⟨r, h, hr⟩ := power_loop a 9 k 0 (by decide) (by omega)
  rw [show (2 : Int) ^ 0 = 1 by decide] at h
  rw [h]
  congr 1
  have := hr.trans (isPow_iff a).symm
  by_cases c : isPow a
  · rw [decide_eq_true c, this.2 c]
  · rw [decide_eq_false c]
    cases r
    · rfl
    · exact absurd (this.1 rfl) c
theorem rup_is (n : Int) (i : Nat) (hi : i ≤ 8) (n0 : 0 ≤ n) (n1 : n ≤ 1000000) : bulwarkref15_up.f n (2 ^ i) = some (ceilTo n (2 ^ i)) := by
  unfold bulwarkref15_up.f ceilTo
  have : i = 0 ∨ i = 1 ∨ i = 2 ∨ i = 3 ∨ i = 4 ∨ i = 5 ∨ i = 6 ∨ i = 7 ∨ i = 8 := by omega
  rcases this with g | g | g | g | g | g | g | g | g <;> subst g <;> simp only [Int.reducePow, tmod_nn n0] <;>
  · rw [if_neg (by decide)]
    split
    · congr 1; omega
    · congr 1
      rw [i64w (n + _) (by omega) (by omega), i64w _ (by omega) (by omega)]
      omega
theorem mx_le (x y : Int) : mx x y = if x > y then x else y := by unfold mx; split <;> split <;> omega
theorem rnext_is (at_ n a : Int) (h0 : -9223372036854775808 ≤ n) (h1 : n ≤ 9223372036854775807) (k : Nat) (hk : 22 ≤ k) : bulwarkref15_Next.f k at_ n a = some (nextV at_ n a) := by
  obtain ⟨k, rfl⟩ : ∃ m, k = m + 1 := ⟨k - 1, by omega⟩
  unfold bulwarkref15_Next.f
  rw [rroom_is n h0 h1 (k + 1) (by omega), power_is15 a (k + 1) (by omega)]
  simp only [Option.bind_some]
  have hno : ∀ e s : Int, bulwarkref15_Next.j0 (k + 1) at_ a e s true = some (0, 0, false) := by intro e s; simp [bulwarkref15_Next.j0]
  unfold nextV
  cases hr : (roomV n).2.2 with
  | false =>
    rw [if_neg (by decide), hno, if_neg (fun g => absurd g.1 (by decide))]
  | true =>
    rw [if_pos rfl]
    obtain ⟨n0, j, j3, j8, hv, hq⟩ := roomV_told n hr
    obtain ⟨r1, r2, r3⟩ := ceil_range n j j8 n0 hq
    rw [hv]
    by_cases c1 : at_ < 0
    · rw [if_pos c1, hno, if_neg (by omega)]
    rw [if_neg c1]
    by_cases c2 : at_ > 65280
    · rw [if_pos c2, hno, if_neg (by omega)]
    rw [if_neg c2]
    by_cases c5 : isPow a
    · rw [decide_eq_true c5, if_pos ⟨rfl, by omega, by omega, c5⟩]
      simp only [Bool.not_true, bulwarkref15_Next.j0]
      obtain ⟨i, i8, rfl⟩ := isPow_of c5
      have hm := max_pow i j i8 j8
      rw [if_neg (by decide), if_pos (by omega), shl_i64 (by omega) (by omega), Int.toNat_natCast, rup_is at_ i i8 (by omega) (by omega), rup_is at_ j j8 (by omega) (by omega)]
      simp only [Option.bind_some]
      have hsame : (if (2 : Int) ^ i > 2 ^ j then ceilTo at_ (2 ^ i) else ceilTo at_ (2 ^ j)) = ceilTo at_ (mx (2 ^ i) (2 ^ j)) := by rw [mx_le]; split <;> rfl
      rw [← hsame]
      have hb : ∀ q : Nat, q ≤ 8 → ceilTo at_ (2 ^ q) ≤ 65536 ∧ 0 ≤ ceilTo at_ (2 ^ q) := by
        intro q hq8
        unfold ceilTo
        have : q = 0 ∨ q = 1 ∨ q = 2 ∨ q = 3 ∨ q = 4 ∨ q = 5 ∨ q = 6 ∨ q = 7 ∨ q = 8 := by omega
        rcases this with g | g | g | g | g | g | g | g | g <;> subst g <;> simp <;> omega
      have b1 := hb i i8
      have b2 := hb j j8
      rw [i64w (ceilTo at_ (2 ^ i) + ceilTo n (2 ^ j)) (by omega) (by omega), i64w (ceilTo at_ (2 ^ j) + ceilTo n (2 ^ j)) (by omega) (by omega)]
      split
      · split
        · rw [if_pos (by omega)]
        · rw [if_neg (by omega)]
      · split
        · rw [if_pos (by omega)]
        · rw [if_neg (by omega)]
    · rw [decide_eq_false c5, if_neg (fun g => c5 g.2.2.2)]
      simp [bulwarkref15_Next.j0]
theorem PlaceRoom : bulwarklaw15_PlaceRoom.Pure := by
  intro n at_ a wn wat wa
  obtain ⟨n0, n1⟩ := Go.bounds_i64 wn
  obtain ⟨k, hk⟩ : ∃ k : Nat, 40 ≤ k := ⟨40, Nat.le_refl _⟩
  refine ⟨k, ?_⟩
  unfold bulwarklaw15_PlaceRoom.f bulwarklaw15_works.f
  rw [room_is n k (by omega), rroom_is n n0 n1 k (by omega), next_is at_ n a k (by omega), rnext_is at_ n a n0 n1 k (by omega)]
  simp

end Go.Proofs.Ytegehkenmkmflaa.Pure
