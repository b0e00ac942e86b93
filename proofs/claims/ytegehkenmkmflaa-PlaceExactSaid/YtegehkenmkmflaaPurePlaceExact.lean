/- The law PlaceExact in plain Lean: a place that Next of the drawing answers is the least right one, and its bounds are exact. -/
import Derived.Test.YtegehkenmkmflaaQ19
import Derived.OpenShut
namespace Go.Proofs.Ytegehkenmkmflaa.Pure
open Go.RowKit Go.Proofs.Ytegehkenmkmflaa.Q Go.Proofs.YtegehkenmkmflaaW.PrintWords Go.Proofs.YtegehkenmkmflaaW.PrintLast Go.Proofs.YtegehkenmkmflaaW.PrintMore
set_option linter.unusedVariables false
set_option linter.unusedSimpArgs false
theorem u64w (n : Int) : IntKind.u64.wrap n = n % 18446744073709551616 := by simp [IntKind.wrap, IntKind.bits, IntKind.signed]
theorem u16w (n : Int) : IntKind.u16.wrap n = n % 65536 := by simp [IntKind.wrap, IntKind.bits, IntKind.signed]
theorem wraps_u64 (n : Int) (h₀ : 0 ≤ n) (h₁ : n < 2 ^ 64) : IntKind.u64.wrap n = n := by rw [u64w]; omega
theorem u64_mask (i : Nat) (hi : i ≤ 64) (x : Int) (h₀ : 0 ≤ x) (h₁ : x < 18446744073709551616) : Go.bits .and .u64 x (2 ^ i - 1) = x % 2 ^ i :=
  bits_mask .u64 64 (by decide) wraps_u64 i hi x h₀ (by simpa using h₁)
theorem tmod_nn {a b : Int} (h : 0 ≤ a) : Int.tmod a b = a % b := Int.tmod_eq_emod_of_nonneg h
theorem tdiv_nn {a b : Int} (h : 0 ≤ a) : Int.tdiv a b = a / b := Int.tdiv_eq_ediv_of_nonneg h
theorem mod_id {x m : Int} (h0 : 0 ≤ x) (h1 : x < m) : x % m = x := Int.emod_eq_of_lt h0 h1
theorem shl_at {x e : Int} (h0 : 0 ≤ e) (h1 : e ≤ 64) : shl .u64 x e = x * 2 ^ e.toNat % 18446744073709551616 := by
  unfold shl; rw [Nat.min_eq_left (by show e.toNat ≤ 64; omega), u64w]
theorem shr_at {x e : Int} (h0 : 0 ≤ e) (h1 : e ≤ 64) : shr .u64 x e = x / 2 ^ e.toNat := by
  unfold shr; rw [Nat.min_eq_left (by show e.toNat ≤ 64; omega)]

theorem cases16 {e : Int} (h0 : 0 ≤ e) (h1 : e < 16) : e = 0 ∨ e = 1 ∨ e = 2 ∨ e = 3 ∨ e = 4 ∨ e = 5 ∨ e = 6 ∨ e = 7 ∨ e = 8 ∨ e = 9 ∨ e = 10 ∨ e = 11 ∨ e = 12 ∨ e = 13 ∨ e = 14 ∨ e = 15 := by omega


/-- The least exponent from e on that fits. -/
def exFrom (base top : Int) : Nat → Int → Int × Int × Int × Int
  | 0, _ => (0, 0, 0, 5)
  | n + 1, e => if base % 2 ^ e.toNat = 0 ∧ top % 2 ^ e.toNat = 0 ∧ (top - base) / 2 ^ e.toNat ≤ 511 then (e, base / 2 ^ e.toNat % 512, top / 2 ^ e.toNat % 512, 0) else exFrom base top n (e + 1)
def exactV (base top : Int) : Int × Int × Int × Int := if top < base ∨ 65536 < top then (0, 0, 0, 2) else exFrom base top 9 0


theorem exFrom_ok (base top : Int) (n : Nat) : ∀ (e j : Int), 0 ≤ e → e ≤ j → j < e + n → base % 2 ^ j.toNat = 0 → top % 2 ^ j.toNat = 0 → (top - base) / 2 ^ j.toNat ≤ 511 → (exFrom base top n e).2.2.2 = 0 := by
  induction n with
  | zero => intro e j h0 h1 h2; omega
  | succ n ih =>
    intro e j h0 h1 h2 a b c
    unfold exFrom
    split
    · rfl
    · rename_i h
      by_cases hj : j = e
      · subst hj; exact absurd ⟨a, b, c⟩ h
      · exact ih (e + 1) j (by omega) (by omega) (by omega) a b c

theorem exactV_ok (base top j : Int) (ht : base ≤ top) (ht' : top ≤ 65536) (h0 : 0 ≤ j) (h1 : j ≤ 8) (a : base % 2 ^ j.toNat = 0) (b : top % 2 ^ j.toNat = 0) (c : (top - base) / 2 ^ j.toNat ≤ 511) : (exactV base top).2.2.2 = 0 := by
  unfold exactV
  rw [if_neg (by omega)]
  exact exFrom_ok base top 9 0 j (by omega) h0 (by omega) a b c


theorem power_is (e : Int) (h0 : 0 ≤ e) (h1 : e ≤ 24) (k : Nat) (hk : 26 ≤ k) : bulwarkref02_power.f k e = some (2 ^ e.toNat) := by
  refine at_rounds (bulwarkref02_power.mono e) hk ?_
  have : e = 0 ∨ e = 1 ∨ e = 2 ∨ e = 3 ∨ e = 4 ∨ e = 5 ∨ e = 6 ∨ e = 7 ∨ e = 8 ∨ e = 9 ∨ e = 10 ∨ e = 11 ∨ e = 12 ∨ e = 13 ∨ e = 14 ∨ e = 15 ∨ e = 16 ∨ e = 17 ∨ e = 18 ∨ e = 19 ∨ e = 20 ∨ e = 21 ∨ e = 22 ∨ e = 23 ∨ e = 24 := by omega
  rcases this with h | h | h | h | h | h | h | h | h | h | h | h | h | h | h | h | h | h | h | h | h | h | h | h | h <;> subst h <;> decide +kernel

theorem rex_loop (base top : Int) (hb : 0 ≤ base) (ht : base ≤ top) (ht' : top ≤ 65536) (n : Nat) : ∀ (k : Nat) (e : Int), 0 ≤ e → e + n = 9 → n + 26 < k → bulwarkref02_Exact.l0 k base top e = some (exFrom base top n e) := by
  induction n with
  | zero =>
    intro k e h0 h1 hk
    obtain ⟨k, rfl⟩ : ∃ m, k = m + 1 := ⟨k - 1, by omega⟩
    simp only [bulwarkref02_Exact.l0]
    rw [if_neg (by omega)]
    rfl
  | succ n ih =>
    intro k e h0 h1 hk
    obtain ⟨k, rfl⟩ : ∃ m, k = m + 1 := ⟨k - 1, by omega⟩
    have hn : e.toNat ≤ 8 := by omega
    have hp : (0 : Int) < 2 ^ e.toNat := Int.pow_pos (by decide)
    simp only [bulwarkref02_Exact.l0, exFrom]
    rw [if_pos (by omega), power_is e h0 (by omega) k (by omega)]
    simp only [Option.bind_some]
    have hw : IntKind.u64.wrap (top - base) = top - base := by rw [u64w]; omega
    have hr := ih k (e + 1) (by omega) (by omega) (by omega)
    have hw1 : wrap64 (e + 1) = e + 1 := by unfold wrap64; omega
    rw [if_neg (by omega), hw, hw1, hr, tmod_nn hb, tmod_nn (show 0 ≤ top by omega)]
    have hq : ∀ x : Int, 0 ≤ x → x ≤ 65536 → IntKind.u64.wrap (Int.tdiv x (2 ^ e.toNat)) = x / 2 ^ e.toNat := by
      intro x hx hx'
      rw [tdiv_nn hx, u64w]
      have h1 := Int.ediv_nonneg hx (Int.le_of_lt hp)
      have h2 := Int.ediv_le_self (2 ^ e.toNat) hx
      omega
    have hq2 : ∀ x : Int, 0 ≤ x → IntKind.u16.wrap (Int.tmod (x / 2 ^ e.toNat) 512) = x / 2 ^ e.toNat % 512 := by
      intro x hx
      have := Int.ediv_nonneg hx (Int.le_of_lt hp)
      rw [tmod_nn this, u16w]; omega
    rw [hq (top - base) (by omega) (by omega), hq base hb (by omega), hq top (by omega) ht', hq2 base hb, hq2 top (by omega), show e % 256 = e by omega]
    by_cases h : base % 2 ^ e.toNat = 0
    · by_cases h2 : top % 2 ^ e.toNat = 0
      · by_cases h' : (top - base) / 2 ^ e.toNat ≤ 511
        · rw [if_pos h, if_pos h2, if_pos h', if_pos ⟨h, h2, h'⟩]
        · rw [if_pos h, if_pos h2, if_neg h', if_neg (fun g => h' g.2.2)]
      · rw [if_pos h, if_neg h2, if_neg (fun g => h2 g.2.1)]
    · rw [if_neg h, if_neg (fun g => h g.1)]

theorem rexact_is (base top : Int) (hb : 0 ≤ base) (ht : 0 ≤ top) (k : Nat) (hk : 40 ≤ k) : bulwarkref02_Exact.f k base top = some (exactV base top) := by
  obtain ⟨k, rfl⟩ : ∃ m, k = m + 1 := ⟨k - 1, by omega⟩
  unfold bulwarkref02_Exact.f exactV
  by_cases h : top < base
  · rw [if_pos h, if_pos (.inl h)]; simp [bulwarkref02_Exact.j0]
  · rw [if_neg h]
    by_cases h' : top > 65536
    · rw [if_pos (.inr h')]; simp [bulwarkref02_Exact.j0, h']
    · rw [if_neg (by omega)]
      simp only [bulwarkref02_Exact.j0, h', decide_false]
      exact rex_loop base top hb (by omega) (by omega) 9 k 0 (by omega) (by omega) (by omega)

theorem i64w (n : Int) (h0 : -9223372036854775808 ≤ n) (h1 : n ≤ 9223372036854775807) : wrap64 n = n := by unfold wrap64; omega
theorem shl_i64 {e : Int} (h0 : 0 ≤ e) (h1 : e ≤ 40) : shl .i64 1 e = 2 ^ e.toNat := by
  unfold shl
  rw [Nat.min_eq_left (by show e.toNat ≤ 64; omega), IntKind.wrap_i64, Int.one_mul]
  have h : (2 : Int) ^ e.toNat ≤ 2 ^ 40 := by
    have := Nat.pow_le_pow_right (show 0 < 2 by decide) (show e.toNat ≤ 40 by omega)
    have h2 : ((2 ^ e.toNat : Nat) : Int) ≤ ((2 ^ 40 : Nat) : Int) := Int.ofNat_le.2 this
    simpa using h2
  have hp : (0 : Int) < 2 ^ e.toNat := Int.pow_pos (by decide)
  omega
theorem shr_i64 {x e : Int} (h0 : 0 ≤ e) (h1 : e ≤ 40) : shr .i64 x e = x / 2 ^ e.toNat := by
  unfold shr; rw [Nat.min_eq_left (by show e.toNat ≤ 64; omega)]
theorem andNot_i64 (x : Int) (i : Nat) (hi : i ≤ 40) (x0 : 0 ≤ x) (x1 : x < 9223372036854775808) : Go.bits .andNot .i64 x (2 ^ i - 1) = x / 2 ^ i * 2 ^ i := by
  obtain ⟨a, rfl⟩ := Int.eq_ofNat_of_zero_le x0
  have hm : ((2 : Int) ^ i - 1) = ((2 ^ i - 1 : Nat) : Int) := by
    rw [Int.natCast_sub (Nat.two_pow_pos i)]; simp
  have hlt : 2 ^ i - 1 < 2 ^ 64 := by
    have := Nat.pow_le_pow_right (show 0 < 2 by decide) (show i ≤ 64 by omega)
    have := Nat.two_pow_pos i
    omega
  have ha : a < 2 ^ 64 := by omega
  have key : (BitVec.ofNat 64 a &&& ~~~(BitVec.ofNat 64 (2 ^ i - 1))).toNat = a / 2 ^ i * 2 ^ i := by
    apply Nat.eq_of_testBit_eq
    intro j
    rw [← Nat.shiftLeft_eq, ← Nat.shiftRight_eq_div_pow, Nat.testBit_shiftLeft, Nat.testBit_shiftRight]
    have e1 : (BitVec.ofNat 64 a &&& ~~~(BitVec.ofNat 64 (2 ^ i - 1))).toNat.testBit j = (BitVec.ofNat 64 a &&& ~~~(BitVec.ofNat 64 (2 ^ i - 1))).getLsbD j := rfl
    rw [e1, BitVec.getLsbD_and, BitVec.getLsbD_not, BitVec.getLsbD_ofNat, BitVec.getLsbD_ofNat, Nat.testBit_two_pow_sub_one]
    by_cases h64 : j < 64
    · by_cases hji : j < i
      · simp [h64, hji]
        intro h; omega
      · have : i ≤ j := by omega
        simp [h64, hji, this]
    · have hz : a.testBit (i + (j - i)) = false := by
        apply Nat.testBit_lt_two_pow
        exact Nat.lt_of_lt_of_le ha (Nat.pow_le_pow_right (by decide) (by omega))
      simp [h64]
      intro h
      exact hz
  rw [hm]
  simp only [Go.bits, BitVec.ofInt_natCast]
  rw [IntKind.wrap_i64]
  have e2 : ((BitVec.ofNat IntKind.i64.bits a &&& ~~~BitVec.ofNat IntKind.i64.bits (2 ^ i - 1)).toNat : Int) = ((a / 2 ^ i * 2 ^ i : Nat) : Int) := by
    rw [← key]; rfl
  rw [e2]
  have hle : a / 2 ^ i * 2 ^ i ≤ a := Nat.div_mul_le_self _ _
  have hc : ((a / 2 ^ i * 2 ^ i : Nat) : Int) = (a : Int) / 2 ^ i * 2 ^ i := by
    rw [Int.natCast_mul, Int.natCast_ediv]; simp
  omega
/-- The next multiple. -/
def ceilTo (n u : Int) : Int := (n + u - 1) / u * u
theorem pow_le_256 (i : Nat) (hi : i ≤ 8) : (1 : Int) ≤ 2 ^ i ∧ (2 : Int) ^ i ≤ 256 := by
  have : i = 0 ∨ i = 1 ∨ i = 2 ∨ i = 3 ∨ i = 4 ∨ i = 5 ∨ i = 6 ∨ i = 7 ∨ i = 8 := by omega
  rcases this with h | h | h | h | h | h | h | h | h <;> subst h <;> decide
theorem up_is (n : Int) (i : Nat) (hi : i ≤ 8) (n0 : 0 ≤ n) (n1 : n ≤ 1000000) : place_up.f n (2 ^ i) = some (ceilTo n (2 ^ i)) := by
  obtain ⟨h1, h2⟩ := pow_le_256 i hi
  unfold place_up.f ceilTo
  rw [i64w (n + 2 ^ i) (by omega) (by omega), i64w _ (by omega) (by omega), i64w (2 ^ i - 1) (by omega) (by omega), andNot_i64 _ i (by omega) (by omega) (by omega)]
theorem ceil_pos (n u : Int) (hu : 0 < u) : ceilTo n u = (n + u - 1) / u * u := rfl
/-- The room for so many bytes, from an exponent on. -/
def roomFrom (n : Int) : Nat → Int → Int × Int × Bool
  | 0, _ => (0, 0, false)
  | d + 1, e => if ceilTo n (2 ^ e.toNat) / 2 ^ e.toNat ≤ 511 then (e, ceilTo n (2 ^ e.toNat), true) else roomFrom n d (e + 1)
def roomV (n : Int) : Int × Int × Bool := if n < 0 then (0, 0, false) else roomFrom n 6 3
theorem room_loop (n : Int) (n0 : 0 ≤ n) (n1 : n ≤ 130816) (d : Nat) : ∀ (k : Nat) (e : Int), 3 ≤ e → e + d = 9 → 0 < d → d < k → place_Room.l0 k n e = some (roomFrom n d e) := by
  induction d with
  | zero => intro k e _ _ h; omega
  | succ d ih =>
    intro k e h0 h1 _ hk
    obtain ⟨k, rfl⟩ : ∃ m, k = m + 1 := ⟨k - 1, by omega⟩
    obtain ⟨g1, g2⟩ := pow_le_256 e.toNat (by omega)
    simp only [place_Room.l0, roomFrom]
    rw [if_pos (by omega), shl_i64 (by omega) (by omega), up_is n e.toNat (by omega) n0 (by omega)]
    simp only [Option.bind_some]
    rw [shr_i64 (by omega) (by omega)]
    by_cases c : ceilTo n (2 ^ e.toNat) / 2 ^ e.toNat ≤ 511
    · rw [if_pos c, if_pos c]
    · rw [if_neg c, if_neg c]
      by_cases h8 : e = 8
      · exfalso
        subst h8
        apply c
        unfold ceilTo
        simp
        omega
      · rw [show (e + 1) % 256 = e + 1 by omega]
        exact ih k (e + 1) (by omega) (by omega) (by omega) (by omega)
theorem roomFrom_big (n : Int) (h : 130816 < n) (d : Nat) : ∀ e : Int, 3 ≤ e → e + d ≤ 9 → roomFrom n d e = (0, 0, false) := by
  induction d with
  | zero => intro e _ _; rfl
  | succ d ih =>
    intro e h0 h1
    unfold roomFrom
    rw [if_neg, ih (e + 1) (by omega) (by omega)]
    unfold ceilTo
    have : e = 3 ∨ e = 4 ∨ e = 5 ∨ e = 6 ∨ e = 7 ∨ e = 8 := by omega
    rcases this with g | g | g | g | g | g <;> subst g <;> simp <;> omega
theorem room_is (n : Int) (k : Nat) (hk : 10 ≤ k) : place_Room.f k n = some (roomV n) := by
  obtain ⟨k, rfl⟩ : ∃ m, k = m + 1 := ⟨k - 1, by omega⟩
  unfold place_Room.f roomV
  by_cases c : n < 0
  · rw [if_pos c, if_pos c]; simp [place_Room.j0]
  · rw [if_neg c, if_neg c]
    by_cases c2 : n > 130816
    · rw [decide_eq_true c2, roomFrom_big n c2 6 3 (by decide) (by decide)]; simp [place_Room.j0]
    · rw [decide_eq_false c2]
      simp only [place_Room.j0]
      rw [if_neg (by decide)]
      exact room_loop n (by omega) (by omega) 6 k 3 (by decide) (by decide) (by decide) (by omega)
/-- What is told of a room. -/
theorem roomFrom_told (n : Int) (n0 : 0 ≤ n) (d : Nat) : ∀ e : Int, 3 ≤ e → e + d ≤ 9 → (roomFrom n d e).2.2 = true → ∃ j : Nat, 3 ≤ j ∧ j ≤ 8 ∧ roomFrom n d e = ((j : Int), ceilTo n (2 ^ j), true) ∧ ceilTo n (2 ^ j) / 2 ^ j ≤ 511 := by
  induction d with
  | zero => intro e _ _ h; simp [roomFrom] at h
  | succ d ih =>
    intro e h0 h1 h
    unfold roomFrom at h ⊢
    split at h
    · rename_i g
      rw [if_pos g]
      exact ⟨e.toNat, by omega, by omega, by rw [Int.toNat_of_nonneg (by omega)], g⟩
    · rename_i g
      rw [if_neg g]
      exact ih (e + 1) (by omega) (by omega) h
theorem roomFrom_not (n : Int) (d : Nat) : ∀ e : Int, (roomFrom n d e).2.2 = false → roomFrom n d e = (0, 0, false) := by
  induction d with
  | zero => intro e _; rfl
  | succ d ih =>
    intro e h
    unfold roomFrom at h ⊢
    split at h
    · simp at h
    · rename_i g
      rw [if_neg g]
      exact ih (e + 1) h
theorem roomFrom_small (n : Int) (n0 : 0 ≤ n) (h : n ≤ 130816) : (roomFrom n 6 3).2.2 = true := by
  have hb : ∀ (d : Nat) (e : Int), 3 ≤ e → e + d = 9 → 0 < d → (roomFrom n d e).2.2 = true := by
    intro d
    induction d with
    | zero => intro e _ _ h; omega
    | succ d ih =>
      intro e h0 h1 _
      unfold roomFrom
      split
      · rfl
      · rename_i g
        by_cases h8 : e = 8
        · exfalso
          subst h8
          apply g
          unfold ceilTo
          simp
          omega
        · exact ih (e + 1) (by omega) (by omega) (by omega)
  exact hb 6 3 (by decide) (by decide) (by decide)
/-- A power of two that may be asked for. -/
def isPow (a : Int) : Prop := a = 1 ∨ a = 2 ∨ a = 4 ∨ a = 8 ∨ a = 16 ∨ a = 32 ∨ a = 64 ∨ a = 128 ∨ a = 256
instance (a : Int) : Decidable (isPow a) := by unfold isPow; infer_instance
theorem isPow_of {a : Int} (h : isPow a) : ∃ j : Nat, j ≤ 8 ∧ a = 2 ^ j := by
  rcases h with h | h | h | h | h | h | h | h | h <;> subst h
  · exact ⟨0, by decide, by decide⟩
  · exact ⟨1, by decide, by decide⟩
  · exact ⟨2, by decide, by decide⟩
  · exact ⟨3, by decide, by decide⟩
  · exact ⟨4, by decide, by decide⟩
  · exact ⟨5, by decide, by decide⟩
  · exact ⟨6, by decide, by decide⟩
  · exact ⟨7, by decide, by decide⟩
  · exact ⟨8, by decide, by decide⟩
theorem pow_test (a : Int) (h0 : 1 ≤ a) (h1 : a ≤ 256) : (Go.bits .and .i64 a (wrap64 (a - 1)) != 0) = !decide (isPow a) := by
  have all : ∀ m : Fin 257, 1 ≤ m.val → (Go.bits .and .i64 (m.val : Int) (wrap64 ((m.val : Int) - 1)) != 0) = !decide (isPow (m.val : Int)) := by decide +kernel
  obtain ⟨m, rfl⟩ := Int.eq_ofNat_of_zero_le (show 0 ≤ a by omega)
  exact all ⟨m, by omega⟩ (by show 1 ≤ m; omega)
theorem max_pow (i j : Nat) (hi : i ≤ 8) (hj : j ≤ 8) : mx ((2 : Int) ^ i) (2 ^ j) = 2 ^ (max i j) := by
  unfold mx
  have hm : ∀ x y : Nat, x < y → (2 : Int) ^ x < 2 ^ y := by
    intro x y h
    have := Nat.pow_lt_pow_right (show 1 < 2 by decide) h
    have h2 : ((2 ^ x : Nat) : Int) < ((2 ^ y : Nat) : Int) := Int.ofNat_lt.2 this
    simpa using h2
  rcases Nat.lt_trichotomy i j with h | h | h
  · rw [if_pos (hm i j h), Nat.max_eq_right (by omega)]
  · subst h; rw [if_neg (by omega), Nat.max_self]
  · have := hm j i h
    rw [if_neg (by omega), Nat.max_eq_left (by omega)]
def nextV (at_ n a : Int) : Int × Int × Bool :=
  if (roomV n).2.2 = true ∧ 0 ≤ at_ ∧ at_ ≤ 65280 ∧ isPow a then
    (if ceilTo at_ (mx a (2 ^ (roomV n).1.toNat)) > 65280 - (roomV n).2.1 then (0, 0, false) else (ceilTo at_ (mx a (2 ^ (roomV n).1.toNat)), (roomV n).2.1, true)) else (0, 0, false)
theorem roomV_told (n : Int) (h : (roomV n).2.2 = true) : 0 ≤ n ∧ ∃ j : Nat, 3 ≤ j ∧ j ≤ 8 ∧ roomV n = ((j : Int), ceilTo n (2 ^ j), true) ∧ ceilTo n (2 ^ j) / 2 ^ j ≤ 511 := by
  unfold roomV at h ⊢
  by_cases c : n < 0
  · rw [if_pos c] at h; simp at h
  · rw [if_neg c] at h ⊢
    exact ⟨by omega, roomFrom_told n (by omega) 6 3 (by decide) (by decide) h⟩
theorem roomV_not (n : Int) (h : (roomV n).2.2 = false) : roomV n = (0, 0, false) := by
  unfold roomV at h ⊢
  by_cases c : n < 0
  · rw [if_pos c]
  · rw [if_neg c] at h ⊢
    exact roomFrom_not n 6 3 h
theorem ceil_range (n : Int) (j : Nat) (hj : j ≤ 8) (n0 : 0 ≤ n) (h : ceilTo n (2 ^ j) / 2 ^ j ≤ 511) : n ≤ ceilTo n (2 ^ j) ∧ ceilTo n (2 ^ j) ≤ 130816 ∧ ceilTo n (2 ^ j) % 2 ^ j = 0 := by
  unfold ceilTo at *
  have : j = 0 ∨ j = 1 ∨ j = 2 ∨ j = 3 ∨ j = 4 ∨ j = 5 ∨ j = 6 ∨ j = 7 ∨ j = 8 := by omega
  rcases this with g | g | g | g | g | g | g | g | g <;> subst g <;> simp at h ⊢ <;> omega
theorem next_is (at_ n a : Int) (k : Nat) (hk : 12 ≤ k) : place_Next.f k at_ n a = some (nextV at_ n a) := by
  obtain ⟨k, rfl⟩ : ∃ m, k = m + 1 := ⟨k - 1, by omega⟩
  unfold place_Next.f
  rw [room_is n (k + 1) (by omega)]
  simp only [Option.bind_some]
  have hno : ∀ e s : Int, place_Next.j0 (k + 1) at_ a s e true = some (0, 0, false) := by intro e s; simp [place_Next.j0]
  unfold nextV
  cases hr : (roomV n).2.2 with
  | false =>
    rw [if_neg (by decide), hno, if_neg (fun g => absurd g.1 (by decide))]
  | true =>
    rw [if_pos rfl]
    obtain ⟨n0, j, j3, j8, hv, hq⟩ := roomV_told n hr
    obtain ⟨r1, r2, r3⟩ := ceil_range n j j8 n0 hq
    rw [hv]
    by_cases c1 : at_ < 0
    · rw [if_pos c1, hno, if_neg (by omega)]
    rw [if_neg c1]
    by_cases c2 : at_ > 65280
    · rw [if_pos c2, hno, if_neg (by omega)]
    rw [if_neg c2]
    by_cases c3 : a < 1
    · rw [if_pos c3, hno, if_neg (by unfold isPow; omega)]
    rw [if_neg c3]
    by_cases c4 : a > 256
    · rw [if_pos c4, hno, if_neg (by unfold isPow; omega)]
    rw [if_neg c4, pow_test a (by omega) (by omega)]
    by_cases c5 : isPow a
    · rw [decide_eq_true c5, if_pos ⟨rfl, by omega, by omega, c5⟩]
      simp only [Bool.not_true, place_Next.j0]
      obtain ⟨i, i8, rfl⟩ := isPow_of c5
      rw [if_neg (by decide), if_pos (by omega), shl_i64 (by omega) (by omega), Int.toNat_natCast, max_pow i j i8 j8, up_is at_ (max i j) (by omega) (by omega) (by omega)]
      simp only [Option.bind_some]
      rw [i64w (65280 - ceilTo n (2 ^ j)) (by omega) (by omega)]
      split <;> rfl
    · rw [decide_eq_false c5, if_neg (fun g => c5 g.2.2.2)]
      simp [place_Next.j0]

theorem isPow_iff (a : Int) : isPow a ↔ ∃ j : Nat, 0 ≤ j ∧ j ≤ 8 ∧ a = 2 ^ j := by
  constructor
  · intro h
    obtain ⟨j, h1, h2⟩ := isPow_of h
    exact ⟨j, by omega, h1, h2⟩
  · rintro ⟨j, _, h1, rfl⟩
    have : j = 0 ∨ j = 1 ∨ j = 2 ∨ j = 3 ∨ j = 4 ∨ j = 5 ∨ j = 6 ∨ j = 7 ∨ j = 8 := by omega
    rcases this with h | h | h | h | h | h | h | h | h <;> subst h <;> decide

theorem exact_of_room (x n : Int) (j m : Nat) (j8 : j ≤ 8) (n0 : 0 ≤ n) (hq : ceilTo n (2 ^ j) / 2 ^ j ≤ 511) (hm : m ≤ 8) (hjm : j ≤ m) (x0 : 0 ≤ x) (hx : x % 2 ^ m = 0) (ht : x + ceilTo n (2 ^ j) ≤ 65280) : (exactV x (x + ceilTo n (2 ^ j))).2.2.2 = 0 := by
  obtain ⟨r1, r2, r3⟩ := ceil_range n j j8 n0 hq
  have hxj : x % 2 ^ j = 0 := by
    have hd : (2 : Int) ^ m = 2 ^ j * 2 ^ (m - j) := by rw [← Int.pow_add]; congr 1; omega
    rw [hd] at hx
    exact Int.emod_eq_zero_of_dvd (Int.dvd_trans (Int.dvd_mul_right _ _) (Int.dvd_of_emod_eq_zero hx))
  refine exactV_ok x _ (j : Int) (by omega) (by omega) (by omega) (by omega) ?_ ?_ ?_
  · rw [Int.toNat_natCast]; exact hxj
  · rw [Int.toNat_natCast, Int.add_emod, hxj, r3]; simp
  · rw [Int.toNat_natCast, show x + ceilTo n (2 ^ j) - x = ceilTo n (2 ^ j) by omega]; exact hq
theorem PlaceExact : bulwarklaw15_PlaceExact.Pure := by
  intro n at_ al wn wat wal
  obtain ⟨n0, n1⟩ := Go.bounds_i64 wn
  obtain ⟨a0, a1⟩ := Go.bounds_u8 wal
  refine ⟨400, ?_⟩
  unfold bulwarklaw15_PlaceExact.f
  rw [tmod_nn a0, if_pos (by omega), shl_i64 (by omega) (by omega)]
  obtain ⟨i, hi⟩ : ∃ i : Nat, (al % 9).toNat = i := ⟨_, rfl⟩
  have i8 : i ≤ 8 := by omega
  rw [hi]
  have hw : bulwarklaw15_PlaceExact.j0 400 n at_ (2 ^ i) true = some true := by simp [bulwarklaw15_PlaceExact.j0, bulwarklaw15_works.f]
  rw [hw]
  by_cases c1 : at_ < 0
  · rw [if_pos c1]
  rw [if_neg c1]
  by_cases c2 : at_ > 65280
  · rw [if_pos c2]
  rw [if_neg c2]
  by_cases c3 : n < 0
  · rw [if_pos c3]
  rw [if_neg c3]
  by_cases c4 : n > 70000
  · rw [decide_eq_true c4, hw]
  rw [decide_eq_false c4]
  have hsm : (roomV n).2.2 = true := by unfold roomV; rw [if_neg c3]; exact roomFrom_small n (by omega) (by omega)
  obtain ⟨_, j, j3, j8, hv, hq⟩ := roomV_told n hsm
  obtain ⟨r1, r2, r3⟩ := ceil_range n j j8 (by omega) hq
  have hip : isPow (2 ^ i) := (isPow_iff _).2 ⟨i, by omega, i8, rfl⟩
  have hnext := next_is at_ n (2 ^ i) 399 (by decide)
  unfold nextV at hnext
  rw [if_pos ⟨hsm, by omega, by omega, hip⟩, hv] at hnext
  simp only [Int.toNat_natCast, max_pow i j i8 j8] at hnext
  have hmx := max_pow i j i8 j8
  have hun : (if (2 : Int) ^ j < 2 ^ i then (2 : Int) ^ i else 2 ^ j) = 2 ^ (max i j) := by rw [← hmx]; unfold mx; split <;> split <;> omega
  obtain ⟨m, hm⟩ : ∃ m, max i j = m := ⟨_, rfl⟩
  rw [hm] at hnext hun
  have m8 : m ≤ 8 := by omega
  have hjm : j ≤ m := by omega
  obtain ⟨u1, u2⟩ := pow_le_256 m m8
  obtain ⟨s, hs⟩ : ∃ s, ceilTo n (2 ^ j) = s := ⟨_, rfl⟩
  obtain ⟨c, hc⟩ : ∃ c, ceilTo at_ (2 ^ m) = c := ⟨_, rfl⟩
  have hcr : at_ ≤ c ∧ c < at_ + 2 ^ m ∧ c % 2 ^ m = 0 := by
    rw [← hc]
    unfold ceilTo
    have : m = 0 ∨ m = 1 ∨ m = 2 ∨ m = 3 ∨ m = 4 ∨ m = 5 ∨ m = 6 ∨ m = 7 ∨ m = 8 := by omega
    rcases this with g | g | g | g | g | g | g | g | g <;> subst g <;> simp <;> omega
  have hmin : ∀ x : Int, at_ ≤ x → x < c → x % 2 ^ m ≠ 0 := by
    intro x x0 x1
    rw [← hc] at x1
    unfold ceilTo at x1
    have : m = 0 ∨ m = 1 ∨ m = 2 ∨ m = 3 ∨ m = 4 ∨ m = 5 ∨ m = 6 ∨ m = 7 ∨ m = 8 := by omega
    rcases this with g | g | g | g | g | g | g | g | g <;> subst g <;> simp at x1 ⊢ <;> omega
  have hex : ∀ x : Int, 0 ≤ x → x % 2 ^ m = 0 → x + s ≤ 65280 → (exactV x (x + s)).2.2.2 = 0 := by
    intro x x0 x1 x2
    rw [← hs] at x2 ⊢
    exact exact_of_room x n j m j8 (by omega) hq m8 hjm x0 x1 x2
  rw [hs] at hnext r1 r2 hv
  rw [hc] at hnext
  -- the loop, from a place on
  have loop : ∀ (d : Nat) (k : Nat) (x : Int), at_ ≤ x → x ≤ c → c - x = d → d + 60 ≤ k →
      bulwarklaw15_PlaceExact.l0 k n (if c > 65280 - s then 0 else c) (if c > 65280 - s then 0 else s) (if c > 65280 - s then false else true) s (2 ^ m) x = some true := by
    intro d
    induction d with
    | zero =>
      intro k x x0 x1 hd hk
      obtain ⟨k, rfl⟩ : ∃ m, k = m + 1 := ⟨k - 1, by omega⟩
      obtain rfl : x = c := by omega
      simp only [bulwarklaw15_PlaceExact.l0]
      rw [i64w (65280 - s) (by omega) (by omega)]
      by_cases g : x > 65280 - s
      · rw [if_neg (by omega), if_pos g, if_neg (by decide)]; rfl
      · have hxx := hex x (by omega) hcr.2.2 (by omega)
        rw [if_pos (by omega), if_neg g, if_neg g, if_neg g, if_neg (by omega), tmod_nn (by omega), if_pos hcr.2.2, i64w (x + s) (by omega) (by omega), u64w, u64w,
          show x % 18446744073709551616 = x by omega, show (x + s) % 18446744073709551616 = x + s by omega, rexact_is x (x + s) (by omega) (by omega) k (by omega)]
        simp only [Option.bind_some, if_true]
        rw [if_pos (by omega), if_pos hxx]; rfl
    | succ d ih =>
      intro k x x0 x1 hd hk
      obtain ⟨k, rfl⟩ : ∃ m, k = m + 1 := ⟨k - 1, by omega⟩
      have hr := ih k (x + 1) (by omega) (by omega) (by omega) (by omega)
      simp only [bulwarklaw15_PlaceExact.l0]
      rw [i64w (65280 - s) (by omega) (by omega)]
      by_cases g : x > 65280 - s
      · rw [if_neg (show ¬ x ≤ 65280 - s by omega), if_pos (show c > 65280 - s by omega), if_neg (by decide)]; rfl
      · rw [if_pos (by omega), if_neg (by omega), tmod_nn (by omega), if_neg (hmin x x0 (by omega)), i64w (x + 1) (by omega) (by omega)]
        exact hr
  rw [show (400 : Nat) = 399 + 1 from rfl]
  simp only [bulwarklaw15_PlaceExact.j0]
  rw [if_neg (by decide), hnext, room_is n 399 (by decide), hv]
  simp only [Option.bind_some]
  rw [if_pos (by omega), shl_i64 (by omega) (by omega), Int.toNat_natCast]
  have hd : (c - at_).toNat + 60 ≤ 398 := by omega
  have hL := loop (c - at_).toNat 398 at_ (by omega) hcr.1 (by omega) hd
  by_cases g : (2 : Int) ^ j < 2 ^ i
  · rw [if_pos g] at hun ⊢
    rw [hun, show (399 : Nat) = 398 + 1 from rfl]
    simp only [bulwarklaw15_PlaceExact.j1]
    rw [← hL]
    by_cases gg : c > 65280 - s <;> simp [gg]
  · rw [if_neg g] at hun ⊢
    rw [hun, show (399 : Nat) = 398 + 1 from rfl]
    simp only [bulwarklaw15_PlaceExact.j1]
    rw [← hL]
    by_cases gg : c > 65280 - s <;> simp [gg]

end Go.Proofs.Ytegehkenmkmflaa.Pure
