/- Base, length, keeping and what is within are the reference's, of any bounds, addresses and places; no condition. -/
import Derived.Test.YtkbnagmlmmengaaPBoundsTellx4
import Derived.OpenShut
namespace Go.Proofs.Ytkbnagmlmmengaa.Pure
open Go.RowKit Go.Proofs.Ytkbnagmlmmengaa.PBoundsTell Go.Proofs.YtkbnagmlmmengaaW.PrintWords Go.Proofs.YtkbnagmlmmengaaW.PrintLast Go.Proofs.YtkbnagmlmmengaaW.PrintMore
set_option linter.unusedVariables false
set_option linter.unusedSimpArgs false
theorem u64w (n : Int) : IntKind.u64.wrap n = n % 18446744073709551616 := by simp [IntKind.wrap, IntKind.bits, IntKind.signed]
theorem u16w (n : Int) : IntKind.u16.wrap n = n % 65536 := by simp [IntKind.wrap, IntKind.bits, IntKind.signed]
theorem wraps_u64 (n : Int) (h₀ : 0 ≤ n) (h₁ : n < 2 ^ 64) : IntKind.u64.wrap n = n := by rw [u64w]; omega
theorem u64_mask (i : Nat) (hi : i ≤ 64) (x : Int) (h₀ : 0 ≤ x) (h₁ : x < 18446744073709551616) : Go.bits .and .u64 x (2 ^ i - 1) = x % 2 ^ i :=
  bits_mask .u64 64 (by decide) wraps_u64 i hi x h₀ (by simpa using h₁)
theorem tmod_nn {a b : Int} (h : 0 ≤ a) : Int.tmod a b = a % b := Int.tmod_eq_emod_of_nonneg h
theorem tdiv_nn {a b : Int} (h : 0 ≤ a) : Int.tdiv a b = a / b := Int.tdiv_eq_ediv_of_nonneg h
theorem mod_id {x m : Int} (h0 : 0 ≤ x) (h1 : x < m) : x % m = x := Int.emod_eq_of_lt h0 h1
theorem shl_at {x e : Int} (h0 : 0 ≤ e) (h1 : e ≤ 64) : shl .u64 x e = x * 2 ^ e.toNat % 18446744073709551616 := by
  unfold shl; rw [Nat.min_eq_left (by show e.toNat ≤ 64; omega), u64w]
theorem shr_at {x e : Int} (h0 : 0 ≤ e) (h1 : e ≤ 64) : shr .u64 x e = x / 2 ^ e.toNat := by
  unfold shr; rw [Nat.min_eq_left (by show e.toNat ≤ 64; omega)]

theorem cases16 {e : Int} (h0 : 0 ≤ e) (h1 : e < 16) : e = 0 ∨ e = 1 ∨ e = 2 ∨ e = 3 ∨ e = 4 ∨ e = 5 ∨ e = 6 ∨ e = 7 ∨ e = 8 ∨ e = 9 ∨ e = 10 ∨ e = 11 ∨ e = 12 ∨ e = 13 ∨ e = 14 ∨ e = 15 := by omega

/-- Where a capability begins. -/
def baseV (e low addr : Int) : Int :=
  if addr / 2 ^ e.toNat % 512 < low then (addr / 2 ^ (e.toNat + 9) - 1) % 2 ^ (23 - e.toNat) * 2 ^ (e.toNat + 9) + low * 2 ^ e.toNat
  else addr / 2 ^ (e.toNat + 9) * 2 ^ (e.toNat + 9) + low * 2 ^ e.toNat
/-- How long it is. -/
def lenV (e b t : Int) : Int := (t + 512 - b) % 512 * 2 ^ e.toNat

theorem base_is (E B T addr : Int) (hE : 0 ≤ E) (hB : 0 ≤ B) (ha : 0 ≤ addr) (ha' : addr < 4294967296) :
    bounds_Base.f E B T addr = some (baseV (E % 16) (B % 512) addr) := by
  have he0 : 0 ≤ E % 16 := by omega
  have he1 : E % 16 < 16 := by omega
  have hl0 : 0 ≤ B % 512 := by omega
  have hl1 : B % 512 < 512 := by omega
  unfold bounds_Base.f
  rw [tmod_nn hE, tmod_nn hB]
  generalize E % 16 = e at he0 he1
  generalize B % 512 = low at hl0 hl1
  have a1 : addr % 18446744073709551616 = addr := by omega
  have a2 : low % 18446744073709551616 = low := by omega
  have a3 : e % 18446744073709551616 = e := by omega
  have a4 : (e + 9) % 18446744073709551616 = e + 9 := by omega
  have a5 : (32 - e) % 18446744073709551616 = 32 - e := by omega
  have a6 : (32 - e - 9) % 18446744073709551616 = 32 - e - 9 := by omega
  have e9 : (e + 9).toNat = e.toNat + 9 := by omega
  have e23 : (32 - e - 9).toNat = 23 - e.toNat := by omega
  simp only [u64w, a1, a2, a3, a4, a5, a6]
  rw [if_pos he0, if_pos (show 0 ≤ e + 9 by omega), if_pos (show 0 ≤ 32 - e - 9 by omega)]
  simp only [shr_at he0 (show e ≤ 64 by omega), shr_at (show 0 ≤ e + 9 by omega) (show e + 9 ≤ 64 by omega), shl_at he0 (show e ≤ 64 by omega), shl_at (show 0 ≤ e + 9 by omega) (show e + 9 ≤ 64 by omega), shl_at (show 0 ≤ 32 - e - 9 by omega) (show 32 - e - 9 ≤ 64 by omega), e9, e23, Int.one_mul]
  have hp : (0 : Int) < 2 ^ e.toNat := Int.pow_pos (by decide)
  rw [tmod_nn (Int.ediv_nonneg ha (by omega))]
  unfold baseV
  have hm : ∀ x : Int, Go.bits .and .u64 (x % 18446744073709551616) ((2 ^ (23 - e.toNat) % 18446744073709551616 - 1) % 18446744073709551616) = x % 2 ^ (23 - e.toNat) := by
    intro x
    have h1 : ((2 : Int) ^ (23 - e.toNat) % 18446744073709551616 - 1) % 18446744073709551616 = 2 ^ (23 - e.toNat) - 1 := by
      rcases cases16 he0 he1 with h | h | h | h | h | h | h | h | h | h | h | h | h | h | h | h <;> subst h <;> rfl
    rw [h1, u64_mask _ (by omega) _ (by omega) (by omega)]
    rcases cases16 he0 he1 with h | h | h | h | h | h | h | h | h | h | h | h | h | h | h | h <;> subst h <;> simp <;> omega
  rw [hm]
  have key : ∀ q : Int, 0 ≤ q → q < 2 ^ (23 - e.toNat) → (q * 2 ^ (e.toNat + 9) % 18446744073709551616 + low * 2 ^ e.toNat % 18446744073709551616) % 18446744073709551616 = q * 2 ^ (e.toNat + 9) + low * 2 ^ e.toNat := by
    intro q q0 q1
    rcases cases16 he0 he1 with h | h | h | h | h | h | h | h | h | h | h | h | h | h | h | h <;> subst h <;> simp at q1 ⊢ <;> omega
  have hp' : (0 : Int) < 2 ^ (23 - e.toNat) := Int.pow_pos (by decide)
  split
  · rw [key _ (Int.emod_nonneg _ (by omega)) (Int.emod_lt_of_pos _ hp')]
  · rw [key]
    · exact Int.ediv_nonneg ha (Int.le_of_lt (Int.pow_pos (by decide)))
    · rcases cases16 he0 he1 with h | h | h | h | h | h | h | h | h | h | h | h | h | h | h | h <;> subst h <;> simp <;> omega

theorem len_is (E B T : Int) (hE : 0 ≤ E) (hB : 0 ≤ B) (hT : 0 ≤ T) : bounds_Length.f E B T = some (lenV (E % 16) (B % 512) (T % 512)) := by
  unfold bounds_Length.f
  rw [tmod_nn hE, tmod_nn hB, tmod_nn hT, if_pos (by omega), shl_at (by omega) (by omega)]
  simp only [u64w]
  unfold lenV
  have hb0 : 0 ≤ B % 512 := by omega
  have hb1 : B % 512 < 512 := by omega
  have ht0 : 0 ≤ T % 512 := by omega
  have ht1 : T % 512 < 512 := by omega
  have he0 : 0 ≤ E % 16 := by omega
  have he1 : E % 16 < 16 := by omega
  generalize E % 16 = e at he0 he1
  generalize B % 512 = b at hb0 hb1
  generalize T % 512 = t at ht0 ht1
  have h1 : ((t % 18446744073709551616 + 512) % 18446744073709551616 - b % 18446744073709551616) % 18446744073709551616 = t + 512 - b := by omega
  rw [h1, tmod_nn (by omega)]
  congr 1
  rcases cases16 he0 he1 with h | h | h | h | h | h | h | h | h | h | h | h | h | h | h | h <;> subst h <;> simp <;> omega

theorem orMask (a b : Int) (n : Nat) (hn : n ≤ 8) (ha : 0 ≤ a) (ha' : a < 18446744073709551616) (hb : 0 ≤ b) (hb' : b < 18446744073709551616) :
    Go.bits .and .u64 (Go.bits .or .u64 a b) ((2 ^ n % 18446744073709551616 - 1) % 18446744073709551616) = 0 ↔ a % 2 ^ n = 0 ∧ b % 2 ^ n = 0 := by
  have h1 : ((2 : Int) ^ n % 18446744073709551616 - 1) % 18446744073709551616 = 2 ^ n - 1 := by
    have : n = 0 ∨ n = 1 ∨ n = 2 ∨ n = 3 ∨ n = 4 ∨ n = 5 ∨ n = 6 ∨ n = 7 ∨ n = 8 := by omega
    rcases this with h | h | h | h | h | h | h | h | h <;> subst h <;> rfl
  obtain ⟨x, rfl⟩ := Int.eq_ofNat_of_zero_le ha
  obtain ⟨y, rfl⟩ := Int.eq_ofNat_of_zero_le hb
  have hx : x < 2 ^ 64 := by omega
  have hy : y < 2 ^ 64 := by omega
  have ho := (bits_nat .u64 64 (by decide) wraps_u64 x y hx hy).2
  have hlt : x ||| y < 2 ^ 64 := Nat.or_lt_two_pow hx hy
  rw [h1, ho, u64_mask n (by omega) _ (by omega) (by omega)]
  have hc : (2 : Int) ^ n = ((2 ^ n : Nat) : Int) := by simp
  rw [hc]
  have : ((x ||| y : Nat) : Int) % ((2 ^ n : Nat) : Int) = (((x ||| y) % 2 ^ n : Nat) : Int) := by rw [Int.natCast_emod]
  rw [this, Nat.or_mod_two_pow, ← Int.natCast_emod, ← Int.natCast_emod]
  have h2 := @Nat.or_eq_zero_iff (x % 2 ^ n) (y % 2 ^ n)
  omega

/-- The least exponent from e on that fits. -/
def exFrom (base top : Int) : Nat → Int → Int × Int × Int × Int
  | 0, _ => (0, 0, 0, 5)
  | n + 1, e => if base % 2 ^ e.toNat = 0 ∧ top % 2 ^ e.toNat = 0 ∧ (top - base) / 2 ^ e.toNat ≤ 511 then (e, base / 2 ^ e.toNat % 512, top / 2 ^ e.toNat % 512, 0) else exFrom base top n (e + 1)
def exactV (base top : Int) : Int × Int × Int × Int := if top < base ∨ 65536 < top then (0, 0, 0, 2) else exFrom base top 9 0

theorem ex_loop (base top : Int) (hb : 0 ≤ base) (ht : base ≤ top) (ht' : top ≤ 65536) (n : Nat) : ∀ (k : Nat) (e : Int), 0 ≤ e → e + n = 9 → n < k → bounds_Exact.l0 k base top e = some (exFrom base top n e) := by
  induction n with
  | zero =>
    intro k e h0 h1 hk
    obtain ⟨k, rfl⟩ : ∃ m, k = m + 1 := ⟨k - 1, by omega⟩
    simp only [bounds_Exact.l0]
    rw [if_neg (by omega)]
    rfl
  | succ n ih =>
    intro k e h0 h1 hk
    obtain ⟨k, rfl⟩ : ∃ m, k = m + 1 := ⟨k - 1, by omega⟩
    have hn : e.toNat ≤ 8 := by omega
    simp only [bounds_Exact.l0, exFrom]
    rw [if_pos (by omega), if_pos h0]
    have hs : IntKind.u64.wrap (shl .u64 1 e - 1) = (2 ^ e.toNat % 18446744073709551616 - 1) % 18446744073709551616 := by
      rw [shl_at h0 (by omega), u64w, Int.one_mul]
    have hw : IntKind.u64.wrap (top - base) = top - base := by rw [u64w]; omega
    have hr := ih k (e + 1) (by omega) (by omega) (by omega)
    have hw1 : IntKind.u64.wrap (e + 1) = e + 1 := by rw [u64w]; omega
    have hp : (0 : Int) < 2 ^ e.toNat := Int.pow_pos (by decide)
    rw [hs, hw, hw1, hr]
    simp only [orMask base top e.toNat hn hb (by omega) (by omega) (by omega), shr_at h0 (show e ≤ 64 by omega), u16w]
    have hq : ∀ x : Int, 0 ≤ x → Int.tmod (x / 2 ^ e.toNat) 512 % 65536 = x / 2 ^ e.toNat % 512 := by
      intro x hx
      have := Int.ediv_nonneg hx (Int.le_of_lt hp)
      rw [tmod_nn this]; omega
    rw [hq base hb, hq top (by omega), show e % 256 = e by omega]
    by_cases h : base % 2 ^ e.toNat = 0 ∧ top % 2 ^ e.toNat = 0
    · by_cases h' : (top - base) / 2 ^ e.toNat ≤ 511
      · rw [if_pos h, if_pos h', if_pos ⟨h.1, h.2, h'⟩]
      · rw [if_pos h, if_neg h', if_neg (fun g => h' g.2.2)]
    · rw [if_neg h, if_neg (fun g => h ⟨g.1, g.2.1⟩)]

theorem exact_is (base top : Int) (hb : 0 ≤ base) (ht : 0 ≤ top) (k : Nat) (hk : 12 ≤ k) : bounds_Exact.f k base top = some (exactV base top) := by
  obtain ⟨k, rfl⟩ : ∃ m, k = m + 1 := ⟨k - 1, by omega⟩
  unfold bounds_Exact.f exactV
  by_cases h : top < base
  · rw [if_pos h, if_pos (.inl h)]; simp [bounds_Exact.j0]
  · rw [if_neg h]
    by_cases h' : top > 65536
    · rw [if_pos (.inr h')]; simp [bounds_Exact.j0, h']
    · rw [if_neg (by omega)]
      simp only [bounds_Exact.j0, h', decide_false]
      exact ex_loop base top hb (by omega) (by omega) 9 k 0 (by omega) (by omega) (by omega)

theorem lives_is (k : Nat) (hk : 12 ≤ k) : bulwarklaw02_lives.f k = some true := by
  have h1 : exactV 0 65536 = (8, 0, 256, 0) := by decide +kernel
  have h2 : exactV 1 513 = (0, 0, 0, 5) := by decide +kernel
  have h3 : bounds_Length.f 8 0 256 = some 65536 := by decide +kernel
  have h4 : bounds_Base.f 0 5 9 517 = some 517 := by decide +kernel
  have h5 : bounds_Base.f 0 5 9 516 = some 5 := by decide +kernel
  unfold bulwarklaw02_lives.f
  rw [exact_is _ _ (by decide) (by decide) k hk, exact_is _ _ (by decide) (by decide) k hk, h1, h2]
  simp [h3, h4, h5]

theorem power_is (e : Int) (h0 : 0 ≤ e) (h1 : e ≤ 24) (k : Nat) (hk : 26 ≤ k) : bulwarkref02_power.f k e = some (2 ^ e.toNat) := by
  refine at_rounds (bulwarkref02_power.mono e) hk ?_
  have : e = 0 ∨ e = 1 ∨ e = 2 ∨ e = 3 ∨ e = 4 ∨ e = 5 ∨ e = 6 ∨ e = 7 ∨ e = 8 ∨ e = 9 ∨ e = 10 ∨ e = 11 ∨ e = 12 ∨ e = 13 ∨ e = 14 ∨ e = 15 ∨ e = 16 ∨ e = 17 ∨ e = 18 ∨ e = 19 ∨ e = 20 ∨ e = 21 ∨ e = 22 ∨ e = 23 ∨ e = 24 := by omega
  rcases this with h | h | h | h | h | h | h | h | h | h | h | h | h | h | h | h | h | h | h | h | h | h | h | h | h <;> subst h <;> decide +kernel

theorem rbase_is (E B T addr : Int) (hE : 0 ≤ E) (hB : 0 ≤ B) (ha : 0 ≤ addr) (ha' : addr < 4294967296) (k : Nat) (hk : 26 ≤ k) :
    bulwarkref02_Base.f k E B T addr = some (baseV (E % 16) (B % 512) addr) := by
  have he0 : 0 ≤ E % 16 := by omega
  have he1 : E % 16 < 16 := by omega
  have hl0 : 0 ≤ B % 512 := by omega
  have hl1 : B % 512 < 512 := by omega
  unfold bulwarkref02_Base.f
  rw [tmod_nn hE, tmod_nn hB]
  generalize E % 16 = e at he0 he1
  generalize B % 512 = low at hl0 hl1
  have a1 : addr % 18446744073709551616 = addr := by omega
  have a2 : low % 18446744073709551616 = low := by omega
  have a3 : wrap64 e = e := by unfold wrap64; omega
  have a4 : wrap64 (23 - e) = 23 - e := by unfold wrap64; omega
  simp only [u64w, a1, a2, a3, a4]
  rw [power_is e he0 (by omega) k hk, power_is (23 - e) (by omega) (by omega) k hk]
  simp only [Option.bind_some]
  have hp : (0 : Int) < 2 ^ e.toNat := Int.pow_pos (by decide)
  have hp5 : (512 : Int) * 2 ^ e.toNat % 18446744073709551616 = 512 * 2 ^ e.toNat := by
    rcases cases16 he0 he1 with h | h | h | h | h | h | h | h | h | h | h | h | h | h | h | h <;> subst h <;> rfl
  have hd : Int.tdiv addr (2 ^ e.toNat) % 18446744073709551616 = addr / 2 ^ e.toNat := by
    rw [tdiv_nn ha]
    have h1 := Int.ediv_nonneg ha (Int.le_of_lt hp)
    have h2 := Int.ediv_le_self (2 ^ e.toNat) ha
    omega
  have hd5 : Int.tdiv addr (512 * 2 ^ e.toNat) % 18446744073709551616 = addr / (512 * 2 ^ e.toNat) := by
    rw [tdiv_nn ha]
    have h1 := Int.ediv_nonneg ha (show (0 : Int) ≤ 512 * 2 ^ e.toNat by omega)
    have h2 := Int.ediv_le_self (512 * 2 ^ e.toNat) ha
    omega
  rw [hp5, hd, hd5, if_neg (by omega), if_neg (by omega), tmod_nn (Int.ediv_nonneg ha (by omega))]
  unfold baseV
  by_cases hm : addr / 2 ^ e.toNat % 512 < low
  · rw [if_pos hm, if_pos hm]
    by_cases hz : addr / (512 * 2 ^ e.toNat) = 0
    · rw [if_pos hz]
      rcases cases16 he0 he1 with h | h | h | h | h | h | h | h | h | h | h | h | h | h | h | h <;> subst h <;> simp at hz ⊢ <;> omega
    · rw [if_neg hz]
      rcases cases16 he0 he1 with h | h | h | h | h | h | h | h | h | h | h | h | h | h | h | h <;> subst h <;> simp at hz ⊢ <;> omega
  · rw [if_neg hm, if_neg hm]
    rcases cases16 he0 he1 with h | h | h | h | h | h | h | h | h | h | h | h | h | h | h | h <;> subst h <;> simp <;> omega

theorem rlen_is (E B T : Int) (hE : 0 ≤ E) (hB : 0 ≤ B) (hT : 0 ≤ T) (k : Nat) (hk : 26 ≤ k) : bulwarkref02_Length.f k E B T = some (lenV (E % 16) (B % 512) (T % 512)) := by
  unfold bulwarkref02_Length.f
  rw [tmod_nn hE, tmod_nn hB, tmod_nn hT]
  simp only [u64w]
  unfold lenV
  have hb0 : 0 ≤ B % 512 := by omega
  have hb1 : B % 512 < 512 := by omega
  have ht0 : 0 ≤ T % 512 := by omega
  have ht1 : T % 512 < 512 := by omega
  have he0 : 0 ≤ E % 16 := by omega
  have he1 : E % 16 < 16 := by omega
  generalize E % 16 = e at he0 he1
  generalize B % 512 = b at hb0 hb1
  generalize T % 512 = t at ht0 ht1
  have a3 : wrap64 e = e := by unfold wrap64; omega
  have h1 : wrap64 (wrap64 t - wrap64 b) = t - b := by unfold wrap64; omega
  have h2 : wrap64 (t - b + 512) = t - b + 512 := by unfold wrap64; omega
  rw [a3, h1, h2, power_is e he0 (by omega) k hk]
  simp only [Option.bind_some]
  split <;>
  · congr 1
    rcases cases16 he0 he1 with h | h | h | h | h | h | h | h | h | h | h | h | h | h | h | h <;> subst h <;> simp <;> omega

theorem base_range (e low addr : Int) (he0 : 0 ≤ e) (he1 : e < 16) (hl0 : 0 ≤ low) (hl1 : low < 512) (ha : 0 ≤ addr) (ha' : addr < 4294967296) : 0 ≤ baseV e low addr ∧ baseV e low addr < 4294967296 := by
  unfold baseV
  rcases cases16 he0 he1 with h | h | h | h | h | h | h | h | h | h | h | h | h | h | h | h <;> subst h <;> simp <;> split <;> omega
theorem len_range (e b t : Int) (he0 : 0 ≤ e) (he1 : e < 16) : 0 ≤ lenV e b t ∧ lenV e b t < 16777216 := by
  unfold lenV
  rcases cases16 he0 he1 with h | h | h | h | h | h | h | h | h | h | h | h | h | h | h | h <;> subst h <;> simp <;> omega

/-- Whether so many bytes from a place on stand within. -/
def withinV (e b t addr at_ n : Int) : Bool := decide (at_ ≤ 1099511627776 ∧ n ≤ 1099511627776 ∧ baseV e b addr ≤ at_ ∧ at_ + n ≤ baseV e b addr + lenV e b t)
theorem within_is (E B T addr at_ n : Int) (hE : 0 ≤ E) (hB : 0 ≤ B) (hT : 0 ≤ T) (ha : 0 ≤ addr) (ha' : addr < 4294967296) (h0 : 0 ≤ at_) (h1 : at_ < 18446744073709551616) (n0 : 0 ≤ n) (n1 : n < 18446744073709551616) (k : Nat) (hk : 1 ≤ k) :
    bounds_Within.f k E B T addr at_ n = some (withinV (E % 16) (B % 512) (T % 512) addr at_ n) := by
  obtain ⟨k, rfl⟩ : ∃ m, k = m + 1 := ⟨k - 1, by omega⟩
  have hbr := base_range (E % 16) (B % 512) addr (by omega) (by omega) (by omega) (by omega) ha ha'
  have hlr := len_range (E % 16) (B % 512) (T % 512) (by omega) (by omega)
  unfold bounds_Within.f withinV
  simp only [bounds_Within.j0, base_is E B T addr hE hB ha ha', len_is E B T hE hB hT, Option.bind_some, u64w]
  generalize baseV (E % 16) (B % 512) addr = b at hbr
  generalize lenV (E % 16) (B % 512) (T % 512) = l at hlr
  by_cases g1 : at_ > 1099511627776
  · rw [if_pos g1]; simp; omega
  · rw [if_neg g1]
    by_cases g2 : n > 1099511627776
    · simp [g2]; omega
    · simp only [g2, decide_false]
      have e1 : (at_ + n) % 18446744073709551616 = at_ + n := by omega
      have e2 : (b + l) % 18446744073709551616 = b + l := by omega
      rw [e1, e2]
      by_cases g3 : b ≤ at_
      · rw [if_neg (show ¬ (false = true) by decide), if_pos (by omega)]
        simp only [Option.some.injEq, decide_eq_decide]; omega
      · rw [if_neg (show ¬ (false = true) by decide), if_neg (by omega), decide_eq_false (by omega)]

theorem rwithin_is (E B T addr at_ n : Int) (hE : 0 ≤ E) (hB : 0 ≤ B) (hT : 0 ≤ T) (ha : 0 ≤ addr) (ha' : addr < 4294967296) (h0 : 0 ≤ at_) (h1 : at_ < 18446744073709551616) (n0 : 0 ≤ n) (n1 : n < 18446744073709551616) (k : Nat) (hk : 27 ≤ k) :
    bulwarkref02_Within.f k E B T addr at_ n = some (withinV (E % 16) (B % 512) (T % 512) addr at_ n) := by
  obtain ⟨k, rfl⟩ : ∃ m, k = m + 1 := ⟨k - 1, by omega⟩
  have hbr := base_range (E % 16) (B % 512) addr (by omega) (by omega) (by omega) (by omega) ha ha'
  have hlr := len_range (E % 16) (B % 512) (T % 512) (by omega) (by omega)
  unfold bulwarkref02_Within.f withinV
  simp only [bulwarkref02_Within.j0, rbase_is E B T addr hE hB ha ha' k (by omega), rlen_is E B T hE hB hT k (by omega), Option.bind_some, u64w]
  generalize baseV (E % 16) (B % 512) addr = b at hbr
  generalize lenV (E % 16) (B % 512) (T % 512) = l at hlr
  by_cases g1 : at_ > 1099511627776
  · rw [if_pos g1]; simp; omega
  · rw [if_neg g1]
    by_cases g2 : n > 1099511627776
    · simp [g2]; omega
    · simp only [g2, decide_false]
      have e2 : (b + l) % 18446744073709551616 = b + l := by omega
      rw [e2]
      by_cases g3 : b ≤ at_
      · by_cases g4 : at_ ≤ b + l
        · have e3 : (b + l - at_) % 18446744073709551616 = b + l - at_ := by omega
          rw [e3, if_neg (show ¬ (false = true) by decide), if_pos (by omega), if_pos (by omega)]
          simp only [Option.some.injEq, decide_eq_decide]; omega
        · rw [if_neg (show ¬ (false = true) by decide), if_pos (by omega), if_neg (by omega), decide_eq_false (by omega)]
      · rw [if_neg (show ¬ (false = true) by decide), if_neg (by omega), decide_eq_false (by omega)]

theorem BoundsTell (E B T x y a n : Int) (hE : 0 ≤ E) (hB : 0 ≤ B) (hT : 0 ≤ T) (x0 : 0 ≤ x) (x1 : x < 4294967296) (y0 : 0 ≤ y) (y1 : y < 4294967296) (a0 : 0 ≤ a) (a1 : a < 18446744073709551616) (n0 : 0 ≤ n) (n1 : n < 18446744073709551616) :
    ∃ k, bulwarklaw02_BoundsTell.f k E B T x y a n = some true := by
  obtain ⟨k, hk⟩ : ∃ k : Nat, 40 ≤ k := ⟨40, Nat.le_refl _⟩
  refine ⟨k, ?_⟩
  unfold bulwarklaw02_BoundsTell.f bounds_Keeps.f bulwarkref02_Keeps.f
  rw [base_is E B T x hE hB x0 x1, base_is E B T y hE hB y0 y1, rbase_is E B T x hE hB x0 x1 k (by omega), rbase_is E B T y hE hB y0 y1 k (by omega), len_is E B T hE hB hT, rlen_is E B T hE hB hT k (by omega),
    within_is E B T x a n hE hB hT x0 x1 a0 a1 n0 n1 k (by omega), rwithin_is E B T x a n hE hB hT x0 x1 a0 a1 n0 n1 k (by omega), lives_is k (by omega)]
  simp only [Option.bind_some, if_true, beq_self_eq_true]

theorem walk (E B T x y a n : Int) (W : World) (wE : (Lit.int .u8 E).wf = true) (wB : (Lit.int .u16 B).wf = true) (wT : (Lit.int .u16 T).wf = true) (wx : (Lit.int .u32 x).wf = true) (wy : (Lit.int .u32 y).wf = true) (wa : (Lit.int .u64 a).wf = true) (wn : (Lit.int .u64 n).wf = true) :
    Calls Try.prog 8 #[.agg #[.int .u8 E, .int .u16 B, .int .u16 T], .int .u32 x, .int .u32 y, .int .u64 a, .int .u64 n] W fun e w' => e = .returned (.bool true) ∧ Below W.heap.size W w' := by
  have := Go.bounds_u8 wE; have := Go.bounds_u16 wB; have := Go.bounds_u16 wT; have := Go.bounds_u32 wx; have := Go.bounds_u32 wy; have := Go.bounds_u64 wa; have := Go.bounds_u64 wn
  obtain ⟨k, h⟩ := BoundsTell E B T x y a n (by omega) (by omega) (by omega) (by omega) (by omega) (by omega) (by omega) (by omega) (by omega) (by omega) (by omega)
  exact bulwarklaw02_BoundsTell.calls k E B T x y a n true W h

end Go.Proofs.Ytkbnagmlmmengaa.Pure
