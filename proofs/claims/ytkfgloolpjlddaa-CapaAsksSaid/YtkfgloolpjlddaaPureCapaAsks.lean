/- Subset, what may be reached, base and top, and roots, are the reference's; no condition. -/
import Derived.Test.YtkfgloolpjlddaaQ29
import Derived.OpenShut
namespace Go.Proofs.Ytkfgloolpjlddaa.Pure
open Go.RowKit Go.Proofs.Ytkfgloolpjlddaa.Q Go.Proofs.YtkfgloolpjlddaaW.PrintWords Go.Proofs.YtkfgloolpjlddaaW.PrintLast Go.Proofs.YtkfgloolpjlddaaW.PrintMore
set_option linter.unusedVariables false
set_option linter.unusedSimpArgs false
theorem u64w (n : Int) : IntKind.u64.wrap n = n % 18446744073709551616 := by simp [IntKind.wrap, IntKind.bits, IntKind.signed]
theorem u16w (n : Int) : IntKind.u16.wrap n = n % 65536 := by simp [IntKind.wrap, IntKind.bits, IntKind.signed]
theorem wraps_u64 (n : Int) (h₀ : 0 ≤ n) (h₁ : n < 2 ^ 64) : IntKind.u64.wrap n = n := by rw [u64w]; omega
theorem u64_mask (i : Nat) (hi : i ≤ 64) (x : Int) (h₀ : 0 ≤ x) (h₁ : x < 18446744073709551616) : Go.bits .and .u64 x (2 ^ i - 1) = x % 2 ^ i :=
  bits_mask .u64 64 (by decide) wraps_u64 i hi x h₀ (by simpa using h₁)
theorem tmod_nn {a b : Int} (h : 0 ≤ a) : Int.tmod a b = a % b := Int.tmod_eq_emod_of_nonneg h
theorem tdiv_nn {a b : Int} (h : 0 ≤ a) : Int.tdiv a b = a / b := Int.tdiv_eq_ediv_of_nonneg h
theorem mod_id {x m : Int} (h0 : 0 ≤ x) (h1 : x < m) : x % m = x := Int.emod_eq_of_lt h0 h1
theorem shl_at {x e : Int} (h0 : 0 ≤ e) (h1 : e ≤ 64) : shl .u64 x e = x * 2 ^ e.toNat % 18446744073709551616 := by
  unfold shl; rw [Nat.min_eq_left (by show e.toNat ≤ 64; omega), u64w]
theorem shr_at {x e : Int} (h0 : 0 ≤ e) (h1 : e ≤ 64) : shr .u64 x e = x / 2 ^ e.toNat := by
  unfold shr; rw [Nat.min_eq_left (by show e.toNat ≤ 64; omega)]

theorem cases16 {e : Int} (h0 : 0 ≤ e) (h1 : e < 16) : e = 0 ∨ e = 1 ∨ e = 2 ∨ e = 3 ∨ e = 4 ∨ e = 5 ∨ e = 6 ∨ e = 7 ∨ e = 8 ∨ e = 9 ∨ e = 10 ∨ e = 11 ∨ e = 12 ∨ e = 13 ∨ e = 14 ∨ e = 15 := by omega

/-- Where a capability begins. -/
def baseV (e low addr : Int) : Int :=
  if addr / 2 ^ e.toNat % 512 < low then (addr / 2 ^ (e.toNat + 9) - 1) % 2 ^ (23 - e.toNat) * 2 ^ (e.toNat + 9) + low * 2 ^ e.toNat
  else addr / 2 ^ (e.toNat + 9) * 2 ^ (e.toNat + 9) + low * 2 ^ e.toNat
/-- How long it is. -/
def lenV (e b t : Int) : Int := (t + 512 - b) % 512 * 2 ^ e.toNat

theorem base_is (E B T addr : Int) (hE : 0 ≤ E) (hB : 0 ≤ B) (ha : 0 ≤ addr) (ha' : addr < 4294967296) :
    bounds_Base.f E B T addr = some (baseV (E % 16) (B % 512) addr) := by
  have he0 : 0 ≤ E % 16 := by omega
  have he1 : E % 16 < 16 := by omega
  have hl0 : 0 ≤ B % 512 := by omega
  have hl1 : B % 512 < 512 := by omega
  unfold bounds_Base.f
  rw [tmod_nn hE, tmod_nn hB]
  generalize E % 16 = e at he0 he1
  generalize B % 512 = low at hl0 hl1
  have a1 : addr % 18446744073709551616 = addr := by omega
  have a2 : low % 18446744073709551616 = low := by omega
  have a3 : e % 18446744073709551616 = e := by omega
  have a4 : (e + 9) % 18446744073709551616 = e + 9 := by omega
  have a5 : (32 - e) % 18446744073709551616 = 32 - e := by omega
  have a6 : (32 - e - 9) % 18446744073709551616 = 32 - e - 9 := by omega
  have e9 : (e + 9).toNat = e.toNat + 9 := by omega
  have e23 : (32 - e - 9).toNat = 23 - e.toNat := by omega
  simp only [u64w, a1, a2, a3, a4, a5, a6]
  rw [if_pos he0, if_pos (show 0 ≤ e + 9 by omega), if_pos (show 0 ≤ 32 - e - 9 by omega)]
  simp only [shr_at he0 (show e ≤ 64 by omega), shr_at (show 0 ≤ e + 9 by omega) (show e + 9 ≤ 64 by omega), shl_at he0 (show e ≤ 64 by omega), shl_at (show 0 ≤ e + 9 by omega) (show e + 9 ≤ 64 by omega), shl_at (show 0 ≤ 32 - e - 9 by omega) (show 32 - e - 9 ≤ 64 by omega), e9, e23, Int.one_mul]
  have hp : (0 : Int) < 2 ^ e.toNat := Int.pow_pos (by decide)
  rw [tmod_nn (Int.ediv_nonneg ha (by omega))]
  unfold baseV
  have hm : ∀ x : Int, Go.bits .and .u64 (x % 18446744073709551616) ((2 ^ (23 - e.toNat) % 18446744073709551616 - 1) % 18446744073709551616) = x % 2 ^ (23 - e.toNat) := by
    intro x
    have h1 : ((2 : Int) ^ (23 - e.toNat) % 18446744073709551616 - 1) % 18446744073709551616 = 2 ^ (23 - e.toNat) - 1 := by
      rcases cases16 he0 he1 with h | h | h | h | h | h | h | h | h | h | h | h | h | h | h | h <;> subst h <;> rfl
    rw [h1, u64_mask _ (by omega) _ (by omega) (by omega)]
    rcases cases16 he0 he1 with h | h | h | h | h | h | h | h | h | h | h | h | h | h | h | h <;> subst h <;> simp <;> omega
  rw [hm]
  have key : ∀ q : Int, 0 ≤ q → q < 2 ^ (23 - e.toNat) → (q * 2 ^ (e.toNat + 9) % 18446744073709551616 + low * 2 ^ e.toNat % 18446744073709551616) % 18446744073709551616 = q * 2 ^ (e.toNat + 9) + low * 2 ^ e.toNat := by
    intro q q0 q1
    rcases cases16 he0 he1 with h | h | h | h | h | h | h | h | h | h | h | h | h | h | h | h <;> subst h <;> simp at q1 ⊢ <;> omega
  have hp' : (0 : Int) < 2 ^ (23 - e.toNat) := Int.pow_pos (by decide)
  split
  · rw [key _ (Int.emod_nonneg _ (by omega)) (Int.emod_lt_of_pos _ hp')]
  · rw [key]
    · exact Int.ediv_nonneg ha (Int.le_of_lt (Int.pow_pos (by decide)))
    · rcases cases16 he0 he1 with h | h | h | h | h | h | h | h | h | h | h | h | h | h | h | h <;> subst h <;> simp <;> omega

theorem len_is (E B T : Int) (hE : 0 ≤ E) (hB : 0 ≤ B) (hT : 0 ≤ T) : bounds_Length.f E B T = some (lenV (E % 16) (B % 512) (T % 512)) := by
  unfold bounds_Length.f
  rw [tmod_nn hE, tmod_nn hB, tmod_nn hT, if_pos (by omega), shl_at (by omega) (by omega)]
  simp only [u64w]
  unfold lenV
  have hb0 : 0 ≤ B % 512 := by omega
  have hb1 : B % 512 < 512 := by omega
  have ht0 : 0 ≤ T % 512 := by omega
  have ht1 : T % 512 < 512 := by omega
  have he0 : 0 ≤ E % 16 := by omega
  have he1 : E % 16 < 16 := by omega
  generalize E % 16 = e at he0 he1
  generalize B % 512 = b at hb0 hb1
  generalize T % 512 = t at ht0 ht1
  have h1 : ((t % 18446744073709551616 + 512) % 18446744073709551616 - b % 18446744073709551616) % 18446744073709551616 = t + 512 - b := by omega
  rw [h1, tmod_nn (by omega)]
  congr 1
  rcases cases16 he0 he1 with h | h | h | h | h | h | h | h | h | h | h | h | h | h | h | h <;> subst h <;> simp <;> omega

theorem orMask (a b : Int) (n : Nat) (hn : n ≤ 8) (ha : 0 ≤ a) (ha' : a < 18446744073709551616) (hb : 0 ≤ b) (hb' : b < 18446744073709551616) :
    Go.bits .and .u64 (Go.bits .or .u64 a b) ((2 ^ n % 18446744073709551616 - 1) % 18446744073709551616) = 0 ↔ a % 2 ^ n = 0 ∧ b % 2 ^ n = 0 := by
  have h1 : ((2 : Int) ^ n % 18446744073709551616 - 1) % 18446744073709551616 = 2 ^ n - 1 := by
    have : n = 0 ∨ n = 1 ∨ n = 2 ∨ n = 3 ∨ n = 4 ∨ n = 5 ∨ n = 6 ∨ n = 7 ∨ n = 8 := by omega
    rcases this with h | h | h | h | h | h | h | h | h <;> subst h <;> rfl
  obtain ⟨x, rfl⟩ := Int.eq_ofNat_of_zero_le ha
  obtain ⟨y, rfl⟩ := Int.eq_ofNat_of_zero_le hb
  have hx : x < 2 ^ 64 := by omega
  have hy : y < 2 ^ 64 := by omega
  have ho := (bits_nat .u64 64 (by decide) wraps_u64 x y hx hy).2
  have hlt : x ||| y < 2 ^ 64 := Nat.or_lt_two_pow hx hy
  rw [h1, ho, u64_mask n (by omega) _ (by omega) (by omega)]
  have hc : (2 : Int) ^ n = ((2 ^ n : Nat) : Int) := by simp
  rw [hc]
  have : ((x ||| y : Nat) : Int) % ((2 ^ n : Nat) : Int) = (((x ||| y) % 2 ^ n : Nat) : Int) := by rw [Int.natCast_emod]
  rw [this, Nat.or_mod_two_pow, ← Int.natCast_emod, ← Int.natCast_emod]
  have h2 := @Nat.or_eq_zero_iff (x % 2 ^ n) (y % 2 ^ n)
  omega

/-- The least exponent from e on that fits. -/
def exFrom (base top : Int) : Nat → Int → Int × Int × Int × Int
  | 0, _ => (0, 0, 0, 5)
  | n + 1, e => if base % 2 ^ e.toNat = 0 ∧ top % 2 ^ e.toNat = 0 ∧ (top - base) / 2 ^ e.toNat ≤ 511 then (e, base / 2 ^ e.toNat % 512, top / 2 ^ e.toNat % 512, 0) else exFrom base top n (e + 1)
def exactV (base top : Int) : Int × Int × Int × Int := if top < base ∨ 65536 < top then (0, 0, 0, 2) else exFrom base top 9 0

theorem ex_loop (base top : Int) (hb : 0 ≤ base) (ht : base ≤ top) (ht' : top ≤ 65536) (n : Nat) : ∀ (k : Nat) (e : Int), 0 ≤ e → e + n = 9 → n < k → bounds_Exact.l0 k base top e = some (exFrom base top n e) := by
  induction n with
  | zero =>
    intro k e h0 h1 hk
    obtain ⟨k, rfl⟩ : ∃ m, k = m + 1 := ⟨k - 1, by omega⟩
    simp only [bounds_Exact.l0]
    rw [if_neg (by omega)]
    rfl
  | succ n ih =>
    intro k e h0 h1 hk
    obtain ⟨k, rfl⟩ : ∃ m, k = m + 1 := ⟨k - 1, by omega⟩
    have hn : e.toNat ≤ 8 := by omega
    simp only [bounds_Exact.l0, exFrom]
    rw [if_pos (by omega), if_pos h0]
    have hs : IntKind.u64.wrap (shl .u64 1 e - 1) = (2 ^ e.toNat % 18446744073709551616 - 1) % 18446744073709551616 := by
      rw [shl_at h0 (by omega), u64w, Int.one_mul]
    have hw : IntKind.u64.wrap (top - base) = top - base := by rw [u64w]; omega
    have hr := ih k (e + 1) (by omega) (by omega) (by omega)
    have hw1 : IntKind.u64.wrap (e + 1) = e + 1 := by rw [u64w]; omega
    have hp : (0 : Int) < 2 ^ e.toNat := Int.pow_pos (by decide)
    rw [hs, hw, hw1, hr]
    simp only [orMask base top e.toNat hn hb (by omega) (by omega) (by omega), shr_at h0 (show e ≤ 64 by omega), u16w]
    have hq : ∀ x : Int, 0 ≤ x → Int.tmod (x / 2 ^ e.toNat) 512 % 65536 = x / 2 ^ e.toNat % 512 := by
      intro x hx
      have := Int.ediv_nonneg hx (Int.le_of_lt hp)
      rw [tmod_nn this]; omega
    rw [hq base hb, hq top (by omega), show e % 256 = e by omega]
    by_cases h : base % 2 ^ e.toNat = 0 ∧ top % 2 ^ e.toNat = 0
    · by_cases h' : (top - base) / 2 ^ e.toNat ≤ 511
      · rw [if_pos h, if_pos h', if_pos ⟨h.1, h.2, h'⟩]
      · rw [if_pos h, if_neg h', if_neg (fun g => h' g.2.2)]
    · rw [if_neg h, if_neg (fun g => h ⟨g.1, g.2.1⟩)]

theorem exact_is (base top : Int) (hb : 0 ≤ base) (ht : 0 ≤ top) (k : Nat) (hk : 12 ≤ k) : bounds_Exact.f k base top = some (exactV base top) := by
  obtain ⟨k, rfl⟩ : ∃ m, k = m + 1 := ⟨k - 1, by omega⟩
  unfold bounds_Exact.f exactV
  by_cases h : top < base
  · rw [if_pos h, if_pos (.inl h)]; simp [bounds_Exact.j0]
  · rw [if_neg h]
    by_cases h' : top > 65536
    · rw [if_pos (.inr h')]; simp [bounds_Exact.j0, h']
    · rw [if_neg (by omega)]
      simp only [bounds_Exact.j0, h', decide_false]
      exact ex_loop base top hb (by omega) (by omega) 9 k 0 (by omega) (by omega) (by omega)


theorem base_range (e low addr : Int) (he0 : 0 ≤ e) (he1 : e < 16) (hl0 : 0 ≤ low) (hl1 : low < 512) (ha : 0 ≤ addr) (ha' : addr < 4294967296) : 0 ≤ baseV e low addr ∧ baseV e low addr < 4294967296 := by
  unfold baseV
  rcases cases16 he0 he1 with h | h | h | h | h | h | h | h | h | h | h | h | h | h | h | h <;> subst h <;> simp <;> split <;> omega
theorem len_range (e b t : Int) (he0 : 0 ≤ e) (he1 : e < 16) : 0 ≤ lenV e b t ∧ lenV e b t < 16777216 := by
  unfold lenV
  rcases cases16 he0 he1 with h | h | h | h | h | h | h | h | h | h | h | h | h | h | h | h <;> subst h <;> simp <;> omega

/-- Whether so many bytes from a place on stand within. -/
def withinV (e b t addr at_ n : Int) : Bool := decide (at_ ≤ 1099511627776 ∧ n ≤ 1099511627776 ∧ baseV e b addr ≤ at_ ∧ at_ + n ≤ baseV e b addr + lenV e b t)
theorem within_is (E B T addr at_ n : Int) (hE : 0 ≤ E) (hB : 0 ≤ B) (hT : 0 ≤ T) (ha : 0 ≤ addr) (ha' : addr < 4294967296) (h0 : 0 ≤ at_) (h1 : at_ < 18446744073709551616) (n0 : 0 ≤ n) (n1 : n < 18446744073709551616) (k : Nat) (hk : 1 ≤ k) :
    bounds_Within.f k E B T addr at_ n = some (withinV (E % 16) (B % 512) (T % 512) addr at_ n) := by
  obtain ⟨k, rfl⟩ : ∃ m, k = m + 1 := ⟨k - 1, by omega⟩
  have hbr := base_range (E % 16) (B % 512) addr (by omega) (by omega) (by omega) (by omega) ha ha'
  have hlr := len_range (E % 16) (B % 512) (T % 512) (by omega) (by omega)
  unfold bounds_Within.f withinV
  simp only [bounds_Within.j0, base_is E B T addr hE hB ha ha', len_is E B T hE hB hT, Option.bind_some, u64w]
  generalize baseV (E % 16) (B % 512) addr = b at hbr
  generalize lenV (E % 16) (B % 512) (T % 512) = l at hlr
  by_cases g1 : at_ > 1099511627776
  · rw [if_pos g1]; simp; omega
  · rw [if_neg g1]
    by_cases g2 : n > 1099511627776
    · simp [g2]; omega
    · simp only [g2, decide_false]
      have e1 : (at_ + n) % 18446744073709551616 = at_ + n := by omega
      have e2 : (b + l) % 18446744073709551616 = b + l := by omega
      rw [e1, e2]
      by_cases g3 : b ≤ at_
      · rw [if_neg (show ¬ (false = true) by decide), if_pos (by omega)]
        simp only [Option.some.injEq, decide_eq_decide]; omega
      · rw [if_neg (show ¬ (false = true) by decide), if_neg (by omega), decide_eq_false (by omega)]

theorem bits8 (a b : Nat) (ha : a < 256) (hb : b < 256) : Go.bits .and .u8 a b = ((a &&& b : Nat) : Int) :=
  (bits_nat .u8 8 (by decide) wraps_u8 a b (by omega) (by omega)).1
theorem bitsNot8 (a b : Nat) (ha : a < 256) (hb : b < 256) : Go.bits .andNot .u8 a b = 0 ↔ b &&& a = a := by
  have e : Go.bits .andNot .u8 (a : Int) (b : Int) = (((BitVec.ofNat 8 a &&& ~~~(BitVec.ofNat 8 b)).toNat : Nat) : Int) := by
    have hlt : (BitVec.ofNat 8 a &&& ~~~(BitVec.ofNat 8 b)).toNat < 256 := (BitVec.ofNat 8 a &&& ~~~(BitVec.ofNat 8 b)).isLt
    simp only [Go.bits, BitVec.ofInt_natCast]
    rw [IntKind.wrap_u8]
    show ((BitVec.ofNat 8 a &&& ~~~(BitVec.ofNat 8 b)).toNat : Int) % 256 = _
    omega
  rw [e]
  have h1 : (((BitVec.ofNat 8 a &&& ~~~(BitVec.ofNat 8 b)).toNat : Nat) : Int) = 0 ↔ BitVec.ofNat 8 a &&& ~~~(BitVec.ofNat 8 b) = 0#8 := by
    constructor
    · intro h; exact BitVec.eq_of_toNat_eq (by simpa using h)
    · intro h; rw [h]; rfl
  rw [h1]
  have h2 : b &&& a = a ↔ BitVec.ofNat 8 b &&& BitVec.ofNat 8 a = BitVec.ofNat 8 a := by
    constructor
    · intro h
      apply BitVec.eq_of_toNat_eq
      simp only [BitVec.toNat_and, BitVec.toNat_ofNat]
      rw [Nat.mod_eq_of_lt (by omega), Nat.mod_eq_of_lt (by omega)]; exact h
    · intro h
      have := congrArg BitVec.toNat h
      simp only [BitVec.toNat_and, BitVec.toNat_ofNat] at this
      rw [Nat.mod_eq_of_lt (by omega), Nat.mod_eq_of_lt (by omega)] at this; exact this
  rw [h2]
  generalize BitVec.ofNat 8 a = x
  generalize BitVec.ofNat 8 b = y
  constructor
  · intro h
    apply BitVec.eq_of_getLsbD_eq
    intro i hi
    have := congrArg (fun z => z.getLsbD i) h
    simp [hi] at this ⊢
    exact this
  · intro h
    apply BitVec.eq_of_getLsbD_eq
    intro i hi
    have := congrArg (fun z => z.getLsbD i) h
    simp [hi] at this ⊢
    exact this
theorem and_rec (c p : Nat) : c &&& p = 2 * ((c / 2) &&& (p / 2)) + (if c % 2 = 1 ∧ p % 2 = 1 then 1 else 0) := by
  have h1 := Nat.div_add_mod (c &&& p) 2
  rw [Nat.and_div_two] at h1
  have h2 : (c &&& p) % 2 = if c % 2 = 1 ∧ p % 2 = 1 then 1 else 0 := by
    have := Nat.and_mod_two_pow (a := c) (b := p) (n := 1)
    simp only [Nat.pow_one] at this
    rw [this]
    have hc : c % 2 = 0 ∨ c % 2 = 1 := by omega
    have hp : p % 2 = 0 ∨ p % 2 = 1 := by omega
    rcases hc with h | h <;> rcases hp with g | g <;> simp [h, g]
  omega
theorem keep_rec (c p : Nat) : c &&& p = p ↔ (p % 2 = 1 → c % 2 = 1) ∧ (c / 2 &&& p / 2 = p / 2) := by
  have h := and_rec c p
  have hp : p % 2 = 0 ∨ p % 2 = 1 := by omega
  have hc : c % 2 = 0 ∨ c % 2 = 1 := by omega
  rcases hp with g | g <;> rcases hc with k | k <;> simp [g, k] at h ⊢ <;> omega
theorem keep8 (c p : Nat) (hc : c < 256) (hp : p < 256) : c &&& p = p ↔ (p % 2 = 1 → c % 2 = 1) ∧ (p / 2 % 2 = 1 → c / 2 % 2 = 1) ∧ (p / 4 % 2 = 1 → c / 4 % 2 = 1) ∧ (p / 8 % 2 = 1 → c / 8 % 2 = 1) ∧
    (p / 16 % 2 = 1 → c / 16 % 2 = 1) ∧ (p / 32 % 2 = 1 → c / 32 % 2 = 1) ∧ (p / 64 % 2 = 1 → c / 64 % 2 = 1) ∧ (p / 128 % 2 = 1 → c / 128 % 2 = 1) := by
  rw [keep_rec, keep_rec (c / 2), keep_rec (c / 2 / 2), keep_rec (c / 2 / 2 / 2), keep_rec (c / 2 / 2 / 2 / 2), keep_rec (c / 2 / 2 / 2 / 2 / 2), keep_rec (c / 2 / 2 / 2 / 2 / 2 / 2), keep_rec (c / 2 / 2 / 2 / 2 / 2 / 2 / 2)]
  simp only [Nat.div_div_eq_div_mul, Nat.reduceMul]
  have h0 : p / 256 = 0 := by omega
  rw [h0]; simp
theorem and8 (c p : Nat) (hc : c < 256) (hp : p < 256) : c &&& p = (if c % 2 = 1 ∧ p % 2 = 1 then 1 else 0) + 2 * (if c / 2 % 2 = 1 ∧ p / 2 % 2 = 1 then 1 else 0) + 4 * (if c / 4 % 2 = 1 ∧ p / 4 % 2 = 1 then 1 else 0) + 8 * (if c / 8 % 2 = 1 ∧ p / 8 % 2 = 1 then 1 else 0)
    + 16 * (if c / 16 % 2 = 1 ∧ p / 16 % 2 = 1 then 1 else 0) + 32 * (if c / 32 % 2 = 1 ∧ p / 32 % 2 = 1 then 1 else 0) + 64 * (if c / 64 % 2 = 1 ∧ p / 64 % 2 = 1 then 1 else 0) + 128 * (if c / 128 % 2 = 1 ∧ p / 128 % 2 = 1 then 1 else 0) := by
  rw [and_rec c p, and_rec (c / 2), and_rec (c / 2 / 2), and_rec (c / 2 / 2 / 2), and_rec (c / 2 / 2 / 2 / 2), and_rec (c / 2 / 2 / 2 / 2 / 2), and_rec (c / 2 / 2 / 2 / 2 / 2 / 2), and_rec (c / 2 / 2 / 2 / 2 / 2 / 2 / 2)]
  simp only [Nat.div_div_eq_div_mul, Nat.reduceMul]
  have h0 : p / 256 = 0 := by omega
  rw [h0]; simp; omega

theorem wraps_u64' (n : Int) (h₀ : 0 ≤ n) (h₁ : n < 18446744073709551616) : IntKind.u64.wrap n = n := by rw [u64w]; omega
/-- The parts of a capability are as wide as they are. -/
structure Ok7 (a p ty E B T : Int) : Prop where
  a0 : 0 ≤ a
  a1 : a < 4294967296
  p0 : 0 ≤ p
  p1 : p < 256
  t0 : 0 ≤ ty
  t1 : ty < 256
  e0 : 0 ≤ E
  e1 : E < 256
  b0 : 0 ≤ B
  b1 : B < 65536
  c0 : 0 ≤ T
  c1 : T < 65536
/-- Where it begins, where it ends. -/
def capBase (a E B : Int) : Int := baseV (E % 16) (B % 512) a
def capTop (a E B T : Int) : Int := baseV (E % 16) (B % 512) a + lenV (E % 16) (B % 512) (T % 512)
theorem cap_range {a p ty E B T : Int} (h : Ok7 a p ty E B T) : 0 ≤ capBase a E B ∧ capBase a E B < 4294967296 ∧ 0 ≤ lenV (E % 16) (B % 512) (T % 512) ∧ lenV (E % 16) (B % 512) (T % 512) < 16777216 ∧ capTop a E B T = capBase a E B + lenV (E % 16) (B % 512) (T % 512) := by
  have h1 := base_range (E % 16) (B % 512) a (by have := h.e0; omega) (by omega) (by omega) (by omega) h.a0 h.a1
  have h2 := len_range (E % 16) (B % 512) (T % 512) (by omega) (by omega)
  exact ⟨h1.1, h1.2, h2.1, h2.2, rfl⟩
theorem cbase_is (t : Bool) {a p ty E B T : Int} (h : Ok7 a p ty E B T) : capa_Base.f t a p ty E B T = some (capBase a E B) := by
  unfold capa_Base.f; rw [base_is E B T a h.e0 h.b0 h.a0 h.a1]; rfl
theorem ctop_is (t : Bool) {a p ty E B T : Int} (h : Ok7 a p ty E B T) : capa_Top.f t a p ty E B T = some (capTop a E B T) := by
  unfold capa_Top.f
  rw [cbase_is t h, len_is E B T h.e0 h.b0 h.c0]
  simp only [Option.bind_some]
  obtain ⟨r1, r2, r3, r4, r5⟩ := cap_range h
  rw [wraps_u64' _ (by omega) (by omega)]; rfl
/-- Are all permissions p among q's? -/
def permsIn (p q : Int) : Bool := decide (q.toNat &&& p.toNat = p.toNat)
theorem andNot_is (p q : Int) (p0 : 0 ≤ p) (p1 : p < 256) (q0 : 0 ≤ q) (q1 : q < 256) : Go.bits .andNot .u8 p q = 0 ↔ permsIn p q = true := by
  have := bitsNot8 p.toNat q.toNat (by omega) (by omega)
  rw [Int.toNat_of_nonneg p0, Int.toNat_of_nonneg q0] at this
  rw [this]; unfold permsIn; simp
theorem and_is (p q : Int) (p0 : 0 ≤ p) (p1 : p < 256) (q0 : 0 ≤ q) (q1 : q < 256) : Go.bits .and .u8 q p = ((q.toNat &&& p.toNat : Nat) : Int) := by
  have := bits8 q.toNat p.toNat (by omega) (by omega)
  rw [Int.toNat_of_nonneg p0, Int.toNat_of_nonneg q0] at this
  exact this
theorem andEq_is (p q : Int) (p0 : 0 ≤ p) (p1 : p < 256) (q0 : 0 ≤ q) (q1 : q < 256) : Go.bits .and .u8 q p = p ↔ permsIn p q = true := by
  rw [and_is p q p0 p1 q0 q1]; unfold permsIn; simp; omega
theorem permsIn_refl (p : Int) : permsIn p p = true := by unfold permsIn; simp
theorem permsIn_trans {p q r : Int} (h : permsIn p q = true) (g : permsIn q r = true) : permsIn p r = true := by
  unfold permsIn at *
  simp only [decide_eq_true_eq] at *
  rw [← h, ← Nat.and_assoc, g]
theorem permsIn_and (q m : Int) : permsIn ((q.toNat &&& m.toNat : Nat) : Int) q = true := by
  unfold permsIn
  simp only [decide_eq_true_eq, Int.toNat_natCast]
  rw [← Nat.and_assoc, Nat.and_self]

theorem cwithin_is {a p ty E B T : Int} (h : Ok7 a p ty E B T) (x n : Int) (h0 : 0 ≤ x) (h1 : x < 18446744073709551616) (n0 : 0 ≤ n) (n1 : n < 18446744073709551616) (k : Nat) (hk : 1 ≤ k) :
    bounds_Within.f k E B T a x n = some (withinV (E % 16) (B % 512) (T % 512) a x n) := within_is E B T a x n h.e0 h.b0 h.c0 h.a0 h.a1 h0 h1 n0 n1 k hk
/-- May so many bytes be reached? -/
def mayV (t : Bool) (a p ty E B T q x n : Int) : Bool := t && (decide (ty = 0) && (permsIn q p && withinV (E % 16) (B % 512) (T % 512) a x n))
theorem may_is (t : Bool) {a p ty E B T : Int} (h : Ok7 a p ty E B T) (q x n : Int) (q0 : 0 ≤ q) (q1 : q < 256) (h0 : 0 ≤ x) (h1 : x < 18446744073709551616) (n0 : 0 ≤ n) (n1 : n < 18446744073709551616) (k : Nat) (hk : 1 ≤ k) :
    capa_May.f k t a p ty E B T q x n = some (mayV t a p ty E B T q x n) := by
  unfold capa_May.f capa_open.f mayV
  rw [cwithin_is h x n h0 h1 n0 n1 k hk]
  simp only [Option.bind_some]
  cases t
  · simp
  · by_cases e : ty = 0
    · by_cases e2 : permsIn q p = true
      · simp [e, e2, (andEq_is q p q0 q1 h.p0 h.p1).2 e2]
      · have : ¬ Go.bits .and .u8 p q = q := fun g => e2 ((andEq_is q p q0 q1 h.p0 h.p1).1 g)
        simp [e, e2, this]
    · simp [e]
theorem root_is (base top p : Int) (hb : 0 ≤ base) (ht : 0 ≤ top) (k : Nat) (hk : 12 ≤ k) : capa_Root.f k base top p =
    some (if (exactV base top).2.2.2 = 0 then (true, base % 4294967296, p, 0, (exactV base top).1, (exactV base top).2.1, (exactV base top).2.2.1, 0) else (false, 0, 0, 0, 0, 0, 0, (exactV base top).2.2.2)) := by
  unfold capa_Root.f
  rw [exact_is base top hb ht k hk]
  simp only [Option.bind_some]
  split <;> rfl
def setBoundsV (t : Bool) (a p ty E B T n : Int) : Bool × Int × Int × Int × Int × Int × Int :=
  if ty = 0 ∧ (exactV a (a + n)).2.2.2 = 0 ∧ withinV (E % 16) (B % 512) (T % 512) a a n = true then (t, a, p, ty, (exactV a (a + n)).1, (exactV a (a + n)).2.1, (exactV a (a + n)).2.2.1) else (false, a, p, ty, E, B, T)
theorem setBounds_is (t : Bool) {a p ty E B T : Int} (h : Ok7 a p ty E B T) (n : Int) (n0 : 0 ≤ n) (n1 : n < 4294967296) (k : Nat) (hk : 12 ≤ k) : capa_SetBounds.f k t a p ty E B T n = some (setBoundsV t a p ty E B T n) := by
  unfold capa_SetBounds.f capa_open.f setBoundsV
  have := h.a0; have := h.a1
  rw [wraps_u64' a (by omega) (by omega), wraps_u64' n (by omega) (by omega), wraps_u64' (a + n) (by omega) (by omega), exact_is a (a + n) (by omega) (by omega) k hk, cwithin_is h a n (by omega) (by omega) (by omega) (by omega) k (by omega)]
  simp only [Option.bind_some]
  by_cases e : ty = 0
  · by_cases e2 : (exactV a (a + n)).2.2.2 = 0
    · by_cases e3 : withinV (E % 16) (B % 512) (T % 512) a a n = true <;> simp [e, e2, e3]
    · simp [e, e2]
  · simp [e]
def sealV (t : Bool) (a p ty E B T n : Int) : Bool × Int × Int × Int × Int × Int × Int := (t && (decide (ty = 0) && decide (n % 8 ≠ 0)), a, p, n % 8, E, B, T)
theorem seal_is (t : Bool) (a p ty E B T n : Int) (n0 : 0 ≤ n) : capa_Seal.f t a p ty E B T n = some (sealV t a p ty E B T n) := by
  unfold capa_Seal.f capa_open.f sealV
  rw [tmod_nn n0, show n % 8 % 256 = n % 8 by omega]
  cases t
  · simp
  · by_cases e : ty = 0
    · by_cases e2 : n % 8 = 0 <;> simp [e, e2]
    · simp [e]
def unsealV (t : Bool) (a p ty E B T : Int) : Bool × Int × Int × Int × Int × Int × Int := (t && decide (ty ≠ 0), a, p, 0, E, B, T)
theorem unseal_is (t : Bool) (a p ty E B T : Int) : capa_Unseal.f t a p ty E B T = some (unsealV t a p ty E B T) := by
  unfold capa_Unseal.f capa_open.f unsealV
  cases t
  · simp
  · by_cases e : ty = 0 <;> simp [e]

theorem clives_is (k : Nat) (hk : 12 ≤ k) : bulwarklaw03_lives.f k = some true := by
  have hx : exactV 4096 8192 = (4, 256, 0, 0) := by decide +kernel
  have hy : exactV 1 513 = (0, 0, 0, 5) := by decide +kernel
  have hz : exactV 4096 4160 = (0, 0, 64, 0) := by decide +kernel
  have r0 : Ok7 4096 39 0 4 256 0 := by constructor <;> decide
  have r1 : Ok7 4096 39 0 0 0 64 := by constructor <;> decide
  unfold bulwarklaw03_lives.f bulwarklaw03_livesT.f
  have w1 : withinV (4 % 16) (256 % 512) (0 % 512) 4096 4096 64 = true := by decide +kernel
  have t1 : capTop 4096 0 0 64 = 4160 := by decide +kernel
  have hp : permsIn 8 39 = false := by decide +kernel
  rw [root_is 4096 8192 39 (by decide) (by decide) k hk, hx, root_is 1 513 1 (by decide) (by decide) k hk, hy]
  simp only [Option.bind_some, if_true]
  rw [show (4096 : Int) % 4294967296 = 4096 by decide, setBounds_is true r0 64 (by decide) (by decide) k hk, seal_is true 4096 39 0 4 256 0 4 (by decide)]
  unfold setBoundsV sealV
  rw [show (4096 : Int) + 64 = 4160 by decide, hz, if_pos ⟨rfl, rfl, w1⟩]
  simp only [Option.bind_some]
  rw [ctop_is true r1, t1]
  simp only [Option.bind_some]
  rw [unseal_is]
  rw [may_is true r0 8 4096 1 (by decide) (by decide) (by decide) (by decide) (by decide) (by decide) k (by omega)]
  unfold unsealV mayV
  rw [hp]
  simp [capa_Null.f, capa_Int.f]

/-- Is one no more than another one? -/
def subV (t : Bool) (a p E B T : Int) (t' : Bool) (a' p' E' B' T' : Int) : Bool := (t == t') && (permsIn p p' && decide (capBase a' E' B' ≤ capBase a E B ∧ capTop a E B T ≤ capTop a' E' B' T'))
theorem subset_is (t : Bool) {a p ty E B T : Int} (h : Ok7 a p ty E B T) (t' : Bool) {a' p' ty' E' B' T' : Int} (h' : Ok7 a' p' ty' E' B' T') :
    capa_Subset.f t a p ty E B T t' a' p' ty' E' B' T' = some (subV t a p E B T t' a' p' E' B' T') := by
  unfold capa_Subset.f
  rw [cbase_is t h, cbase_is t' h', ctop_is t h, ctop_is t' h']
  simp only [Option.bind_some]
  unfold subV
  by_cases e : (t == t' && (a == a' && (p == p' && (ty == ty' && ((E == E' && (B == B' && (T == T')))))))) = true
  · rw [if_pos e]
    simp only [Bool.and_eq_true, beq_iff_eq] at e
    obtain ⟨rfl, rfl, rfl, rfl, rfl, rfl, rfl⟩ := e
    simp [permsIn_refl]
  · rw [if_neg e]
    by_cases e1 : (t == t') = true
    · rw [if_pos e1, e1]
      by_cases e2 : permsIn p p' = true
      · rw [if_pos ((andNot_is p p' h.p0 h.p1 h'.p0 h'.p1).2 e2), e2]
        by_cases e3 : capBase a' E' B' ≤ capBase a E B
        · rw [if_pos (by omega)]; simp [e3]
        · rw [if_neg (by omega)]; simp [e3]
      · rw [if_neg (fun g => e2 ((andNot_is p p' h.p0 h.p1 h'.p0 h'.p1).1 g))]
        simp [e2]
    · rw [if_neg e1]; simp [e1]

theorem power_is (e : Int) (h0 : 0 ≤ e) (h1 : e ≤ 24) (k : Nat) (hk : 26 ≤ k) : bulwarkref02_power.f k e = some (2 ^ e.toNat) := by
  refine at_rounds (bulwarkref02_power.mono e) hk ?_
  have : e = 0 ∨ e = 1 ∨ e = 2 ∨ e = 3 ∨ e = 4 ∨ e = 5 ∨ e = 6 ∨ e = 7 ∨ e = 8 ∨ e = 9 ∨ e = 10 ∨ e = 11 ∨ e = 12 ∨ e = 13 ∨ e = 14 ∨ e = 15 ∨ e = 16 ∨ e = 17 ∨ e = 18 ∨ e = 19 ∨ e = 20 ∨ e = 21 ∨ e = 22 ∨ e = 23 ∨ e = 24 := by omega
  rcases this with h | h | h | h | h | h | h | h | h | h | h | h | h | h | h | h | h | h | h | h | h | h | h | h | h <;> subst h <;> decide +kernel

theorem rbase_is (E B T addr : Int) (hE : 0 ≤ E) (hB : 0 ≤ B) (ha : 0 ≤ addr) (ha' : addr < 4294967296) (k : Nat) (hk : 26 ≤ k) :
    bulwarkref02_Base.f k E B T addr = some (baseV (E % 16) (B % 512) addr) := by
  have he0 : 0 ≤ E % 16 := by omega
  have he1 : E % 16 < 16 := by omega
  have hl0 : 0 ≤ B % 512 := by omega
  have hl1 : B % 512 < 512 := by omega
  unfold bulwarkref02_Base.f
  rw [tmod_nn hE, tmod_nn hB]
  generalize E % 16 = e at he0 he1
  generalize B % 512 = low at hl0 hl1
  have a1 : addr % 18446744073709551616 = addr := by omega
  have a2 : low % 18446744073709551616 = low := by omega
  have a3 : wrap64 e = e := by unfold wrap64; omega
  have a4 : wrap64 (23 - e) = 23 - e := by unfold wrap64; omega
  simp only [u64w, a1, a2, a3, a4]
  rw [power_is e he0 (by omega) k hk, power_is (23 - e) (by omega) (by omega) k hk]
  simp only [Option.bind_some]
  have hp : (0 : Int) < 2 ^ e.toNat := Int.pow_pos (by decide)
  have hp5 : (512 : Int) * 2 ^ e.toNat % 18446744073709551616 = 512 * 2 ^ e.toNat := by
    rcases cases16 he0 he1 with h | h | h | h | h | h | h | h | h | h | h | h | h | h | h | h <;> subst h <;> rfl
  have hd : Int.tdiv addr (2 ^ e.toNat) % 18446744073709551616 = addr / 2 ^ e.toNat := by
    rw [tdiv_nn ha]
    have h1 := Int.ediv_nonneg ha (Int.le_of_lt hp)
    have h2 := Int.ediv_le_self (2 ^ e.toNat) ha
    omega
  have hd5 : Int.tdiv addr (512 * 2 ^ e.toNat) % 18446744073709551616 = addr / (512 * 2 ^ e.toNat) := by
    rw [tdiv_nn ha]
    have h1 := Int.ediv_nonneg ha (show (0 : Int) ≤ 512 * 2 ^ e.toNat by omega)
    have h2 := Int.ediv_le_self (512 * 2 ^ e.toNat) ha
    omega
  rw [hp5, hd, hd5, if_neg (by omega), if_neg (by omega), tmod_nn (Int.ediv_nonneg ha (by omega))]
  unfold baseV
  by_cases hm : addr / 2 ^ e.toNat % 512 < low
  · rw [if_pos hm, if_pos hm]
    by_cases hz : addr / (512 * 2 ^ e.toNat) = 0
    · rw [if_pos hz]
      rcases cases16 he0 he1 with h | h | h | h | h | h | h | h | h | h | h | h | h | h | h | h <;> subst h <;> simp at hz ⊢ <;> omega
    · rw [if_neg hz]
      rcases cases16 he0 he1 with h | h | h | h | h | h | h | h | h | h | h | h | h | h | h | h <;> subst h <;> simp at hz ⊢ <;> omega
  · rw [if_neg hm, if_neg hm]
    rcases cases16 he0 he1 with h | h | h | h | h | h | h | h | h | h | h | h | h | h | h | h <;> subst h <;> simp <;> omega

theorem rlen_is (E B T : Int) (hE : 0 ≤ E) (hB : 0 ≤ B) (hT : 0 ≤ T) (k : Nat) (hk : 26 ≤ k) : bulwarkref02_Length.f k E B T = some (lenV (E % 16) (B % 512) (T % 512)) := by
  unfold bulwarkref02_Length.f
  rw [tmod_nn hE, tmod_nn hB, tmod_nn hT]
  simp only [u64w]
  unfold lenV
  have hb0 : 0 ≤ B % 512 := by omega
  have hb1 : B % 512 < 512 := by omega
  have ht0 : 0 ≤ T % 512 := by omega
  have ht1 : T % 512 < 512 := by omega
  have he0 : 0 ≤ E % 16 := by omega
  have he1 : E % 16 < 16 := by omega
  generalize E % 16 = e at he0 he1
  generalize B % 512 = b at hb0 hb1
  generalize T % 512 = t at ht0 ht1
  have a3 : wrap64 e = e := by unfold wrap64; omega
  have h1 : wrap64 (wrap64 t - wrap64 b) = t - b := by unfold wrap64; omega
  have h2 : wrap64 (t - b + 512) = t - b + 512 := by unfold wrap64; omega
  rw [a3, h1, h2, power_is e he0 (by omega) k hk]
  simp only [Option.bind_some]
  split <;>
  · congr 1
    rcases cases16 he0 he1 with h | h | h | h | h | h | h | h | h | h | h | h | h | h | h | h <;> subst h <;> simp <;> omega

theorem rwithin_is (E B T addr at_ n : Int) (hE : 0 ≤ E) (hB : 0 ≤ B) (hT : 0 ≤ T) (ha : 0 ≤ addr) (ha' : addr < 4294967296) (h0 : 0 ≤ at_) (h1 : at_ < 18446744073709551616) (n0 : 0 ≤ n) (n1 : n < 18446744073709551616) (k : Nat) (hk : 27 ≤ k) :
    bulwarkref02_Within.f k E B T addr at_ n = some (withinV (E % 16) (B % 512) (T % 512) addr at_ n) := by
  obtain ⟨k, rfl⟩ : ∃ m, k = m + 1 := ⟨k - 1, by omega⟩
  have hbr := base_range (E % 16) (B % 512) addr (by omega) (by omega) (by omega) (by omega) ha ha'
  have hlr := len_range (E % 16) (B % 512) (T % 512) (by omega) (by omega)
  unfold bulwarkref02_Within.f withinV
  simp only [bulwarkref02_Within.j0, rbase_is E B T addr hE hB ha ha' k (by omega), rlen_is E B T hE hB hT k (by omega), Option.bind_some, u64w]
  generalize baseV (E % 16) (B % 512) addr = b at hbr
  generalize lenV (E % 16) (B % 512) (T % 512) = l at hlr
  by_cases g1 : at_ > 1099511627776
  · rw [if_pos g1]; simp; omega
  · rw [if_neg g1]
    by_cases g2 : n > 1099511627776
    · simp [g2]; omega
    · simp only [g2, decide_false]
      have e2 : (b + l) % 18446744073709551616 = b + l := by omega
      rw [e2]
      by_cases g3 : b ≤ at_
      · by_cases g4 : at_ ≤ b + l
        · have e3 : (b + l - at_) % 18446744073709551616 = b + l - at_ := by omega
          rw [e3, if_neg (show ¬ (false = true) by decide), if_pos (by omega), if_pos (by omega)]
          simp only [Option.some.injEq, decide_eq_decide]; omega
        · rw [if_neg (show ¬ (false = true) by decide), if_pos (by omega), if_neg (by omega), decide_eq_false (by omega)]
      · rw [if_neg (show ¬ (false = true) by decide), if_neg (by omega), decide_eq_false (by omega)]

theorem rex_loop (base top : Int) (hb : 0 ≤ base) (ht : base ≤ top) (ht' : top ≤ 65536) (n : Nat) : ∀ (k : Nat) (e : Int), 0 ≤ e → e + n = 9 → n + 26 < k → bulwarkref02_Exact.l0 k base top e = some (exFrom base top n e) := by
  induction n with
  | zero =>
    intro k e h0 h1 hk
    obtain ⟨k, rfl⟩ : ∃ m, k = m + 1 := ⟨k - 1, by omega⟩
    simp only [bulwarkref02_Exact.l0]
    rw [if_neg (by omega)]
    rfl
  | succ n ih =>
    intro k e h0 h1 hk
    obtain ⟨k, rfl⟩ : ∃ m, k = m + 1 := ⟨k - 1, by omega⟩
    have hn : e.toNat ≤ 8 := by omega
    have hp : (0 : Int) < 2 ^ e.toNat := Int.pow_pos (by decide)
    simp only [bulwarkref02_Exact.l0, exFrom]
    rw [if_pos (by omega), power_is e h0 (by omega) k (by omega)]
    simp only [Option.bind_some]
    have hw : IntKind.u64.wrap (top - base) = top - base := by rw [u64w]; omega
    have hr := ih k (e + 1) (by omega) (by omega) (by omega)
    have hw1 : wrap64 (e + 1) = e + 1 := by unfold wrap64; omega
    rw [if_neg (by omega), hw, hw1, hr, tmod_nn hb, tmod_nn (show 0 ≤ top by omega)]
    have hq : ∀ x : Int, 0 ≤ x → x ≤ 65536 → IntKind.u64.wrap (Int.tdiv x (2 ^ e.toNat)) = x / 2 ^ e.toNat := by
      intro x hx hx'
      rw [tdiv_nn hx, u64w]
      have h1 := Int.ediv_nonneg hx (Int.le_of_lt hp)
      have h2 := Int.ediv_le_self (2 ^ e.toNat) hx
      omega
    have hq2 : ∀ x : Int, 0 ≤ x → IntKind.u16.wrap (Int.tmod (x / 2 ^ e.toNat) 512) = x / 2 ^ e.toNat % 512 := by
      intro x hx
      have := Int.ediv_nonneg hx (Int.le_of_lt hp)
      rw [tmod_nn this, u16w]; omega
    rw [hq (top - base) (by omega) (by omega), hq base hb (by omega), hq top (by omega) ht', hq2 base hb, hq2 top (by omega), show e % 256 = e by omega]
    by_cases h : base % 2 ^ e.toNat = 0
    · by_cases h2 : top % 2 ^ e.toNat = 0
      · by_cases h' : (top - base) / 2 ^ e.toNat ≤ 511
        · rw [if_pos h, if_pos h2, if_pos h', if_pos ⟨h, h2, h'⟩]
        · rw [if_pos h, if_pos h2, if_neg h', if_neg (fun g => h' g.2.2)]
      · rw [if_pos h, if_neg h2, if_neg (fun g => h2 g.2.1)]
    · rw [if_neg h, if_neg (fun g => h g.1)]

theorem rexact_is (base top : Int) (hb : 0 ≤ base) (ht : 0 ≤ top) (k : Nat) (hk : 40 ≤ k) : bulwarkref02_Exact.f k base top = some (exactV base top) := by
  obtain ⟨k, rfl⟩ : ∃ m, k = m + 1 := ⟨k - 1, by omega⟩
  unfold bulwarkref02_Exact.f exactV
  by_cases h : top < base
  · rw [if_pos h, if_pos (.inl h)]; simp [bulwarkref02_Exact.j0]
  · rw [if_neg h]
    by_cases h' : top > 65536
    · rw [if_pos (.inr h')]; simp [bulwarkref02_Exact.j0, h']
    · rw [if_neg (by omega)]
      simp only [bulwarkref02_Exact.j0, h', decide_false]
      exact rex_loop base top hb (by omega) (by omega) 9 k 0 (by omega) (by omega) (by omega)

theorem chain_last (c : Prop) [Decidable c] : (if c then some true else some false) = some (decide c) := by split <;> simp [*]
theorem chain_cons (c d : Prop) [Decidable c] [Decidable d] : (if c then some (decide d) else some false) = some (decide (c ∧ d)) := by split <;> simp [*]

theorem has_step (k : Nat) (c p x : Int) (c0 : 0 ≤ c) (c1 : c < 256) (p0 : 0 ≤ p) (p1 : p < 256) (x0 : 0 < x) : bulwarkref03_has.l0 (k + 1) c p x =
    if p / x % 2 = 1 → c / x % 2 = 1 then bulwarkref03_has.l0 k c p (x * 2 % 256) else some false := by
  simp only [bulwarkref03_has.l0]
  rw [if_neg (by omega), tdiv_nn c0, tdiv_nn p0]
  have h1 : p / x % 256 = p / x := by have := Int.ediv_nonneg p0 (Int.le_of_lt x0); have := Int.ediv_le_self x p0; omega
  have h2 : c / x % 256 = c / x := by have := Int.ediv_nonneg c0 (Int.le_of_lt x0); have := Int.ediv_le_self x c0; omega
  rw [h1, h2]
  by_cases e : p / x % 2 = 1
  · rw [if_pos e]
    by_cases e2 : c / x % 2 = 0
    · rw [if_pos e2, if_neg (by omega)]
    · rw [if_neg e2, if_pos (by omega)]
  · rw [if_neg e, if_pos (fun g => absurd g e)]
theorem has_is (c p : Int) (c0 : 0 ≤ c) (c1 : c < 256) (p0 : 0 ≤ p) (p1 : p < 256) (k : Nat) (hk : 10 ≤ k) : bulwarkref03_has.f k c p = some (permsIn p c) := by
  refine at_rounds (bulwarkref03_has.mono c p) (k := 9) (by omega) ?_
  unfold bulwarkref03_has.f
  rw [has_step 8 c p 1 c0 c1 p0 p1 (by decide), has_step 7 c p _ c0 c1 p0 p1 (by decide), has_step 6 c p _ c0 c1 p0 p1 (by decide), has_step 5 c p _ c0 c1 p0 p1 (by decide), has_step 4 c p _ c0 c1 p0 p1 (by decide),
    has_step 3 c p _ c0 c1 p0 p1 (by decide), has_step 2 c p _ c0 c1 p0 p1 (by decide), has_step 1 c p _ c0 c1 p0 p1 (by decide)]
  simp only [Int.reduceMul, Int.reduceMod, bulwarkref03_has.l0, Int.ediv_one, if_true]
  unfold permsIn
  obtain ⟨m, rfl⟩ := Int.eq_ofNat_of_zero_le c0
  obtain ⟨n, rfl⟩ := Int.eq_ofNat_of_zero_le p0
  simp only [Int.toNat_natCast]
  have b : ∀ j : Nat, 0 < j → (((n : Int) / (j : Int) % 2 = 1 → (m : Int) / (j : Int) % 2 = 1) ↔ (n / j % 2 = 1 → m / j % 2 = 1)) := by
    intro j hj
    rw [← Int.natCast_ediv, ← Int.natCast_ediv]; omega
  have b0 : ((n : Int) % 2 = 1 → (m : Int) % 2 = 1) ↔ (n % 2 = 1 → m % 2 = 1) := by omega
  have b1 := b 2 (by decide); have b2 := b 4 (by decide); have b3 := b 8 (by decide); have b4 := b 16 (by decide); have b5 := b 32 (by decide); have b6 := b 64 (by decide); have b7 := b 128 (by decide)
  simp only [Int.cast_ofNat_Int] at b1 b2 b3 b4 b5 b6 b7
  simp only [b0, b1, b2, b3, b4, b5, b6, b7]
  simp only [chain_last, chain_cons]
  exact congrArg some (decide_eq_decide.2 (keep8 m n (by omega) (by omega)).symm)

theorem rcbase_is (t : Bool) {a p ty E B T : Int} (h : Ok7 a p ty E B T) (k : Nat) (hk : 26 ≤ k) : bulwarkref03_Base.f k t a p ty E B T = some (capBase a E B) := by
  unfold bulwarkref03_Base.f; rw [rbase_is E B T a h.e0 h.b0 h.a0 h.a1 k hk]; rfl
theorem rctop_is (t : Bool) {a p ty E B T : Int} (h : Ok7 a p ty E B T) (k : Nat) (hk : 26 ≤ k) : bulwarkref03_Top.f k t a p ty E B T = some (capTop a E B T) := by
  unfold bulwarkref03_Top.f
  rw [rbase_is E B T a h.e0 h.b0 h.a0 h.a1 k hk, rlen_is E B T h.e0 h.b0 h.c0 k hk]
  simp only [Option.bind_some]
  obtain ⟨r1, r2, r3, r4, r5⟩ := cap_range h
  unfold capBase at r1 r2
  rw [wraps_u64' _ (by omega) (by omega)]; rfl
theorem rsubset_is (t : Bool) {a p ty E B T : Int} (h : Ok7 a p ty E B T) (t' : Bool) {a' p' ty' E' B' T' : Int} (h' : Ok7 a' p' ty' E' B' T') (k : Nat) (hk : 26 ≤ k) :
    bulwarkref03_Subset.f k t a p ty E B T t' a' p' ty' E' B' T' = some (subV t a p E B T t' a' p' E' B' T') := by
  unfold bulwarkref03_Subset.f
  rw [rcbase_is t h k hk, rcbase_is t' h' k hk, rctop_is t h k hk, rctop_is t' h' k hk, has_is p' p h'.p0 h'.p1 h.p0 h.p1 k (by omega)]
  simp only [Option.bind_some]
  unfold subV
  by_cases e1 : (t == t') = true
  · rw [if_pos e1, e1]
    by_cases e2 : permsIn p p' = true
    · rw [if_pos e2, e2]
      by_cases e3 : capBase a' E' B' ≤ capBase a E B
      · rw [if_pos (by omega)]; simp [e3]
      · rw [if_neg (by omega)]; simp [e3]
    · rw [if_neg e2]; simp [e2]
  · rw [if_neg e1]; simp [e1]
theorem rmay_is (t : Bool) {a p ty E B T : Int} (h : Ok7 a p ty E B T) (q x n : Int) (q0 : 0 ≤ q) (q1 : q < 256) (h0 : 0 ≤ x) (h1 : x < 18446744073709551616) (n0 : 0 ≤ n) (n1 : n < 18446744073709551616) (k : Nat) (hk : 27 ≤ k) :
    bulwarkref03_May.f k t a p ty E B T q x n = some (mayV t a p ty E B T q x n) := by
  unfold bulwarkref03_May.f mayV
  rw [has_is p q h.p0 h.p1 q0 q1 k (by omega), rwithin_is E B T a x n h.e0 h.b0 h.c0 h.a0 h.a1 h0 h1 n0 n1 k hk]
  simp only [Option.bind_some]
  cases t
  · simp
  · by_cases e : ty = 0
    · by_cases e2 : permsIn q p = true <;> simp [e, e2]
    · simp [e]
theorem rroot_is (base top p : Int) (hb : 0 ≤ base) (ht : 0 ≤ top) (k : Nat) (hk : 40 ≤ k) : bulwarkref03_Root.f k base top p =
    some (if (exactV base top).2.2.2 = 0 then (true, base % 4294967296, p, 0, (exactV base top).1, (exactV base top).2.1, (exactV base top).2.2.1, 0) else (false, 0, 0, 0, 0, 0, 0, (exactV base top).2.2.2)) := by
  unfold bulwarkref03_Root.f
  rw [rexact_is base top hb ht k hk]
  simp only [Option.bind_some]
  split <;> rfl

theorem CapaAsks (t : Bool) {a p ty E B T : Int} (h : Ok7 a p ty E B T) (t' : Bool) {a' p' ty' E' B' T' : Int} (h' : Ok7 a' p' ty' E' B' T') (q x n top : Int) (q0 : 0 ≤ q) (q1 : q < 256) (x0 : 0 ≤ x) (x1 : x < 18446744073709551616) (n0 : 0 ≤ n) (n1 : n < 18446744073709551616) (top0 : 0 ≤ top) :
    ∃ k, bulwarklaw03_CapaAsks.f k t a p ty E B T t' a' p' ty' E' B' T' q x n top = some true := by
  obtain ⟨k, hk⟩ : ∃ k : Nat, 40 ≤ k := ⟨40, Nat.le_refl _⟩
  refine ⟨k, ?_⟩
  unfold bulwarklaw03_CapaAsks.f
  rw [root_is x top q x0 top0 k (by omega), rroot_is x top q x0 top0 k hk, subset_is t h t' h', rsubset_is t h t' h' k (by omega), may_is t h q x n q0 q1 x0 x1 n0 n1 k (by omega), rmay_is t h q x n q0 q1 x0 x1 n0 n1 k (by omega),
    cbase_is t h, rcbase_is t h k (by omega), ctop_is t h, rctop_is t h k (by omega), clives_is k (by omega)]
  simp only [Option.bind_some, beq_self_eq_true, Bool.and_self, if_true]

theorem ok7 {a p ty E B T : Int} (wa : (Lit.int .u32 a).wf = true) (wp : (Lit.int .u8 p).wf = true) (wty : (Lit.int .u8 ty).wf = true) (wE : (Lit.int .u8 E).wf = true) (wB : (Lit.int .u16 B).wf = true) (wT : (Lit.int .u16 T).wf = true) : Ok7 a p ty E B T := by
  have := Go.bounds_u32 wa; have := Go.bounds_u8 wp; have := Go.bounds_u8 wty; have := Go.bounds_u8 wE; have := Go.bounds_u16 wB; have := Go.bounds_u16 wT
  constructor <;> omega

theorem walk (t : Bool) (a p ty E B T : Int) (t' : Bool) (a' p' ty' E' B' T' : Int) (q x n top : Int) (W : World) (wa : (Lit.int .u32 a).wf = true) (wp : (Lit.int .u8 p).wf = true) (wty : (Lit.int .u8 ty).wf = true) (wE : (Lit.int .u8 E).wf = true) (wB : (Lit.int .u16 B).wf = true) (wT : (Lit.int .u16 T).wf = true) (wa' : (Lit.int .u32 a').wf = true) (wp' : (Lit.int .u8 p').wf = true) (wty' : (Lit.int .u8 ty').wf = true) (wE' : (Lit.int .u8 E').wf = true) (wB' : (Lit.int .u16 B').wf = true) (wT' : (Lit.int .u16 T').wf = true) (wq_ : (Lit.int .u8 q).wf = true) (wx_ : (Lit.int .u64 x).wf = true) (wn_ : (Lit.int .u64 n).wf = true) (wtop_ : (Lit.int .u64 top).wf = true) :
    Calls Try.prog 3 #[.agg #[.bool t, .int .u32 a, .int .u8 p, .int .u8 ty, .int .u8 E, .int .u16 B, .int .u16 T], .agg #[.bool t', .int .u32 a', .int .u8 p', .int .u8 ty', .int .u8 E', .int .u16 B', .int .u16 T'], .int .u8 q, .int .u64 x, .int .u64 n, .int .u64 top] W fun e w' => e = .returned (.bool true) ∧ Below W.heap.size W w' := by
  have h : Ok7 a p ty E B T := ok7 wa wp wty wE wB wT
  have h' : Ok7 a' p' ty' E' B' T' := ok7 wa' wp' wty' wE' wB' wT'
  have := Go.bounds_u8 wq_
  have := Go.bounds_u64 wx_
  have := Go.bounds_u64 wn_
  have := Go.bounds_u64 wtop_
  obtain ⟨k, hk⟩ := CapaAsks t h t' h' q x n top (by omega) (by omega) (by omega) (by omega) (by omega) (by omega) (by omega)
  exact bulwarklaw03_CapaAsks.calls k t a p ty E B T t' a' p' ty' E' B' T' q x n top true W hk rfl

end Go.Proofs.Ytkfgloolpjlddaa.Pure
