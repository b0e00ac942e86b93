/- The walks of the two laws on bytes, joined with what lives answers. -/
import Derived.Test.YtkfgloolpjlddaaG6
import Derived.OpenShut
namespace Go.Proofs.Ytkfgloolpjlddaa.Pure2
open Go.RowKit Go.Proofs.Ytkfgloolpjlddaa.Q Go.Proofs.YtkfgloolpjlddaaW.PrintWords Go.Proofs.YtkfgloolpjlddaaW.PrintLast Go.Proofs.YtkfgloolpjlddaaW.PrintMore
set_option linter.unusedVariables false
set_option linter.unusedSimpArgs false
theorem u64w (n : Int) : IntKind.u64.wrap n = n % 18446744073709551616 := by simp [IntKind.wrap, IntKind.bits, IntKind.signed]
theorem u16w (n : Int) : IntKind.u16.wrap n = n % 65536 := by simp [IntKind.wrap, IntKind.bits, IntKind.signed]
theorem wraps_u64 (n : Int) (h₀ : 0 ≤ n) (h₁ : n < 2 ^ 64) : IntKind.u64.wrap n = n := by rw [u64w]; omega
theorem u64_mask (i : Nat) (hi : i ≤ 64) (x : Int) (h₀ : 0 ≤ x) (h₁ : x < 18446744073709551616) : Go.bits .and .u64 x (2 ^ i - 1) = x % 2 ^ i :=
  bits_mask .u64 64 (by decide) wraps_u64 i hi x h₀ (by simpa using h₁)
theorem tmod_nn {a b : Int} (h : 0 ≤ a) : Int.tmod a b = a % b := Int.tmod_eq_emod_of_nonneg h
theorem tdiv_nn {a b : Int} (h : 0 ≤ a) : Int.tdiv a b = a / b := Int.tdiv_eq_ediv_of_nonneg h
theorem mod_id {x m : Int} (h0 : 0 ≤ x) (h1 : x < m) : x % m = x := Int.emod_eq_of_lt h0 h1
theorem shl_at {x e : Int} (h0 : 0 ≤ e) (h1 : e ≤ 64) : shl .u64 x e = x * 2 ^ e.toNat % 18446744073709551616 := by
  unfold shl; rw [Nat.min_eq_left (by show e.toNat ≤ 64; omega), u64w]
theorem shr_at {x e : Int} (h0 : 0 ≤ e) (h1 : e ≤ 64) : shr .u64 x e = x / 2 ^ e.toNat := by
  unfold shr; rw [Nat.min_eq_left (by show e.toNat ≤ 64; omega)]

theorem cases16 {e : Int} (h0 : 0 ≤ e) (h1 : e < 16) : e = 0 ∨ e = 1 ∨ e = 2 ∨ e = 3 ∨ e = 4 ∨ e = 5 ∨ e = 6 ∨ e = 7 ∨ e = 8 ∨ e = 9 ∨ e = 10 ∨ e = 11 ∨ e = 12 ∨ e = 13 ∨ e = 14 ∨ e = 15 := by omega

/-- Where a capability begins. -/
def baseV (e low addr : Int) : Int :=
  if addr / 2 ^ e.toNat % 512 < low then (addr / 2 ^ (e.toNat + 9) - 1) % 2 ^ (23 - e.toNat) * 2 ^ (e.toNat + 9) + low * 2 ^ e.toNat
  else addr / 2 ^ (e.toNat + 9) * 2 ^ (e.toNat + 9) + low * 2 ^ e.toNat
/-- How long it is. -/
def lenV (e b t : Int) : Int := (t + 512 - b) % 512 * 2 ^ e.toNat

theorem base_is (E B T addr : Int) (hE : 0 ≤ E) (hB : 0 ≤ B) (ha : 0 ≤ addr) (ha' : addr < 4294967296) :
    bounds_Base.f E B T addr = some (baseV (E % 16) (B % 512) addr) := by
  have he0 : 0 ≤ E % 16 := by omega
  have he1 : E % 16 < 16 := by omega
  have hl0 : 0 ≤ B % 512 := by omega
  have hl1 : B % 512 < 512 := by omega
  unfold bounds_Base.f
  rw [tmod_nn hE, tmod_nn hB]
  generalize E % 16 = e at he0 he1
  generalize B % 512 = low at hl0 hl1
  have a1 : addr % 18446744073709551616 = addr := by omega
  have a2 : low % 18446744073709551616 = low := by omega
  have a3 : e % 18446744073709551616 = e := by omega
  have a4 : (e + 9) % 18446744073709551616 = e + 9 := by omega
  have a5 : (32 - e) % 18446744073709551616 = 32 - e := by omega
  have a6 : (32 - e - 9) % 18446744073709551616 = 32 - e - 9 := by omega
  have e9 : (e + 9).toNat = e.toNat + 9 := by omega
  have e23 : (32 - e - 9).toNat = 23 - e.toNat := by omega
  simp only [u64w, a1, a2, a3, a4, a5, a6]
  rw [if_pos he0, if_pos (show 0 ≤ e + 9 by omega), if_pos (show 0 ≤ 32 - e - 9 by omega)]
  simp only [shr_at he0 (show e ≤ 64 by omega), shr_at (show 0 ≤ e + 9 by omega) (show e + 9 ≤ 64 by omega), shl_at he0 (show e ≤ 64 by omega), shl_at (show 0 ≤ e + 9 by omega) (show e + 9 ≤ 64 by omega), shl_at (show 0 ≤ 32 - e - 9 by omega) (show 32 - e - 9 ≤ 64 by omega), e9, e23, Int.one_mul]
  have hp : (0 : Int) < 2 ^ e.toNat := Int.pow_pos (by decide)
  rw [tmod_nn (Int.ediv_nonneg ha (by omega))]
  unfold baseV
  have hm : ∀ x : Int, Go.bits .and .u64 (x % 18446744073709551616) ((2 ^ (23 - e.toNat) % 18446744073709551616 - 1) % 18446744073709551616) = x % 2 ^ (23 - e.toNat) := by
    intro x
    have h1 : ((2 : Int) ^ (23 - e.toNat) % 18446744073709551616 - 1) % 18446744073709551616 = 2 ^ (23 - e.toNat) - 1 := by
      rcases cases16 he0 he1 with h | h | h | h | h | h | h | h | h | h | h | h | h | h | h | h <;> subst h <;> rfl
    rw [h1, u64_mask _ (by omega) _ (by omega) (by omega)]
    rcases cases16 he0 he1 with h | h | h | h | h | h | h | h | h | h | h | h | h | h | h | h <;> subst h <;> simp <;> omega
  rw [hm]
  have key : ∀ q : Int, 0 ≤ q → q < 2 ^ (23 - e.toNat) → (q * 2 ^ (e.toNat + 9) % 18446744073709551616 + low * 2 ^ e.toNat % 18446744073709551616) % 18446744073709551616 = q * 2 ^ (e.toNat + 9) + low * 2 ^ e.toNat := by
    intro q q0 q1
    rcases cases16 he0 he1 with h | h | h | h | h | h | h | h | h | h | h | h | h | h | h | h <;> subst h <;> simp at q1 ⊢ <;> omega
  have hp' : (0 : Int) < 2 ^ (23 - e.toNat) := Int.pow_pos (by decide)
  split
  · rw [key _ (Int.emod_nonneg _ (by omega)) (Int.emod_lt_of_pos _ hp')]
  · rw [key]
    · exact Int.ediv_nonneg ha (Int.le_of_lt (Int.pow_pos (by decide)))
    · rcases cases16 he0 he1 with h | h | h | h | h | h | h | h | h | h | h | h | h | h | h | h <;> subst h <;> simp <;> omega

theorem len_is (E B T : Int) (hE : 0 ≤ E) (hB : 0 ≤ B) (hT : 0 ≤ T) : bounds_Length.f E B T = some (lenV (E % 16) (B % 512) (T % 512)) := by
  unfold bounds_Length.f
  rw [tmod_nn hE, tmod_nn hB, tmod_nn hT, if_pos (by omega), shl_at (by omega) (by omega)]
  simp only [u64w]
  unfold lenV
  have hb0 : 0 ≤ B % 512 := by omega
  have hb1 : B % 512 < 512 := by omega
  have ht0 : 0 ≤ T % 512 := by omega
  have ht1 : T % 512 < 512 := by omega
  have he0 : 0 ≤ E % 16 := by omega
  have he1 : E % 16 < 16 := by omega
  generalize E % 16 = e at he0 he1
  generalize B % 512 = b at hb0 hb1
  generalize T % 512 = t at ht0 ht1
  have h1 : ((t % 18446744073709551616 + 512) % 18446744073709551616 - b % 18446744073709551616) % 18446744073709551616 = t + 512 - b := by omega
  rw [h1, tmod_nn (by omega)]
  congr 1
  rcases cases16 he0 he1 with h | h | h | h | h | h | h | h | h | h | h | h | h | h | h | h <;> subst h <;> simp <;> omega

/-- The least exponent from e on that fits. -/
def exFrom (base top : Int) : Nat → Int → Int × Int × Int × Int
  | 0, _ => (0, 0, 0, 5)
  | n + 1, e => if base % 2 ^ e.toNat = 0 ∧ top % 2 ^ e.toNat = 0 ∧ (top - base) / 2 ^ e.toNat ≤ 511 then (e, base / 2 ^ e.toNat % 512, top / 2 ^ e.toNat % 512, 0) else exFrom base top n (e + 1)
def exactV (base top : Int) : Int × Int × Int × Int := if top < base ∨ 65536 < top then (0, 0, 0, 2) else exFrom base top 9 0


theorem orMask (a b : Int) (n : Nat) (hn : n ≤ 8) (ha : 0 ≤ a) (ha' : a < 18446744073709551616) (hb : 0 ≤ b) (hb' : b < 18446744073709551616) :
    Go.bits .and .u64 (Go.bits .or .u64 a b) ((2 ^ n % 18446744073709551616 - 1) % 18446744073709551616) = 0 ↔ a % 2 ^ n = 0 ∧ b % 2 ^ n = 0 := by
  have h1 : ((2 : Int) ^ n % 18446744073709551616 - 1) % 18446744073709551616 = 2 ^ n - 1 := by
    have : n = 0 ∨ n = 1 ∨ n = 2 ∨ n = 3 ∨ n = 4 ∨ n = 5 ∨ n = 6 ∨ n = 7 ∨ n = 8 := by omega
    rcases this with h | h | h | h | h | h | h | h | h <;> subst h <;> rfl
  obtain ⟨x, rfl⟩ := Int.eq_ofNat_of_zero_le ha
  obtain ⟨y, rfl⟩ := Int.eq_ofNat_of_zero_le hb
  have hx : x < 2 ^ 64 := by omega
  have hy : y < 2 ^ 64 := by omega
  have ho := (bits_nat .u64 64 (by decide) wraps_u64 x y hx hy).2
  have hlt : x ||| y < 2 ^ 64 := Nat.or_lt_two_pow hx hy
  rw [h1, ho, u64_mask n (by omega) _ (by omega) (by omega)]
  have hc : (2 : Int) ^ n = ((2 ^ n : Nat) : Int) := by simp
  rw [hc]
  have : ((x ||| y : Nat) : Int) % ((2 ^ n : Nat) : Int) = (((x ||| y) % 2 ^ n : Nat) : Int) := by rw [Int.natCast_emod]
  rw [this, Nat.or_mod_two_pow, ← Int.natCast_emod, ← Int.natCast_emod]
  have h2 := @Nat.or_eq_zero_iff (x % 2 ^ n) (y % 2 ^ n)
  omega

theorem ex_loop (base top : Int) (hb : 0 ≤ base) (ht : base ≤ top) (ht' : top ≤ 65536) (n : Nat) : ∀ (k : Nat) (e : Int), 0 ≤ e → e + n = 9 → n < k → bounds_Exact.l0 k base top e = some (exFrom base top n e) := by
  induction n with
  | zero =>
    intro k e h0 h1 hk
    obtain ⟨k, rfl⟩ : ∃ m, k = m + 1 := ⟨k - 1, by omega⟩
    simp only [bounds_Exact.l0]
    rw [if_neg (by omega)]
    rfl
  | succ n ih =>
    intro k e h0 h1 hk
    obtain ⟨k, rfl⟩ : ∃ m, k = m + 1 := ⟨k - 1, by omega⟩
    have hn : e.toNat ≤ 8 := by omega
    simp only [bounds_Exact.l0, exFrom]
    rw [if_pos (by omega), if_pos h0]
    have hs : IntKind.u64.wrap (shl .u64 1 e - 1) = (2 ^ e.toNat % 18446744073709551616 - 1) % 18446744073709551616 := by
      rw [shl_at h0 (by omega), u64w, Int.one_mul]
    have hw : IntKind.u64.wrap (top - base) = top - base := by rw [u64w]; omega
    have hr := ih k (e + 1) (by omega) (by omega) (by omega)
    have hw1 : IntKind.u64.wrap (e + 1) = e + 1 := by rw [u64w]; omega
    have hp : (0 : Int) < 2 ^ e.toNat := Int.pow_pos (by decide)
    rw [hs, hw, hw1, hr]
    simp only [orMask base top e.toNat hn hb (by omega) (by omega) (by omega), shr_at h0 (show e ≤ 64 by omega), u16w]
    have hq : ∀ x : Int, 0 ≤ x → Int.tmod (x / 2 ^ e.toNat) 512 % 65536 = x / 2 ^ e.toNat % 512 := by
      intro x hx
      have := Int.ediv_nonneg hx (Int.le_of_lt hp)
      rw [tmod_nn this]; omega
    rw [hq base hb, hq top (by omega), show e % 256 = e by omega]
    by_cases h : base % 2 ^ e.toNat = 0 ∧ top % 2 ^ e.toNat = 0
    · by_cases h' : (top - base) / 2 ^ e.toNat ≤ 511
      · rw [if_pos h, if_pos h', if_pos ⟨h.1, h.2, h'⟩]
      · rw [if_pos h, if_neg h', if_neg (fun g => h' g.2.2)]
    · rw [if_neg h, if_neg (fun g => h ⟨g.1, g.2.1⟩)]

theorem exact_is (base top : Int) (hb : 0 ≤ base) (ht : 0 ≤ top) (k : Nat) (hk : 12 ≤ k) : bounds_Exact.f k base top = some (exactV base top) := by
  obtain ⟨k, rfl⟩ : ∃ m, k = m + 1 := ⟨k - 1, by omega⟩
  unfold bounds_Exact.f exactV
  by_cases h : top < base
  · rw [if_pos h, if_pos (.inl h)]; simp [bounds_Exact.j0]
  · rw [if_neg h]
    by_cases h' : top > 65536
    · rw [if_pos (.inr h')]; simp [bounds_Exact.j0, h']
    · rw [if_neg (by omega)]
      simp only [bounds_Exact.j0, h', decide_false]
      exact ex_loop base top hb (by omega) (by omega) 9 k 0 (by omega) (by omega) (by omega)


theorem base_range (e low addr : Int) (he0 : 0 ≤ e) (he1 : e < 16) (hl0 : 0 ≤ low) (hl1 : low < 512) (ha : 0 ≤ addr) (ha' : addr < 4294967296) : 0 ≤ baseV e low addr ∧ baseV e low addr < 4294967296 := by
  unfold baseV
  rcases cases16 he0 he1 with h | h | h | h | h | h | h | h | h | h | h | h | h | h | h | h <;> subst h <;> simp <;> split <;> omega
theorem len_range (e b t : Int) (he0 : 0 ≤ e) (he1 : e < 16) : 0 ≤ lenV e b t ∧ lenV e b t < 16777216 := by
  unfold lenV
  rcases cases16 he0 he1 with h | h | h | h | h | h | h | h | h | h | h | h | h | h | h | h <;> subst h <;> simp <;> omega

/-- Whether so many bytes from a place on stand within. -/
def withinV (e b t addr at_ n : Int) : Bool := decide (at_ ≤ 1099511627776 ∧ n ≤ 1099511627776 ∧ baseV e b addr ≤ at_ ∧ at_ + n ≤ baseV e b addr + lenV e b t)
theorem within_is (E B T addr at_ n : Int) (hE : 0 ≤ E) (hB : 0 ≤ B) (hT : 0 ≤ T) (ha : 0 ≤ addr) (ha' : addr < 4294967296) (h0 : 0 ≤ at_) (h1 : at_ < 18446744073709551616) (n0 : 0 ≤ n) (n1 : n < 18446744073709551616) (k : Nat) (hk : 1 ≤ k) :
    bounds_Within.f k E B T addr at_ n = some (withinV (E % 16) (B % 512) (T % 512) addr at_ n) := by
  obtain ⟨k, rfl⟩ : ∃ m, k = m + 1 := ⟨k - 1, by omega⟩
  have hbr := base_range (E % 16) (B % 512) addr (by omega) (by omega) (by omega) (by omega) ha ha'
  have hlr := len_range (E % 16) (B % 512) (T % 512) (by omega) (by omega)
  unfold bounds_Within.f withinV
  simp only [bounds_Within.j0, base_is E B T addr hE hB ha ha', len_is E B T hE hB hT, Option.bind_some, u64w]
  generalize baseV (E % 16) (B % 512) addr = b at hbr
  generalize lenV (E % 16) (B % 512) (T % 512) = l at hlr
  by_cases g1 : at_ > 1099511627776
  · rw [if_pos g1]; simp; omega
  · rw [if_neg g1]
    by_cases g2 : n > 1099511627776
    · simp [g2]; omega
    · simp only [g2, decide_false]
      have e1 : (at_ + n) % 18446744073709551616 = at_ + n := by omega
      have e2 : (b + l) % 18446744073709551616 = b + l := by omega
      rw [e1, e2]
      by_cases g3 : b ≤ at_
      · rw [if_neg (show ¬ (false = true) by decide), if_pos (by omega)]
        simp only [Option.some.injEq, decide_eq_decide]; omega
      · rw [if_neg (show ¬ (false = true) by decide), if_neg (by omega), decide_eq_false (by omega)]

theorem bits8 (a b : Nat) (ha : a < 256) (hb : b < 256) : Go.bits .and .u8 a b = ((a &&& b : Nat) : Int) :=
  (bits_nat .u8 8 (by decide) wraps_u8 a b (by omega) (by omega)).1
theorem bitsNot8 (a b : Nat) (ha : a < 256) (hb : b < 256) : Go.bits .andNot .u8 a b = 0 ↔ b &&& a = a := by
  have e : Go.bits .andNot .u8 (a : Int) (b : Int) = (((BitVec.ofNat 8 a &&& ~~~(BitVec.ofNat 8 b)).toNat : Nat) : Int) := by
    have hlt : (BitVec.ofNat 8 a &&& ~~~(BitVec.ofNat 8 b)).toNat < 256 := (BitVec.ofNat 8 a &&& ~~~(BitVec.ofNat 8 b)).isLt
    simp only [Go.bits, BitVec.ofInt_natCast]
    rw [IntKind.wrap_u8]
    show ((BitVec.ofNat 8 a &&& ~~~(BitVec.ofNat 8 b)).toNat : Int) % 256 = _
    omega
  rw [e]
  have h1 : (((BitVec.ofNat 8 a &&& ~~~(BitVec.ofNat 8 b)).toNat : Nat) : Int) = 0 ↔ BitVec.ofNat 8 a &&& ~~~(BitVec.ofNat 8 b) = 0#8 := by
    constructor
    · intro h; exact BitVec.eq_of_toNat_eq (by simpa using h)
    · intro h; rw [h]; rfl
  rw [h1]
  have h2 : b &&& a = a ↔ BitVec.ofNat 8 b &&& BitVec.ofNat 8 a = BitVec.ofNat 8 a := by
    constructor
    · intro h
      apply BitVec.eq_of_toNat_eq
      simp only [BitVec.toNat_and, BitVec.toNat_ofNat]
      rw [Nat.mod_eq_of_lt (by omega), Nat.mod_eq_of_lt (by omega)]; exact h
    · intro h
      have := congrArg BitVec.toNat h
      simp only [BitVec.toNat_and, BitVec.toNat_ofNat] at this
      rw [Nat.mod_eq_of_lt (by omega), Nat.mod_eq_of_lt (by omega)] at this; exact this
  rw [h2]
  generalize BitVec.ofNat 8 a = x
  generalize BitVec.ofNat 8 b = y
  constructor
  · intro h
    apply BitVec.eq_of_getLsbD_eq
    intro i hi
    have := congrArg (fun z => z.getLsbD i) h
    simp [hi] at this ⊢
    exact this
  · intro h
    apply BitVec.eq_of_getLsbD_eq
    intro i hi
    have := congrArg (fun z => z.getLsbD i) h
    simp [hi] at this ⊢
    exact this
theorem and_rec (c p : Nat) : c &&& p = 2 * ((c / 2) &&& (p / 2)) + (if c % 2 = 1 ∧ p % 2 = 1 then 1 else 0) := by
  have h1 := Nat.div_add_mod (c &&& p) 2
  rw [Nat.and_div_two] at h1
  have h2 : (c &&& p) % 2 = if c % 2 = 1 ∧ p % 2 = 1 then 1 else 0 := by
    have := Nat.and_mod_two_pow (a := c) (b := p) (n := 1)
    simp only [Nat.pow_one] at this
    rw [this]
    have hc : c % 2 = 0 ∨ c % 2 = 1 := by omega
    have hp : p % 2 = 0 ∨ p % 2 = 1 := by omega
    rcases hc with h | h <;> rcases hp with g | g <;> simp [h, g]
  omega
theorem keep_rec (c p : Nat) : c &&& p = p ↔ (p % 2 = 1 → c % 2 = 1) ∧ (c / 2 &&& p / 2 = p / 2) := by
  have h := and_rec c p
  have hp : p % 2 = 0 ∨ p % 2 = 1 := by omega
  have hc : c % 2 = 0 ∨ c % 2 = 1 := by omega
  rcases hp with g | g <;> rcases hc with k | k <;> simp [g, k] at h ⊢ <;> omega
theorem keep8 (c p : Nat) (hc : c < 256) (hp : p < 256) : c &&& p = p ↔ (p % 2 = 1 → c % 2 = 1) ∧ (p / 2 % 2 = 1 → c / 2 % 2 = 1) ∧ (p / 4 % 2 = 1 → c / 4 % 2 = 1) ∧ (p / 8 % 2 = 1 → c / 8 % 2 = 1) ∧
    (p / 16 % 2 = 1 → c / 16 % 2 = 1) ∧ (p / 32 % 2 = 1 → c / 32 % 2 = 1) ∧ (p / 64 % 2 = 1 → c / 64 % 2 = 1) ∧ (p / 128 % 2 = 1 → c / 128 % 2 = 1) := by
  rw [keep_rec, keep_rec (c / 2), keep_rec (c / 2 / 2), keep_rec (c / 2 / 2 / 2), keep_rec (c / 2 / 2 / 2 / 2), keep_rec (c / 2 / 2 / 2 / 2 / 2), keep_rec (c / 2 / 2 / 2 / 2 / 2 / 2), keep_rec (c / 2 / 2 / 2 / 2 / 2 / 2 / 2)]
  simp only [Nat.div_div_eq_div_mul, Nat.reduceMul]
  have h0 : p / 256 = 0 := by omega
  rw [h0]; simp
theorem and8 (c p : Nat) (hc : c < 256) (hp : p < 256) : c &&& p = (if c % 2 = 1 ∧ p % 2 = 1 then 1 else 0) + 2 * (if c / 2 % 2 = 1 ∧ p / 2 % 2 = 1 then 1 else 0) + 4 * (if c / 4 % 2 = 1 ∧ p / 4 % 2 = 1 then 1 else 0) + 8 * (if c / 8 % 2 = 1 ∧ p / 8 % 2 = 1 then 1 else 0)
    + 16 * (if c / 16 % 2 = 1 ∧ p / 16 % 2 = 1 then 1 else 0) + 32 * (if c / 32 % 2 = 1 ∧ p / 32 % 2 = 1 then 1 else 0) + 64 * (if c / 64 % 2 = 1 ∧ p / 64 % 2 = 1 then 1 else 0) + 128 * (if c / 128 % 2 = 1 ∧ p / 128 % 2 = 1 then 1 else 0) := by
  rw [and_rec c p, and_rec (c / 2), and_rec (c / 2 / 2), and_rec (c / 2 / 2 / 2), and_rec (c / 2 / 2 / 2 / 2), and_rec (c / 2 / 2 / 2 / 2 / 2), and_rec (c / 2 / 2 / 2 / 2 / 2 / 2), and_rec (c / 2 / 2 / 2 / 2 / 2 / 2 / 2)]
  simp only [Nat.div_div_eq_div_mul, Nat.reduceMul]
  have h0 : p / 256 = 0 := by omega
  rw [h0]; simp; omega

theorem wraps_u64' (n : Int) (h₀ : 0 ≤ n) (h₁ : n < 18446744073709551616) : IntKind.u64.wrap n = n := by rw [u64w]; omega
/-- The parts of a capability are as wide as they are. -/
structure Ok7 (a p ty E B T : Int) : Prop where
  a0 : 0 ≤ a
  a1 : a < 4294967296
  p0 : 0 ≤ p
  p1 : p < 256
  t0 : 0 ≤ ty
  t1 : ty < 256
  e0 : 0 ≤ E
  e1 : E < 256
  b0 : 0 ≤ B
  b1 : B < 65536
  c0 : 0 ≤ T
  c1 : T < 65536
/-- Where it begins, where it ends. -/
def capBase (a E B : Int) : Int := baseV (E % 16) (B % 512) a
def capTop (a E B T : Int) : Int := baseV (E % 16) (B % 512) a + lenV (E % 16) (B % 512) (T % 512)
theorem cap_range {a p ty E B T : Int} (h : Ok7 a p ty E B T) : 0 ≤ capBase a E B ∧ capBase a E B < 4294967296 ∧ 0 ≤ lenV (E % 16) (B % 512) (T % 512) ∧ lenV (E % 16) (B % 512) (T % 512) < 16777216 ∧ capTop a E B T = capBase a E B + lenV (E % 16) (B % 512) (T % 512) := by
  have h1 := base_range (E % 16) (B % 512) a (by have := h.e0; omega) (by omega) (by omega) (by omega) h.a0 h.a1
  have h2 := len_range (E % 16) (B % 512) (T % 512) (by omega) (by omega)
  exact ⟨h1.1, h1.2, h2.1, h2.2, rfl⟩
theorem cbase_is (t : Bool) {a p ty E B T : Int} (h : Ok7 a p ty E B T) : capa_Base.f t a p ty E B T = some (capBase a E B) := by
  unfold capa_Base.f; rw [base_is E B T a h.e0 h.b0 h.a0 h.a1]; rfl
theorem ctop_is (t : Bool) {a p ty E B T : Int} (h : Ok7 a p ty E B T) : capa_Top.f t a p ty E B T = some (capTop a E B T) := by
  unfold capa_Top.f
  rw [cbase_is t h, len_is E B T h.e0 h.b0 h.c0]
  simp only [Option.bind_some]
  obtain ⟨r1, r2, r3, r4, r5⟩ := cap_range h
  rw [wraps_u64' _ (by omega) (by omega)]; rfl
/-- Are all permissions p among q's? -/
def permsIn (p q : Int) : Bool := decide (q.toNat &&& p.toNat = p.toNat)
theorem andNot_is (p q : Int) (p0 : 0 ≤ p) (p1 : p < 256) (q0 : 0 ≤ q) (q1 : q < 256) : Go.bits .andNot .u8 p q = 0 ↔ permsIn p q = true := by
  have := bitsNot8 p.toNat q.toNat (by omega) (by omega)
  rw [Int.toNat_of_nonneg p0, Int.toNat_of_nonneg q0] at this
  rw [this]; unfold permsIn; simp
theorem and_is (p q : Int) (p0 : 0 ≤ p) (p1 : p < 256) (q0 : 0 ≤ q) (q1 : q < 256) : Go.bits .and .u8 q p = ((q.toNat &&& p.toNat : Nat) : Int) := by
  have := bits8 q.toNat p.toNat (by omega) (by omega)
  rw [Int.toNat_of_nonneg p0, Int.toNat_of_nonneg q0] at this
  exact this
theorem andEq_is (p q : Int) (p0 : 0 ≤ p) (p1 : p < 256) (q0 : 0 ≤ q) (q1 : q < 256) : Go.bits .and .u8 q p = p ↔ permsIn p q = true := by
  rw [and_is p q p0 p1 q0 q1]; unfold permsIn; simp; omega
theorem permsIn_refl (p : Int) : permsIn p p = true := by unfold permsIn; simp
theorem permsIn_trans {p q r : Int} (h : permsIn p q = true) (g : permsIn q r = true) : permsIn p r = true := by
  unfold permsIn at *
  simp only [decide_eq_true_eq] at *
  rw [← h, ← Nat.and_assoc, g]
theorem permsIn_and (q m : Int) : permsIn ((q.toNat &&& m.toNat : Nat) : Int) q = true := by
  unfold permsIn
  simp only [decide_eq_true_eq, Int.toNat_natCast]
  rw [← Nat.and_assoc, Nat.and_self]

theorem cwithin_is {a p ty E B T : Int} (h : Ok7 a p ty E B T) (x n : Int) (h0 : 0 ≤ x) (h1 : x < 18446744073709551616) (n0 : 0 ≤ n) (n1 : n < 18446744073709551616) (k : Nat) (hk : 1 ≤ k) :
    bounds_Within.f k E B T a x n = some (withinV (E % 16) (B % 512) (T % 512) a x n) := within_is E B T a x n h.e0 h.b0 h.c0 h.a0 h.a1 h0 h1 n0 n1 k hk
/-- May so many bytes be reached? -/
def mayV (t : Bool) (a p ty E B T q x n : Int) : Bool := t && (decide (ty = 0) && (permsIn q p && withinV (E % 16) (B % 512) (T % 512) a x n))
theorem may_is (t : Bool) {a p ty E B T : Int} (h : Ok7 a p ty E B T) (q x n : Int) (q0 : 0 ≤ q) (q1 : q < 256) (h0 : 0 ≤ x) (h1 : x < 18446744073709551616) (n0 : 0 ≤ n) (n1 : n < 18446744073709551616) (k : Nat) (hk : 1 ≤ k) :
    capa_May.f k t a p ty E B T q x n = some (mayV t a p ty E B T q x n) := by
  unfold capa_May.f capa_open.f mayV
  rw [cwithin_is h x n h0 h1 n0 n1 k hk]
  simp only [Option.bind_some]
  cases t
  · simp
  · by_cases e : ty = 0
    · by_cases e2 : permsIn q p = true
      · simp [e, e2, (andEq_is q p q0 q1 h.p0 h.p1).2 e2]
      · have : ¬ Go.bits .and .u8 p q = q := fun g => e2 ((andEq_is q p q0 q1 h.p0 h.p1).1 g)
        simp [e, e2, this]
    · simp [e]
theorem root_is (base top p : Int) (hb : 0 ≤ base) (ht : 0 ≤ top) (k : Nat) (hk : 12 ≤ k) : capa_Root.f k base top p =
    some (if (exactV base top).2.2.2 = 0 then (true, base % 4294967296, p, 0, (exactV base top).1, (exactV base top).2.1, (exactV base top).2.2.1, 0) else (false, 0, 0, 0, 0, 0, 0, (exactV base top).2.2.2)) := by
  unfold capa_Root.f
  rw [exact_is base top hb ht k hk]
  simp only [Option.bind_some]
  split <;> rfl
def setBoundsV (t : Bool) (a p ty E B T n : Int) : Bool × Int × Int × Int × Int × Int × Int :=
  if ty = 0 ∧ (exactV a (a + n)).2.2.2 = 0 ∧ withinV (E % 16) (B % 512) (T % 512) a a n = true then (t, a, p, ty, (exactV a (a + n)).1, (exactV a (a + n)).2.1, (exactV a (a + n)).2.2.1) else (false, a, p, ty, E, B, T)
theorem setBounds_is (t : Bool) {a p ty E B T : Int} (h : Ok7 a p ty E B T) (n : Int) (n0 : 0 ≤ n) (n1 : n < 4294967296) (k : Nat) (hk : 12 ≤ k) : capa_SetBounds.f k t a p ty E B T n = some (setBoundsV t a p ty E B T n) := by
  unfold capa_SetBounds.f capa_open.f setBoundsV
  have := h.a0; have := h.a1
  rw [wraps_u64' a (by omega) (by omega), wraps_u64' n (by omega) (by omega), wraps_u64' (a + n) (by omega) (by omega), exact_is a (a + n) (by omega) (by omega) k hk, cwithin_is h a n (by omega) (by omega) (by omega) (by omega) k (by omega)]
  simp only [Option.bind_some]
  by_cases e : ty = 0
  · by_cases e2 : (exactV a (a + n)).2.2.2 = 0
    · by_cases e3 : withinV (E % 16) (B % 512) (T % 512) a a n = true <;> simp [e, e2, e3]
    · simp [e, e2]
  · simp [e]
def sealV (t : Bool) (a p ty E B T n : Int) : Bool × Int × Int × Int × Int × Int × Int := (t && (decide (ty = 0) && decide (n % 8 ≠ 0)), a, p, n % 8, E, B, T)
theorem seal_is (t : Bool) (a p ty E B T n : Int) (n0 : 0 ≤ n) : capa_Seal.f t a p ty E B T n = some (sealV t a p ty E B T n) := by
  unfold capa_Seal.f capa_open.f sealV
  rw [tmod_nn n0, show n % 8 % 256 = n % 8 by omega]
  cases t
  · simp
  · by_cases e : ty = 0
    · by_cases e2 : n % 8 = 0 <;> simp [e, e2]
    · simp [e]
def unsealV (t : Bool) (a p ty E B T : Int) : Bool × Int × Int × Int × Int × Int × Int := (t && decide (ty ≠ 0), a, p, 0, E, B, T)
theorem unseal_is (t : Bool) (a p ty E B T : Int) : capa_Unseal.f t a p ty E B T = some (unsealV t a p ty E B T) := by
  unfold capa_Unseal.f capa_open.f unsealV
  cases t
  · simp
  · by_cases e : ty = 0 <;> simp [e]

theorem clives_is (k : Nat) (hk : 12 ≤ k) : bulwarklaw03_lives.f k = some true := by
  have hx : exactV 4096 8192 = (4, 256, 0, 0) := by decide +kernel
  have hy : exactV 1 513 = (0, 0, 0, 5) := by decide +kernel
  have hz : exactV 4096 4160 = (0, 0, 64, 0) := by decide +kernel
  have r0 : Ok7 4096 39 0 4 256 0 := by constructor <;> decide
  have r1 : Ok7 4096 39 0 0 0 64 := by constructor <;> decide
  unfold bulwarklaw03_lives.f bulwarklaw03_livesT.f
  have w1 : withinV (4 % 16) (256 % 512) (0 % 512) 4096 4096 64 = true := by decide +kernel
  have t1 : capTop 4096 0 0 64 = 4160 := by decide +kernel
  have hp : permsIn 8 39 = false := by decide +kernel
  rw [root_is 4096 8192 39 (by decide) (by decide) k hk, hx, root_is 1 513 1 (by decide) (by decide) k hk, hy]
  simp only [Option.bind_some, if_true]
  rw [show (4096 : Int) % 4294967296 = 4096 by decide, setBounds_is true r0 64 (by decide) (by decide) k hk, seal_is true 4096 39 0 4 256 0 4 (by decide)]
  unfold setBoundsV sealV
  rw [show (4096 : Int) + 64 = 4160 by decide, hz, if_pos ⟨rfl, rfl, w1⟩]
  simp only [Option.bind_some]
  rw [ctop_is true r1, t1]
  simp only [Option.bind_some]
  rw [unseal_is]
  rw [may_is true r0 8 4096 1 (by decide) (by decide) (by decide) (by decide) (by decide) (by decide) k (by omega)]
  unfold unsealV mayV
  rw [hp]
  simp [capa_Null.f, capa_Int.f]

theorem bytesOf {l : List Int} (h : ∀ x ∈ l, (Lit.int .u8 x).wf = true) : Pure.AllBytes l := fun x hx => Go.bounds_u8 (h x hx)
theorem walkBytes (t : Bool) (a p ty E B T : Int) (A1 : Option Addr) (len1 cap1 : Nat) (z1 : List Int) (n : Int) (tag : Bool) (W : World) (wa : (Lit.int .u32 a).wf = true) (wp : (Lit.int .u8 p).wf = true) (wty : (Lit.int .u8 ty).wf = true) (wE : (Lit.int .u8 E).wf = true) (wB : (Lit.int .u16 B).wf = true) (wT : (Lit.int .u16 T).wf = true)
    (w1 : (A1 = none ∧ len1 = 0 ∧ cap1 = 0 ∧ z1 = []) ∨ ∃ x, A1 = some x ∧ len1 ≤ cap1 ∧ cap1 ≤ maxLen ∧ z1.length = cap1 ∧ (∀ i, i < z1.length → W.cell? (x.add i) = some (.int .u8 (z1.getD i 0))) ∧ ∀ n ∈ z1, (Lit.int .u8 n).wf = true) (y1 : len1 * 1 ≤ 140737488351232) (wn : (Lit.int .u32 n).wf = true) :
    Calls Try.prog 9 #[.agg #[.bool t, .int .u32 a, .int .u8 p, .int .u8 ty, .int .u8 E, .int .u16 B, .int .u16 T], .slice A1 len1 cap1, .int .u32 n, .bool tag] W fun e w' => e = .returned (.bool true) ∧ Below W.heap.size W w' := by
  have h1 := Go.bounds_u32 wa; have h2 := Go.bounds_u8 wp; have h3 := Go.bounds_u8 wty; have h4 := Go.bounds_u8 wE; have h5 := Go.bounds_u16 wB; have h6 := Go.bounds_u16 wT
  obtain ⟨l0, rfl, hr0, hm0, hw0, hc0⟩ := ReadsInt.ofRowC w1
  exact bulwarklaw03_CapaBytes.calls 20 t a p ty E B T _ _ l0 n tag W (by omega) (by omega) (by omega) (by omega) (by omega) (by omega) (Kd.C_of_reads (d := (0 : Int)) (h1 := fun _ => rfl) hr0) hc0 (bytesOf hw0) (clives_is 20 (by decide))
theorem walkBack (A0 : Option Addr) (len0 cap0 : Nat) (z0 : List Int) (tag : Bool) (W : World)
    (w0 : (A0 = none ∧ len0 = 0 ∧ cap0 = 0 ∧ z0 = []) ∨ ∃ x, A0 = some x ∧ len0 ≤ cap0 ∧ cap0 ≤ maxLen ∧ z0.length = cap0 ∧ (∀ i, i < z0.length → W.cell? (x.add i) = some (.int .u8 (z0.getD i 0))) ∧ ∀ n ∈ z0, (Lit.int .u8 n).wf = true) (y0 : len0 * 1 ≤ 140737488351232) :
    Calls Try.prog 10 #[.slice A0 len0 cap0, .bool tag] W fun e w' => e = .returned (.bool true) ∧ Below W.heap.size W w' := by
  obtain ⟨l0, rfl, hr0, hm0, hw0, hc0⟩ := ReadsInt.ofRowC w0
  exact bulwarklaw03_CapaBack.calls 20 _ _ l0 tag W (Kd.C_of_reads (d := (0 : Int)) (h1 := fun _ => rfl) hr0) hc0 (bytesOf hw0) (clives_is 20 (by decide))

end Go.Proofs.Ytkfgloolpjlddaa.Pure2
