/- The law TablesEntries in plain Lean: an entry is the reference's, or its error. -/
import Derived.Test.YtegehkenmkmflaaQ31
import Derived.Test.YtegehkenmkmflaaOpen
import Derived.OpenShut
namespace Go.Proofs.Ytegehkenmkmflaa.Pure
open Go.RowKit Go.Proofs.Ytegehkenmkmflaa.Q Go.Proofs.YtegehkenmkmflaaW.PrintWords Go.Proofs.YtegehkenmkmflaaW.PrintLast Go.Proofs.YtegehkenmkmflaaW.PrintMore
set_option linter.unusedVariables false
set_option linter.unusedSimpArgs false
theorem u64w (n : Int) : IntKind.u64.wrap n = n % 18446744073709551616 := by simp [IntKind.wrap, IntKind.bits, IntKind.signed]
theorem u16w (n : Int) : IntKind.u16.wrap n = n % 65536 := by simp [IntKind.wrap, IntKind.bits, IntKind.signed]
theorem wraps_u64 (n : Int) (h₀ : 0 ≤ n) (h₁ : n < 2 ^ 64) : IntKind.u64.wrap n = n := by rw [u64w]; omega
theorem u64_mask (i : Nat) (hi : i ≤ 64) (x : Int) (h₀ : 0 ≤ x) (h₁ : x < 18446744073709551616) : Go.bits .and .u64 x (2 ^ i - 1) = x % 2 ^ i :=
  bits_mask .u64 64 (by decide) wraps_u64 i hi x h₀ (by simpa using h₁)
theorem tmod_nn {a b : Int} (h : 0 ≤ a) : Int.tmod a b = a % b := Int.tmod_eq_emod_of_nonneg h
theorem tdiv_nn {a b : Int} (h : 0 ≤ a) : Int.tdiv a b = a / b := Int.tdiv_eq_ediv_of_nonneg h
theorem mod_id {x m : Int} (h0 : 0 ≤ x) (h1 : x < m) : x % m = x := Int.emod_eq_of_lt h0 h1
theorem shl_at {x e : Int} (h0 : 0 ≤ e) (h1 : e ≤ 64) : shl .u64 x e = x * 2 ^ e.toNat % 18446744073709551616 := by
  unfold shl; rw [Nat.min_eq_left (by show e.toNat ≤ 64; omega), u64w]
theorem shr_at {x e : Int} (h0 : 0 ≤ e) (h1 : e ≤ 64) : shr .u64 x e = x / 2 ^ e.toNat := by
  unfold shr; rw [Nat.min_eq_left (by show e.toNat ≤ 64; omega)]
theorem cases16 {e : Int} (h0 : 0 ≤ e) (h1 : e < 16) : e = 0 ∨ e = 1 ∨ e = 2 ∨ e = 3 ∨ e = 4 ∨ e = 5 ∨ e = 6 ∨ e = 7 ∨ e = 8 ∨ e = 9 ∨ e = 10 ∨ e = 11 ∨ e = 12 ∨ e = 13 ∨ e = 14 ∨ e = 15 := by omega
/-- Where a capability begins. -/
def baseV (e low addr : Int) : Int :=
  if addr / 2 ^ e.toNat % 512 < low then (addr / 2 ^ (e.toNat + 9) - 1) % 2 ^ (23 - e.toNat) * 2 ^ (e.toNat + 9) + low * 2 ^ e.toNat
  else addr / 2 ^ (e.toNat + 9) * 2 ^ (e.toNat + 9) + low * 2 ^ e.toNat
/-- How long it is. -/
def lenV (e b t : Int) : Int := (t + 512 - b) % 512 * 2 ^ e.toNat
theorem base_is (E B T addr : Int) (hE : 0 ≤ E) (hB : 0 ≤ B) (ha : 0 ≤ addr) (ha' : addr < 4294967296) :
    bounds_Base.f E B T addr = some (baseV (E % 16) (B % 512) addr) := by
  have he0 : 0 ≤ E % 16 := by omega
  have he1 : E % 16 < 16 := by omega
  have hl0 : 0 ≤ B % 512 := by omega
  have hl1 : B % 512 < 512 := by omega
  unfold bounds_Base.f
  rw [tmod_nn hE, tmod_nn hB]
  generalize E % 16 = e at he0 he1
  generalize B % 512 = low at hl0 hl1
  have a1 : addr % 18446744073709551616 = addr := by omega
  have a2 : low % 18446744073709551616 = low := by omega
  have a3 : e % 18446744073709551616 = e := by omega
  have a4 : (e + 9) % 18446744073709551616 = e + 9 := by omega
  have a5 : (32 - e) % 18446744073709551616 = 32 - e := by omega
  have a6 : (32 - e - 9) % 18446744073709551616 = 32 - e - 9 := by omega
  have e9 : (e + 9).toNat = e.toNat + 9 := by omega
  have e23 : (32 - e - 9).toNat = 23 - e.toNat := by omega
  simp only [u64w, a1, a2, a3, a4, a5, a6]
  rw [if_pos he0, if_pos (show 0 ≤ e + 9 by omega), if_pos (show 0 ≤ 32 - e - 9 by omega)]
  simp only [shr_at he0 (show e ≤ 64 by omega), shr_at (show 0 ≤ e + 9 by omega) (show e + 9 ≤ 64 by omega), shl_at he0 (show e ≤ 64 by omega), shl_at (show 0 ≤ e + 9 by omega) (show e + 9 ≤ 64 by omega), shl_at (show 0 ≤ 32 - e - 9 by omega) (show 32 - e - 9 ≤ 64 by omega), e9, e23, Int.one_mul]
  have hp : (0 : Int) < 2 ^ e.toNat := Int.pow_pos (by decide)
  rw [tmod_nn (Int.ediv_nonneg ha (by omega))]
  unfold baseV
  have hm : ∀ x : Int, Go.bits .and .u64 (x % 18446744073709551616) ((2 ^ (23 - e.toNat) % 18446744073709551616 - 1) % 18446744073709551616) = x % 2 ^ (23 - e.toNat) := by
    intro x
    have h1 : ((2 : Int) ^ (23 - e.toNat) % 18446744073709551616 - 1) % 18446744073709551616 = 2 ^ (23 - e.toNat) - 1 := by
      rcases cases16 he0 he1 with h | h | h | h | h | h | h | h | h | h | h | h | h | h | h | h <;> subst h <;> rfl
    rw [h1, u64_mask _ (by omega) _ (by omega) (by omega)]
    rcases cases16 he0 he1 with h | h | h | h | h | h | h | h | h | h | h | h | h | h | h | h <;> subst h <;> simp <;> omega
  rw [hm]
  have key : ∀ q : Int, 0 ≤ q → q < 2 ^ (23 - e.toNat) → (q * 2 ^ (e.toNat + 9) % 18446744073709551616 + low * 2 ^ e.toNat % 18446744073709551616) % 18446744073709551616 = q * 2 ^ (e.toNat + 9) + low * 2 ^ e.toNat := by
    intro q q0 q1
    rcases cases16 he0 he1 with h | h | h | h | h | h | h | h | h | h | h | h | h | h | h | h <;> subst h <;> simp at q1 ⊢ <;> omega
  have hp' : (0 : Int) < 2 ^ (23 - e.toNat) := Int.pow_pos (by decide)
  split
  · rw [key _ (Int.emod_nonneg _ (by omega)) (Int.emod_lt_of_pos _ hp')]
  · rw [key]
    · exact Int.ediv_nonneg ha (Int.le_of_lt (Int.pow_pos (by decide)))
    · rcases cases16 he0 he1 with h | h | h | h | h | h | h | h | h | h | h | h | h | h | h | h <;> subst h <;> simp <;> omega
/-- The least exponent from e on that fits. -/
def exFrom (base top : Int) : Nat → Int → Int × Int × Int × Int
  | 0, _ => (0, 0, 0, 5)
  | n + 1, e => if base % 2 ^ e.toNat = 0 ∧ top % 2 ^ e.toNat = 0 ∧ (top - base) / 2 ^ e.toNat ≤ 511 then (e, base / 2 ^ e.toNat % 512, top / 2 ^ e.toNat % 512, 0) else exFrom base top n (e + 1)
def exactV (base top : Int) : Int × Int × Int × Int := if top < base ∨ 65536 < top then (0, 0, 0, 2) else exFrom base top 9 0
theorem orMask (a b : Int) (n : Nat) (hn : n ≤ 8) (ha : 0 ≤ a) (ha' : a < 18446744073709551616) (hb : 0 ≤ b) (hb' : b < 18446744073709551616) :
    Go.bits .and .u64 (Go.bits .or .u64 a b) ((2 ^ n % 18446744073709551616 - 1) % 18446744073709551616) = 0 ↔ a % 2 ^ n = 0 ∧ b % 2 ^ n = 0 := by
  have h1 : ((2 : Int) ^ n % 18446744073709551616 - 1) % 18446744073709551616 = 2 ^ n - 1 := by
    have : n = 0 ∨ n = 1 ∨ n = 2 ∨ n = 3 ∨ n = 4 ∨ n = 5 ∨ n = 6 ∨ n = 7 ∨ n = 8 := by omega
    rcases this with h | h | h | h | h | h | h | h | h <;> subst h <;> rfl
  obtain ⟨x, rfl⟩ := Int.eq_ofNat_of_zero_le ha
  obtain ⟨y, rfl⟩ := Int.eq_ofNat_of_zero_le hb
  have hx : x < 2 ^ 64 := by omega
  have hy : y < 2 ^ 64 := by omega
  have ho := (bits_nat .u64 64 (by decide) wraps_u64 x y hx hy).2
  have hlt : x ||| y < 2 ^ 64 := Nat.or_lt_two_pow hx hy
  rw [h1, ho, u64_mask n (by omega) _ (by omega) (by omega)]
  have hc : (2 : Int) ^ n = ((2 ^ n : Nat) : Int) := by simp
  rw [hc]
  have : ((x ||| y : Nat) : Int) % ((2 ^ n : Nat) : Int) = (((x ||| y) % 2 ^ n : Nat) : Int) := by rw [Int.natCast_emod]
  rw [this, Nat.or_mod_two_pow, ← Int.natCast_emod, ← Int.natCast_emod]
  have h2 := @Nat.or_eq_zero_iff (x % 2 ^ n) (y % 2 ^ n)
  omega
theorem ex_loop (base top : Int) (hb : 0 ≤ base) (ht : base ≤ top) (ht' : top ≤ 65536) (n : Nat) : ∀ (k : Nat) (e : Int), 0 ≤ e → e + n = 9 → n < k → bounds_Exact.l0 k base top e = some (exFrom base top n e) := by
  induction n with
  | zero =>
    intro k e h0 h1 hk
    obtain ⟨k, rfl⟩ : ∃ m, k = m + 1 := ⟨k - 1, by omega⟩
    simp only [bounds_Exact.l0]
    rw [if_neg (by omega)]
    rfl
  | succ n ih =>
    intro k e h0 h1 hk
    obtain ⟨k, rfl⟩ : ∃ m, k = m + 1 := ⟨k - 1, by omega⟩
    have hn : e.toNat ≤ 8 := by omega
    simp only [bounds_Exact.l0, exFrom]
    rw [if_pos (by omega), if_pos h0]
    have hs : IntKind.u64.wrap (shl .u64 1 e - 1) = (2 ^ e.toNat % 18446744073709551616 - 1) % 18446744073709551616 := by
      rw [shl_at h0 (by omega), u64w, Int.one_mul]
    have hw : IntKind.u64.wrap (top - base) = top - base := by rw [u64w]; omega
    have hr := ih k (e + 1) (by omega) (by omega) (by omega)
    have hw1 : IntKind.u64.wrap (e + 1) = e + 1 := by rw [u64w]; omega
    have hp : (0 : Int) < 2 ^ e.toNat := Int.pow_pos (by decide)
    rw [hs, hw, hw1, hr]
    simp only [orMask base top e.toNat hn hb (by omega) (by omega) (by omega), shr_at h0 (show e ≤ 64 by omega), u16w]
    have hq : ∀ x : Int, 0 ≤ x → Int.tmod (x / 2 ^ e.toNat) 512 % 65536 = x / 2 ^ e.toNat % 512 := by
      intro x hx
      have := Int.ediv_nonneg hx (Int.le_of_lt hp)
      rw [tmod_nn this]; omega
    rw [hq base hb, hq top (by omega), show e % 256 = e by omega]
    by_cases h : base % 2 ^ e.toNat = 0 ∧ top % 2 ^ e.toNat = 0
    · by_cases h' : (top - base) / 2 ^ e.toNat ≤ 511
      · rw [if_pos h, if_pos h', if_pos ⟨h.1, h.2, h'⟩]
      · rw [if_pos h, if_neg h', if_neg (fun g => h' g.2.2)]
    · rw [if_neg h, if_neg (fun g => h ⟨g.1, g.2.1⟩)]
theorem exact_is (base top : Int) (hb : 0 ≤ base) (ht : 0 ≤ top) (k : Nat) (hk : 12 ≤ k) : bounds_Exact.f k base top = some (exactV base top) := by
  obtain ⟨k, rfl⟩ : ∃ m, k = m + 1 := ⟨k - 1, by omega⟩
  unfold bounds_Exact.f exactV
  by_cases h : top < base
  · rw [if_pos h, if_pos (.inl h)]; simp [bounds_Exact.j0]
  · rw [if_neg h]
    by_cases h' : top > 65536
    · rw [if_pos (.inr h')]; simp [bounds_Exact.j0, h']
    · rw [if_neg (by omega)]
      simp only [bounds_Exact.j0, h', decide_false]
      exact ex_loop base top hb (by omega) (by omega) 9 k 0 (by omega) (by omega) (by omega)
theorem base_range (e low addr : Int) (he0 : 0 ≤ e) (he1 : e < 16) (hl0 : 0 ≤ low) (hl1 : low < 512) (ha : 0 ≤ addr) (ha' : addr < 4294967296) : 0 ≤ baseV e low addr ∧ baseV e low addr < 4294967296 := by
  unfold baseV
  rcases cases16 he0 he1 with h | h | h | h | h | h | h | h | h | h | h | h | h | h | h | h <;> subst h <;> simp <;> split <;> omega
theorem len_range (e b t : Int) (he0 : 0 ≤ e) (he1 : e < 16) : 0 ≤ lenV e b t ∧ lenV e b t < 16777216 := by
  unfold lenV
  rcases cases16 he0 he1 with h | h | h | h | h | h | h | h | h | h | h | h | h | h | h | h <;> subst h <;> simp <;> omega
/-- Whether so many bytes from a place on stand within. -/
def withinV (e b t addr at_ n : Int) : Bool := decide (at_ ≤ 1099511627776 ∧ n ≤ 1099511627776 ∧ baseV e b addr ≤ at_ ∧ at_ + n ≤ baseV e b addr + lenV e b t)
theorem exFrom_shape (base top : Int) (n : Nat) : ∀ (e : Int), 0 ≤ e → (exFrom base top n e).2.2.2 = 0 →
    ∃ j : Int, e ≤ j ∧ j < e + n ∧ base % 2 ^ j.toNat = 0 ∧ top % 2 ^ j.toNat = 0 ∧ (top - base) / 2 ^ j.toNat ≤ 511 ∧ exFrom base top n e = (j, base / 2 ^ j.toNat % 512, top / 2 ^ j.toNat % 512, 0) := by
  induction n with
  | zero => intro e h0 h; simp [exFrom] at h
  | succ n ih =>
    intro e h0 h
    unfold exFrom at h ⊢
    split at h
    · rename_i g
      rw [if_pos g]
      exact ⟨e, by omega, by omega, g.1, g.2.1, g.2.2, rfl⟩
    · rename_i g
      rw [if_neg g]
      obtain ⟨j, h1, h2, h3⟩ := ih (e + 1) (by omega) h
      exact ⟨j, by omega, by omega, h3⟩
theorem exact_back (base top : Int) (hb : 0 ≤ base) (hz : (exactV base top).2.2.2 = 0) : base ≤ top ∧ top ≤ 65536 ∧ ∃ j : Int, 0 ≤ j ∧ j ≤ 8 ∧ exactV base top = (j, base / 2 ^ j.toNat % 512, top / 2 ^ j.toNat % 512, 0) ∧
    (∀ d : Int, 0 ≤ d → d ≤ top - base → baseV (j % 16) (base / 2 ^ j.toNat % 512 % 512) (base + d) = base) ∧ lenV (j % 16) (base / 2 ^ j.toNat % 512 % 512) (top / 2 ^ j.toNat % 512 % 512) = top - base := by
  by_cases hbad : top < base ∨ 65536 < top
  · unfold exactV at hz
    rw [if_pos hbad] at hz
    simp at hz
  · have hbt : base ≤ top := by omega
    have ht' : top ≤ 65536 := by omega
    have hv : exactV base top = exFrom base top 9 0 := by unfold exactV; rw [if_neg hbad]
    rw [hv] at hz
    obtain ⟨j, j0, j1, hb', ht, hl, he⟩ := exFrom_shape base top 9 0 (by omega) hz
    refine ⟨hbt, ht', j, j0, by omega, hv.trans he, ?_, ?_⟩
    · intro d d0 d1
      unfold baseV
      have : j = 0 ∨ j = 1 ∨ j = 2 ∨ j = 3 ∨ j = 4 ∨ j = 5 ∨ j = 6 ∨ j = 7 ∨ j = 8 := by omega
      rcases this with h | h | h | h | h | h | h | h | h <;> subst h <;> simp at hb' ht hl ⊢ <;> split <;> omega
    · unfold lenV
      have : j = 0 ∨ j = 1 ∨ j = 2 ∨ j = 3 ∨ j = 4 ∨ j = 5 ∨ j = 6 ∨ j = 7 ∨ j = 8 := by omega
      rcases this with h | h | h | h | h | h | h | h | h <;> subst h <;> simp at hb' ht hl ⊢ <;> omega
theorem bits8 (a b : Nat) (ha : a < 256) (hb : b < 256) : Go.bits .and .u8 a b = ((a &&& b : Nat) : Int) :=
  (bits_nat .u8 8 (by decide) wraps_u8 a b (by omega) (by omega)).1
theorem bitsNot8 (a b : Nat) (ha : a < 256) (hb : b < 256) : Go.bits .andNot .u8 a b = 0 ↔ b &&& a = a := by
  have e : Go.bits .andNot .u8 (a : Int) (b : Int) = (((BitVec.ofNat 8 a &&& ~~~(BitVec.ofNat 8 b)).toNat : Nat) : Int) := by
    have hlt : (BitVec.ofNat 8 a &&& ~~~(BitVec.ofNat 8 b)).toNat < 256 := (BitVec.ofNat 8 a &&& ~~~(BitVec.ofNat 8 b)).isLt
    simp only [Go.bits, BitVec.ofInt_natCast]
    rw [IntKind.wrap_u8]
    show ((BitVec.ofNat 8 a &&& ~~~(BitVec.ofNat 8 b)).toNat : Int) % 256 = _
    omega
  rw [e]
  have h1 : (((BitVec.ofNat 8 a &&& ~~~(BitVec.ofNat 8 b)).toNat : Nat) : Int) = 0 ↔ BitVec.ofNat 8 a &&& ~~~(BitVec.ofNat 8 b) = 0#8 := by
    constructor
    · intro h; exact BitVec.eq_of_toNat_eq (by simpa using h)
    · intro h; rw [h]; rfl
  rw [h1]
  have h2 : b &&& a = a ↔ BitVec.ofNat 8 b &&& BitVec.ofNat 8 a = BitVec.ofNat 8 a := by
    constructor
    · intro h
      apply BitVec.eq_of_toNat_eq
      simp only [BitVec.toNat_and, BitVec.toNat_ofNat]
      rw [Nat.mod_eq_of_lt (by omega), Nat.mod_eq_of_lt (by omega)]; exact h
    · intro h
      have := congrArg BitVec.toNat h
      simp only [BitVec.toNat_and, BitVec.toNat_ofNat] at this
      rw [Nat.mod_eq_of_lt (by omega), Nat.mod_eq_of_lt (by omega)] at this; exact this
  rw [h2]
  generalize BitVec.ofNat 8 a = x
  generalize BitVec.ofNat 8 b = y
  constructor
  · intro h
    apply BitVec.eq_of_getLsbD_eq
    intro i hi
    have := congrArg (fun z => z.getLsbD i) h
    simp [hi] at this ⊢
    exact this
  · intro h
    apply BitVec.eq_of_getLsbD_eq
    intro i hi
    have := congrArg (fun z => z.getLsbD i) h
    simp [hi] at this ⊢
    exact this
theorem and_rec (c p : Nat) : c &&& p = 2 * ((c / 2) &&& (p / 2)) + (if c % 2 = 1 ∧ p % 2 = 1 then 1 else 0) := by
  have h1 := Nat.div_add_mod (c &&& p) 2
  rw [Nat.and_div_two] at h1
  have h2 : (c &&& p) % 2 = if c % 2 = 1 ∧ p % 2 = 1 then 1 else 0 := by
    have := Nat.and_mod_two_pow (a := c) (b := p) (n := 1)
    simp only [Nat.pow_one] at this
    rw [this]
    have hc : c % 2 = 0 ∨ c % 2 = 1 := by omega
    have hp : p % 2 = 0 ∨ p % 2 = 1 := by omega
    rcases hc with h | h <;> rcases hp with g | g <;> simp [h, g]
  omega
theorem keep_rec (c p : Nat) : c &&& p = p ↔ (p % 2 = 1 → c % 2 = 1) ∧ (c / 2 &&& p / 2 = p / 2) := by
  have h := and_rec c p
  have hp : p % 2 = 0 ∨ p % 2 = 1 := by omega
  have hc : c % 2 = 0 ∨ c % 2 = 1 := by omega
  rcases hp with g | g <;> rcases hc with k | k <;> simp [g, k] at h ⊢ <;> omega
theorem keep8 (c p : Nat) (hc : c < 256) (hp : p < 256) : c &&& p = p ↔ (p % 2 = 1 → c % 2 = 1) ∧ (p / 2 % 2 = 1 → c / 2 % 2 = 1) ∧ (p / 4 % 2 = 1 → c / 4 % 2 = 1) ∧ (p / 8 % 2 = 1 → c / 8 % 2 = 1) ∧
    (p / 16 % 2 = 1 → c / 16 % 2 = 1) ∧ (p / 32 % 2 = 1 → c / 32 % 2 = 1) ∧ (p / 64 % 2 = 1 → c / 64 % 2 = 1) ∧ (p / 128 % 2 = 1 → c / 128 % 2 = 1) := by
  rw [keep_rec, keep_rec (c / 2), keep_rec (c / 2 / 2), keep_rec (c / 2 / 2 / 2), keep_rec (c / 2 / 2 / 2 / 2), keep_rec (c / 2 / 2 / 2 / 2 / 2), keep_rec (c / 2 / 2 / 2 / 2 / 2 / 2), keep_rec (c / 2 / 2 / 2 / 2 / 2 / 2 / 2)]
  simp only [Nat.div_div_eq_div_mul, Nat.reduceMul]
  have h0 : p / 256 = 0 := by omega
  rw [h0]; simp
theorem and8 (c p : Nat) (hc : c < 256) (hp : p < 256) : c &&& p = (if c % 2 = 1 ∧ p % 2 = 1 then 1 else 0) + 2 * (if c / 2 % 2 = 1 ∧ p / 2 % 2 = 1 then 1 else 0) + 4 * (if c / 4 % 2 = 1 ∧ p / 4 % 2 = 1 then 1 else 0) + 8 * (if c / 8 % 2 = 1 ∧ p / 8 % 2 = 1 then 1 else 0)
    + 16 * (if c / 16 % 2 = 1 ∧ p / 16 % 2 = 1 then 1 else 0) + 32 * (if c / 32 % 2 = 1 ∧ p / 32 % 2 = 1 then 1 else 0) + 64 * (if c / 64 % 2 = 1 ∧ p / 64 % 2 = 1 then 1 else 0) + 128 * (if c / 128 % 2 = 1 ∧ p / 128 % 2 = 1 then 1 else 0) := by
  rw [and_rec c p, and_rec (c / 2), and_rec (c / 2 / 2), and_rec (c / 2 / 2 / 2), and_rec (c / 2 / 2 / 2 / 2), and_rec (c / 2 / 2 / 2 / 2 / 2), and_rec (c / 2 / 2 / 2 / 2 / 2 / 2), and_rec (c / 2 / 2 / 2 / 2 / 2 / 2 / 2)]
  simp only [Nat.div_div_eq_div_mul, Nat.reduceMul]
  have h0 : p / 256 = 0 := by omega
  rw [h0]; simp; omega
theorem wraps_u64' (n : Int) (h₀ : 0 ≤ n) (h₁ : n < 18446744073709551616) : IntKind.u64.wrap n = n := by rw [u64w]; omega
/-- The parts of a capability are as wide as they are. -/
structure Ok7 (a p ty E B T : Int) : Prop where
  a0 : 0 ≤ a
  a1 : a < 4294967296
  p0 : 0 ≤ p
  p1 : p < 256
  t0 : 0 ≤ ty
  t1 : ty < 256
  e0 : 0 ≤ E
  e1 : E < 256
  b0 : 0 ≤ B
  b1 : B < 65536
  c0 : 0 ≤ T
  c1 : T < 65536
/-- Where it begins, where it ends. -/
def capBase (a E B : Int) : Int := baseV (E % 16) (B % 512) a
def capTop (a E B T : Int) : Int := baseV (E % 16) (B % 512) a + lenV (E % 16) (B % 512) (T % 512)
theorem cap_range {a p ty E B T : Int} (h : Ok7 a p ty E B T) : 0 ≤ capBase a E B ∧ capBase a E B < 4294967296 ∧ 0 ≤ lenV (E % 16) (B % 512) (T % 512) ∧ lenV (E % 16) (B % 512) (T % 512) < 16777216 ∧ capTop a E B T = capBase a E B + lenV (E % 16) (B % 512) (T % 512) := by
  have h1 := base_range (E % 16) (B % 512) a (by have := h.e0; omega) (by omega) (by omega) (by omega) h.a0 h.a1
  have h2 := len_range (E % 16) (B % 512) (T % 512) (by omega) (by omega)
  exact ⟨h1.1, h1.2, h2.1, h2.2, rfl⟩
/-- Are all permissions p among q's? -/
def permsIn (p q : Int) : Bool := decide (q.toNat &&& p.toNat = p.toNat)
theorem andNot_is (p q : Int) (p0 : 0 ≤ p) (p1 : p < 256) (q0 : 0 ≤ q) (q1 : q < 256) : Go.bits .andNot .u8 p q = 0 ↔ permsIn p q = true := by
  have := bitsNot8 p.toNat q.toNat (by omega) (by omega)
  rw [Int.toNat_of_nonneg p0, Int.toNat_of_nonneg q0] at this
  rw [this]; unfold permsIn; simp
theorem and_is (p q : Int) (p0 : 0 ≤ p) (p1 : p < 256) (q0 : 0 ≤ q) (q1 : q < 256) : Go.bits .and .u8 q p = ((q.toNat &&& p.toNat : Nat) : Int) := by
  have := bits8 q.toNat p.toNat (by omega) (by omega)
  rw [Int.toNat_of_nonneg p0, Int.toNat_of_nonneg q0] at this
  exact this
theorem andEq_is (p q : Int) (p0 : 0 ≤ p) (p1 : p < 256) (q0 : 0 ≤ q) (q1 : q < 256) : Go.bits .and .u8 q p = p ↔ permsIn p q = true := by
  rw [and_is p q p0 p1 q0 q1]; unfold permsIn; simp; omega
theorem permsIn_refl (p : Int) : permsIn p p = true := by unfold permsIn; simp
theorem permsIn_trans {p q r : Int} (h : permsIn p q = true) (g : permsIn q r = true) : permsIn p r = true := by
  unfold permsIn at *
  simp only [decide_eq_true_eq] at *
  rw [← h, ← Nat.and_assoc, g]
theorem permsIn_and (q m : Int) : permsIn ((q.toNat &&& m.toNat : Nat) : Int) q = true := by
  unfold permsIn
  simp only [decide_eq_true_eq, Int.toNat_natCast]
  rw [← Nat.and_assoc, Nat.and_self]
/-- May so many bytes be reached? -/
def mayV (t : Bool) (a p ty E B T q x n : Int) : Bool := t && (decide (ty = 0) && (permsIn q p && withinV (E % 16) (B % 512) (T % 512) a x n))
theorem root_is (base top p : Int) (hb : 0 ≤ base) (ht : 0 ≤ top) (k : Nat) (hk : 12 ≤ k) : capa_Root.f k base top p =
    some (if (exactV base top).2.2.2 = 0 then (true, base % 4294967296, p, 0, (exactV base top).1, (exactV base top).2.1, (exactV base top).2.2.1, 0) else (false, 0, 0, 0, 0, 0, 0, (exactV base top).2.2.2)) := by
  unfold capa_Root.f
  rw [exact_is base top hb ht k hk]
  simp only [Option.bind_some]
  split <;> rfl
def setBoundsV (t : Bool) (a p ty E B T n : Int) : Bool × Int × Int × Int × Int × Int × Int :=
  if ty = 0 ∧ (exactV a (a + n)).2.2.2 = 0 ∧ withinV (E % 16) (B % 512) (T % 512) a a n = true then (t, a, p, ty, (exactV a (a + n)).1, (exactV a (a + n)).2.1, (exactV a (a + n)).2.2.1) else (false, a, p, ty, E, B, T)
def sealV (t : Bool) (a p ty E B T n : Int) : Bool × Int × Int × Int × Int × Int × Int := (t && (decide (ty = 0) && decide (n % 8 ≠ 0)), a, p, n % 8, E, B, T)
def unsealV (t : Bool) (a p ty E B T : Int) : Bool × Int × Int × Int × Int × Int × Int := (t && decide (ty ≠ 0), a, p, 0, E, B, T)
/-- With another address; with lesser bounds; with fewer permissions. -/
def setAddrV (t : Bool) (a p ty E B T x : Int) : Bool × Int × Int × Int × Int × Int × Int := (t && (decide (ty = 0) && (capBase a E B == capBase x E B)), x, p, ty, E, B, T)
theorem setAddr_is (t : Bool) {a p ty E B T : Int} (h : Ok7 a p ty E B T) (x : Int) (x0 : 0 ≤ x) (x1 : x < 4294967296) : capa_SetAddr.f t a p ty E B T x = some (setAddrV t a p ty E B T x) := by
  unfold capa_SetAddr.f capa_open.f bounds_Keeps.f setAddrV
  rw [base_is E B T a h.e0 h.b0 h.a0 h.a1, base_is E B T x h.e0 h.b0 x0 x1]
  simp only [Option.bind_some]
  cases t
  · simp
  · by_cases e : ty = 0 <;> simp [e, capBase]
def andPermsV (t : Bool) (a p ty E B T m : Int) : Bool × Int × Int × Int × Int × Int × Int := (t && decide (ty = 0), a, ((p.toNat &&& (m % 256).toNat : Nat) : Int), ty, E, B, T)
theorem power_is (e : Int) (h0 : 0 ≤ e) (h1 : e ≤ 24) (k : Nat) (hk : 26 ≤ k) : bulwarkref02_power.f k e = some (2 ^ e.toNat) := by
  refine at_rounds (bulwarkref02_power.mono e) hk ?_
  have : e = 0 ∨ e = 1 ∨ e = 2 ∨ e = 3 ∨ e = 4 ∨ e = 5 ∨ e = 6 ∨ e = 7 ∨ e = 8 ∨ e = 9 ∨ e = 10 ∨ e = 11 ∨ e = 12 ∨ e = 13 ∨ e = 14 ∨ e = 15 ∨ e = 16 ∨ e = 17 ∨ e = 18 ∨ e = 19 ∨ e = 20 ∨ e = 21 ∨ e = 22 ∨ e = 23 ∨ e = 24 := by omega
  rcases this with h | h | h | h | h | h | h | h | h | h | h | h | h | h | h | h | h | h | h | h | h | h | h | h | h <;> subst h <;> decide +kernel
theorem rbase_is (E B T addr : Int) (hE : 0 ≤ E) (hB : 0 ≤ B) (ha : 0 ≤ addr) (ha' : addr < 4294967296) (k : Nat) (hk : 26 ≤ k) :
    bulwarkref02_Base.f k E B T addr = some (baseV (E % 16) (B % 512) addr) := by
  have he0 : 0 ≤ E % 16 := by omega
  have he1 : E % 16 < 16 := by omega
  have hl0 : 0 ≤ B % 512 := by omega
  have hl1 : B % 512 < 512 := by omega
  unfold bulwarkref02_Base.f
  rw [tmod_nn hE, tmod_nn hB]
  generalize E % 16 = e at he0 he1
  generalize B % 512 = low at hl0 hl1
  have a1 : addr % 18446744073709551616 = addr := by omega
  have a2 : low % 18446744073709551616 = low := by omega
  have a3 : wrap64 e = e := by unfold wrap64; omega
  have a4 : wrap64 (23 - e) = 23 - e := by unfold wrap64; omega
  simp only [u64w, a1, a2, a3, a4]
  rw [power_is e he0 (by omega) k hk, power_is (23 - e) (by omega) (by omega) k hk]
  simp only [Option.bind_some]
  have hp : (0 : Int) < 2 ^ e.toNat := Int.pow_pos (by decide)
  have hp5 : (512 : Int) * 2 ^ e.toNat % 18446744073709551616 = 512 * 2 ^ e.toNat := by
    rcases cases16 he0 he1 with h | h | h | h | h | h | h | h | h | h | h | h | h | h | h | h <;> subst h <;> rfl
  have hd : Int.tdiv addr (2 ^ e.toNat) % 18446744073709551616 = addr / 2 ^ e.toNat := by
    rw [tdiv_nn ha]
    have h1 := Int.ediv_nonneg ha (Int.le_of_lt hp)
    have h2 := Int.ediv_le_self (2 ^ e.toNat) ha
    omega
  have hd5 : Int.tdiv addr (512 * 2 ^ e.toNat) % 18446744073709551616 = addr / (512 * 2 ^ e.toNat) := by
    rw [tdiv_nn ha]
    have h1 := Int.ediv_nonneg ha (show (0 : Int) ≤ 512 * 2 ^ e.toNat by omega)
    have h2 := Int.ediv_le_self (512 * 2 ^ e.toNat) ha
    omega
  rw [hp5, hd, hd5, if_neg (by omega), if_neg (by omega), tmod_nn (Int.ediv_nonneg ha (by omega))]
  unfold baseV
  by_cases hm : addr / 2 ^ e.toNat % 512 < low
  · rw [if_pos hm, if_pos hm]
    by_cases hz : addr / (512 * 2 ^ e.toNat) = 0
    · rw [if_pos hz]
      rcases cases16 he0 he1 with h | h | h | h | h | h | h | h | h | h | h | h | h | h | h | h <;> subst h <;> simp at hz ⊢ <;> omega
    · rw [if_neg hz]
      rcases cases16 he0 he1 with h | h | h | h | h | h | h | h | h | h | h | h | h | h | h | h <;> subst h <;> simp at hz ⊢ <;> omega
  · rw [if_neg hm, if_neg hm]
    rcases cases16 he0 he1 with h | h | h | h | h | h | h | h | h | h | h | h | h | h | h | h <;> subst h <;> simp <;> omega
theorem rlen_is (E B T : Int) (hE : 0 ≤ E) (hB : 0 ≤ B) (hT : 0 ≤ T) (k : Nat) (hk : 26 ≤ k) : bulwarkref02_Length.f k E B T = some (lenV (E % 16) (B % 512) (T % 512)) := by
  unfold bulwarkref02_Length.f
  rw [tmod_nn hE, tmod_nn hB, tmod_nn hT]
  simp only [u64w]
  unfold lenV
  have hb0 : 0 ≤ B % 512 := by omega
  have hb1 : B % 512 < 512 := by omega
  have ht0 : 0 ≤ T % 512 := by omega
  have ht1 : T % 512 < 512 := by omega
  have he0 : 0 ≤ E % 16 := by omega
  have he1 : E % 16 < 16 := by omega
  generalize E % 16 = e at he0 he1
  generalize B % 512 = b at hb0 hb1
  generalize T % 512 = t at ht0 ht1
  have a3 : wrap64 e = e := by unfold wrap64; omega
  have h1 : wrap64 (wrap64 t - wrap64 b) = t - b := by unfold wrap64; omega
  have h2 : wrap64 (t - b + 512) = t - b + 512 := by unfold wrap64; omega
  rw [a3, h1, h2, power_is e he0 (by omega) k hk]
  simp only [Option.bind_some]
  split <;>
  · congr 1
    rcases cases16 he0 he1 with h | h | h | h | h | h | h | h | h | h | h | h | h | h | h | h <;> subst h <;> simp <;> omega
theorem rex_loop (base top : Int) (hb : 0 ≤ base) (ht : base ≤ top) (ht' : top ≤ 65536) (n : Nat) : ∀ (k : Nat) (e : Int), 0 ≤ e → e + n = 9 → n + 26 < k → bulwarkref02_Exact.l0 k base top e = some (exFrom base top n e) := by
  induction n with
  | zero =>
    intro k e h0 h1 hk
    obtain ⟨k, rfl⟩ : ∃ m, k = m + 1 := ⟨k - 1, by omega⟩
    simp only [bulwarkref02_Exact.l0]
    rw [if_neg (by omega)]
    rfl
  | succ n ih =>
    intro k e h0 h1 hk
    obtain ⟨k, rfl⟩ : ∃ m, k = m + 1 := ⟨k - 1, by omega⟩
    have hn : e.toNat ≤ 8 := by omega
    have hp : (0 : Int) < 2 ^ e.toNat := Int.pow_pos (by decide)
    simp only [bulwarkref02_Exact.l0, exFrom]
    rw [if_pos (by omega), power_is e h0 (by omega) k (by omega)]
    simp only [Option.bind_some]
    have hw : IntKind.u64.wrap (top - base) = top - base := by rw [u64w]; omega
    have hr := ih k (e + 1) (by omega) (by omega) (by omega)
    have hw1 : wrap64 (e + 1) = e + 1 := by unfold wrap64; omega
    rw [if_neg (by omega), hw, hw1, hr, tmod_nn hb, tmod_nn (show 0 ≤ top by omega)]
    have hq : ∀ x : Int, 0 ≤ x → x ≤ 65536 → IntKind.u64.wrap (Int.tdiv x (2 ^ e.toNat)) = x / 2 ^ e.toNat := by
      intro x hx hx'
      rw [tdiv_nn hx, u64w]
      have h1 := Int.ediv_nonneg hx (Int.le_of_lt hp)
      have h2 := Int.ediv_le_self (2 ^ e.toNat) hx
      omega
    have hq2 : ∀ x : Int, 0 ≤ x → IntKind.u16.wrap (Int.tmod (x / 2 ^ e.toNat) 512) = x / 2 ^ e.toNat % 512 := by
      intro x hx
      have := Int.ediv_nonneg hx (Int.le_of_lt hp)
      rw [tmod_nn this, u16w]; omega
    rw [hq (top - base) (by omega) (by omega), hq base hb (by omega), hq top (by omega) ht', hq2 base hb, hq2 top (by omega), show e % 256 = e by omega]
    by_cases h : base % 2 ^ e.toNat = 0
    · by_cases h2 : top % 2 ^ e.toNat = 0
      · by_cases h' : (top - base) / 2 ^ e.toNat ≤ 511
        · rw [if_pos h, if_pos h2, if_pos h', if_pos ⟨h, h2, h'⟩]
        · rw [if_pos h, if_pos h2, if_neg h', if_neg (fun g => h' g.2.2)]
      · rw [if_pos h, if_neg h2, if_neg (fun g => h2 g.2.1)]
    · rw [if_neg h, if_neg (fun g => h g.1)]
theorem rexact_is (base top : Int) (hb : 0 ≤ base) (ht : 0 ≤ top) (k : Nat) (hk : 40 ≤ k) : bulwarkref02_Exact.f k base top = some (exactV base top) := by
  obtain ⟨k, rfl⟩ : ∃ m, k = m + 1 := ⟨k - 1, by omega⟩
  unfold bulwarkref02_Exact.f exactV
  by_cases h : top < base
  · rw [if_pos h, if_pos (.inl h)]; simp [bulwarkref02_Exact.j0]
  · rw [if_neg h]
    by_cases h' : top > 65536
    · rw [if_pos (.inr h')]; simp [bulwarkref02_Exact.j0, h']
    · rw [if_neg (by omega)]
      simp only [bulwarkref02_Exact.j0, h', decide_false]
      exact rex_loop base top hb (by omega) (by omega) 9 k 0 (by omega) (by omega) (by omega)
theorem rsetAddr_is (t : Bool) {a p ty E B T : Int} (h : Ok7 a p ty E B T) (x : Int) (x0 : 0 ≤ x) (x1 : x < 4294967296) (k : Nat) (hk : 26 ≤ k) : bulwarkref03_SetAddr.f k t a p ty E B T x = some (setAddrV t a p ty E B T x) := by
  unfold bulwarkref03_SetAddr.f bulwarkref02_Keeps.f setAddrV
  rw [rbase_is E B T a h.e0 h.b0 h.a0 h.a1 k hk, rbase_is E B T x h.e0 h.b0 x0 x1 k hk]
  simp only [Option.bind_some]
  by_cases e : ty = 0
  · by_cases e2 : (baseV (E % 16) (B % 512) a == baseV (E % 16) (B % 512) x) = true
    · rw [if_pos e, if_pos e2]; simp [e, capBase, e2]
    · rw [if_pos e, if_neg e2]; simp [e, capBase, e2]
  · simp [e]


/-- A region's capability, or the error. -/
def tcapV (at_ n p x : Int) : Bool × Int × Int × Int × Int × Int × Int × Int :=
  let v := exactV at_ (at_ + n)
  if v.2.2.2 = 0 then
    (let r := setAddrV true (at_ % 4294967296) p 0 v.1 v.2.1 v.2.2.1 x
     if r.1 = true then (true, r.2.1, r.2.2.1, r.2.2.2.1, r.2.2.2.2.1, r.2.2.2.2.2.1, r.2.2.2.2.2.2, 0) else (false, 0, 0, 0, 0, 0, 0, 2))
  else (false, 0, 0, 0, 0, 0, 0, 5)
theorem ok_exact {base top p : Int} (hb : 0 ≤ base) (p0 : 0 ≤ p) (p1 : p < 256) (hz : (exactV base top).2.2.2 = 0) : Ok7 (base % 4294967296) p 0 (exactV base top).1 (exactV base top).2.1 (exactV base top).2.2.1 := by
  obtain ⟨_, _, j, j0, j1, he, _, _⟩ := exact_back base top hb hz
  rw [he]
  exact ⟨by omega, by omega, p0, p1, by omega, by omega, j0, by show j < 256; omega, by show 0 ≤ base / 2 ^ j.toNat % 512; omega, by show base / 2 ^ j.toNat % 512 < 65536; omega, by show 0 ≤ top / 2 ^ j.toNat % 512; omega, by show top / 2 ^ j.toNat % 512 < 65536; omega⟩
theorem rroot_is (base top p : Int) (hb : 0 ≤ base) (ht : 0 ≤ top) (k : Nat) (hk : 40 ≤ k) : bulwarkref03_Root.f k base top p =
    some (if (exactV base top).2.2.2 = 0 then (true, base % 4294967296, p, 0, (exactV base top).1, (exactV base top).2.1, (exactV base top).2.2.1, 0) else (false, 0, 0, 0, 0, 0, 0, (exactV base top).2.2.2)) := by
  unfold bulwarkref03_Root.f
  rw [rexact_is base top hb ht k hk]
  simp only [Option.bind_some]
  split <;> rfl
theorem tcap_is (q o at_ n p x : Int) (a0 : 0 ≤ at_) (a1 : at_ < 4294967296) (n0 : 0 ≤ n) (n1 : n < 4294967296) (p0 : 0 ≤ p) (p1 : p < 256) (x0 : 0 ≤ x) (x1 : x < 4294967296) (k : Nat) (hk : 40 ≤ k) :
    tables_Cap.f k q o at_ n p x = some (tcapV at_ n p x) := by
  unfold tables_Cap.f tcapV
  rw [wraps_u64' at_ (by omega) (by omega), wraps_u64' n (by omega) (by omega), wraps_u64' (at_ + n) (by omega) (by omega), root_is at_ (at_ + n) p a0 (by omega) k (by omega)]
  simp only [Option.bind_some]
  by_cases e : (exactV at_ (at_ + n)).2.2.2 = 0
  · rw [if_pos e, if_pos e]
    simp only [if_true]
    rw [setAddr_is true (ok_exact a0 p0 p1 e) x x0 x1]
    simp only [Option.bind_some]
    cases hr : (setAddrV true (at_ % 4294967296) p 0 (exactV at_ (at_ + n)).1 (exactV at_ (at_ + n)).2.1 (exactV at_ (at_ + n)).2.2.1 x).1
    · rfl
    · rfl
  · rw [if_neg e, if_neg e]
    rw [if_neg e]
theorem rtcap_is (q o at_ n p x : Int) (a0 : 0 ≤ at_) (a1 : at_ < 4294967296) (n0 : 0 ≤ n) (n1 : n < 4294967296) (p0 : 0 ≤ p) (p1 : p < 256) (x0 : 0 ≤ x) (x1 : x < 4294967296) (k : Nat) (hk : 40 ≤ k) :
    bulwarkref18_Cap.f k q o at_ n p x = some (tcapV at_ n p x) := by
  unfold bulwarkref18_Cap.f tcapV
  rw [wraps_u64' at_ (by omega) (by omega), wraps_u64' n (by omega) (by omega), wraps_u64' (at_ + n) (by omega) (by omega), rroot_is at_ (at_ + n) p a0 (by omega) k (by omega)]
  simp only [Option.bind_some]
  by_cases e : (exactV at_ (at_ + n)).2.2.2 = 0
  · rw [if_pos e, if_pos e]
    simp only [if_true]
    rw [rsetAddr_is true (ok_exact a0 p0 p1 e) x x0 x1 k (by omega)]
    simp only [Option.bind_some]
    cases hr : (setAddrV true (at_ % 4294967296) p 0 (exactV at_ (at_ + n)).1 (exactV at_ (at_ + n)).2.1 (exactV at_ (at_ + n)).2.2.1 x).1
    · rfl
    · rfl
  · rw [if_neg e, if_neg e]
    rw [if_neg e]
/-- The first region of a kind, an owner. -/
def tregV (l : List S25) (a1 a2 : Int) : Int × Int × Int × Int × Bool := match l.find? (tables_Region.p a1 a2) with
  | some x => (x.f0, x.f1, x.f2, x.f3, true)
  | none => (0, 0, 0, 0, false)
theorem treg_is (l : List S25) (a1 a2 : Int) : tables_Region.f l a1 a2 = some (tregV l a1 a2) := by
  unfold tables_Region.f tregV; cases l.find? (tables_Region.p a1 a2) <;> rfl
theorem rtreg_loop (l : List S25) (a1 a2 : Int) (hl : l.length ≤ 9223372036854775807) (d : Nat) : ∀ (k : Nat) (i : Int), 0 ≤ i → i + d = l.length → d < k → (l.take i.toNat).find? (tables_Region.p a1 a2) = none → bulwarkref18_Region.l0 k l a1 a2 i = some (tregV l a1 a2) := by
  induction d with
  | zero =>
    intro k i h0 h1 hk hf
    obtain ⟨k, rfl⟩ : ∃ m, k = m + 1 := ⟨k - 1, by omega⟩
    simp only [bulwarkref18_Region.l0]
    rw [if_neg (by omega)]
    rw [List.take_of_length_le (by omega)] at hf
    unfold tregV
    rw [hf]
  | succ d ih =>
    intro k i h0 h1 hk hf
    obtain ⟨k, rfl⟩ : ∃ m, k = m + 1 := ⟨k - 1, by omega⟩
    have hi : i.toNat < l.length := by omega
    have hw : wrap64 (i + 1) = i + 1 := by unfold wrap64; omega
    have hst := find_step hi hf
    rw [Int.toNat_of_nonneg h0] at hst
    have hto : (i + 1).toNat = i.toNat + 1 := by omega
    simp only [bulwarkref18_Region.l0]
    rw [if_pos (by omega), if_pos h0, hw]
    have hne : ∀ g : tables_Region.p a1 a2 (rd_T25 l i) = false, bulwarkref18_Region.l0 k l a1 a2 (i + 1) = some (tregV l a1 a2) := by
      intro g
      rw [g] at hst
      exact ih k (i + 1) (by omega) (by omega) (by omega) (by rw [hto, hst]; rfl)
    by_cases c1 : (rd_T25 l i).f0 = a1
    · rw [if_pos c1]
      by_cases c2 : (rd_T25 l i).f1 = a2
      · rw [if_pos c2]
        have hp : tables_Region.p a1 a2 (rd_T25 l i) = true := by unfold tables_Region.p; simp [c1, c2]
        rw [hp, if_pos rfl] at hst
        unfold tregV
        rw [find_some_take hst]
      · rw [if_neg c2]
        exact hne (by unfold tables_Region.p; simp [c2])
    · rw [if_neg c1]
      exact hne (by unfold tables_Region.p; simp [c1])
theorem rtreg_is (l : List S25) (a1 a2 : Int) (hl : l.length ≤ 9223372036854775807) (k : Nat) (hk : l.length < k) : bulwarkref18_Region.f k l a1 a2 = some (tregV l a1 a2) := by
  unfold bulwarkref18_Region.f
  exact rtreg_loop l a1 a2 hl l.length k 0 (by omega) (by omega) hk rfl
theorem tworks40 : bulwarklaw18_works.f 40 = some true := by decide +kernel
theorem tworks_is (k : Nat) (hk : 40 ≤ k) : bulwarklaw18_works.f k = some true := by
  obtain ⟨d, rfl⟩ : ∃ d, k = 40 + d := ⟨k - 40, by omega⟩
  clear hk
  induction d with
  | zero => exact tworks40
  | succ d ih => exact bulwarklaw18_works.mono (40 + d) _ ih
theorem tcap_base (at_ n p : Int) (a0 : 0 ≤ at_) (a1 : at_ < 4294967296) :
    tcapV at_ n p at_ = if (exactV at_ (at_ + n)).2.2.2 = 0 then (true, at_, p, 0, (exactV at_ (at_ + n)).1, (exactV at_ (at_ + n)).2.1, (exactV at_ (at_ + n)).2.2.1, 0) else (false, 0, 0, 0, 0, 0, 0, 5) := by
  unfold tcapV
  simp only
  by_cases e : (exactV at_ (at_ + n)).2.2.2 = 0
  · rw [if_pos e, if_pos e]
    have hm : at_ % 4294967296 = at_ := by omega
    rw [hm]
    unfold setAddrV
    simp
  · rw [if_neg e, if_neg e]
theorem tcap_in (at_ n p x : Int) (a0 : 0 ≤ at_) (a1 : at_ < 4294967296) (h : at_ ≤ x) (hn : x < at_ + n) (e : (exactV at_ (at_ + n)).2.2.2 = 0) :
    tcapV at_ n p x = (true, x, p, 0, (exactV at_ (at_ + n)).1, (exactV at_ (at_ + n)).2.1, (exactV at_ (at_ + n)).2.2.1, 0) ∧
    setAddrV true at_ p 0 (exactV at_ (at_ + n)).1 (exactV at_ (at_ + n)).2.1 (exactV at_ (at_ + n)).2.2.1 x = (true, x, p, 0, (exactV at_ (at_ + n)).1, (exactV at_ (at_ + n)).2.1, (exactV at_ (at_ + n)).2.2.1) := by
  obtain ⟨_, _, j, j0, j1, he, hb, _⟩ := exact_back at_ (at_ + n) a0 e
  have hm : at_ % 4294967296 = at_ := by omega
  have h2 : setAddrV true at_ p 0 (exactV at_ (at_ + n)).1 (exactV at_ (at_ + n)).2.1 (exactV at_ (at_ + n)).2.2.1 x = (true, x, p, 0, (exactV at_ (at_ + n)).1, (exactV at_ (at_ + n)).2.1, (exactV at_ (at_ + n)).2.2.1) := by
    rw [he]
    have h3 := hb 0 (by omega) (by omega)
    have h4 := hb (x - at_) (by omega) (by omega)
    rw [show at_ + (x - at_) = x by omega] at h4
    rw [show at_ + 0 = at_ by omega] at h3
    rw [Int.emod_emod_of_dvd _ (Int.dvd_refl 512)] at h3 h4
    unfold setAddrV capBase
    simp [h3, h4]
  refine ⟨?_, h2⟩
  unfold tcapV
  simp only
  rw [if_pos e, hm, h2]
  simp
theorem tregV_ok (l : List S25) (a1 a2 : Int) (hk : ∀ y ∈ l, (0 ≤ y.f2 ∧ y.f2 < 4294967296) ∧ 0 ≤ y.f3 ∧ y.f3 < 4294967296) :
    (0 ≤ (tregV l a1 a2).2.2.1 ∧ (tregV l a1 a2).2.2.1 < 4294967296) ∧ 0 ≤ (tregV l a1 a2).2.2.2.1 ∧ (tregV l a1 a2).2.2.2.1 < 4294967296 := by
  unfold tregV
  split
  · rename_i x hx
    exact hk x (List.mem_of_find?_eq_some hx)
  · simp
theorem mreg_is (l : List S25) (e a1 a2 : Int) : tables_maker_region.f l e a1 a2 = some ((tregV l a1 a2).1, (tregV l a1 a2).2.1, (tregV l a1 a2).2.2.1, (tregV l a1 a2).2.2.2.1, if (tregV l a1 a2).2.2.2.2 = true then e else 6) := by
  unfold tables_maker_region.f
  rw [treg_is]
  simp only [Option.bind_some]
  split
  · rfl
  · unfold tables_maker_fail.f
    by_cases h : e = 0
    · rw [if_pos h]; rfl
    · rw [if_neg h, if_pos rfl]; rfl
/-- What an error becomes. -/
def failV (e x : Int) : Int := if e = 0 then x else e
theorem mcap_is (l : List S25) (e q o at_ n p : Int) (a0 : 0 ≤ at_) (a1 : at_ < 4294967296) (n0 : 0 ≤ n) (n1 : n < 4294967296) (p0 : 0 ≤ p) (p1 : p < 256) (k : Nat) (hk : 40 ≤ k) :
    tables_maker_cap.f k l e q o at_ n p = if (exactV at_ (at_ + n)).2.2.2 = 0 then some (true, at_, p, 0, (exactV at_ (at_ + n)).1, (exactV at_ (at_ + n)).2.1, (exactV at_ (at_ + n)).2.2.1, e)
      else some (false, 0, 0, 0, 0, 0, 0, failV e 5) := by
  unfold tables_maker_cap.f
  rw [tcap_is q o at_ n p at_ a0 a1 n0 n1 p0 p1 a0 a1 k hk, tcap_base at_ n p a0 a1]
  simp only [Option.bind_some]
  by_cases h : (exactV at_ (at_ + n)).2.2.2 = 0
  · rw [if_pos h, if_pos h]; rfl
  · rw [if_neg h, if_neg h]
    unfold tables_maker_fail.f failV
    by_cases g : e = 0
    · simp [g]
    · simp [g]
theorem seal_c (a p E B T : Int) : capa_Seal.f true a p 0 E B T 3 = some (true, a, p, 3, E, B, T) := by
  unfold capa_Seal.f capa_open.f
  simp
theorem seal_r (a p E B T : Int) : bulwarkref03_Seal.f true a p 0 E B T 3 = some (true, a, p, 3, E, B, T) := by
  unfold bulwarkref03_Seal.f
  simp
/-- An entry, or the error. -/
def entV (l : List S25) (o x args st : Int) : List S66 × Int × Int :=
  let c := tregV l 6 o
  let d := tregV l 7 o
  let u := exactV c.2.2.1 (c.2.2.1 + c.2.2.2.1)
  let v := exactV d.2.2.1 (d.2.2.1 + d.2.2.2.1)
  if c.2.2.2.2 = true ∧ d.2.2.2.2 = true then
    if u.2.2.2 = 0 ∧ v.2.2.2 = 0 then
      if x < c.2.2.1 ∨ c.2.2.1 + c.2.2.2.1 ≤ x ∨ args < 0 ∨ 6 < args ∨ st < 0 ∨ 4088 < st then ([], 0, 2)
      else ([⟨0, ⟨true, x, 29, 3, ⟨u.1, u.2.1, u.2.2.1⟩⟩⟩, ⟨8, ⟨true, d.2.2.1, 23, 0, ⟨v.1, v.2.1, v.2.2.1⟩⟩⟩], (wrap64 (args + (wrap64 (256 * st)))) % 4294967296, 0)
    else ([], 0, 5)
  else ([], 0, 6)
theorem entry_is (l : List S25) (o x args st : Int) (hk : ∀ y ∈ l, (0 ≤ y.f2 ∧ y.f2 < 4294967296) ∧ 0 ≤ y.f3 ∧ y.f3 < 4294967296) (x0 : 0 ≤ x) (x1 : x < 4294967296) (k : Nat) (hk4 : 40 ≤ k) :
    tables_Entry.f k l o x args st = some (entV l o x args st) := by
  obtain ⟨⟨c0, c1⟩, c2, c3⟩ := tregV_ok l 6 o hk
  obtain ⟨⟨d0, d1⟩, d2, d3⟩ := tregV_ok l 7 o hk
  unfold tables_Entry.f entV
  rw [mreg_is]
  simp only [Option.bind_some]
  rw [mreg_is]
  simp only [Option.bind_some]
  rw [mcap_is l _ _ _ _ _ 29 c0 c1 c2 c3 (by decide) (by decide) k hk4]
  generalize (tregV l 6 o).2.2.2.2 = fc
  generalize (tregV l 7 o).2.2.2.2 = fd
  generalize (tregV l 6 o).2.2.1 = ca at *
  generalize (tregV l 6 o).2.2.2.1 = cn at *
  generalize (tregV l 7 o).2.2.1 = da at *
  generalize (tregV l 7 o).2.2.2.1 = dn at *
  have hin : ∀ e1 : Int, (tables_maker_cap.f k l e1 (tregV l 7 o).1 (tregV l 7 o).2.1 da dn 23) = if (exactV da (da + dn)).2.2.2 = 0 then some (true, da, 23, 0, (exactV da (da + dn)).1, (exactV da (da + dn)).2.1, (exactV da (da + dn)).2.2.1, e1)
      else some (false, 0, 0, 0, 0, 0, 0, failV e1 5) := fun e1 => mcap_is l e1 _ _ da dn 23 d0 d1 d2 d3 (by decide) (by decide) k hk4
  have hw : ca ≤ x → IntKind.u32.wrap (x - ca) = x - ca := fun h => by simp [IntKind.wrap, IntKind.bits, IntKind.signed]; omega
  by_cases hu : (exactV ca (ca + cn)).2.2.2 = 0
  · by_cases hv : (exactV da (da + dn)).2.2.2 = 0
    · cases fc <;> cases fd
      · simp [hu, hv, hin]
      · simp [hu, hv, hin]
      · simp [hu, hv, hin]
      · simp only [hu, hv, hin, Option.bind_some, if_true, and_self]
        by_cases hb : x < ca ∨ ca + cn ≤ x ∨ args < 0 ∨ 6 < args ∨ st < 0 ∨ 4088 < st
        · rw [if_pos hb, if_pos (by
            by_cases h1 : x < ca
            · exact .inl h1
            · rcases hb with hb | hb | hb
              · exact .inl hb
              · exact .inr (.inl (by rw [hw (by omega)]; omega))
              · exact .inr (.inr hb))]
        · rw [if_neg hb]
          simp only [not_or] at hb
          obtain ⟨h1, h2, h3⟩ := hb
          rw [if_neg (by
            simp only [not_or]
            exact ⟨h1, by rw [hw (by omega)]; omega, h3⟩)]
          obtain ⟨_, hs⟩ := tcap_in ca cn 29 x c0 c1 (by omega) (by omega) hu
          have hok := ok_exact (p := 29) c0 (by decide) (by decide) hu
          rw [show ca % 4294967296 = ca by omega] at hok
          rw [setAddr_is true hok x x0 x1, hs]
          simp only [Option.bind_some]
          rw [seal_c]
          rfl
    · cases fc <;> cases fd <;> simp [hu, hv, hin, failV]
  · by_cases hv : (exactV da (da + dn)).2.2.2 = 0
    · cases fc <;> cases fd <;> simp [hu, hv, hin, failV]
    · cases fc <;> cases fd <;> simp [hu, hv, hin, failV]
theorem rentry_is (l : List S25) (hl : l.length ≤ 9223372036854775807) (o x args st : Int) (hk : ∀ y ∈ l, (0 ≤ y.f2 ∧ y.f2 < 4294967296) ∧ 0 ≤ y.f3 ∧ y.f3 < 4294967296) (x0 : 0 ≤ x) (x1 : x < 4294967296) (k : Nat) (hk4 : l.length + 50 ≤ k) :
    bulwarkref18_Entry.f k l o x args st = some (entV l o x args st) := by
  obtain ⟨k, rfl⟩ : ∃ m, k = m + 4 := ⟨k - 4, by omega⟩
  obtain ⟨⟨c0, c1⟩, c2, c3⟩ := tregV_ok l 6 o hk
  obtain ⟨⟨d0, d1⟩, d2, d3⟩ := tregV_ok l 7 o hk
  unfold bulwarkref18_Entry.f entV
  rw [rtreg_is l 6 o hl (k + 4) (by omega), rtreg_is l 7 o hl (k + 4) (by omega)]
  simp only [Option.bind_some]
  generalize (tregV l 6 o).2.2.2.2 = fc
  generalize (tregV l 7 o).2.2.2.2 = fd
  generalize (tregV l 6 o).2.2.1 = ca at *
  generalize (tregV l 6 o).2.2.2.1 = cn at *
  generalize (tregV l 7 o).2.2.1 = da at *
  generalize (tregV l 7 o).2.2.2.1 = dn at *
  have hj2 : ∀ b : Bool, bulwarkref18_Entry.j2 (k + 2) x args st b (tregV l 6 o).1 (tregV l 6 o).2.1 ca cn true da 23 0 (exactV da (da + dn)).1 (exactV da (da + dn)).2.1 (exactV da (da + dn)).2.2.1 =
      if b = true then some ([], 0, 2) else ((bulwarkref18_Cap.f (k + 1) (tregV l 6 o).1 (tregV l 6 o).2.1 ca cn 29 x).bind fun bt => (bulwarkref03_Seal.f bt.1 bt.2.1 bt.2.2.1 bt.2.2.2.1 bt.2.2.2.2.1 bt.2.2.2.2.2.1 bt.2.2.2.2.2.2.1 3).bind fun q =>
        some ([⟨0, ⟨q.1, q.2.1, q.2.2.1, q.2.2.2.1, ⟨q.2.2.2.2.1, q.2.2.2.2.2.1, q.2.2.2.2.2.2⟩⟩⟩, ⟨8, ⟨true, da, 23, 0, ⟨(exactV da (da + dn)).1, (exactV da (da + dn)).2.1, (exactV da (da + dn)).2.2.1⟩⟩⟩], (wrap64 (args + (wrap64 (256 * st)))) % 4294967296, 0)) := by
    intro b
    cases b <;> simp [bulwarkref18_Entry.j2]
  have hj0 : ∀ b : Bool, bulwarkref18_Entry.j0 (k + 4) x args st b (tregV l 6 o).1 (tregV l 6 o).2.1 ca cn (tregV l 7 o).1 (tregV l 7 o).2.1 da dn =
      if b = true then some ([], 0, 6) else if (exactV ca (ca + cn)).2.2.2 = 0 ∧ (exactV da (da + dn)).2.2.2 = 0 then bulwarkref18_Entry.j2 (k + 2) x args st (decide (x < ca ∨ ca + cn ≤ x ∨ args < 0 ∨ 6 < args ∨ st < 0 ∨ 4088 < st)) (tregV l 6 o).1 (tregV l 6 o).2.1 ca cn true da 23 0 (exactV da (da + dn)).1 (exactV da (da + dn)).2.1 (exactV da (da + dn)).2.2.1
        else some ([], 0, 5) := by
    intro b
    cases b
    · simp only [bulwarkref18_Entry.j0]
      rw [rtcap_is _ _ ca cn 29 ca c0 c1 c2 c3 (by decide) (by decide) c0 c1 (k + 3) (by omega), rtcap_is _ _ da dn 23 da d0 d1 d2 d3 (by decide) (by decide) d0 d1 (k + 3) (by omega), tcap_base ca cn 29 c0 c1, tcap_base da dn 23 d0 d1]
      simp only [Option.bind_some, Bool.false_eq_true, if_false]
      by_cases hu : (exactV ca (ca + cn)).2.2.2 = 0
      · by_cases hv : (exactV da (da + dn)).2.2.2 = 0
        · have huv : (exactV ca (ca + cn)).2.2.2 = 0 ∧ (exactV da (da + dn)).2.2.2 = 0 := ⟨hu, hv⟩
          rw [if_pos huv, if_pos hu, if_pos hv]
          simp only [if_true, bne_self_eq_false]
          simp only [bulwarkref18_Entry.j1, Bool.false_eq_true, if_false]
          rw [wraps_u64' x x0 (by omega), wraps_u64' ca c0 (by omega), wraps_u64' cn c2 (by omega), wraps_u64' (ca + cn) (by omega) (by omega)]
          by_cases h1 : x < ca
          · rw [if_pos h1, decide_eq_true (.inl h1)]
          rw [if_neg h1]
          by_cases h2 : x ≥ ca + cn
          · rw [if_pos h2, decide_eq_true (.inr (.inl h2))]
          rw [if_neg h2]
          by_cases h3 : args < 0
          · rw [if_pos h3, decide_eq_true (.inr (.inr (.inl h3)))]
          rw [if_neg h3]
          by_cases h4 : args > 6
          · rw [if_pos h4, decide_eq_true (.inr (.inr (.inr (.inl h4))))]
          rw [if_neg h4]
          by_cases h5 : st < 0
          · rw [if_pos h5, decide_eq_true (.inr (.inr (.inr (.inr (.inl h5)))))]
          rw [if_neg h5]
          congr 1
          simp only [gt_iff_lt, decide_eq_decide]
          constructor
          · exact fun h => .inr (.inr (.inr (.inr (.inr h))))
          · intro h
            omega
        · have huv : ¬ ((exactV ca (ca + cn)).2.2.2 = 0 ∧ (exactV da (da + dn)).2.2.2 = 0) := fun h => hv h.2
          rw [if_neg huv, if_pos hu, if_neg hv]
          simp only [if_true]
          simp [bulwarkref18_Entry.j1]
      · have huv : ¬ ((exactV ca (ca + cn)).2.2.2 = 0 ∧ (exactV da (da + dn)).2.2.2 = 0) := fun h => hu h.1
        rw [if_neg huv, if_neg hu]
        simp only [show ¬ ((5 : Int) = 0) by decide, if_false]
        simp only [bulwarkref18_Entry.j1]
        by_cases hv : (exactV da (da + dn)).2.2.2 = 0 <;> simp [hv]
    · simp [bulwarkref18_Entry.j0]
  cases fc <;> cases fd
  · simp only [Bool.not_true, Bool.not_false, if_true, Bool.false_eq_true, if_false, false_and, and_false, and_self]
    rw [hj0]; simp
  · simp only [Bool.not_true, Bool.not_false, if_true, Bool.false_eq_true, if_false, false_and, and_false, and_self]
    rw [hj0]; simp
  · simp only [Bool.not_true, Bool.not_false, if_true, Bool.false_eq_true, if_false, false_and, and_false, and_self]
    rw [hj0]; simp
  · simp only [Bool.not_true, if_true, and_self]
    rw [hj0]
    simp only [Bool.false_eq_true, if_false]
    by_cases huv : (exactV ca (ca + cn)).2.2.2 = 0 ∧ (exactV da (da + dn)).2.2.2 = 0
    · rw [if_pos huv, if_pos huv, hj2]
      by_cases hb : x < ca ∨ ca + cn ≤ x ∨ args < 0 ∨ 6 < args ∨ st < 0 ∨ 4088 < st
      · rw [if_pos hb, if_pos (decide_eq_true hb)]
      · rw [if_neg hb, if_neg (by simpa using hb)]
        simp only [not_or] at hb
        obtain ⟨h1, h2, h3⟩ := hb
        obtain ⟨hs, _⟩ := tcap_in ca cn 29 x c0 c1 (by omega) (by omega) huv.1
        rw [rtcap_is _ _ ca cn 29 x c0 c1 c2 c3 (by decide) (by decide) x0 x1 (k + 1) (by omega), hs]
        simp only [Option.bind_some]
        rw [seal_r]
        rfl
    · rw [if_neg huv, if_neg huv]
theorem fills_same (k : Nat) (xs : List S66) (h : xs.length ≤ 2) (hk : 4 ≤ k) : bulwarklaw18_fills.f k xs xs = some true := by
  obtain ⟨k, rfl⟩ : ∃ m, k = m + 4 := ⟨k - 4, by omega⟩
  unfold bulwarklaw18_fills.f
  rw [if_pos rfl]
  match xs, h with
  | [], _ => simp [bulwarklaw18_fills.l0]
  | [x], _ =>
    have hw : wrap64 1 = 1 := by unfold wrap64; omega
    simp [bulwarklaw18_fills.l0, hw]
  | [x, y], _ =>
    have hw : wrap64 1 = 1 := by unfold wrap64; omega
    have hw2 : wrap64 2 = 2 := by unfold wrap64; omega
    simp [bulwarklaw18_fills.l0, hw, hw2]
theorem entV_len (l : List S25) (o x args st : Int) : (entV l o x args st).1.length ≤ 2 := by
  unfold entV
  simp only
  repeat' split
  all_goals simp
theorem TablesEntries (l : List S25) (hl : l.length ≤ 9223372036854775807) (o x args st : Int) (hk : ∀ y ∈ l, (0 ≤ y.f2 ∧ y.f2 < 4294967296) ∧ 0 ≤ y.f3 ∧ y.f3 < 4294967296) (x0 : 0 ≤ x) (x1 : x < 4294967296) :
    ∃ k, bulwarklaw18_TablesEntries.f k l o x args st = some true := by
  refine ⟨l.length + 60, ?_⟩
  unfold bulwarklaw18_TablesEntries.f
  rw [entry_is l o x args st hk x0 x1 _ (by omega), rentry_is l hl o x args st hk x0 x1 _ (by omega)]
  simp only [Option.bind_some]
  rw [fills_same _ _ (entV_len _ _ _ _ _) (by omega), tworks_is _ (by omega)]
  simp only [Option.bind_some, if_true]
theorem walkEntries (A : Option Addr) (len cap : Nat) (l : List S25) (o x args st : Int) (W : World) (hlen : l.length = len) (hcap : len ≤ cap) (hC : Kd.C k25 W A len l) (hK : ∀ y ∈ l, Open.OkR y)
    (w2 : (Lit.int .i64 o).wf = true) (w3 : (Lit.int .u32 x).wf = true) (w4 : (Lit.int .i64 args).wf = true) (w5 : (Lit.int .i64 st).wf = true) :
    Calls Try.prog 4 #[.slice A len cap, .int .i64 o, .int .u32 x, .int .i64 args, .int .i64 st] W fun e w' => e = .returned (.bool true) ∧ Below W.heap.size W w' := by
  subst hlen
  have h3 := Go.bounds_u32 w3
  obtain ⟨k, hk⟩ := TablesEntries l hC.2.1 o x args st (fun y hy => by have h1 := Go.bounds_u32 (hK y hy).a0; have h2 := Go.bounds_u32 (hK y hy).n0; omega) (by omega) (by omega)
  exact bulwarklaw18_TablesEntries.calls k A cap l o x args st true W hC hcap hk rfl

end Go.Proofs.Ytegehkenmkmflaa.Pure
