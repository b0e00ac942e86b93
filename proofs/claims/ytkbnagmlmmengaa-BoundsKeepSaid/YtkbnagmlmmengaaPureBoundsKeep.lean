/- Keeping is the same in both directions and handed on, and an address keeps itself; no condition. -/
import Derived.Test.YtkbnagmlmmengaaPBoundsKeepx3
import Derived.OpenShut
namespace Go.Proofs.Ytkbnagmlmmengaa.Pure
open Go.RowKit Go.Proofs.Ytkbnagmlmmengaa.PBoundsKeep Go.Proofs.YtkbnagmlmmengaaW.PrintWords Go.Proofs.YtkbnagmlmmengaaW.PrintLast Go.Proofs.YtkbnagmlmmengaaW.PrintMore
set_option linter.unusedVariables false
set_option linter.unusedSimpArgs false
theorem u64w (n : Int) : IntKind.u64.wrap n = n % 18446744073709551616 := by simp [IntKind.wrap, IntKind.bits, IntKind.signed]
theorem u16w (n : Int) : IntKind.u16.wrap n = n % 65536 := by simp [IntKind.wrap, IntKind.bits, IntKind.signed]
theorem wraps_u64 (n : Int) (h₀ : 0 ≤ n) (h₁ : n < 2 ^ 64) : IntKind.u64.wrap n = n := by rw [u64w]; omega
theorem u64_mask (i : Nat) (hi : i ≤ 64) (x : Int) (h₀ : 0 ≤ x) (h₁ : x < 18446744073709551616) : Go.bits .and .u64 x (2 ^ i - 1) = x % 2 ^ i :=
  bits_mask .u64 64 (by decide) wraps_u64 i hi x h₀ (by simpa using h₁)
theorem tmod_nn {a b : Int} (h : 0 ≤ a) : Int.tmod a b = a % b := Int.tmod_eq_emod_of_nonneg h
theorem tdiv_nn {a b : Int} (h : 0 ≤ a) : Int.tdiv a b = a / b := Int.tdiv_eq_ediv_of_nonneg h
theorem mod_id {x m : Int} (h0 : 0 ≤ x) (h1 : x < m) : x % m = x := Int.emod_eq_of_lt h0 h1
theorem shl_at {x e : Int} (h0 : 0 ≤ e) (h1 : e ≤ 64) : shl .u64 x e = x * 2 ^ e.toNat % 18446744073709551616 := by
  unfold shl; rw [Nat.min_eq_left (by show e.toNat ≤ 64; omega), u64w]
theorem shr_at {x e : Int} (h0 : 0 ≤ e) (h1 : e ≤ 64) : shr .u64 x e = x / 2 ^ e.toNat := by
  unfold shr; rw [Nat.min_eq_left (by show e.toNat ≤ 64; omega)]

theorem cases16 {e : Int} (h0 : 0 ≤ e) (h1 : e < 16) : e = 0 ∨ e = 1 ∨ e = 2 ∨ e = 3 ∨ e = 4 ∨ e = 5 ∨ e = 6 ∨ e = 7 ∨ e = 8 ∨ e = 9 ∨ e = 10 ∨ e = 11 ∨ e = 12 ∨ e = 13 ∨ e = 14 ∨ e = 15 := by omega

/-- Where a capability begins. -/
def baseV (e low addr : Int) : Int :=
  if addr / 2 ^ e.toNat % 512 < low then (addr / 2 ^ (e.toNat + 9) - 1) % 2 ^ (23 - e.toNat) * 2 ^ (e.toNat + 9) + low * 2 ^ e.toNat
  else addr / 2 ^ (e.toNat + 9) * 2 ^ (e.toNat + 9) + low * 2 ^ e.toNat
/-- How long it is. -/
def lenV (e b t : Int) : Int := (t + 512 - b) % 512 * 2 ^ e.toNat

theorem base_is (E B T addr : Int) (hE : 0 ≤ E) (hB : 0 ≤ B) (ha : 0 ≤ addr) (ha' : addr < 4294967296) :
    bounds_Base.f E B T addr = some (baseV (E % 16) (B % 512) addr) := by
  have he0 : 0 ≤ E % 16 := by omega
  have he1 : E % 16 < 16 := by omega
  have hl0 : 0 ≤ B % 512 := by omega
  have hl1 : B % 512 < 512 := by omega
  unfold bounds_Base.f
  rw [tmod_nn hE, tmod_nn hB]
  generalize E % 16 = e at he0 he1
  generalize B % 512 = low at hl0 hl1
  have a1 : addr % 18446744073709551616 = addr := by omega
  have a2 : low % 18446744073709551616 = low := by omega
  have a3 : e % 18446744073709551616 = e := by omega
  have a4 : (e + 9) % 18446744073709551616 = e + 9 := by omega
  have a5 : (32 - e) % 18446744073709551616 = 32 - e := by omega
  have a6 : (32 - e - 9) % 18446744073709551616 = 32 - e - 9 := by omega
  have e9 : (e + 9).toNat = e.toNat + 9 := by omega
  have e23 : (32 - e - 9).toNat = 23 - e.toNat := by omega
  simp only [u64w, a1, a2, a3, a4, a5, a6]
  rw [if_pos he0, if_pos (show 0 ≤ e + 9 by omega), if_pos (show 0 ≤ 32 - e - 9 by omega)]
  simp only [shr_at he0 (show e ≤ 64 by omega), shr_at (show 0 ≤ e + 9 by omega) (show e + 9 ≤ 64 by omega), shl_at he0 (show e ≤ 64 by omega), shl_at (show 0 ≤ e + 9 by omega) (show e + 9 ≤ 64 by omega), shl_at (show 0 ≤ 32 - e - 9 by omega) (show 32 - e - 9 ≤ 64 by omega), e9, e23, Int.one_mul]
  have hp : (0 : Int) < 2 ^ e.toNat := Int.pow_pos (by decide)
  rw [tmod_nn (Int.ediv_nonneg ha (by omega))]
  unfold baseV
  have hm : ∀ x : Int, Go.bits .and .u64 (x % 18446744073709551616) ((2 ^ (23 - e.toNat) % 18446744073709551616 - 1) % 18446744073709551616) = x % 2 ^ (23 - e.toNat) := by
    intro x
    have h1 : ((2 : Int) ^ (23 - e.toNat) % 18446744073709551616 - 1) % 18446744073709551616 = 2 ^ (23 - e.toNat) - 1 := by
      rcases cases16 he0 he1 with h | h | h | h | h | h | h | h | h | h | h | h | h | h | h | h <;> subst h <;> rfl
    rw [h1, u64_mask _ (by omega) _ (by omega) (by omega)]
    rcases cases16 he0 he1 with h | h | h | h | h | h | h | h | h | h | h | h | h | h | h | h <;> subst h <;> simp <;> omega
  rw [hm]
  have key : ∀ q : Int, 0 ≤ q → q < 2 ^ (23 - e.toNat) → (q * 2 ^ (e.toNat + 9) % 18446744073709551616 + low * 2 ^ e.toNat % 18446744073709551616) % 18446744073709551616 = q * 2 ^ (e.toNat + 9) + low * 2 ^ e.toNat := by
    intro q q0 q1
    rcases cases16 he0 he1 with h | h | h | h | h | h | h | h | h | h | h | h | h | h | h | h <;> subst h <;> simp at q1 ⊢ <;> omega
  have hp' : (0 : Int) < 2 ^ (23 - e.toNat) := Int.pow_pos (by decide)
  split
  · rw [key _ (Int.emod_nonneg _ (by omega)) (Int.emod_lt_of_pos _ hp')]
  · rw [key]
    · exact Int.ediv_nonneg ha (Int.le_of_lt (Int.pow_pos (by decide)))
    · rcases cases16 he0 he1 with h | h | h | h | h | h | h | h | h | h | h | h | h | h | h | h <;> subst h <;> simp <;> omega

theorem len_is (E B T : Int) (hE : 0 ≤ E) (hB : 0 ≤ B) (hT : 0 ≤ T) : bounds_Length.f E B T = some (lenV (E % 16) (B % 512) (T % 512)) := by
  unfold bounds_Length.f
  rw [tmod_nn hE, tmod_nn hB, tmod_nn hT, if_pos (by omega), shl_at (by omega) (by omega)]
  simp only [u64w]
  unfold lenV
  have hb0 : 0 ≤ B % 512 := by omega
  have hb1 : B % 512 < 512 := by omega
  have ht0 : 0 ≤ T % 512 := by omega
  have ht1 : T % 512 < 512 := by omega
  have he0 : 0 ≤ E % 16 := by omega
  have he1 : E % 16 < 16 := by omega
  generalize E % 16 = e at he0 he1
  generalize B % 512 = b at hb0 hb1
  generalize T % 512 = t at ht0 ht1
  have h1 : ((t % 18446744073709551616 + 512) % 18446744073709551616 - b % 18446744073709551616) % 18446744073709551616 = t + 512 - b := by omega
  rw [h1, tmod_nn (by omega)]
  congr 1
  rcases cases16 he0 he1 with h | h | h | h | h | h | h | h | h | h | h | h | h | h | h | h <;> subst h <;> simp <;> omega

theorem orMask (a b : Int) (n : Nat) (hn : n ≤ 8) (ha : 0 ≤ a) (ha' : a < 18446744073709551616) (hb : 0 ≤ b) (hb' : b < 18446744073709551616) :
    Go.bits .and .u64 (Go.bits .or .u64 a b) ((2 ^ n % 18446744073709551616 - 1) % 18446744073709551616) = 0 ↔ a % 2 ^ n = 0 ∧ b % 2 ^ n = 0 := by
  have h1 : ((2 : Int) ^ n % 18446744073709551616 - 1) % 18446744073709551616 = 2 ^ n - 1 := by
    have : n = 0 ∨ n = 1 ∨ n = 2 ∨ n = 3 ∨ n = 4 ∨ n = 5 ∨ n = 6 ∨ n = 7 ∨ n = 8 := by omega
    rcases this with h | h | h | h | h | h | h | h | h <;> subst h <;> rfl
  obtain ⟨x, rfl⟩ := Int.eq_ofNat_of_zero_le ha
  obtain ⟨y, rfl⟩ := Int.eq_ofNat_of_zero_le hb
  have hx : x < 2 ^ 64 := by omega
  have hy : y < 2 ^ 64 := by omega
  have ho := (bits_nat .u64 64 (by decide) wraps_u64 x y hx hy).2
  have hlt : x ||| y < 2 ^ 64 := Nat.or_lt_two_pow hx hy
  rw [h1, ho, u64_mask n (by omega) _ (by omega) (by omega)]
  have hc : (2 : Int) ^ n = ((2 ^ n : Nat) : Int) := by simp
  rw [hc]
  have : ((x ||| y : Nat) : Int) % ((2 ^ n : Nat) : Int) = (((x ||| y) % 2 ^ n : Nat) : Int) := by rw [Int.natCast_emod]
  rw [this, Nat.or_mod_two_pow, ← Int.natCast_emod, ← Int.natCast_emod]
  have h2 := @Nat.or_eq_zero_iff (x % 2 ^ n) (y % 2 ^ n)
  omega

/-- The least exponent from e on that fits. -/
def exFrom (base top : Int) : Nat → Int → Int × Int × Int × Int
  | 0, _ => (0, 0, 0, 5)
  | n + 1, e => if base % 2 ^ e.toNat = 0 ∧ top % 2 ^ e.toNat = 0 ∧ (top - base) / 2 ^ e.toNat ≤ 511 then (e, base / 2 ^ e.toNat % 512, top / 2 ^ e.toNat % 512, 0) else exFrom base top n (e + 1)
def exactV (base top : Int) : Int × Int × Int × Int := if top < base ∨ 65536 < top then (0, 0, 0, 2) else exFrom base top 9 0

theorem ex_loop (base top : Int) (hb : 0 ≤ base) (ht : base ≤ top) (ht' : top ≤ 65536) (n : Nat) : ∀ (k : Nat) (e : Int), 0 ≤ e → e + n = 9 → n < k → bounds_Exact.l0 k base top e = some (exFrom base top n e) := by
  induction n with
  | zero =>
    intro k e h0 h1 hk
    obtain ⟨k, rfl⟩ : ∃ m, k = m + 1 := ⟨k - 1, by omega⟩
    simp only [bounds_Exact.l0]
    rw [if_neg (by omega)]
    rfl
  | succ n ih =>
    intro k e h0 h1 hk
    obtain ⟨k, rfl⟩ : ∃ m, k = m + 1 := ⟨k - 1, by omega⟩
    have hn : e.toNat ≤ 8 := by omega
    simp only [bounds_Exact.l0, exFrom]
    rw [if_pos (by omega), if_pos h0]
    have hs : IntKind.u64.wrap (shl .u64 1 e - 1) = (2 ^ e.toNat % 18446744073709551616 - 1) % 18446744073709551616 := by
      rw [shl_at h0 (by omega), u64w, Int.one_mul]
    have hw : IntKind.u64.wrap (top - base) = top - base := by rw [u64w]; omega
    have hr := ih k (e + 1) (by omega) (by omega) (by omega)
    have hw1 : IntKind.u64.wrap (e + 1) = e + 1 := by rw [u64w]; omega
    have hp : (0 : Int) < 2 ^ e.toNat := Int.pow_pos (by decide)
    rw [hs, hw, hw1, hr]
    simp only [orMask base top e.toNat hn hb (by omega) (by omega) (by omega), shr_at h0 (show e ≤ 64 by omega), u16w]
    have hq : ∀ x : Int, 0 ≤ x → Int.tmod (x / 2 ^ e.toNat) 512 % 65536 = x / 2 ^ e.toNat % 512 := by
      intro x hx
      have := Int.ediv_nonneg hx (Int.le_of_lt hp)
      rw [tmod_nn this]; omega
    rw [hq base hb, hq top (by omega), show e % 256 = e by omega]
    by_cases h : base % 2 ^ e.toNat = 0 ∧ top % 2 ^ e.toNat = 0
    · by_cases h' : (top - base) / 2 ^ e.toNat ≤ 511
      · rw [if_pos h, if_pos h', if_pos ⟨h.1, h.2, h'⟩]
      · rw [if_pos h, if_neg h', if_neg (fun g => h' g.2.2)]
    · rw [if_neg h, if_neg (fun g => h ⟨g.1, g.2.1⟩)]

theorem exact_is (base top : Int) (hb : 0 ≤ base) (ht : 0 ≤ top) (k : Nat) (hk : 12 ≤ k) : bounds_Exact.f k base top = some (exactV base top) := by
  obtain ⟨k, rfl⟩ : ∃ m, k = m + 1 := ⟨k - 1, by omega⟩
  unfold bounds_Exact.f exactV
  by_cases h : top < base
  · rw [if_pos h, if_pos (.inl h)]; simp [bounds_Exact.j0]
  · rw [if_neg h]
    by_cases h' : top > 65536
    · rw [if_pos (.inr h')]; simp [bounds_Exact.j0, h']
    · rw [if_neg (by omega)]
      simp only [bounds_Exact.j0, h', decide_false]
      exact ex_loop base top hb (by omega) (by omega) 9 k 0 (by omega) (by omega) (by omega)

theorem lives_is (k : Nat) (hk : 12 ≤ k) : bulwarklaw02_lives.f k = some true := by
  have h1 : exactV 0 65536 = (8, 0, 256, 0) := by decide +kernel
  have h2 : exactV 1 513 = (0, 0, 0, 5) := by decide +kernel
  have h3 : bounds_Length.f 8 0 256 = some 65536 := by decide +kernel
  have h4 : bounds_Base.f 0 5 9 517 = some 517 := by decide +kernel
  have h5 : bounds_Base.f 0 5 9 516 = some 5 := by decide +kernel
  unfold bulwarklaw02_lives.f
  rw [exact_is _ _ (by decide) (by decide) k hk, exact_is _ _ (by decide) (by decide) k hk, h1, h2]
  simp [h3, h4, h5]

theorem keeps_is (E B T x y : Int) (hE : 0 ≤ E) (hB : 0 ≤ B) (x0 : 0 ≤ x) (x1 : x < 4294967296) (y0 : 0 ≤ y) (y1 : y < 4294967296) :
    bounds_Keeps.f E B T x y = some (baseV (E % 16) (B % 512) x == baseV (E % 16) (B % 512) y) := by
  unfold bounds_Keeps.f
  rw [base_is E B T x hE hB x0 x1, base_is E B T y hE hB y0 y1]; rfl

theorem BoundsKeep (E B T x y z : Int) (hE : 0 ≤ E) (hB : 0 ≤ B) (x0 : 0 ≤ x) (x1 : x < 4294967296) (y0 : 0 ≤ y) (y1 : y < 4294967296) (z0 : 0 ≤ z) (z1 : z < 4294967296) :
    ∃ k, bulwarklaw02_BoundsKeep.f k E B T x y z = some true := by
  obtain ⟨k, hk⟩ : ∃ k : Nat, 40 ≤ k := ⟨40, Nat.le_refl _⟩
  refine ⟨k, ?_⟩
  unfold bulwarklaw02_BoundsKeep.f
  rw [keeps_is E B T x y hE hB x0 x1 y0 y1, keeps_is E B T x x hE hB x0 x1 x0 x1, keeps_is E B T y x hE hB y0 y1 x0 x1, keeps_is E B T y z hE hB y0 y1 z0 z1, keeps_is E B T x z hE hB x0 x1 z0 z1, lives_is k (by omega)]
  simp only [Option.bind_some]
  generalize baseV (E % 16) (B % 512) x = a
  generalize baseV (E % 16) (B % 512) y = b
  generalize baseV (E % 16) (B % 512) z = c
  have h1 : (a == a) = true := by simp
  have h2 : ((b == a) == (a == b)) = true := by
    by_cases h : a = b
    · subst h; simp
    · have h' : ¬ b = a := fun g => h g.symm
      rw [beq_eq_false_iff_ne.2 h, beq_eq_false_iff_ne.2 h']; rfl
  rw [if_pos h1, if_pos h2]
  by_cases h : a = b
  · subst h; simp
  · have : (a == b) = false := by simp [h]
    rw [this]; rfl

theorem walk (E B T x y z : Int) (W : World) (wE : (Lit.int .u8 E).wf = true) (wB : (Lit.int .u16 B).wf = true) (wT : (Lit.int .u16 T).wf = true) (wx : (Lit.int .u32 x).wf = true) (wy : (Lit.int .u32 y).wf = true) (wz : (Lit.int .u32 z).wf = true) :
    Calls Try.prog 6 #[.agg #[.int .u8 E, .int .u16 B, .int .u16 T], .int .u32 x, .int .u32 y, .int .u32 z] W fun e w' => e = .returned (.bool true) ∧ Below W.heap.size W w' := by
  have := Go.bounds_u8 wE; have := Go.bounds_u16 wB; have := Go.bounds_u32 wx; have := Go.bounds_u32 wy; have := Go.bounds_u32 wz
  obtain ⟨k, h⟩ := BoundsKeep E B T x y z (by omega) (by omega) (by omega) (by omega) (by omega) (by omega) (by omega) (by omega)
  exact bulwarklaw02_BoundsKeep.calls k E B T x y z true W h

end Go.Proofs.Ytkbnagmlmmengaa.Pure
