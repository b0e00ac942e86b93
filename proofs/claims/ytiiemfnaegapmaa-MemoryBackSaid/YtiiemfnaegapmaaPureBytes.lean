/- The bytes of a capability, and the capability of bytes: the code's and the reference's answers in one form. -/
import Derived.Test.YtiiemfnaegapmaaG4
import Derived.OpenShut
import Derived.Lib.EndianBits
namespace Go.Proofs.Ytiiemfnaegapmaa.Pure
open Go.RowKit Go.Proofs.Ytiiemfnaegapmaa.Q Go.Proofs.YtiiemfnaegapmaaW.PrintWords Go.Proofs.YtiiemfnaegapmaaW.PrintLast Go.Proofs.YtiiemfnaegapmaaW.PrintMore
set_option linter.unusedVariables false
set_option linter.unusedSimpArgs false
theorem u64w (n : Int) : IntKind.u64.wrap n = n % 18446744073709551616 := by simp [IntKind.wrap, IntKind.bits, IntKind.signed]
theorem u16w (n : Int) : IntKind.u16.wrap n = n % 65536 := by simp [IntKind.wrap, IntKind.bits, IntKind.signed]
theorem wraps_u64 (n : Int) (h₀ : 0 ≤ n) (h₁ : n < 2 ^ 64) : IntKind.u64.wrap n = n := by rw [u64w]; omega
theorem u64_mask (i : Nat) (hi : i ≤ 64) (x : Int) (h₀ : 0 ≤ x) (h₁ : x < 18446744073709551616) : Go.bits .and .u64 x (2 ^ i - 1) = x % 2 ^ i :=
  bits_mask .u64 64 (by decide) wraps_u64 i hi x h₀ (by simpa using h₁)
theorem tmod_nn {a b : Int} (h : 0 ≤ a) : Int.tmod a b = a % b := Int.tmod_eq_emod_of_nonneg h
theorem tdiv_nn {a b : Int} (h : 0 ≤ a) : Int.tdiv a b = a / b := Int.tdiv_eq_ediv_of_nonneg h
theorem mod_id {x m : Int} (h0 : 0 ≤ x) (h1 : x < m) : x % m = x := Int.emod_eq_of_lt h0 h1
theorem shl_at {x e : Int} (h0 : 0 ≤ e) (h1 : e ≤ 64) : shl .u64 x e = x * 2 ^ e.toNat % 18446744073709551616 := by
  unfold shl; rw [Nat.min_eq_left (by show e.toNat ≤ 64; omega), u64w]
theorem shr_at {x e : Int} (h0 : 0 ≤ e) (h1 : e ≤ 64) : shr .u64 x e = x / 2 ^ e.toNat := by
  unfold shr; rw [Nat.min_eq_left (by show e.toNat ≤ 64; omega)]

theorem cases16 {e : Int} (h0 : 0 ≤ e) (h1 : e < 16) : e = 0 ∨ e = 1 ∨ e = 2 ∨ e = 3 ∨ e = 4 ∨ e = 5 ∨ e = 6 ∨ e = 7 ∨ e = 8 ∨ e = 9 ∨ e = 10 ∨ e = 11 ∨ e = 12 ∨ e = 13 ∨ e = 14 ∨ e = 15 := by omega


theorem rd_at (l : List Int) (i : Int) (h0 : 0 ≤ i) (h1 : i.toNat < l.length) : rd l i = l[i.toNat] := by
  unfold rd; rw [List.getD_eq_getElem?_getD, List.getElem?_eq_getElem h1]; rfl
/-- The number of bytes, the lowest first. -/
def numOf : List Int → Int
  | [] => 0
  | c :: t => c + 256 * numOf t
def AllBytes (l : List Int) : Prop := ∀ x ∈ l, 0 ≤ x ∧ x ≤ 255
theorem pow8 (k : Nat) : (2 : Int) ^ (8 * (k + 1)) = 256 * 2 ^ (8 * k) := by
  rw [show 8 * (k + 1) = 8 * k + 8 by omega, Int.pow_add]; omega
theorem pow8_pos (k : Nat) : (0 : Int) < 2 ^ (8 * k) := Int.pow_pos (by decide)
theorem numOf_range (l : List Int) (h : AllBytes l) : 0 ≤ numOf l ∧ numOf l < 2 ^ (8 * l.length) := by
  induction l with
  | nil => simp [numOf]
  | cons c t ih =>
    have h1 := ih (fun x hx => h x (List.mem_cons_of_mem _ hx))
    have h2 := h c List.mem_cons_self
    rw [List.length_cons, pow8]
    unfold numOf
    omega
theorem numOf_snoc (l : List Int) (c : Int) : numOf (l ++ [c]) = numOf l + c * 2 ^ (8 * l.length) := by
  induction l with
  | nil => simp [numOf]
  | cons a t ih =>
    rw [List.cons_append, numOf, ih, numOf, List.length_cons, pow8, Int.mul_add]
    have : 256 * (c * 2 ^ (8 * t.length)) = c * (256 * 2 ^ (8 * t.length)) := by rw [← Int.mul_assoc, Int.mul_comm 256 c, Int.mul_assoc]
    omega
theorem numOf_drop (l : List Int) (h : AllBytes l) (j : Nat) (hj : j ≤ l.length) : numOf l / 2 ^ (8 * j) = numOf (l.drop j) := by
  induction j generalizing l with
  | zero => simp
  | succ j ih =>
    cases l with
    | nil => simp at hj
    | cons c t =>
      have h2 := h c List.mem_cons_self
      rw [pow8, ← Int.ediv_ediv_of_nonneg (by decide : (0 : Int) ≤ 256), List.drop_succ_cons, ← ih t (fun x hx => h x (List.mem_cons_of_mem _ hx)) (by simpa using hj)]
      congr 1
      rw [show numOf (c :: t) = c + 256 * numOf t from rfl]
      omega
theorem numOf_byte (l : List Int) (h : AllBytes l) (j : Nat) (hj : j < l.length) : numOf l / 2 ^ (8 * j) % 256 = l[j] := by
  rw [numOf_drop l h j (by omega), List.drop_eq_getElem_cons hj]
  have h2 := h l[j] (List.getElem_mem hj)
  unfold numOf
  omega
theorem lowBytes_numOf (l : List Int) (h : AllBytes l) (j : Nat) (hj : j ≤ l.length) : lowBytes j (numOf l) = l.take j := by
  induction j with
  | zero => simp [lowBytes]
  | succ j ih =>
    rw [lowBytes, ih (by omega), numOf_byte l h j (by omega), List.take_succ_eq_append_getElem (by omega)]
theorem lowBytes_len' (k : Nat) (n : Int) : (lowBytes k n).length = k := by
  induction k with
  | zero => rfl
  | succ k ih => simp [lowBytes, ih]
theorem lowBytes_bytes (k : Nat) (n : Int) : AllBytes (lowBytes k n) := by
  induction k with
  | zero => intro x hx; simp [lowBytes] at hx
  | succ k ih =>
    intro x hx
    rw [lowBytes, List.mem_append] at hx
    rcases hx with hx | hx
    · exact ih x hx
    · simp at hx; omega
theorem numOf_lowBytes (k : Nat) (n : Int) : numOf (lowBytes k n) = n % 2 ^ (8 * k) := by
  induction k with
  | zero => simp [lowBytes, numOf]
  | succ k ih =>
    rw [lowBytes, numOf_snoc, ih, lowBytes_len', pow8]
    have hp := pow8_pos k
    generalize (2 : Int) ^ (8 * k) = P at hp
    have h1 := Int.emod_add_mul_ediv n P
    have h2 := Int.emod_add_mul_ediv (n / P) 256
    have h3 := Int.emod_add_mul_ediv n (256 * P)
    have h4 : n / (256 * P) = n / P / 256 := by rw [Int.mul_comm, Int.ediv_ediv_of_nonneg (by omega)]
    rw [h4] at h3
    have h5 : n = n % P + P * (n / P % 256 + 256 * (n / P / 256)) := by rw [h2]; omega
    rw [Int.mul_add, ← Int.mul_assoc P 256] at h5
    have h6 : P * 256 = 256 * P := Int.mul_comm _ _
    rw [h6] at h5
    have h7 : P * (n / P % 256) = n / P % 256 * P := Int.mul_comm _ _
    omega

theorem or_low (x c : Int) (i : Nat) (hi : i + 8 ≤ 64) (x0 : 0 ≤ x) (x1 : x < 2 ^ i) (c0 : 0 ≤ c) (c1 : c ≤ 255) : Go.bits .or .u64 x (c * 2 ^ i) = x + c * 2 ^ i := by
  have hp : (0 : Int) < 2 ^ i := Int.pow_pos (by decide)
  have hb : (2 : Int) ^ i * 256 ≤ 2 ^ 64 := by
    have h := Nat.pow_le_pow_right (show 0 < 2 by decide) hi
    rw [Nat.pow_add] at h
    have h2 : ((2 ^ i * 2 ^ 8 : Nat) : Int) ≤ ((2 ^ 64 : Nat) : Int) := Int.ofNat_le.2 h
    simpa using h2
  have hlt : c * 2 ^ i < 2 ^ 64 := by
    have h1 : c * 2 ^ i ≤ 255 * 2 ^ i := Int.mul_le_mul_of_nonneg_right c1 (by omega)
    omega
  have h0 : 0 ≤ c * 2 ^ i := Int.mul_nonneg c0 (by omega)
  have hj := bits_join .u64 64 (by decide) wraps_u64 i (c * 2 ^ i) x h0 (Int.mul_emod_left _ _) hlt x0 x1 (by omega)
  rw [← Int.add_comm] at hj
  rw [← hj]
  obtain ⟨a, ha⟩ := Int.eq_ofNat_of_zero_le x0
  obtain ⟨b, hb'⟩ := Int.eq_ofNat_of_zero_le h0
  rw [hb'] at hlt ⊢
  rw [ha] at x1 ⊢
  have e1 := (bits_nat .u64 64 (by decide) wraps_u64 a b (by omega) (by omega)).2
  have e2 := (bits_nat .u64 64 (by decide) wraps_u64 b a (by omega) (by omega)).2
  rw [e1, e2, Nat.or_comm]

theorem getLoop (L : List Int) (hb : AllBytes L) (hl : L.length ≤ 8) (er : Int) (d : Nat) : ∀ (k : Nat) (i : Nat), i + d = L.length → d < k → ends_Get.l0 k er (numOf (L.take i)) L (L.length : Int) (i : Int) = some (numOf L, er) := by
  induction d with
  | zero =>
    intro k i h1 hk
    obtain ⟨k, rfl⟩ : ∃ m, k = m + 1 := ⟨k - 1, by omega⟩
    simp only [ends_Get.l0]
    rw [if_neg (by omega), List.take_of_length_le (by omega)]
  | succ d ih =>
    intro k i h1 hk
    obtain ⟨k, rfl⟩ : ∃ m, k = m + 1 := ⟨k - 1, by omega⟩
    have hi : i < L.length := by omega
    have hc := hb L[i] (List.getElem_mem hi)
    have hr := numOf_range (L.take i) (fun x hx => hb x (List.mem_of_mem_take hx))
    rw [List.length_take, Nat.min_eq_left (by omega)] at hr
    have hw : wrap64 ((i : Int) + 1) = ((i + 1 : Nat) : Int) := by unfold wrap64; omega
    have hrd : rd L (i : Int) = L[i] := by rw [rd_at L i (by omega) (by omega)]; simp
    have e1 : IntKind.u64.wrap ((i : Nat) : Int) = (i : Int) := by rw [u64w]; omega
    have e2 : IntKind.u64.wrap (8 * (i : Int)) = 8 * (i : Int) := by rw [u64w]; omega
    have e3 : IntKind.u64.wrap L[i] = L[i] := by rw [u64w]; omega
    simp only [ends_Get.l0]
    rw [if_pos (by omega), if_pos (by omega), if_pos (by omega), e1, e2, if_pos (by omega), hrd, e3, hw, shl_at (by omega) (by omega)]
    have e4 : (8 * (i : Int)).toNat = 8 * i := by omega
    have hp := pow8_pos i
    have hb2 : (2 : Int) ^ (8 * i) * 256 ≤ 2 ^ 64 := by
      have h := Nat.pow_le_pow_right (show 0 < 2 by decide) (show 8 * i + 8 ≤ 64 by omega)
      rw [Nat.pow_add] at h
      have h2 : ((2 ^ (8 * i) * 2 ^ 8 : Nat) : Int) ≤ ((2 ^ 64 : Nat) : Int) := Int.ofNat_le.2 h
      simpa using h2
    have hlt : L[i] * 2 ^ (8 * i) < 2 ^ 64 := by
      have h1 : L[i] * 2 ^ (8 * i) ≤ 255 * 2 ^ (8 * i) := Int.mul_le_mul_of_nonneg_right hc.2 (by omega)
      omega
    have h0 : 0 ≤ L[i] * 2 ^ (8 * i) := Int.mul_nonneg hc.1 (by omega)
    rw [e4, mod_id h0 (by omega), or_low _ _ (8 * i) (by omega) hr.1 hr.2 hc.1 hc.2]
    have hs : numOf (L.take (i + 1)) = numOf (L.take i) + L[i] * 2 ^ (8 * i) := by
      rw [List.take_succ_eq_append_getElem hi, numOf_snoc, List.length_take, Nat.min_eq_left (by omega)]
    rw [← hs]
    exact ih k (i + 1) (by omega) (by omega)
/-- The part at a place. -/
def cutAt (l : List Int) (at_ n : Int) : List Int := (l.take (at_ + n).toNat).drop at_.toNat
theorem cutAt_len (l : List Int) (at_ n : Int) (h0 : 0 ≤ at_) (h1 : at_ ≤ l.length) (n0 : 0 ≤ n) (h2 : n ≤ l.length - at_) : (cutAt l at_ n).length = n.toNat := by
  unfold cutAt; rw [List.length_drop, List.length_take]; omega
theorem cutAt_bytes (l : List Int) (h : AllBytes l) (at_ n : Int) : AllBytes (cutAt l at_ n) := fun x hx => h x (List.mem_of_mem_take (List.mem_of_mem_drop hx))
theorem part_is (l : List Int) (hl : l.length < 140737488355328) (at_ n : Int) : ends_Part.f l at_ n =
    some (if at_ < 0 ∨ at_ > l.length ∨ n < 0 then ([], 2) else if (l.length : Int) - at_ < n then ([], 4) else (cutAt l at_ n, 0)) := by
  unfold ends_Part.f
  by_cases c1 : at_ < 0
  · rw [if_pos c1, if_pos (.inl c1)]
  rw [if_neg c1]
  by_cases c2 : at_ > (l.length : Int)
  · rw [if_pos c2, if_pos (.inr (.inl c2))]
  rw [if_neg c2]
  by_cases c3 : n < 0
  · rw [if_pos c3, if_pos (.inr (.inr c3))]
  rw [if_neg c3, if_neg (show ¬ (at_ < 0 ∨ at_ > (l.length : Int) ∨ n < 0) by omega)]
  by_cases c4 : (l.length : Int) - at_ < n
  · rw [if_pos c4, if_pos c4]
  rw [if_neg c4, if_neg c4]
  have := cutAt_len l at_ n (by omega) (by omega) (by omega) (by omega)
  unfold bytes_Clone.f
  rw [if_pos (show ((l.take (at_ + n).toNat).drop at_.toNat).length < 140737488355328 by unfold cutAt at this; omega)]
  rfl
theorem may_is (n : Int) : ends_may.f n = some (decide (n = 1 ∨ n = 2 ∨ n = 4 ∨ n = 8)) := by
  unfold ends_may.f
  by_cases a : n = 1
  · simp [a]
  by_cases b : n = 2
  · simp [b]
  by_cases c : n = 4
  · simp [c]
  by_cases d : n = 8
  · simp [d]
  simp [a, b, c, d]
def getV (l : List Int) (at_ n : Int) : Int × Int :=
  if n = 1 ∨ n = 2 ∨ n = 4 ∨ n = 8 then (if at_ < 0 ∨ at_ > l.length then (0, 2) else if (l.length : Int) - at_ < n then (0, 4) else (numOf (cutAt l at_ n), 0)) else (0, 2)
theorem get_is (l : List Int) (hb : AllBytes l) (hl : l.length < 140737488355328) (at_ n : Int) (k : Nat) (hk : 10 ≤ k) : ends_Get.f k l at_ n = some (getV l at_ n) := by
  unfold ends_Get.f getV
  rw [may_is, part_is l hl]
  simp only [Option.bind_some]
  have hnil : ∀ e : Int, ends_Get.l0 k e 0 [] (([] : List Int).length : Int) 0 = some (0, e) := by
    intro e
    obtain ⟨k, rfl⟩ : ∃ m, k = m + 1 := ⟨k - 1, by omega⟩
    simp [ends_Get.l0]
  by_cases hn : n = 1 ∨ n = 2 ∨ n = 4 ∨ n = 8
  · rw [decide_eq_true hn, if_pos rfl, if_pos hn]
    by_cases c1 : at_ < 0 ∨ at_ > l.length
    · rw [if_pos c1, if_pos (by omega)]; exact hnil 2
    rw [if_neg c1, if_neg (by omega)]
    by_cases c4 : (l.length : Int) - at_ < n
    · rw [if_pos c4, if_pos c4]; exact hnil 4
    rw [if_neg c4, if_neg c4]
    have hlen := cutAt_len l at_ n (by omega) (by omega) (by omega) (by omega)
    have := getLoop (cutAt l at_ n) (cutAt_bytes l hb at_ n) (by omega) 0 (cutAt l at_ n).length k 0 (by omega) (by omega)
    simpa [numOf] using this
  · rw [decide_eq_false hn, if_neg hn]
    simp

theorem u32w (n : Int) : IntKind.u32.wrap n = n % 4294967296 := by simp [IntKind.wrap, IntKind.bits, IntKind.signed]
theorem wraps_u16 (n : Int) (h₀ : 0 ≤ n) (h₁ : n < 2 ^ 16) : IntKind.u16.wrap n = n := by rw [u16w]; omega
theorem wraps_u8 (n : Int) (h₀ : 0 ≤ n) (h₁ : n < 2 ^ 8) : IntKind.u8.wrap n = n := by rw [IntKind.wrap_u8]; omega
theorem m8 (i : Nat) (hi : i ≤ 8) (x : Int) (h₀ : 0 ≤ x) (h₁ : x < 2 ^ 8) : Go.bits .and .u8 x (2 ^ i - 1) = x % 2 ^ i := bits_mask .u8 8 (by decide) wraps_u8 i hi x h₀ h₁
theorem m16 (i : Nat) (hi : i ≤ 16) (x : Int) (h₀ : 0 ≤ x) (h₁ : x < 2 ^ 16) : Go.bits .and .u16 x (2 ^ i - 1) = x % 2 ^ i := bits_mask .u16 16 (by decide) wraps_u16 i hi x h₀ h₁
theorem m64 (i : Nat) (hi : i ≤ 64) (x : Int) (h₀ : 0 ≤ x) (h₁ : x < 2 ^ 64) : Go.bits .and .u64 x (2 ^ i - 1) = x % 2 ^ i := bits_mask .u64 64 (by decide) wraps_u64 i hi x h₀ h₁
theorem orl (i : Nat) (y x : Int) (y0 : 0 ≤ y) (y1 : y < 2 ^ i) (hi : (2 : Int) ^ i ≤ 2 ^ 64) (x0 : 0 ≤ x) (hx : x % 2 ^ i = 0) (x1 : x < 2 ^ 64) : Go.bits .or .u64 y x = y + x :=
  bits_join_low .u64 64 (by decide) wraps_u64 i y x y0 y1 (by omega) x0 hx x1
/-- A capability's second number. -/
def num2 (p t e b u : Int) : Int := p % 128 + 128 * (t % 8) + 1024 * (e % 16) + 16384 * (b % 512) + 8388608 * (u % 512)
theorem num2_range (p t e b u : Int) : 0 ≤ num2 p t e b u ∧ num2 p t e b u < 4294967296 := by unfold num2; omega
theorem pack_is (a p t e b u : Int) (ha : 0 ≤ a ∧ a < 4294967296) (hp : 0 ≤ p ∧ p ≤ 255) (ht : 0 ≤ t ∧ t ≤ 255) (he : 0 ≤ e ∧ e ≤ 255) (hb : 0 ≤ b ∧ b ≤ 65535) (hu : 0 ≤ u ∧ u ≤ 65535) :
    pack a p t e b u = num2 p t e b u * 4294967296 + a := by
  have e1 := m8 7 (by decide) p (by omega) (by omega)
  have e2 := m8 3 (by decide) t (by omega) (by omega)
  have e3 := m8 4 (by decide) e (by omega) (by omega)
  have e4 := m16 9 (by decide) b (by omega) (by omega)
  have e5 := m16 9 (by decide) u (by omega) (by omega)
  simp only [Int.reducePow, Int.reduceSub] at e1 e2 e3 e4 e5
  unfold pack
  rw [e1, e2, e3, e4, e5]
  simp only [u64w]
  have r1 : p % 128 % 18446744073709551616 = p % 128 := by omega
  have r2 : t % 8 % 18446744073709551616 * 128 % 18446744073709551616 = t % 8 * 128 := by omega
  have r3 : e % 16 % 18446744073709551616 * 1024 % 18446744073709551616 = e % 16 * 1024 := by omega
  have r4 : b % 512 % 18446744073709551616 * 16384 % 18446744073709551616 = b % 512 * 16384 := by omega
  have r5 : u % 512 % 18446744073709551616 * 8388608 % 18446744073709551616 = u % 512 * 8388608 := by omega
  have r6 : a % 18446744073709551616 = a := by omega
  rw [r1, r2, r3, r4, r5, r6]
  rw [orl 7 (p % 128) (t % 8 * 128) (by omega) (by omega) (by decide) (by omega) (by omega) (by omega)]
  rw [orl 10 (p % 128 + t % 8 * 128) (e % 16 * 1024) (by omega) (by omega) (by decide) (by omega) (by omega) (by omega)]
  rw [orl 14 (p % 128 + t % 8 * 128 + e % 16 * 1024) (b % 512 * 16384) (by omega) (by omega) (by decide) (by omega) (by omega) (by omega)]
  rw [orl 23 (p % 128 + t % 8 * 128 + e % 16 * 1024 + b % 512 * 16384) (u % 512 * 8388608) (by omega) (by omega) (by decide) (by omega) (by omega) (by omega)]
  have hs : p % 128 + t % 8 * 128 + e % 16 * 1024 + b % 512 * 16384 + u % 512 * 8388608 = num2 p t e b u := by unfold num2; omega
  rw [hs]
  have hr := num2_range p t e b u
  rw [show num2 p t e b u * 4294967296 % 18446744073709551616 = num2 p t e b u * 4294967296 by omega]
  have hj := bits_join .u64 64 (by decide) wraps_u64 32 (num2 p t e b u * 4294967296) a (by omega) (by omega) (by omega) ha.1 (by omega) (by omega)
  exact hj
theorem rpack_is (p t e b u : Int) (hp : 0 ≤ p ∧ p ≤ 255) (ht : 0 ≤ t ∧ t ≤ 255) (he : 0 ≤ e ∧ e ≤ 255) (hb : 0 ≤ b ∧ b ≤ 65535) (hu : 0 ≤ u ∧ u ≤ 65535) : rpack p t e b u = num2 p t e b u := by
  unfold rpack num2
  rw [tmod_nn hp.1, tmod_nn ht.1, tmod_nn he.1, tmod_nn hb.1, tmod_nn hu.1]
  simp only [u64w]
  omega
/-- The j-th byte of a number. -/
def nth (n : Int) (j : Nat) : Int := n / 2 ^ (8 * j) % 256
theorem dv_is (n : Int) (h0 : 0 ≤ n) (h1 : n < 18446744073709551616) (j : Nat) : dv n j = n / 2 ^ (8 * j) ∧ 0 ≤ dv n j ∧ dv n j < 18446744073709551616 := by
  induction j with
  | zero => exact ⟨by simp [dv], h0, h1⟩
  | succ j ih =>
    obtain ⟨e, g0, g1⟩ := ih
    have h : dv n (j + 1) = dv n j / 256 := by
      show IntKind.u64.wrap (Int.tdiv (dv n j) 256) = _
      rw [tdiv_nn g0, u64w]; omega
    refine ⟨?_, by omega, by omega⟩
    rw [h, e, pow8, Int.ediv_ediv_of_nonneg (by have := pow8_pos j; omega), Int.mul_comm]
theorem by8_is (n : Int) (h0 : 0 ≤ n) (h1 : n < 18446744073709551616) (j : Nat) : by8 n j = nth n j := by
  obtain ⟨e, g0, g1⟩ := dv_is n h0 h1 j
  unfold by8 nth
  rw [tmod_nn g0, e]; omega
/-- The bytes of a capability, as the document has them. -/
def cbytes (a n : Int) : List Int := [nth a 0, nth a 1, nth a 2, nth a 3, nth n 0, nth n 1, nth n 2, nth n 3]
theorem put_bytes (a n : Int) (ha : 0 ≤ a ∧ a < 4294967296) (hn : 0 ≤ n ∧ n < 4294967296) : ends_Put.f (n * 4294967296 + a) 8 = some (cbytes a n, 0) := by
  unfold ends_Put.f
  rw [if_pos ⟨by omega, by omega⟩, if_pos (by omega), if_neg (by omega)]
  rw [show (8 : Int).toNat = 8 from rfl]
  simp only [lowBytes, cbytes, nth, List.nil_append, List.cons_append, Option.some.injEq, Prod.mk.injEq, and_true]
  simp only [List.cons.injEq, and_true, Nat.reduceMul, Int.reducePow]
  refine ⟨?_, ?_, ?_, ?_, ?_, ?_, ?_, ?_⟩ <;> omega
theorem rarr_is (a n : Int) (ha : 0 ≤ a ∧ a < 4294967296) (hn : 0 ≤ n ∧ n < 4294967296) : rarr a n 4 = (encs (Value.int .u8) (cbytes a n)).toArray := by
  unfold rarr cbytes encs
  simp only [by8_is a (by omega) (by omega), by8_is n (by omega) (by omega)]
  simp
theorem num4 (x y z v : Int) : numOf [x, y, z, v] = x + 256 * y + 65536 * z + 16777216 * v := by simp only [numOf]; omega
theorem rof_is (y0 y1 y2 y3 : Int) (h0 : 0 ≤ y0 ∧ y0 ≤ 255) (h1 : 0 ≤ y1 ∧ y1 ≤ 255) (h2 : 0 ≤ y2 ∧ y2 ≤ 255) (h3 : 0 ≤ y3 ∧ y3 ≤ 255) : rof y0 y1 y2 y3 4 = numOf [y0, y1, y2, y3] := by
  rw [num4]
  simp only [rof, pk, u64w]
  omega
theorem get8 (x0 x1 x2 x3 x4 x5 x6 x7 : Int) (hb : AllBytes [x0, x1, x2, x3, x4, x5, x6, x7]) (k : Nat) (hk : 10 ≤ k) :
    ends_Get.f k [x0, x1, x2, x3, x4, x5, x6, x7] 4 4 = some (numOf [x4, x5, x6, x7], 0) ∧ ends_Get.f k [x0, x1, x2, x3, x4, x5, x6, x7] 0 4 = some (numOf [x0, x1, x2, x3], 0) := by
  constructor
  · rw [get_is _ hb (by simp) 4 4 k hk]; rfl
  · rw [get_is _ hb (by simp) 0 4 k hk]; rfl
/-- The capability of bytes, as the document has it: its numbers behind the tag. -/
def ofV (n : Int) : Int × Int × Int × Int × Int := (n % 128, n / 128 % 8, n / 1024 % 16, n / 16384 % 512, n / 8388608 % 512)
def capV (g : Bool) (a : Int) (v : Int × Int × Int × Int × Int) : Value := .agg #[.bool g, .int .u32 a, .int .u8 v.1, .int .u8 v.2.1, .int .u8 v.2.2.1, .int .u16 v.2.2.2.1, .int .u16 v.2.2.2.2]
def arrV (l : List Int) : Value := .agg (encs (Value.int .u8) l).toArray
theorem bytes_calls (g : Bool) (a p t e b u : Int) (ha : 0 ≤ a ∧ a < 4294967296) (hp : 0 ≤ p ∧ p ≤ 255) (ht : 0 ≤ t ∧ t ≤ 255) (he : 0 ≤ e ∧ e ≤ 255) (hb : 0 ≤ b ∧ b ≤ 65535) (hu : 0 ≤ u ∧ u ≤ 65535) (w : World) :
    Calls Try.prog 25 #[capV g a (p, t, e, b, u)] w fun x w' => x = .returned (arrV (cbytes a (num2 p t e b u))) ∧ Below w.heap.size w w' := by
  have h := put_bytes a (num2 p t e b u) ha (num2_range p t e b u)
  rw [← pack_is a p t e b u ha hp ht he hb hu] at h
  exact capa_Bytes.calls g a p t e b u _ _ _ _ _ _ _ _ w h
theorem rbytes_calls (g : Bool) (a p t e b u : Int) (ha : 0 ≤ a ∧ a < 4294967296) (hp : 0 ≤ p ∧ p ≤ 255) (ht : 0 ≤ t ∧ t ≤ 255) (he : 0 ≤ e ∧ e ≤ 255) (hb : 0 ≤ b ∧ b ≤ 65535) (hu : 0 ≤ u ∧ u ≤ 65535) (w : World) :
    Calls Try.prog 18 #[capV g a (p, t, e, b, u)] w fun x w' => x = .returned (arrV (cbytes a (num2 p t e b u))) ∧ Below w.heap.size w w' := by
  have h := bulwarkref03_Bytes.calls g a p t e b u w
  rw [rpack_is p t e b u hp ht he hb hu, show IntKind.u64.wrap a = a by rw [u64w]; omega, rarr_is a (num2 p t e b u) ha (num2_range p t e b u)] at h
  exact h
theorem of_calls (x0 x1 x2 x3 x4 x5 x6 x7 : Int) (hb : AllBytes [x0, x1, x2, x3, x4, x5, x6, x7]) (tag : Bool) (w : World) :
    Calls Try.prog 30 #[arrV [x0, x1, x2, x3, x4, x5, x6, x7], .bool tag] w fun x w' => x = .returned (capV tag (numOf [x0, x1, x2, x3]) (ofV (numOf [x4, x5, x6, x7]))) ∧ Below w.heap.size w w' := by
  obtain ⟨h1, h2⟩ := get8 x0 x1 x2 x3 x4 x5 x6 x7 hb 20 (by decide)
  have hn := numOf_range [x4, x5, x6, x7] (fun x hx => hb x (by simp at hx ⊢; omega))
  have ha := numOf_range [x0, x1, x2, x3] (fun x hx => hb x (by simp at hx ⊢; omega))
  have h := capa_Of.calls 20 x0 x1 x2 x3 x4 x5 x6 x7 tag _ _ w h1 h2
  simp only [List.length_cons, List.length_nil, Nat.reduceAdd, Nat.reduceMul, Int.reducePow] at hn ha
  generalize numOf [x4, x5, x6, x7] = n at hn h ⊢
  generalize numOf [x0, x1, x2, x3] = a at ha h ⊢
  have e1 := m64 7 (by decide) n (by omega) (by omega)
  have e2 := m64 3 (by decide) (n / 128) (by omega) (by omega)
  have e3 := m64 4 (by decide) (n / 1024) (by omega) (by omega)
  have e4 := m64 9 (by decide) (n / 16384) (by omega) (by omega)
  have e5 := m64 9 (by decide) (n / 8388608) (by omega) (by omega)
  simp only [Int.reducePow, Int.reduceSub] at e1 e2 e3 e4 e5
  rw [e1, e2, e3, e4, e5, u16w, u16w, show a % 4294967296 = a by omega, show n % 128 % 256 = n % 128 by omega, show n / 128 % 8 % 256 = n / 128 % 8 by omega, show n / 1024 % 16 % 256 = n / 1024 % 16 by omega,
    show n / 16384 % 512 % 65536 = n / 16384 % 512 by omega, show n / 8388608 % 512 % 65536 = n / 8388608 % 512 by omega] at h
  exact h
theorem rof_calls (x0 x1 x2 x3 x4 x5 x6 x7 : Int) (hb : AllBytes [x0, x1, x2, x3, x4, x5, x6, x7]) (tag : Bool) (w : World) :
    Calls Try.prog 17 #[arrV [x0, x1, x2, x3, x4, x5, x6, x7], .bool tag] w fun x w' => x = .returned (capV tag (numOf [x0, x1, x2, x3]) (ofV (numOf [x4, x5, x6, x7]))) ∧ Below w.heap.size w w' := by
  have hn := numOf_range [x4, x5, x6, x7] (fun x hx => hb x (by simp at hx ⊢; omega))
  have ha := numOf_range [x0, x1, x2, x3] (fun x hx => hb x (by simp at hx ⊢; omega))
  have h := bulwarkref03_Of.calls x0 x1 x2 x3 x4 x5 x6 x7 tag w
  have g : ∀ x ∈ [x0, x1, x2, x3, x4, x5, x6, x7], 0 ≤ x ∧ x ≤ 255 := hb
  rw [rof_is x4 x5 x6 x7 (g _ (by simp)) (g _ (by simp)) (g _ (by simp)) (g _ (by simp)), rof_is x0 x1 x2 x3 (g _ (by simp)) (g _ (by simp)) (g _ (by simp)) (g _ (by simp))] at h
  simp only [List.length_cons, List.length_nil, Nat.reduceAdd, Nat.reduceMul, Int.reducePow] at hn ha
  generalize numOf [x4, x5, x6, x7] = n at hn h ⊢
  generalize numOf [x0, x1, x2, x3] = a at ha h ⊢
  simp only [tdiv_nn hn.1, u64w, u16w] at h
  rw [show n / 128 % 18446744073709551616 = n / 128 by omega, show n / 1024 % 18446744073709551616 = n / 1024 by omega, show n / 16384 % 18446744073709551616 = n / 16384 by omega, show n / 8388608 % 18446744073709551616 = n / 8388608 by omega] at h
  rw [tmod_nn hn.1, tmod_nn (show 0 ≤ n / 128 by omega), tmod_nn (show 0 ≤ n / 1024 by omega), tmod_nn (show 0 ≤ n / 16384 by omega), tmod_nn (show 0 ≤ n / 8388608 by omega), show a % 4294967296 = a by omega, show n % 128 % 256 = n % 128 by omega, show n / 128 % 8 % 256 = n / 128 % 8 by omega, show n / 1024 % 16 % 256 = n / 1024 % 16 by omega,
    show n / 16384 % 512 % 65536 = n / 16384 % 512 by omega, show n / 8388608 % 512 % 65536 = n / 8388608 % 512 by omega] at h
  exact h

end Go.Proofs.Ytiiemfnaegapmaa.Pure
