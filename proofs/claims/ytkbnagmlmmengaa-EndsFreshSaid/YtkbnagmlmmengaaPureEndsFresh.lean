/- The law EndsFresh in plain Lean: what each of its calls answers. -/
import Derived.Test.YtkbnagmlmmengaaG6
import Derived.OpenShut
namespace Go.Proofs.Ytkbnagmlmmengaa.Pure
open Go.RowKit Go.Proofs.Ytkbnagmlmmengaa.Q Go.Proofs.YtkbnagmlmmengaaW.PrintWords Go.Proofs.YtkbnagmlmmengaaW.PrintLast Go.Proofs.YtkbnagmlmmengaaW.PrintMore
set_option linter.unusedVariables false
set_option linter.unusedSimpArgs false
theorem u64w (n : Int) : IntKind.u64.wrap n = n % 18446744073709551616 := by simp [IntKind.wrap, IntKind.bits, IntKind.signed]
theorem u16w (n : Int) : IntKind.u16.wrap n = n % 65536 := by simp [IntKind.wrap, IntKind.bits, IntKind.signed]
theorem wraps_u64 (n : Int) (h₀ : 0 ≤ n) (h₁ : n < 2 ^ 64) : IntKind.u64.wrap n = n := by rw [u64w]; omega
theorem u64_mask (i : Nat) (hi : i ≤ 64) (x : Int) (h₀ : 0 ≤ x) (h₁ : x < 18446744073709551616) : Go.bits .and .u64 x (2 ^ i - 1) = x % 2 ^ i :=
  bits_mask .u64 64 (by decide) wraps_u64 i hi x h₀ (by simpa using h₁)
theorem tmod_nn {a b : Int} (h : 0 ≤ a) : Int.tmod a b = a % b := Int.tmod_eq_emod_of_nonneg h
theorem tdiv_nn {a b : Int} (h : 0 ≤ a) : Int.tdiv a b = a / b := Int.tdiv_eq_ediv_of_nonneg h
theorem mod_id {x m : Int} (h0 : 0 ≤ x) (h1 : x < m) : x % m = x := Int.emod_eq_of_lt h0 h1
theorem shl_at {x e : Int} (h0 : 0 ≤ e) (h1 : e ≤ 64) : shl .u64 x e = x * 2 ^ e.toNat % 18446744073709551616 := by
  unfold shl; rw [Nat.min_eq_left (by show e.toNat ≤ 64; omega), u64w]
theorem shr_at {x e : Int} (h0 : 0 ≤ e) (h1 : e ≤ 64) : shr .u64 x e = x / 2 ^ e.toNat := by
  unfold shr; rw [Nat.min_eq_left (by show e.toNat ≤ 64; omega)]

theorem cases16 {e : Int} (h0 : 0 ≤ e) (h1 : e < 16) : e = 0 ∨ e = 1 ∨ e = 2 ∨ e = 3 ∨ e = 4 ∨ e = 5 ∨ e = 6 ∨ e = 7 ∨ e = 8 ∨ e = 9 ∨ e = 10 ∨ e = 11 ∨ e = 12 ∨ e = 13 ∨ e = 14 ∨ e = 15 := by omega


theorem rd_at (l : List Int) (i : Int) (h0 : 0 ≤ i) (h1 : i.toNat < l.length) : rd l i = l[i.toNat] := by
  unfold rd; rw [List.getD_eq_getElem?_getD, List.getElem?_eq_getElem h1]; rfl
theorem same_loop (l : List Int) (hl : l.length ≤ 9223372036854775807) (d : Nat) : ∀ (k : Nat) (i : Int), 0 ≤ i → i + d = l.length → d < k → bulwarkref00_Same.l0 k l l i = some true := by
  induction d with
  | zero =>
    intro k i h0 h1 hk
    obtain ⟨k, rfl⟩ : ∃ m, k = m + 1 := ⟨k - 1, by omega⟩
    simp only [bulwarkref00_Same.l0]; rw [if_neg (by omega)]
  | succ d ih =>
    intro k i h0 h1 hk
    obtain ⟨k, rfl⟩ : ∃ m, k = m + 1 := ⟨k - 1, by omega⟩
    have hw : wrap64 (i + 1) = i + 1 := by unfold wrap64; omega
    simp only [bulwarkref00_Same.l0]
    rw [if_pos (by omega), if_pos h0, if_pos (by omega), hw]
    simp only [if_true]
    exact ih k (i + 1) (by omega) (by omega) (by omega)
theorem same_is (l : List Int) (hl : l.length ≤ 9223372036854775807) (k : Nat) (hk : l.length < k) : bulwarkref00_Same.f k l l = some true := by
  unfold bulwarkref00_Same.f
  rw [if_pos rfl]
  exact same_loop l hl l.length k 0 (by omega) (by omega) hk
/-- The number of bytes, the lowest first. -/
def numOf : List Int → Int
  | [] => 0
  | c :: t => c + 256 * numOf t
def AllBytes (l : List Int) : Prop := ∀ x ∈ l, 0 ≤ x ∧ x ≤ 255
theorem pow8 (k : Nat) : (2 : Int) ^ (8 * (k + 1)) = 256 * 2 ^ (8 * k) := by
  rw [show 8 * (k + 1) = 8 * k + 8 by omega, Int.pow_add]; omega
theorem pow8_pos (k : Nat) : (0 : Int) < 2 ^ (8 * k) := Int.pow_pos (by decide)
theorem numOf_range (l : List Int) (h : AllBytes l) : 0 ≤ numOf l ∧ numOf l < 2 ^ (8 * l.length) := by
  induction l with
  | nil => simp [numOf]
  | cons c t ih =>
    have h1 := ih (fun x hx => h x (List.mem_cons_of_mem _ hx))
    have h2 := h c List.mem_cons_self
    rw [List.length_cons, pow8]
    unfold numOf
    omega
theorem numOf_snoc (l : List Int) (c : Int) : numOf (l ++ [c]) = numOf l + c * 2 ^ (8 * l.length) := by
  induction l with
  | nil => simp [numOf]
  | cons a t ih =>
    rw [List.cons_append, numOf, ih, numOf, List.length_cons, pow8, Int.mul_add]
    have : 256 * (c * 2 ^ (8 * t.length)) = c * (256 * 2 ^ (8 * t.length)) := by rw [← Int.mul_assoc, Int.mul_comm 256 c, Int.mul_assoc]
    omega
theorem numOf_drop (l : List Int) (h : AllBytes l) (j : Nat) (hj : j ≤ l.length) : numOf l / 2 ^ (8 * j) = numOf (l.drop j) := by
  induction j generalizing l with
  | zero => simp
  | succ j ih =>
    cases l with
    | nil => simp at hj
    | cons c t =>
      have h2 := h c List.mem_cons_self
      rw [pow8, ← Int.ediv_ediv_of_nonneg (by decide : (0 : Int) ≤ 256), List.drop_succ_cons, ← ih t (fun x hx => h x (List.mem_cons_of_mem _ hx)) (by simpa using hj)]
      congr 1
      rw [show numOf (c :: t) = c + 256 * numOf t from rfl]
      omega
theorem numOf_byte (l : List Int) (h : AllBytes l) (j : Nat) (hj : j < l.length) : numOf l / 2 ^ (8 * j) % 256 = l[j] := by
  rw [numOf_drop l h j (by omega), List.drop_eq_getElem_cons hj]
  have h2 := h l[j] (List.getElem_mem hj)
  unfold numOf
  omega
theorem lowBytes_numOf (l : List Int) (h : AllBytes l) (j : Nat) (hj : j ≤ l.length) : lowBytes j (numOf l) = l.take j := by
  induction j with
  | zero => simp [lowBytes]
  | succ j ih =>
    rw [lowBytes, ih (by omega), numOf_byte l h j (by omega), List.take_succ_eq_append_getElem (by omega)]
theorem lowBytes_len' (k : Nat) (n : Int) : (lowBytes k n).length = k := by
  induction k with
  | zero => rfl
  | succ k ih => simp [lowBytes, ih]
theorem lowBytes_bytes (k : Nat) (n : Int) : AllBytes (lowBytes k n) := by
  induction k with
  | zero => intro x hx; simp [lowBytes] at hx
  | succ k ih =>
    intro x hx
    rw [lowBytes, List.mem_append] at hx
    rcases hx with hx | hx
    · exact ih x hx
    · simp at hx; omega
theorem numOf_lowBytes (k : Nat) (n : Int) : numOf (lowBytes k n) = n % 2 ^ (8 * k) := by
  induction k with
  | zero => simp [lowBytes, numOf]
  | succ k ih =>
    rw [lowBytes, numOf_snoc, ih, lowBytes_len', pow8]
    have hp := pow8_pos k
    generalize (2 : Int) ^ (8 * k) = P at hp
    have h1 := Int.emod_add_mul_ediv n P
    have h2 := Int.emod_add_mul_ediv (n / P) 256
    have h3 := Int.emod_add_mul_ediv n (256 * P)
    have h4 : n / (256 * P) = n / P / 256 := by rw [Int.mul_comm, Int.ediv_ediv_of_nonneg (by omega)]
    rw [h4] at h3
    have h5 : n = n % P + P * (n / P % 256 + 256 * (n / P / 256)) := by rw [h2]; omega
    rw [Int.mul_add, ← Int.mul_assoc P 256] at h5
    have h6 : P * 256 = 256 * P := Int.mul_comm _ _
    rw [h6] at h5
    have h7 : P * (n / P % 256) = n / P % 256 * P := Int.mul_comm _ _
    omega

theorem or_low (x c : Int) (i : Nat) (hi : i + 8 ≤ 64) (x0 : 0 ≤ x) (x1 : x < 2 ^ i) (c0 : 0 ≤ c) (c1 : c ≤ 255) : Go.bits .or .u64 x (c * 2 ^ i) = x + c * 2 ^ i := by
  have hp : (0 : Int) < 2 ^ i := Int.pow_pos (by decide)
  have hb : (2 : Int) ^ i * 256 ≤ 2 ^ 64 := by
    have h := Nat.pow_le_pow_right (show 0 < 2 by decide) hi
    rw [Nat.pow_add] at h
    have h2 : ((2 ^ i * 2 ^ 8 : Nat) : Int) ≤ ((2 ^ 64 : Nat) : Int) := Int.ofNat_le.2 h
    simpa using h2
  have hlt : c * 2 ^ i < 2 ^ 64 := by
    have h1 : c * 2 ^ i ≤ 255 * 2 ^ i := Int.mul_le_mul_of_nonneg_right c1 (by omega)
    omega
  have h0 : 0 ≤ c * 2 ^ i := Int.mul_nonneg c0 (by omega)
  have hj := bits_join .u64 64 (by decide) wraps_u64 i (c * 2 ^ i) x h0 (Int.mul_emod_left _ _) hlt x0 x1 (by omega)
  rw [← Int.add_comm] at hj
  rw [← hj]
  obtain ⟨a, ha⟩ := Int.eq_ofNat_of_zero_le x0
  obtain ⟨b, hb'⟩ := Int.eq_ofNat_of_zero_le h0
  rw [hb'] at hlt ⊢
  rw [ha] at x1 ⊢
  have e1 := (bits_nat .u64 64 (by decide) wraps_u64 a b (by omega) (by omega)).2
  have e2 := (bits_nat .u64 64 (by decide) wraps_u64 b a (by omega) (by omega)).2
  rw [e1, e2, Nat.or_comm]

theorem getLoop (L : List Int) (hb : AllBytes L) (hl : L.length ≤ 8) (er : Int) (d : Nat) : ∀ (k : Nat) (i : Nat), i + d = L.length → d < k → ends_Get.l0 k er (numOf (L.take i)) L (L.length : Int) (i : Int) = some (numOf L, er) := by
  induction d with
  | zero =>
    intro k i h1 hk
    obtain ⟨k, rfl⟩ : ∃ m, k = m + 1 := ⟨k - 1, by omega⟩
    simp only [ends_Get.l0]
    rw [if_neg (by omega), List.take_of_length_le (by omega)]
  | succ d ih =>
    intro k i h1 hk
    obtain ⟨k, rfl⟩ : ∃ m, k = m + 1 := ⟨k - 1, by omega⟩
    have hi : i < L.length := by omega
    have hc := hb L[i] (List.getElem_mem hi)
    have hr := numOf_range (L.take i) (fun x hx => hb x (List.mem_of_mem_take hx))
    rw [List.length_take, Nat.min_eq_left (by omega)] at hr
    have hw : wrap64 ((i : Int) + 1) = ((i + 1 : Nat) : Int) := by unfold wrap64; omega
    have hrd : rd L (i : Int) = L[i] := by rw [rd_at L i (by omega) (by omega)]; simp
    have e1 : IntKind.u64.wrap ((i : Nat) : Int) = (i : Int) := by rw [u64w]; omega
    have e2 : IntKind.u64.wrap (8 * (i : Int)) = 8 * (i : Int) := by rw [u64w]; omega
    have e3 : IntKind.u64.wrap L[i] = L[i] := by rw [u64w]; omega
    simp only [ends_Get.l0]
    rw [if_pos (by omega), if_pos (by omega), if_pos (by omega), e1, e2, if_pos (by omega), hrd, e3, hw, shl_at (by omega) (by omega)]
    have e4 : (8 * (i : Int)).toNat = 8 * i := by omega
    have hp := pow8_pos i
    have hb2 : (2 : Int) ^ (8 * i) * 256 ≤ 2 ^ 64 := by
      have h := Nat.pow_le_pow_right (show 0 < 2 by decide) (show 8 * i + 8 ≤ 64 by omega)
      rw [Nat.pow_add] at h
      have h2 : ((2 ^ (8 * i) * 2 ^ 8 : Nat) : Int) ≤ ((2 ^ 64 : Nat) : Int) := Int.ofNat_le.2 h
      simpa using h2
    have hlt : L[i] * 2 ^ (8 * i) < 2 ^ 64 := by
      have h1 : L[i] * 2 ^ (8 * i) ≤ 255 * 2 ^ (8 * i) := Int.mul_le_mul_of_nonneg_right hc.2 (by omega)
      omega
    have h0 : 0 ≤ L[i] * 2 ^ (8 * i) := Int.mul_nonneg hc.1 (by omega)
    rw [e4, mod_id h0 (by omega), or_low _ _ (8 * i) (by omega) hr.1 hr.2 hc.1 hc.2]
    have hs : numOf (L.take (i + 1)) = numOf (L.take i) + L[i] * 2 ^ (8 * i) := by
      rw [List.take_succ_eq_append_getElem hi, numOf_snoc, List.length_take, Nat.min_eq_left (by omega)]
    rw [← hs]
    exact ih k (i + 1) (by omega) (by omega)
/-- The part at a place. -/
def cutAt (l : List Int) (at_ n : Int) : List Int := (l.take (at_ + n).toNat).drop at_.toNat
theorem cutAt_len (l : List Int) (at_ n : Int) (h0 : 0 ≤ at_) (h1 : at_ ≤ l.length) (n0 : 0 ≤ n) (h2 : n ≤ l.length - at_) : (cutAt l at_ n).length = n.toNat := by
  unfold cutAt; rw [List.length_drop, List.length_take]; omega
theorem cutAt_bytes (l : List Int) (h : AllBytes l) (at_ n : Int) : AllBytes (cutAt l at_ n) := fun x hx => h x (List.mem_of_mem_take (List.mem_of_mem_drop hx))
theorem part_is (l : List Int) (hl : l.length < 140737488355328) (at_ n : Int) : ends_Part.f l at_ n =
    some (if at_ < 0 ∨ at_ > l.length ∨ n < 0 then ([], 2) else if (l.length : Int) - at_ < n then ([], 4) else (cutAt l at_ n, 0)) := by
  unfold ends_Part.f
  by_cases c1 : at_ < 0
  · rw [if_pos c1, if_pos (.inl c1)]
  rw [if_neg c1]
  by_cases c2 : at_ > (l.length : Int)
  · rw [if_pos c2, if_pos (.inr (.inl c2))]
  rw [if_neg c2]
  by_cases c3 : n < 0
  · rw [if_pos c3, if_pos (.inr (.inr c3))]
  rw [if_neg c3, if_neg (show ¬ (at_ < 0 ∨ at_ > (l.length : Int) ∨ n < 0) by omega)]
  by_cases c4 : (l.length : Int) - at_ < n
  · rw [if_pos c4, if_pos c4]
  rw [if_neg c4, if_neg c4]
  have := cutAt_len l at_ n (by omega) (by omega) (by omega) (by omega)
  unfold bytes_Clone.f
  rw [if_pos (show ((l.take (at_ + n).toNat).drop at_.toNat).length < 140737488355328 by unfold cutAt at this; omega)]
  rfl
theorem may_is (n : Int) : ends_may.f n = some (decide (n = 1 ∨ n = 2 ∨ n = 4 ∨ n = 8)) := by
  unfold ends_may.f
  by_cases a : n = 1
  · simp [a]
  by_cases b : n = 2
  · simp [b]
  by_cases c : n = 4
  · simp [c]
  by_cases d : n = 8
  · simp [d]
  simp [a, b, c, d]
def getV (l : List Int) (at_ n : Int) : Int × Int :=
  if n = 1 ∨ n = 2 ∨ n = 4 ∨ n = 8 then (if at_ < 0 ∨ at_ > l.length then (0, 2) else if (l.length : Int) - at_ < n then (0, 4) else (numOf (cutAt l at_ n), 0)) else (0, 2)
theorem get_is (l : List Int) (hb : AllBytes l) (hl : l.length < 140737488355328) (at_ n : Int) (k : Nat) (hk : 10 ≤ k) : ends_Get.f k l at_ n = some (getV l at_ n) := by
  unfold ends_Get.f getV
  rw [may_is, part_is l hl]
  simp only [Option.bind_some]
  have hnil : ∀ e : Int, ends_Get.l0 k e 0 [] (([] : List Int).length : Int) 0 = some (0, e) := by
    intro e
    obtain ⟨k, rfl⟩ : ∃ m, k = m + 1 := ⟨k - 1, by omega⟩
    simp [ends_Get.l0]
  by_cases hn : n = 1 ∨ n = 2 ∨ n = 4 ∨ n = 8
  · rw [decide_eq_true hn, if_pos rfl, if_pos hn]
    by_cases c1 : at_ < 0 ∨ at_ > l.length
    · rw [if_pos c1, if_pos (by omega)]; exact hnil 2
    rw [if_neg c1, if_neg (by omega)]
    by_cases c4 : (l.length : Int) - at_ < n
    · rw [if_pos c4, if_pos c4]; exact hnil 4
    rw [if_neg c4, if_neg c4]
    have hlen := cutAt_len l at_ n (by omega) (by omega) (by omega) (by omega)
    have := getLoop (cutAt l at_ n) (cutAt_bytes l hb at_ n) (by omega) 0 (cutAt l at_ n).length k 0 (by omega) (by omega)
    simpa [numOf] using this
  · rw [decide_eq_false hn, if_neg hn]
    simp
theorem zeroLoop (L : List Int) (hl : L.length < 140737488355328) (hz : ∀ x ∈ L, x = 0) (d : Nat) : ∀ (k : Nat) (i : Int), 0 ≤ i → i + d = L.length → d < k → ends_Zero.l0 k 0 L (L.length : Int) i = some true := by
  induction d with
  | zero =>
    intro k i h0 h1 hk
    obtain ⟨k, rfl⟩ : ∃ m, k = m + 1 := ⟨k - 1, by omega⟩
    simp only [ends_Zero.l0]
    rw [if_neg (by omega)]; rfl
  | succ d ih =>
    intro k i h0 h1 hk
    obtain ⟨k, rfl⟩ : ∃ m, k = m + 1 := ⟨k - 1, by omega⟩
    have hlt : i.toNat < L.length := by omega
    have hw : wrap64 (i + 1) = i + 1 := by unfold wrap64; omega
    have hrd : rd L i = 0 := by rw [rd_at L i h0 hlt]; exact hz _ (List.getElem_mem hlt)
    simp only [ends_Zero.l0]
    rw [if_pos (by omega), if_pos h0, if_pos (by omega), hrd, if_pos rfl, hw]
    exact ih k (i + 1) (by omega) (by omega) (by omega)
theorem elives_is (k : Nat) (hk : 10 ≤ k) : bulwarklaw01_lives.f k = some true := by
  have h1 : ends_Put.f 258 2 = some ([2, 1], 0) := by decide +kernel
  have h2 : ends_Put.f 256 1 = some ([], 2) := by decide +kernel
  have h3 : ends_Get.f k [2, 1, 5] 0 2 = some (258, 0) := by
    rw [get_is [2, 1, 5] (by intro x hx; simp at hx; omega) (by simp) 0 2 k hk]; decide +kernel
  have h4 : ends_Zero.f k [1, 0] 1 1 = some true := by
    unfold ends_Zero.f
    rw [part_is [1, 0] (by simp)]
    have e : (if (1 : Int) < 0 ∨ (1 : Int) > ([1, 0] : List Int).length ∨ (1 : Int) < 0 then (([] : List Int), (2 : Int)) else if (([1, 0] : List Int).length : Int) - 1 < 1 then ([], 4) else (cutAt [1, 0] 1 1, 0)) = ([0], 0) := by decide +kernel
    rw [e]
    exact zeroLoop [0] (by simp) (by simp) 1 k 0 (by omega) (by simp) (by omega)
  unfold bulwarklaw01_lives.f
  rw [h1, h2, h3, h4]
  simp only [Option.bind_some, if_true]
  rw [same_is [2, 1] (by simp) k (by simp; omega)]
  rfl

theorem rpart_is (l : List Int) (hl : l.length < 140737488355328) (at_ n : Int) (wn : n ≤ 9223372036854775807) (k : Nat) (hk : 1 ≤ k) : bulwarkref01_Part.f k l at_ n =
    some (if at_ < 0 ∨ at_ > l.length ∨ n < 0 then ([], 2) else if (l.length : Int) - at_ < n then ([], 4) else (cutAt l at_ n, 0)) := by
  obtain ⟨k, rfl⟩ : ∃ m, k = m + 1 := ⟨k - 1, by omega⟩
  have hno : bulwarkref01_Part.j0 (k + 1) l at_ n true = some ([], 2) := by simp [bulwarkref01_Part.j0]
  unfold bulwarkref01_Part.f
  by_cases c1 : at_ < 0
  · rw [if_pos c1, hno, if_pos (.inl c1)]
  rw [if_neg c1]
  by_cases c2 : at_ > (l.length : Int)
  · rw [if_pos c2, hno, if_pos (.inr (.inl c2))]
  rw [if_neg c2]
  by_cases c3 : n < 0
  · rw [decide_eq_true c3, hno, if_pos (.inr (.inr c3))]
  rw [decide_eq_false c3, if_neg (show ¬ (at_ < 0 ∨ at_ > (l.length : Int) ∨ n < 0) by omega)]
  have hw : wrap64 ((l.length : Int) - at_) = (l.length : Int) - at_ := by unfold wrap64; omega
  simp only [bulwarkref01_Part.j0]
  rw [if_neg (show ¬ (false = true) by decide), hw]
  by_cases c4 : (l.length : Int) - at_ < n
  · rw [if_pos c4, if_pos c4]
  rw [if_neg c4, if_neg c4]
  have hw2 : wrap64 (at_ + n) = at_ + n := by unfold wrap64; omega
  have hlen := cutAt_len l at_ n (by omega) (by omega) (by omega) (by omega)
  rw [hw2, if_pos (by omega), if_pos (by omega), if_pos (by omega)]
  unfold cutAt at hlen ⊢
  rw [if_pos (by rw [hlen]; simp; omega)]
  rfl
theorem EndsFresh : bulwarklaw01_EndsFresh.Pure := by
  intro l a1 a2 _ hl hb w1 w2
  have b2 := Go.bounds_i64 w2
  obtain ⟨k, hk⟩ : ∃ k : Nat, k = l.length + 60 := ⟨_, rfl⟩
  obtain ⟨⟨p, g⟩, hpg⟩ : ∃ v : List Int × Int, v = (if a1 < 0 ∨ a1 > l.length ∨ a2 < 0 then ([], 2) else if (l.length : Int) - a1 < a2 then ([], 4) else (cutAt l a1 a2, 0)) := ⟨_, rfl⟩
  have hpl : p.length ≤ l.length := by
    split at hpg
    · have := congrArg Prod.fst hpg; dsimp only at this; rw [this]; simp
    · split at hpg
      · have := congrArg Prod.fst hpg; dsimp only at this; rw [this]; simp
      · have := congrArg Prod.fst hpg; dsimp only at this; rw [this]; unfold cutAt; rw [List.length_drop, List.length_take]; omega
  have h2 := part_is l (by omega) a1 a2
  have h4 := rpart_is l (by omega) a1 a2 b2.2 k (by omega)
  rw [← hpg] at h2 h4
  refine ⟨k, p, l ++ List.replicate ((8 - l.length % 8) % 8) 0, g, ?_, h2, ?_, h4, same_is p (by omega) k (by omega), same_is l (by omega) k (by omega), elives_is k (by omega)⟩
  · unfold bulwarkref00_Copy.f; rw [if_pos (by simp; omega), List.nil_append]
  · unfold ends_Pad.f; rw [if_pos (by omega)]

end Go.Proofs.Ytkbnagmlmmengaa.Pure
