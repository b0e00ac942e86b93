/- Joined texts: H13, H14, H16, H17, H18. Lean checks them. -/
import Derived.Test.YtiiemfnaegapmaaM2
import Derived.ChangeKeysEq
import Derived.Deep.Slices
-- The memory's and the reference's functions at whatever arguments, in one form. Lean checks it.
namespace Go.Proofs.Ytiiemfnaegapmaa.Q
open Go.Proofs.Ytiiemfnaegapmaa.Pure Go.Proofs.Ytiiemfnaegapmaa.Z
open Go.RowKit Go.Proofs.YtiiemfnaegapmaaW.PrintWords Go.Proofs.YtiiemfnaegapmaaW.PrintLast Go.Proofs.YtiiemfnaegapmaaW.PrintMore
set_option linter.unusedVariables false
set_option linter.unusedSimpArgs false

def okS (a s : Int) : Bool := isNum s && isThere a s
theorem okS_is {a s : Int} (ha : 0 ≤ a) (h : okS a s = true) : ∃ n k : Nat, a = (n : Int) ∧ s = (k : Int) ∧ (k = 1 ∨ k = 2 ∨ k = 4) ∧ (n : Int) % k = 0 ∧ n + k ≤ 65536 := by
  unfold okS at h
  rw [Bool.and_eq_true] at h
  obtain ⟨k, rfl, hk⟩ := isNum_is h.1
  have h2 := of_decide_eq_true h.2
  obtain ⟨n, rfl⟩ := Int.eq_ofNat_of_zero_le ha
  exact ⟨n, k, rfl, rfl, hk, h2.1, by omega⟩
theorem there8 {a : Int} (ha : 0 ≤ a) (h : isThere a 8 = true) : ∃ n : Nat, a = (n : Int) ∧ n % 8 = 0 ∧ n + 8 ≤ 65536 := by
  have h2 := of_decide_eq_true h
  obtain ⟨n, rfl⟩ := Int.eq_ofNat_of_zero_le ha
  exact ⟨n, rfl, by omega, by omega⟩
theorem part_is2 {a s : Int} (h : isPart a s = true) : ∃ n k : Nat, a = (n : Int) ∧ s = (k : Int) ∧ n + k ≤ 65536 := by
  have h2 := of_decide_eq_true h
  obtain ⟨n, rfl⟩ := Int.eq_ofNat_of_zero_le h2.1
  obtain ⟨k, rfl⟩ := Int.eq_ofNat_of_zero_le h2.2.1
  exact ⟨n, k, rfl, rfl, by omega⟩
def stE (a s : Int) : Int := if okS a s = true then 0 else 2
def sB (B : Nat → Int) (a s v : Int) : Nat → Int := if okS a s = true then stB B a.toNat s.toNat v else B
def sT (T : Nat → Bool) (a s : Int) : Nat → Bool := if okS a s = true then upT T (a.toNat / 8) false else T
def cE (a : Int) : Int := if isThere a 8 = true then 0 else 2
def cB (B : Nat → Int) (a q1 q2 q3 q4 q5 q6 : Int) : Nat → Int := if isThere a 8 = true then stC B a.toNat q1 (num2 q2 q3 q4 q5 q6) else B
def cT (T : Nat → Bool) (a : Int) (q0 : Bool) : Nat → Bool := if isThere a 8 = true then upT T (a.toNat / 8) q0 else T
def lV (B : Nat → Int) (a s : Int) : Int := if okS a s = true then numOf (row B a.toNat s.toNat) else 0
def lA (B : Nat → Int) (a : Int) : Int := if isThere a 8 = true then ldA B a.toNat else 0
def lN (B : Nat → Int) (a : Int) : Int := if isThere a 8 = true then ldN B a.toNat else 0
def lT (T : Nat → Bool) (a : Int) : Bool := if isThere a 8 = true then T (a.toNat / 8) else false
def pE (a s : Int) : Int := if isPart a s = true then 0 else 2
def bL (B : Nat → Int) (a s : Int) : List Int := if isPart a s = true then row B a.toNat s.toNat else []
def tV (T : Nat → Bool) (a s : Int) : Int := if isPart a s = true then (cntT T (a.toNat / 8) (spanN a.toNat s.toNat) : Nat) else 0
theorem Store_any {g : Nat} {B : Nat → Int} {T : Nat → Bool} (a s v : Int) (ha : 0 ≤ a ∧ a < 4294967296) (hv : 0 ≤ v ∧ v < 4294967296) (w : World) (hM : Mem w g true B T) :
    Calls Try.prog 8 #[.pointer (some ⟨g, 0, none⟩), .int .u32 a, .int .i64 s, .int .u32 v] w fun e w' => e = .returned (.int .i64 (stE a s)) ∧ Mem w' g true (sB B a s v) (sT T a s) ∧ Fr (fun k => k = g) w w' := by
  unfold stE sB sT
  cases hc : okS a s with
  | true =>
    obtain ⟨n, k, rfl, rfl, hk, hd, hn⟩ := okS_is ha.1 hc
    simp only [if_true, Int.toNat_natCast]
    exact Store_ok n k v w hM hk hd hn hv
  | false =>
    simp only [Bool.false_eq_true, if_false]
    refine (Store_bad a s v w hM ha hc).mono ?_
    rintro e w' ⟨rfl, rfl⟩
    exact ⟨rfl, hM, Fr.refl _ _⟩
theorem StoreCap_any {g : Nat} {B : Nat → Int} {T : Nat → Bool} (a : Int) (ha : 0 ≤ a ∧ a < 4294967296) (q0 : Bool) (q1 q2 q3 q4 q5 q6 : Int) (h1 : 0 ≤ q1 ∧ q1 < 4294967296) (h2 : 0 ≤ q2 ∧ q2 ≤ 255) (h3 : 0 ≤ q3 ∧ q3 ≤ 255) (h4 : 0 ≤ q4 ∧ q4 ≤ 255) (h5 : 0 ≤ q5 ∧ q5 ≤ 65535) (h6 : 0 ≤ q6 ∧ q6 ≤ 65535) (w : World) (hM : Mem w g true B T) :
    Calls Try.prog 9 #[.pointer (some ⟨g, 0, none⟩), .int .u32 a, .agg #[.bool q0, .int .u32 q1, .int .u8 q2, .int .u8 q3, .int .u8 q4, .int .u16 q5, .int .u16 q6]] w fun e w' => e = .returned (.int .i64 (cE a)) ∧ Mem w' g true (cB B a q1 q2 q3 q4 q5 q6) (cT T a q0) ∧ Fr (fun k => k = g) w w' := by
  unfold cE cB cT
  cases hc : isThere a 8 with
  | true =>
    obtain ⟨n, rfl, hd, hn⟩ := there8 ha.1 hc
    simp only [if_true, Int.toNat_natCast]
    exact StoreCap_ok n q0 q1 q2 q3 q4 q5 q6 h1 h2 h3 h4 h5 h6 w hM hd hn
  | false =>
    simp only [Bool.false_eq_true, if_false]
    refine (StoreCap_bad a q0 q1 q2 q3 q4 q5 q6 w hM ha hc).mono ?_
    rintro e w' ⟨rfl, hb⟩
    exact ⟨rfl, hM.below hb, Fr.of_below hb⟩
theorem Load_any {g : Nat} {B : Nat → Int} {T : Nat → Bool} (hB : ∀ i, 0 ≤ B i ∧ B i ≤ 255) (a s : Int) (ha : 0 ≤ a ∧ a < 4294967296) (w : World) (hM : Mem w g true B T) :
    Calls Try.prog 14 #[.pointer (some ⟨g, 0, none⟩), .int .u32 a, .int .i64 s] w fun e w' => e = .returned (.tuple #[.int .u32 (lV B a s), .int .i64 (stE a s)]) ∧ Below w.heap.size w w' := by
  unfold stE lV
  cases hc : okS a s with
  | true =>
    obtain ⟨n, k, rfl, rfl, hk, hd, hn⟩ := okS_is ha.1 hc
    simp only [if_true, Int.toNat_natCast]
    exact Load_ok hB n k w hM hk hd hn
    
    
    
  | false =>
    simp only [Bool.false_eq_true, if_false]
    refine (Load_bad a s w hM ha hc).mono ?_
    rintro e w' ⟨rfl, rfl⟩
    exact ⟨rfl, Below.refl _ _⟩
theorem LoadCap_any {g : Nat} {B : Nat → Int} {T : Nat → Bool} (hB : ∀ i, 0 ≤ B i ∧ B i ≤ 255) (a : Int) (ha : 0 ≤ a ∧ a < 4294967296) (w : World) (hM : Mem w g true B T) :
    Calls Try.prog 15 #[.pointer (some ⟨g, 0, none⟩), .int .u32 a] w fun e w' => e = .returned (.tuple #[.agg #[.bool (lT T a), .int .u32 (lA B a), .int .u8 (lN B a % 128), .int .u8 (lN B a / 128 % 8), .int .u8 (lN B a / 1024 % 16), .int .u16 (lN B a / 16384 % 512), .int .u16 (lN B a / 8388608 % 512)], .int .i64 (cE a)]) ∧ Below w.heap.size w w' := by
  unfold cE lT lA lN
  cases hc : isThere a 8 with
  | true =>
    obtain ⟨n, rfl, hd, hn⟩ := there8 ha.1 hc
    simp only [if_true, Int.toNat_natCast]
    exact LoadCap_ok hB n w hM hd hn
  | false =>
    simp only [Bool.false_eq_true, if_false]
    exact LoadCap_bad a w hM ha hc
theorem Bytes_any {g : Nat} {B : Nat → Int} {T : Nat → Bool} (a s : Int) (w : World) (hM : Mem w g true B T) :
    Calls Try.prog 10 #[.pointer (some ⟨g, 0, none⟩), .int .i64 a, .int .i64 s] w fun e w' => ∃ v, e = .returned (.tuple #[v, .int .i64 (pE a s)]) ∧ Kd.R (Kd.int .u8) 5 w' w.heap.size (fun _ => True) v (bL B a s) ∧ Below w.heap.size w w' := by
  unfold pE bL
  cases hc : isPart a s with
  | true =>
    obtain ⟨n, k, rfl, rfl, hn⟩ := part_is2 hc
    simp only [if_true, Int.toNat_natCast]
    exact Bytes_ok n k w hM hn
  | false =>
    simp only [Bool.false_eq_true, if_false]
    refine (Bytes_bad a s w hM hc).mono ?_
    rintro e w' ⟨rfl, rfl⟩
    exact ⟨_, rfl, Kd.R_nil _ _ _ _ _, Below.refl _ _⟩
theorem Tags_any {g : Nat} {B : Nat → Int} {T : Nat → Bool} (a s : Int) (w : World) (hM : Mem w g true B T) :
    Calls Try.prog 11 #[.pointer (some ⟨g, 0, none⟩), .int .i64 a, .int .i64 s] w fun e w' => e = .returned (.tuple #[.int .i64 (tV T a s), .int .i64 (pE a s)]) ∧ w = w' := by
  unfold pE tV
  cases hc : isPart a s with
  | true =>
    obtain ⟨n, k, rfl, rfl, hn⟩ := part_is2 hc
    simp only [if_true, Int.toNat_natCast]
    exact Tags_ok n k w hM hn
  | false =>
    simp only [Bool.false_eq_true, if_false]
    exact Tags_bad a s w hM hc
theorem rStore_any {h gb gt : Nat} {B : Nat → Int} {T : Nat → Bool} (a s v : Int) (ha : 0 ≤ a ∧ a < 4294967296) (hv : 0 ≤ v ∧ v < 4294967296) (w : World) (hM : RMem w h gb gt B T) :
    Calls Try.prog 31 #[.pointer (some ⟨h, 0, none⟩), .int .u32 a, .int .i64 s, .int .u32 v] w fun e w' => e = .returned (.int .i64 (stE a s)) ∧ RMem w' h gb gt (sB B a s v) (sT T a s) ∧ Fr (fun k => k = gb ∨ k = gt) w w' := by
  unfold stE sB sT
  cases hc : okS a s with
  | true =>
    obtain ⟨n, k, rfl, rfl, hk, hd, hn⟩ := okS_is ha.1 hc
    simp only [if_true, Int.toNat_natCast]
    exact rStore_ok n k v w hM hk hd hn hv
  | false =>
    simp only [Bool.false_eq_true, if_false]
    refine (rStore_bad h a s v w ha hc).mono ?_
    rintro e w' ⟨rfl, rfl⟩
    exact ⟨rfl, hM, Fr.refl _ _⟩
theorem rStoreCap_any {h gb gt : Nat} {B : Nat → Int} {T : Nat → Bool} (a : Int) (ha : 0 ≤ a ∧ a < 4294967296) (q0 : Bool) (q1 q2 q3 q4 q5 q6 : Int) (h1 : 0 ≤ q1 ∧ q1 < 4294967296) (h2 : 0 ≤ q2 ∧ q2 ≤ 255) (h3 : 0 ≤ q3 ∧ q3 ≤ 255) (h4 : 0 ≤ q4 ∧ q4 ≤ 255) (h5 : 0 ≤ q5 ∧ q5 ≤ 65535) (h6 : 0 ≤ q6 ∧ q6 ≤ 65535) (w : World) (hM : RMem w h gb gt B T) :
    Calls Try.prog 32 #[.pointer (some ⟨h, 0, none⟩), .int .u32 a, .agg #[.bool q0, .int .u32 q1, .int .u8 q2, .int .u8 q3, .int .u8 q4, .int .u16 q5, .int .u16 q6]] w fun e w' => e = .returned (.int .i64 (cE a)) ∧ RMem w' h gb gt (cB B a q1 q2 q3 q4 q5 q6) (cT T a q0) ∧ Fr (fun k => k = gb ∨ k = gt) w w' := by
  unfold cE cB cT
  cases hc : isThere a 8 with
  | true =>
    obtain ⟨n, rfl, hd, hn⟩ := there8 ha.1 hc
    simp only [if_true, Int.toNat_natCast]
    exact rStoreCap_ok n q0 q1 q2 q3 q4 q5 q6 h1 h2 h3 h4 h5 h6 w hM hd hn
  | false =>
    simp only [Bool.false_eq_true, if_false]
    refine (rStoreCap_bad h a q0 q1 q2 q3 q4 q5 q6 w ha hc).mono ?_
    rintro e w' ⟨rfl, hb⟩
    exact ⟨rfl, hM.below hb, Fr.of_below hb⟩
theorem rLoad_any {h gb gt : Nat} {B : Nat → Int} {T : Nat → Bool} (hB : ∀ i, 0 ≤ B i ∧ B i ≤ 255) (a s : Int) (ha : 0 ≤ a ∧ a < 4294967296) (w : World) (hM : RMem w h gb gt B T) :
    Calls Try.prog 35 #[.pointer (some ⟨h, 0, none⟩), .int .u32 a, .int .i64 s] w fun e w' => e = .returned (.tuple #[.int .u32 (lV B a s), .int .i64 (stE a s)]) ∧ Below w.heap.size w w' := by
  unfold stE lV
  cases hc : okS a s with
  | true =>
    obtain ⟨n, k, rfl, rfl, hk, hd, hn⟩ := okS_is ha.1 hc
    simp only [if_true, Int.toNat_natCast]
    have hq : Calls Try.prog 35 #[.pointer (some ⟨h, 0, none⟩), .int .u32 n, .int .i64 k] w fun e w1 => e = .returned (.tuple #[.int .u32 (numOf (row B n k)), .int .i64 0]) ∧ w = w1 := by rcases hk with rfl | rfl | rfl <;> first | exact rLoad_1 hB n w hM hd hn | exact rLoad_2 hB n w hM hd hn | exact rLoad_4 hB n w hM hd hn
    refine hq.mono ?_
    rintro e w1 ⟨rfl, rfl⟩
    exact ⟨rfl, Below.refl _ _⟩
  | false =>
    simp only [Bool.false_eq_true, if_false]
    refine (rLoad_bad h a s w ha hc).mono ?_
    rintro e w' ⟨rfl, rfl⟩
    exact ⟨rfl, Below.refl _ _⟩
theorem rLoadCap_any {h gb gt : Nat} {B : Nat → Int} {T : Nat → Bool} (hB : ∀ i, 0 ≤ B i ∧ B i ≤ 255) (a : Int) (ha : 0 ≤ a ∧ a < 4294967296) (w : World) (hM : RMem w h gb gt B T) :
    Calls Try.prog 36 #[.pointer (some ⟨h, 0, none⟩), .int .u32 a] w fun e w' => e = .returned (.tuple #[.agg #[.bool (lT T a), .int .u32 (lA B a), .int .u8 (lN B a % 128), .int .u8 (lN B a / 128 % 8), .int .u8 (lN B a / 1024 % 16), .int .u16 (lN B a / 16384 % 512), .int .u16 (lN B a / 8388608 % 512)], .int .i64 (cE a)]) ∧ Below w.heap.size w w' := by
  unfold cE lT lA lN
  cases hc : isThere a 8 with
  | true =>
    obtain ⟨n, rfl, hd, hn⟩ := there8 ha.1 hc
    simp only [if_true, Int.toNat_natCast]
    exact rLoadCap_ok hB n w hM hd hn
  | false =>
    simp only [Bool.false_eq_true, if_false]
    exact rLoadCap_bad h a w ha hc
theorem rBytes_any {h gb gt : Nat} {B : Nat → Int} {T : Nat → Bool} (a s : Int) (w : World) (hM : RMem w h gb gt B T) :
    Calls Try.prog 33 #[.pointer (some ⟨h, 0, none⟩), .int .i64 a, .int .i64 s] w fun e w' => ∃ v, e = .returned (.tuple #[v, .int .i64 (pE a s)]) ∧ Kd.R (Kd.int .u8) 5 w' w.heap.size (fun _ => True) v (bL B a s) ∧ Below w.heap.size w w' := by
  unfold pE bL
  cases hc : isPart a s with
  | true =>
    obtain ⟨n, k, rfl, rfl, hn⟩ := part_is2 hc
    simp only [if_true, Int.toNat_natCast]
    exact rBytes_ok n k w hM hn
  | false =>
    simp only [Bool.false_eq_true, if_false]
    refine (rBytes_bad h a s w hc).mono ?_
    rintro e w' ⟨rfl, rfl⟩
    exact ⟨_, rfl, Kd.R_nil _ _ _ _ _, Below.refl _ _⟩
theorem rTags_any {h gb gt : Nat} {B : Nat → Int} {T : Nat → Bool} (a s : Int) (w : World) (hM : RMem w h gb gt B T) :
    Calls Try.prog 34 #[.pointer (some ⟨h, 0, none⟩), .int .i64 a, .int .i64 s] w fun e w' => e = .returned (.tuple #[.int .i64 (tV T a s), .int .i64 (pE a s)]) ∧ w = w' := by
  unfold pE tV
  cases hc : isPart a s with
  | true =>
    obtain ⟨n, k, rfl, rfl, hn⟩ := part_is2 hc
    simp only [if_true, Int.toNat_natCast]
    exact rTags_ok n k w hM hn
  | false =>
    simp only [Bool.false_eq_true, if_false]
    exact rTags_bad h a s w hc
theorem sB_range {B : Nat → Int} (hB : ∀ i, 0 ≤ B i ∧ B i ≤ 255) (a s v : Int) (hv : 0 ≤ v) : ∀ i, 0 ≤ sB B a s v i ∧ sB B a s v i ≤ 255 := by
  intro i
  unfold sB
  split
  · unfold stB
    split
    · exact nth_u8 _ _ hv
    · exact hB i
  · exact hB i
theorem cB_range {B : Nat → Int} (hB : ∀ i, 0 ≤ B i ∧ B i ≤ 255) (a q1 q2 q3 q4 q5 q6 : Int) (hq : 0 ≤ q1) : ∀ i, 0 ≤ cB B a q1 q2 q3 q4 q5 q6 i ∧ cB B a q1 q2 q3 q4 q5 q6 i ≤ 255 := by
  intro i
  unfold cB
  split
  · unfold stC
    split
    · exact nth_u8 _ _ hq
    · split
      · exact nth_u8 _ _ (num2_range _ _ _ _ _).1
      · exact hB i
  · exact hB i
theorem same_loop (l : List Int) (hl : l.length ≤ 9223372036854775807) (d : Nat) : ∀ (k : Nat) (i : Int), 0 ≤ i → i + d = l.length → d < k → bulwarkref00_Same.l0 k l l i = some true := by
  induction d with
  | zero =>
    intro k i h0 h1 hk
    obtain ⟨k, rfl⟩ : ∃ m, k = m + 1 := ⟨k - 1, by omega⟩
    simp only [bulwarkref00_Same.l0]
    rw [if_neg (by omega)]
  | succ d ih =>
    intro k i h0 h1 hk
    obtain ⟨k, rfl⟩ : ∃ m, k = m + 1 := ⟨k - 1, by omega⟩
    have hw : wrap64 (i + 1) = i + 1 := by unfold wrap64; omega
    simp only [bulwarkref00_Same.l0]
    simp only [if_true]
    rw [if_pos (by omega), if_pos h0, if_pos (by omega), hw]
    exact ih k (i + 1) (by omega) (by omega) (by omega)
theorem same_is (l : List Int) (hl : l.length ≤ 9223372036854775807) : bulwarkref00_Same.f (l.length + 1) l l = some true := by
  unfold bulwarkref00_Same.f
  rw [if_pos rfl]
  exact same_loop l hl l.length _ 0 (by omega) (by omega) (by omega)
/-- Two rows that read alike are the same. -/
theorem same_calls (A0 A1 : Option Addr) (c0 c1 : Nat) (l : List Int) (w : World) (hr0 : Kd.C (Kd.int .u8) w A0 l.length l) (hc0 : l.length ≤ c0) (hr1 : Kd.C (Kd.int .u8) w A1 l.length l) (hc1 : l.length ≤ c1) :
    Calls Try.prog 12 #[.slice A0 l.length c0, .slice A1 l.length c1] w fun e w' => e = .returned (.bool true) ∧ Below w.heap.size w w' := by
  refine (bulwarkref00_Same.calls _ A0 c0 l A1 c1 l true w hr0 hc0 hr1 hc1 (same_is l hr0.2.1)).mono ?_
  rintro e w' ⟨rfl, ⟨n, rfl⟩⟩
  exact ⟨rfl, pw_below_drewN (Below.refl _ _) n⟩
end Go.Proofs.Ytiiemfnaegapmaa.Q

-- What lives, whether two are alike, and the law on none. Lean checks it.
namespace Go.Proofs.Ytiiemfnaegapmaa.Q
open Go.Proofs.Ytiiemfnaegapmaa.Pure Go.Proofs.Ytiiemfnaegapmaa.Z
open Go.RowKit Go.Proofs.YtiiemfnaegapmaaW.PrintWords Go.Proofs.YtiiemfnaegapmaaW.PrintLast Go.Proofs.YtiiemfnaegapmaaW.PrintMore
set_option linter.unusedVariables false
set_option linter.unusedSimpArgs false
def lT0 : Nat → Bool := cT (fun _ => false) 8 true
def lB0 : Nat → Int := cB (fun _ => 0) 8 4096 39 0 4 256 0
def lT1 : Nat → Bool := sT lT0 12 1
def lB1 : Nat → Int := sB lB0 12 1 7
theorem lives_facts : cE 8 = 0 ∧ tV lT0 0 16 = 1 ∧ pE 0 16 = 0 ∧ stE 12 1 = 0 ∧ tV lT1 0 16 = 0 ∧ lV lB1 12 1 = 7 ∧ stE 2 4 = 2 := by
  refine ⟨?_, ?_, ?_, ?_, ?_, ?_, ?_⟩ <;> decide +kernel
theorem root_fact : bulwarkref03_Root.f 40 4096 8192 39 = some (true, 4096, 39, 0, 4, 256, 0, 0) := by kernel_rfl
theorem zero_range : ∀ i : Nat, 0 ≤ (fun _ : Nat => (0 : Int)) i ∧ (fun _ : Nat => (0 : Int)) i ≤ 255 := fun _ => ⟨Int.le_refl _, by show (0 : Int) ≤ 255; decide⟩
theorem lB1_range : ∀ i, 0 ≤ lB1 i ∧ lB1 i ≤ 255 := sB_range (cB_range zero_range _ _ _ _ _ _ _ (by decide)) _ _ _ (by decide)
theorem bstep {B : Nat} {w0 W W2 : World} (h : Below B w0 W) (hB : B ≤ W.heap.size) (k : Below W.heap.size W W2) : Below B w0 W2 := h.trans (k.mono hB)
/-- The memory, and what has turned since the elder world: all of it from block g on. -/
structure St (w0 W : World) (g : Nat) (B : Nat → Int) (T : Nat → Bool) : Prop where
  m : Mem W g true B T
  b : Below w0.heap.size w0 W
  g0 : w0.heap.size ≤ g
theorem St.below {w0 W W2 : World} {g : Nat} {B : Nat → Int} {T : Nat → Bool} (h : St w0 W g B T) (k : Below W.heap.size W W2) : St w0 W2 g B T := ⟨h.m.below k, below_step h.b k, h.g0⟩
theorem St.step {w0 W W2 : World} {g : Nat} {B B' : Nat → Int} {T T' : Nat → Bool} (h : St w0 W g B T) (k : Mem W2 g true B' T') (f : Fr (fun i => i = g) W W2) : St w0 W2 g B' T' := ⟨k, f.below h.b (fun i e => e ▸ h.g0) h.b.size, h.g0⟩
theorem St.alloc {w0 W : World} {g : Nat} {B : Nat → Int} {T : Nat → Bool} (h : St w0 W g B T) (o : Obj) : St w0 (W.alloc o) g B T := h.below ((Below.refl _ _).alloc (Nat.le_refl _) o)
set_option maxRecDepth 100000 in
set_option maxHeartbeats 8000000 in
theorem lives_calls (w : World) : Calls Try.prog 13 #[] w fun e w' => e = .returned (.bool true) ∧ Below w.heap.size w w' := by
  have hu30 := Try.underlying30
  obtain ⟨f1, f2, f3, f4, f5, f6, f7⟩ := lives_facts
  have F := Aside0.mk (And.intro f1 (And.intro f2 (And.intro f3 (And.intro f4 (And.intro f5 (And.intro f6 f7))))))
  clear f1 f2 f3 f4 f5 f6 f7
  obtain ⟨g, HG⟩ : ∃ g, Aside0 (g = w.heap.size) := ⟨_, ⟨rfl⟩⟩
  go_enter Try.func13, Try.ntmps13
  go_wp2_with fail
  refine (New_calls _).mono ?_
  rintro e w1 ⟨rfl, hm, hb⟩
  have HS := Aside0.mk (St.mk hm hb (Nat.le_refl _))
  clear hm hb
  rw [← HG.out] at HS ⊢
  go_wp2_with fail
  refine (bulwarkref03_Root.calls 40 4096 8192 39 _ _ _ _ _ _ _ _ _ root_fact).mono ?_
  rintro e w2 ⟨rfl, hb⟩
  replace HS := Aside0.mk (HS.out.below hb)
  clear hb
  go_wp2_with fail
  replace HS := Aside0.mk (HS.out.alloc (.cells #[.bool true, .int .u32 4096, .int .u8 39, .int .u8 0, .int .u8 4, .int .u16 256, .int .u16 0] 30))
  refine (StoreCap_any 8 (by decide) true 4096 39 0 4 256 0 (by decide) (by decide) (by decide) (by decide) (by decide) (by decide) _ HS.out.m).mono ?_
  rw [F.out.1]
  rintro e w3 ⟨rfl, hm, hf⟩
  replace HS : Aside0 (St w w3 g lB0 lT0) := ⟨HS.out.step hm hf⟩
  clear hm hf
  go_wp2_with fail
  refine (Tags_any 0 16 _ HS.out.m).mono ?_
  rw [F.out.2.1, F.out.2.2.1]
  rintro e w1 ⟨rfl, rfl⟩
  go_wp2_with fail
  refine (Store_any 12 1 7 (by decide) (by decide) _ HS.out.m).mono ?_
  rw [F.out.2.2.2.1]
  rintro e w4 ⟨rfl, hm, hf⟩
  replace HS : Aside0 (St w w4 g lB1 lT1) := ⟨HS.out.step hm hf⟩
  clear hm hf
  go_wp2_with fail
  refine (Tags_any 0 16 _ HS.out.m).mono ?_
  rw [F.out.2.2.2.2.1, F.out.2.2.1]
  rintro e w1 ⟨rfl, rfl⟩
  go_wp2_with fail
  refine (Load_any lB1_range 12 1 (by decide) _ HS.out.m).mono ?_
  rw [F.out.2.2.2.2.2.1, F.out.2.2.2.1]
  rintro e w5 ⟨rfl, hb⟩
  replace HS := Aside0.mk (HS.out.below hb)
  clear hb
  go_wp2_with fail
  refine (Store_any 2 4 1 (by decide) (by decide) _ HS.out.m).mono ?_
  rw [F.out.2.2.2.2.2.2]
  rintro e w6 ⟨rfl, hm, hf⟩
  replace HS := Aside0.mk (HS.out.step hm hf)
  clear hm hf
  go_wp2
  go_ret
  exact ⟨rfl, HS.out.b⟩
end Go.Proofs.Ytiiemfnaegapmaa.Q

-- The law on capabilities in memory. Lean checks it.
namespace Go.Proofs.Ytiiemfnaegapmaa.Q
open Go.Proofs.Ytiiemfnaegapmaa.Pure Go.Proofs.Ytiiemfnaegapmaa.Z
open Go.RowKit Go.Proofs.YtiiemfnaegapmaaW.PrintWords Go.Proofs.YtiiemfnaegapmaaW.PrintLast Go.Proofs.YtiiemfnaegapmaaW.PrintMore
set_option linter.unusedVariables false
set_option linter.unusedSimpArgs false
theorem eqA28 (d : Nat) (w : World) (x0 y0 : Int) (x1 y1 : Int) (x2 y2 : Int) :
    (Op.equalIn (d + 2) 28 (.agg #[.int .u8 x0, .int .u16 x1, .int .u16 x2]) (.agg #[.int .u8 y0, .int .u16 y1, .int .u16 y2])).run Try.prog w = .ok (x0 == y0 && (x1 == y1 && (x2 == y2))) w := by
  refine eqA_of Try.underlying28 (by kernel_rfl) ?_
  refine eqf_cons (by rfl) (by go_simp; rfl) (by go_simp; rfl) (by go_simp) ?_
  refine eqf_cons (by rfl) (by go_simp; rfl) (by go_simp; rfl) (by go_simp) ?_
  exact eqf_last (by rfl) (by go_simp; rfl) (by go_simp; rfl) (by go_simp)
theorem eqA30 (d : Nat) (w : World) (x0 y0 : Bool) (x1 y1 : Int) (x2 y2 : Int) (x3 y3 : Int) (x4 y4 : Int) (x5 y5 : Int) (x6 y6 : Int) :
    (Op.equalIn (d + 3) 30 (.agg #[.bool x0, .int .u32 x1, .int .u8 x2, .int .u8 x3, .int .u8 x4, .int .u16 x5, .int .u16 x6]) (.agg #[.bool y0, .int .u32 y1, .int .u8 y2, .int .u8 y3, .int .u8 y4, .int .u16 y5, .int .u16 y6])).run Try.prog w = .ok (x0 == y0 && (x1 == y1 && (x2 == y2 && (x3 == y3 && ((x4 == y4 && (x5 == y5 && (x6 == y6)))))))) w := by
  refine eqA_of Try.underlying30 (by kernel_rfl) ?_
  refine eqf_cons (by rfl) (by go_simp; rfl) (by go_simp; rfl) (by go_simp) ?_
  refine eqf_cons (by rfl) (by go_simp; rfl) (by go_simp; rfl) (by go_simp) ?_
  refine eqf_cons (by rfl) (by go_simp; rfl) (by go_simp; rfl) (by go_simp) ?_
  refine eqf_cons (by rfl) (by go_simp; rfl) (by go_simp; rfl) (by go_simp) ?_
  exact eqf_last (by rfl) (by go_simp) (by go_simp) (eqA28 (d + 0) w _ _ _ _ _ _)
theorem eqS30 (d : Nat) (w : World) (x0 : Bool) (x1 x2 x3 x4 x5 x6 : Int) :
    (Op.equalIn (d + 3) 30 (.agg #[.bool x0, .int .u32 x1, .int .u8 x2, .int .u8 x3, .int .u8 x4, .int .u16 x5, .int .u16 x6]) (.agg #[.bool x0, .int .u32 x1, .int .u8 x2, .int .u8 x3, .int .u8 x4, .int .u16 x5, .int .u16 x6])).run Try.prog w = .ok true w := by
  rw [eqA30]; simp
attribute [local go_sem high] eqS30
/-- What stands in memory of a capability's address, and of the rest. -/
def capA (q1 : Int) : Int := numOf [nth q1 0, nth q1 1, nth q1 2, nth q1 3]
def capN (q2 q3 q4 q5 q6 : Int) : Int := numOf [nth (num2 q2 q3 q4 q5 q6) 0, nth (num2 q2 q3 q4 q5 q6) 1, nth (num2 q2 q3 q4 q5 q6) 2, nth (num2 q2 q3 q4 q5 q6) 3]
theorem lA_cB (B : Nat → Int) (a q1 q2 q3 q4 q5 q6 : Int) (h : isThere a 8 = true) : lA (cB B a q1 q2 q3 q4 q5 q6) a = capA q1 := by
  unfold lA cB ldA stC capA
  simp only [h, if_true]
  rw [if_pos (by omega), if_pos (by omega), if_pos (by omega), if_pos (by omega)]
  simp
theorem lN_cB (B : Nat → Int) (a q1 q2 q3 q4 q5 q6 : Int) (h : isThere a 8 = true) : lN (cB B a q1 q2 q3 q4 q5 q6) a = capN q2 q3 q4 q5 q6 := by
  unfold lN cB ldN stC capN
  simp only [h, if_true]
  rw [if_neg (by omega), if_pos (by omega), if_neg (by omega), if_pos (by omega), if_neg (by omega), if_pos (by omega), if_neg (by omega), if_pos (by omega)]
  rw [show a.toNat + 4 - (a.toNat + 4) = 0 by omega, show a.toNat + 5 - (a.toNat + 4) = 1 by omega, show a.toNat + 6 - (a.toNat + 4) = 2 by omega, show a.toNat + 7 - (a.toNat + 4) = 3 by omega]
theorem lT_cT (T : Nat → Bool) (a : Int) (q0 : Bool) (h : isThere a 8 = true) : lT (cT T a q0) a = q0 := by
  unfold lT cT upT
  simp [h]
theorem ok4 {a : Int} (h : isThere a 8 = true) : okS a 4 = true := by
  have h2 := of_decide_eq_true h
  unfold okS isNum isThere
  rw [Bool.and_eq_true]
  exact ⟨by decide, decide_eq_true ⟨by omega, by omega⟩⟩
theorem nth4 (v : Int) (hv : 0 ≤ v ∧ v < 4294967296) : numOf [nth v 0, nth v 1, nth v 2, nth v 3] = v := by
  rw [num4]; unfold nth; simp only [Nat.mul_zero, Nat.mul_one, Nat.reduceMul]; omega
theorem lA_sB (B : Nat → Int) (a v : Int) (hv : 0 ≤ v ∧ v < 4294967296) (h : isThere a 8 = true) : lA (sB B a 4 v) a = v := by
  unfold lA sB ldA stB
  simp only [h, ok4 h, if_true]
  have : (4 : Int).toNat = 4 := rfl
  rw [this, if_pos (by omega), if_pos (by omega), if_pos (by omega), if_pos (by omega)]
  simp only [Nat.sub_self, Nat.add_sub_cancel_left]
  exact nth4 v hv
theorem lT_sT (T : Nat → Bool) (a : Int) (h : isThere a 8 = true) : lT (sT T a 4) a = false := by
  unfold lT sT upT
  simp [h, ok4 h]
theorem keepK {w W W2 : World} {b4 b8 b12 b14 : Nat} {q0 : Bool} {q1 q2 q3 q4 q5 q6 A n1 n2 n3 n4 n5 v : Int} (k : Below W.heap.size W W2) (h : W.cell? ⟨b4, 0, none⟩ = some (.bool q0) ∧ W.cell? ⟨b4, 1, none⟩ = some (.int .u32 q1) ∧ W.cell? ⟨b4, 2, none⟩ = some (.int .u8 q2) ∧ W.cell? ⟨b4, 3, none⟩ = some (.int .u8 q3) ∧ W.cell? ⟨b4, 4, none⟩ = some (.int .u8 q4) ∧ W.cell? ⟨b4, 5, none⟩ = some (.int .u16 q5) ∧ W.cell? ⟨b4, 6, none⟩ = some (.int .u16 q6) ∧ W.cell? ⟨b8, 0, none⟩ = some (.bool q0) ∧ W.cell? ⟨b8, 1, none⟩ = some (.int .u32 A) ∧ W.cell? ⟨b8, 2, none⟩ = some (.int .u8 n1) ∧ W.cell? ⟨b8, 3, none⟩ = some (.int .u8 n2) ∧ W.cell? ⟨b8, 4, none⟩ = some (.int .u8 n3) ∧ W.cell? ⟨b8, 5, none⟩ = some (.int .u16 n4) ∧ W.cell? ⟨b8, 6, none⟩ = some (.int .u16 n5) ∧ W.cell? ⟨b12, 0, none⟩ = some (.bool q0) ∧ W.cell? ⟨b12, 1, none⟩ = some (.int .u32 A) ∧ W.cell? ⟨b12, 2, none⟩ = some (.int .u8 n1) ∧ W.cell? ⟨b12, 3, none⟩ = some (.int .u8 n2) ∧ W.cell? ⟨b12, 4, none⟩ = some (.int .u8 n3) ∧ W.cell? ⟨b12, 5, none⟩ = some (.int .u16 n4) ∧ W.cell? ⟨b12, 6, none⟩ = some (.int .u16 n5) ∧ W.cell? ⟨b14, 0, none⟩ = some (.bool false) ∧ W.cell? ⟨b14, 1, none⟩ = some (.int .u32 v) ∧ Below w.heap.size w W) : W2.cell? ⟨b4, 0, none⟩ = some (.bool q0) ∧ W2.cell? ⟨b4, 1, none⟩ = some (.int .u32 q1) ∧ W2.cell? ⟨b4, 2, none⟩ = some (.int .u8 q2) ∧ W2.cell? ⟨b4, 3, none⟩ = some (.int .u8 q3) ∧ W2.cell? ⟨b4, 4, none⟩ = some (.int .u8 q4) ∧ W2.cell? ⟨b4, 5, none⟩ = some (.int .u16 q5) ∧ W2.cell? ⟨b4, 6, none⟩ = some (.int .u16 q6) ∧ W2.cell? ⟨b8, 0, none⟩ = some (.bool q0) ∧ W2.cell? ⟨b8, 1, none⟩ = some (.int .u32 A) ∧ W2.cell? ⟨b8, 2, none⟩ = some (.int .u8 n1) ∧ W2.cell? ⟨b8, 3, none⟩ = some (.int .u8 n2) ∧ W2.cell? ⟨b8, 4, none⟩ = some (.int .u8 n3) ∧ W2.cell? ⟨b8, 5, none⟩ = some (.int .u16 n4) ∧ W2.cell? ⟨b8, 6, none⟩ = some (.int .u16 n5) ∧ W2.cell? ⟨b12, 0, none⟩ = some (.bool q0) ∧ W2.cell? ⟨b12, 1, none⟩ = some (.int .u32 A) ∧ W2.cell? ⟨b12, 2, none⟩ = some (.int .u8 n1) ∧ W2.cell? ⟨b12, 3, none⟩ = some (.int .u8 n2) ∧ W2.cell? ⟨b12, 4, none⟩ = some (.int .u8 n3) ∧ W2.cell? ⟨b12, 5, none⟩ = some (.int .u16 n4) ∧ W2.cell? ⟨b12, 6, none⟩ = some (.int .u16 n5) ∧ W2.cell? ⟨b14, 0, none⟩ = some (.bool false) ∧ W2.cell? ⟨b14, 1, none⟩ = some (.int .u32 v) ∧ Below w.heap.size w W2 := by
  obtain ⟨h0, h1, h2, h3, h4, h5, h6, h7, h8, h9, h10, h11, h12, h13, h14, h15, h16, h17, h18, h19, h20, h21, h22, hb⟩ := h
  exact ⟨(k.cell (World.block_lt_of_cell? _ _ h0)).trans h0, (k.cell (World.block_lt_of_cell? _ _ h1)).trans h1, (k.cell (World.block_lt_of_cell? _ _ h2)).trans h2, (k.cell (World.block_lt_of_cell? _ _ h3)).trans h3, (k.cell (World.block_lt_of_cell? _ _ h4)).trans h4, (k.cell (World.block_lt_of_cell? _ _ h5)).trans h5, (k.cell (World.block_lt_of_cell? _ _ h6)).trans h6, (k.cell (World.block_lt_of_cell? _ _ h7)).trans h7, (k.cell (World.block_lt_of_cell? _ _ h8)).trans h8, (k.cell (World.block_lt_of_cell? _ _ h9)).trans h9, (k.cell (World.block_lt_of_cell? _ _ h10)).trans h10, (k.cell (World.block_lt_of_cell? _ _ h11)).trans h11, (k.cell (World.block_lt_of_cell? _ _ h12)).trans h12, (k.cell (World.block_lt_of_cell? _ _ h13)).trans h13, (k.cell (World.block_lt_of_cell? _ _ h14)).trans h14, (k.cell (World.block_lt_of_cell? _ _ h15)).trans h15, (k.cell (World.block_lt_of_cell? _ _ h16)).trans h16, (k.cell (World.block_lt_of_cell? _ _ h17)).trans h17, (k.cell (World.block_lt_of_cell? _ _ h18)).trans h18, (k.cell (World.block_lt_of_cell? _ _ h19)).trans h19, (k.cell (World.block_lt_of_cell? _ _ h20)).trans h20, (k.cell (World.block_lt_of_cell? _ _ h21)).trans h21, (k.cell (World.block_lt_of_cell? _ _ h22)).trans h22, below_step hb k⟩
theorem keepKD {w W : World} {b4 b8 b12 b14 : Nat} {q0 : Bool} {q1 q2 q3 q4 q5 q6 A n1 n2 n3 n4 n5 v : Int} (h : W.cell? ⟨b4, 0, none⟩ = some (.bool q0) ∧ W.cell? ⟨b4, 1, none⟩ = some (.int .u32 q1) ∧ W.cell? ⟨b4, 2, none⟩ = some (.int .u8 q2) ∧ W.cell? ⟨b4, 3, none⟩ = some (.int .u8 q3) ∧ W.cell? ⟨b4, 4, none⟩ = some (.int .u8 q4) ∧ W.cell? ⟨b4, 5, none⟩ = some (.int .u16 q5) ∧ W.cell? ⟨b4, 6, none⟩ = some (.int .u16 q6) ∧ W.cell? ⟨b8, 0, none⟩ = some (.bool q0) ∧ W.cell? ⟨b8, 1, none⟩ = some (.int .u32 A) ∧ W.cell? ⟨b8, 2, none⟩ = some (.int .u8 n1) ∧ W.cell? ⟨b8, 3, none⟩ = some (.int .u8 n2) ∧ W.cell? ⟨b8, 4, none⟩ = some (.int .u8 n3) ∧ W.cell? ⟨b8, 5, none⟩ = some (.int .u16 n4) ∧ W.cell? ⟨b8, 6, none⟩ = some (.int .u16 n5) ∧ W.cell? ⟨b12, 0, none⟩ = some (.bool q0) ∧ W.cell? ⟨b12, 1, none⟩ = some (.int .u32 A) ∧ W.cell? ⟨b12, 2, none⟩ = some (.int .u8 n1) ∧ W.cell? ⟨b12, 3, none⟩ = some (.int .u8 n2) ∧ W.cell? ⟨b12, 4, none⟩ = some (.int .u8 n3) ∧ W.cell? ⟨b12, 5, none⟩ = some (.int .u16 n4) ∧ W.cell? ⟨b12, 6, none⟩ = some (.int .u16 n5) ∧ W.cell? ⟨b14, 0, none⟩ = some (.bool false) ∧ W.cell? ⟨b14, 1, none⟩ = some (.int .u32 v) ∧ Below w.heap.size w W) : W.drew.cell? ⟨b4, 0, none⟩ = some (.bool q0) ∧ W.drew.cell? ⟨b4, 1, none⟩ = some (.int .u32 q1) ∧ W.drew.cell? ⟨b4, 2, none⟩ = some (.int .u8 q2) ∧ W.drew.cell? ⟨b4, 3, none⟩ = some (.int .u8 q3) ∧ W.drew.cell? ⟨b4, 4, none⟩ = some (.int .u8 q4) ∧ W.drew.cell? ⟨b4, 5, none⟩ = some (.int .u16 q5) ∧ W.drew.cell? ⟨b4, 6, none⟩ = some (.int .u16 q6) ∧ W.drew.cell? ⟨b8, 0, none⟩ = some (.bool q0) ∧ W.drew.cell? ⟨b8, 1, none⟩ = some (.int .u32 A) ∧ W.drew.cell? ⟨b8, 2, none⟩ = some (.int .u8 n1) ∧ W.drew.cell? ⟨b8, 3, none⟩ = some (.int .u8 n2) ∧ W.drew.cell? ⟨b8, 4, none⟩ = some (.int .u8 n3) ∧ W.drew.cell? ⟨b8, 5, none⟩ = some (.int .u16 n4) ∧ W.drew.cell? ⟨b8, 6, none⟩ = some (.int .u16 n5) ∧ W.drew.cell? ⟨b12, 0, none⟩ = some (.bool q0) ∧ W.drew.cell? ⟨b12, 1, none⟩ = some (.int .u32 A) ∧ W.drew.cell? ⟨b12, 2, none⟩ = some (.int .u8 n1) ∧ W.drew.cell? ⟨b12, 3, none⟩ = some (.int .u8 n2) ∧ W.drew.cell? ⟨b12, 4, none⟩ = some (.int .u8 n3) ∧ W.drew.cell? ⟨b12, 5, none⟩ = some (.int .u16 n4) ∧ W.drew.cell? ⟨b12, 6, none⟩ = some (.int .u16 n5) ∧ W.drew.cell? ⟨b14, 0, none⟩ = some (.bool false) ∧ W.drew.cell? ⟨b14, 1, none⟩ = some (.int .u32 v) ∧ Below w.heap.size w W.drew := by
  obtain ⟨h0, h1, h2, h3, h4, h5, h6, h7, h8, h9, h10, h11, h12, h13, h14, h15, h16, h17, h18, h19, h20, h21, h22, hb⟩ := h
  exact ⟨h0, h1, h2, h3, h4, h5, h6, h7, h8, h9, h10, h11, h12, h13, h14, h15, h16, h17, h18, h19, h20, h21, h22, hb.drew⟩

theorem LoadCap_st {g : Nat} {B : Nat → Int} {T : Nat → Bool} (hB : ∀ i, 0 ≤ B i ∧ B i ≤ 255) (a : Int) (ha : 0 ≤ a ∧ a < 4294967296) (h : isThere a 8 = true) (q0 : Bool) (q1 q2 q3 q4 q5 q6 : Int) (hq : 0 ≤ q1) (w : World) (hM : Mem w g true (cB B a q1 q2 q3 q4 q5 q6) (cT T a q0)) :
    Calls Try.prog 15 #[.pointer (some ⟨g, 0, none⟩), .int .u32 a] w fun e w' => e = .returned (.tuple #[.agg #[.bool q0, .int .u32 (capA q1), .int .u8 (capN q2 q3 q4 q5 q6 % 128), .int .u8 (capN q2 q3 q4 q5 q6 / 128 % 8), .int .u8 (capN q2 q3 q4 q5 q6 / 1024 % 16), .int .u16 (capN q2 q3 q4 q5 q6 / 16384 % 512), .int .u16 (capN q2 q3 q4 q5 q6 / 8388608 % 512)], .int .i64 0]) ∧ Below w.heap.size w w' := by
  have h1 := LoadCap_any (cB_range hB a q1 q2 q3 q4 q5 q6 hq) a ha w hM
  rw [lT_cT _ _ _ h, lA_cB _ _ _ _ _ _ _ _ h, lN_cB _ _ _ _ _ _ _ _ h, show cE a = 0 from if_pos h] at h1
  exact h1
set_option maxRecDepth 100000 in
set_option maxHeartbeats 8000000 in
theorem MemoryCaps_calls (a : Int) (ha : 0 ≤ a ∧ a < 4294967296) (q0 : Bool) (q1 q2 q3 q4 q5 q6 : Int) (h1 : 0 ≤ q1 ∧ q1 < 4294967296) (h2 : 0 ≤ q2 ∧ q2 ≤ 255) (h3 : 0 ≤ q3 ∧ q3 ≤ 255) (h4 : 0 ≤ q4 ∧ q4 ≤ 255) (h5 : 0 ≤ q5 ∧ q5 ≤ 65535) (h6 : 0 ≤ q6 ∧ q6 ≤ 65535) (v : Int) (hv : 0 ≤ v ∧ v < 4294967296) (w : World) :
    Calls Try.prog 4 #[.int .u32 a, .agg #[.bool q0, .int .u32 q1, .int .u8 q2, .int .u8 q3, .int .u8 q4, .int .u16 q5, .int .u16 q6], .int .u32 v] w fun e w' => e = .returned (.bool true) ∧ Below w.heap.size w w' := by
  have hu30 := Try.underlying30
  have HA := Aside0.mk ha
  have HV := Aside0.mk hv
  have HQ := Aside0.mk (And.intro h1 (And.intro h2 (And.intro h3 (And.intro h4 (And.intro h5 h6)))))
  clear ha hv h1 h2 h3 h4 h5 h6
  have C4 : Aside0 ((w.alloc (.cells #[.bool q0, .int .u32 q1, .int .u8 q2, .int .u8 q3, .int .u8 q4, .int .u16 q5, .int .u16 q6] 30)).heap[w.heap.size]? = some (.cells #[.bool q0, .int .u32 q1, .int .u8 q2, .int .u8 q3, .int .u8 q4, .int .u16 q5, .int .u16 q6] 30 (0, 0))) := ⟨heap_alloc_new _ _⟩
  have HB : Aside0 (Below w.heap.size w (w.alloc (.cells #[.bool q0, .int .u32 q1, .int .u8 q2, .int .u8 q3, .int .u8 q4, .int .u16 q5, .int .u16 q6] 30))) := ⟨(Below.refl _ _).alloc (Nat.le_refl _) _⟩
  obtain ⟨g, HG⟩ : ∃ g, Aside0 (g = w.heap.size + 1) := ⟨_, ⟨rfl⟩⟩
  have NE : Aside0 (¬ w.heap.size = g) := ⟨by have := HG.out; omega⟩
  go_enter Try.func4, Try.ntmps4
  go_wp2_with fail
  refine (New_calls _).mono ?_
  rintro e w1 ⟨rfl, hm, hb⟩
  have hsz : (w.alloc (.cells #[.bool q0, .int .u32 q1, .int .u8 q2, .int .u8 q3, .int .u8 q4, .int .u16 q5, .int .u16 q6] 30)).heap.size = w.heap.size + 1 := by simp
  rw [hsz, ← HG.out] at hm ⊢
  have HS : Aside0 (St w w1 g (fun _ => 0) (fun _ => false)) := ⟨hm, below_step HB.out hb, by have := HG.out; omega⟩
  replace C4 := Aside0.mk (blk_below C4.out hb)
  clear hm hb hsz HB
  have hc0 := (blk_cell C4.out 0).trans rfl
  have hc1 := (blk_cell C4.out 1).trans rfl
  have hc2 := (blk_cell C4.out 2).trans rfl
  have hc3 := (blk_cell C4.out 3).trans rfl
  have hc4 := (blk_cell C4.out 4).trans rfl
  have hc5 := (blk_cell C4.out 5).trans rfl
  have hc6 := (blk_cell C4.out 6).trans rfl
  go_wp2_with fail
  clear hc0 hc1 hc2 hc3 hc4 hc5 hc6
  refine (StoreCap_any a HA.out q0 q1 q2 q3 q4 q5 q6 HQ.out.1 HQ.out.2.1 HQ.out.2.2.1 HQ.out.2.2.2.1 HQ.out.2.2.2.2.1 HQ.out.2.2.2.2.2 _ HS.out.m).mono ?_
  rintro e w2 ⟨rfl, hm, hf⟩
  replace HS := Aside0.mk (HS.out.step hm hf)
  replace C4 := Aside0.mk (hf.blk C4.out NE.out)
  clear hm hf
  cases hth : isThere a 8 with
  | false =>
    rw [show cE a = 2 from if_neg (by simp [hth])]
    by_cases h8 : Int.tmod a 8 = 0
    · have h9 : decide (65536 ≤ a) = true := by
        have ha := HA.out
        have h2 := of_decide_eq_false hth
        rw [Int.tmod_eq_emod_of_nonneg (by omega)] at h8
        exact decide_eq_true (by omega)
      have h8' : (Int.tmod a 8 != 0) = false := by simp [h8]
      clear hth h8
      go_wp2_with fail
      refine (lives_calls _).mono ?_
      rintro e w3 ⟨rfl, hb⟩
      have HE := Aside0.mk (below_step HS.out.b hb)
      clear hb
      go_wp2
      go_ret
      exact ⟨rfl, HE.out⟩
    · have h8' : (Int.tmod a 8 != 0) = true := by simp [h8]
      clear hth h8
      go_wp2_with fail
      refine (lives_calls _).mono ?_
      rintro e w3 ⟨rfl, hb⟩
      have HE := Aside0.mk (below_step HS.out.b hb)
      clear hb
      go_wp2
      go_ret
      exact ⟨rfl, HE.out⟩
  | true =>
    rw [show cE a = 0 from if_pos hth]
    have HT := Aside0.mk hth
    clear hth
    go_wp2_with fail
    refine (LoadCap_st zero_range a HA.out HT.out q0 q1 q2 q3 q4 q5 q6 HQ.out.1.1 _ HS.out.m).mono ?_
    obtain ⟨A, hA⟩ : ∃ A, capA q1 = A := ⟨_, rfl⟩
    obtain ⟨n1, hn1⟩ : ∃ A, capN q2 q3 q4 q5 q6 % 128 = A := ⟨_, rfl⟩
    obtain ⟨n2, hn2⟩ : ∃ A, capN q2 q3 q4 q5 q6 / 128 % 8 = A := ⟨_, rfl⟩
    obtain ⟨n3, hn3⟩ : ∃ A, capN q2 q3 q4 q5 q6 / 1024 % 16 = A := ⟨_, rfl⟩
    obtain ⟨n4, hn4⟩ : ∃ A, capN q2 q3 q4 q5 q6 / 16384 % 512 = A := ⟨_, rfl⟩
    obtain ⟨n5, hn5⟩ : ∃ A, capN q2 q3 q4 q5 q6 / 8388608 % 512 = A := ⟨_, rfl⟩
    have HL := fun (B : Nat → Int) (hB : ∀ i, 0 ≤ B i ∧ B i ≤ 255) (T : Nat → Bool) (g : Nat) => LoadCap_st (g := g) (T := T) hB a HA.out HT.out q0 q1 q2 q3 q4 q5 q6 HQ.out.1.1
    have HO := rof_callsE (nth q1 0) (nth q1 1) (nth q1 2) (nth q1 3) (nth (num2 q2 q3 q4 q5 q6) 0) (nth (num2 q2 q3 q4 q5 q6) 1) (nth (num2 q2 q3 q4 q5 q6) 2) (nth (num2 q2 q3 q4 q5 q6) 3) (by
      intro x hx
      simp only [List.mem_cons, List.not_mem_nil, or_false] at hx
      rcases hx with rfl | rfl | rfl | rfl | rfl | rfl | rfl | rfl <;> first | exact nth_u8 _ _ HQ.out.1.1 | exact nth_u8 _ _ (num2_range _ _ _ _ _).1) q0
    rw [show numOf [nth q1 0, nth q1 1, nth q1 2, nth q1 3] = capA q1 from rfl, show numOf [nth (num2 q2 q3 q4 q5 q6) 0, nth (num2 q2 q3 q4 q5 q6) 1, nth (num2 q2 q3 q4 q5 q6) 2, nth (num2 q2 q3 q4 q5 q6) 3] = capN q2 q3 q4 q5 q6 from rfl] at HO
    rw [hA, hn1, hn2, hn3, hn4, hn5] at HL HO ⊢
    replace HO := Aside0.mk HO
    replace HL := Aside0.mk HL
    clear hA hn1 hn2 hn3 hn4 hn5
    rintro e w3 ⟨rfl, hb⟩
    replace HS := Aside0.mk (HS.out.below hb)
    replace C4 := Aside0.mk (blk_below C4.out hb)
    clear hb
    have NE8 : Aside0 (¬ w3.heap.size = g) := ⟨by have := HS.out.m.lt; omega⟩
    go_wp2_with fail
    have hbl := (Below.refl w3.heap.size w3).alloc (Nat.le_refl _) (.cells #[.bool q0, .int .u32 A, .int .u8 n1, .int .u8 n2, .int .u8 n3, .int .u16 n4, .int .u16 n5] 30)
    replace HS := Aside0.mk (HS.out.below hbl)
    replace C4 := Aside0.mk (blk_below C4.out hbl)
    have C8 := Aside0.mk (heap_alloc_new w3 (.cells #[.bool q0, .int .u32 A, .int .u8 n1, .int .u8 n2, .int .u8 n3, .int .u16 n4, .int .u16 n5] 30))
    clear hbl
    generalize (w3.alloc (.cells #[.bool q0, .int .u32 A, .int .u8 n1, .int .u8 n2, .int .u8 n3, .int .u16 n4, .int .u16 n5] 30)) = w4 at *
    generalize w3.heap.size = b8 at *
    refine (Copy_ok _ HS.out.m).mono ?_
    rintro e w5 ⟨rfl, hm, hb⟩
    have NED : Aside0 (¬ w4.heap.size = g) := ⟨by have := HS.out.m.lt; omega⟩
    have HD := Aside0.mk hm
    replace HS := Aside0.mk (HS.out.below hb)
    replace C4 := Aside0.mk (blk_below C4.out hb)
    replace C8 := Aside0.mk (blk_below C8.out hb)
    clear hm hb
    generalize w4.heap.size = dd at *
    go_wp2_with fail
    refine (Store_any a 4 v HA.out HV.out _ HS.out.m).mono ?_
    rw [show stE a 4 = 0 from if_pos (ok4 HT.out)]
    rintro e w6 ⟨rfl, hm, hf⟩
    replace HS := Aside0.mk (HS.out.step hm hf)
    replace C4 := Aside0.mk (hf.blk C4.out NE.out)
    replace C8 := Aside0.mk (hf.blk C8.out NE8.out)
    replace HD := Aside0.mk (HD.out.fr hf NED.out)
    clear hm hf NE NE8 NED
    go_wp2_with fail
    refine (HL.out _ zero_range _ _ _ HD.out).mono ?_
    rintro e w7 ⟨rfl, hb⟩
    replace HS := Aside0.mk (HS.out.below hb)
    replace C4 := Aside0.mk (blk_below C4.out hb)
    replace C8 := Aside0.mk (blk_below C8.out hb)
    clear hb HD HL
    go_wp2_with fail
    have hbl := (Below.refl w7.heap.size w7).alloc (Nat.le_refl _) (.cells #[.bool q0, .int .u32 A, .int .u8 n1, .int .u8 n2, .int .u8 n3, .int .u16 n4, .int .u16 n5] 30)
    replace HS := Aside0.mk (HS.out.below hbl)
    replace C4 := Aside0.mk (blk_below C4.out hbl)
    replace C8 := Aside0.mk (blk_below C8.out hbl)
    have C12 := Aside0.mk (heap_alloc_new w7 (.cells #[.bool q0, .int .u32 A, .int .u8 n1, .int .u8 n2, .int .u8 n3, .int .u16 n4, .int .u16 n5] 30))
    clear hbl
    generalize (w7.alloc (.cells #[.bool q0, .int .u32 A, .int .u8 n1, .int .u8 n2, .int .u8 n3, .int .u16 n4, .int .u16 n5] 30)) = w8 at *
    generalize w7.heap.size = b12 at *
    refine (LoadCap_any (sB_range (cB_range zero_range _ _ _ _ _ _ _ HQ.out.1.1) _ _ _ HV.out.1) a HA.out _ HS.out.m).mono ?_
    rw [lT_sT _ _ HT.out, lA_sB _ _ _ HV.out HT.out, show cE a = 0 from if_pos HT.out]
    generalize lN (sB (cB (fun x => 0) a q1 q2 q3 q4 q5 q6) a 4 v) a = nn
    rintro e w9 ⟨rfl, hb⟩
    replace HS := Aside0.mk (HS.out.below hb)
    replace C4 := Aside0.mk (blk_below C4.out hb)
    replace C8 := Aside0.mk (blk_below C8.out hb)
    replace C12 := Aside0.mk (blk_below C12.out hb)
    clear hb
    go_wp2_with fail
    have hbl := (Below.refl w9.heap.size w9).alloc (Nat.le_refl _) (.cells #[.bool false, .int .u32 v, .int .u8 (nn % 128), .int .u8 (nn / 128 % 8), .int .u8 (nn / 1024 % 16), .int .u16 (nn / 16384 % 512), .int .u16 (nn / 8388608 % 512)] 30)
    replace HS := Aside0.mk (below_step HS.out.b hbl)
    replace C4 := Aside0.mk (blk_below C4.out hbl)
    replace C8 := Aside0.mk (blk_below C8.out hbl)
    replace C12 := Aside0.mk (blk_below C12.out hbl)
    have C14 := Aside0.mk (heap_alloc_new w9 (.cells #[.bool false, .int .u32 v, .int .u8 (nn % 128), .int .u8 (nn / 128 % 8), .int .u8 (nn / 1024 % 16), .int .u16 (nn / 16384 % 512), .int .u16 (nn / 8388608 % 512)] 30))
    clear hbl HG HT HV
    generalize (w9.alloc (.cells #[.bool false, .int .u32 v, .int .u8 (nn % 128), .int .u8 (nn / 128 % 8), .int .u8 (nn / 1024 % 16), .int .u16 (nn / 16384 % 512), .int .u16 (nn / 8388608 % 512)] 30)) = w10 at *
    generalize w9.heap.size = b14 at *
    generalize hb4 : w.heap.size = b4 at C4 ⊢
    have hs : w10.cell? ⟨b4, 0, none⟩ = some (.bool q0) ∧ w10.cell? ⟨b4, 1, none⟩ = some (.int .u32 q1) ∧ w10.cell? ⟨b4, 2, none⟩ = some (.int .u8 q2) ∧ w10.cell? ⟨b4, 3, none⟩ = some (.int .u8 q3) ∧ w10.cell? ⟨b4, 4, none⟩ = some (.int .u8 q4) ∧ w10.cell? ⟨b4, 5, none⟩ = some (.int .u16 q5) ∧ w10.cell? ⟨b4, 6, none⟩ = some (.int .u16 q6) ∧ w10.cell? ⟨b8, 0, none⟩ = some (.bool q0) ∧ w10.cell? ⟨b8, 1, none⟩ = some (.int .u32 A) ∧ w10.cell? ⟨b8, 2, none⟩ = some (.int .u8 n1) ∧ w10.cell? ⟨b8, 3, none⟩ = some (.int .u8 n2) ∧ w10.cell? ⟨b8, 4, none⟩ = some (.int .u8 n3) ∧ w10.cell? ⟨b8, 5, none⟩ = some (.int .u16 n4) ∧ w10.cell? ⟨b8, 6, none⟩ = some (.int .u16 n5) ∧ w10.cell? ⟨b12, 0, none⟩ = some (.bool q0) ∧ w10.cell? ⟨b12, 1, none⟩ = some (.int .u32 A) ∧ w10.cell? ⟨b12, 2, none⟩ = some (.int .u8 n1) ∧ w10.cell? ⟨b12, 3, none⟩ = some (.int .u8 n2) ∧ w10.cell? ⟨b12, 4, none⟩ = some (.int .u8 n3) ∧ w10.cell? ⟨b12, 5, none⟩ = some (.int .u16 n4) ∧ w10.cell? ⟨b12, 6, none⟩ = some (.int .u16 n5) ∧ w10.cell? ⟨b14, 0, none⟩ = some (.bool false) ∧ w10.cell? ⟨b14, 1, none⟩ = some (.int .u32 v) ∧ Below w.heap.size w w10 := ⟨(blk_cell C4.out 0).trans rfl, (blk_cell C4.out 1).trans rfl, (blk_cell C4.out 2).trans rfl, (blk_cell C4.out 3).trans rfl, (blk_cell C4.out 4).trans rfl, (blk_cell C4.out 5).trans rfl, (blk_cell C4.out 6).trans rfl, (blk_cell C8.out 0).trans rfl, (blk_cell C8.out 1).trans rfl, (blk_cell C8.out 2).trans rfl, (blk_cell C8.out 3).trans rfl, (blk_cell C8.out 4).trans rfl, (blk_cell C8.out 5).trans rfl, (blk_cell C8.out 6).trans rfl, (blk_cell C12.out 0).trans rfl, (blk_cell C12.out 1).trans rfl, (blk_cell C12.out 2).trans rfl, (blk_cell C12.out 3).trans rfl, (blk_cell C12.out 4).trans rfl, (blk_cell C12.out 5).trans rfl, (blk_cell C12.out 6).trans rfl, (blk_cell C14.out 0).trans rfl, (blk_cell C14.out 1).trans rfl, HS.out⟩
    have HBY := Aside0.mk (rbytes_callsE q0 q1 q2 q3 q4 q5 q6 HQ.out.1 HQ.out.2.1 HQ.out.2.2.1 HQ.out.2.2.2.1 HQ.out.2.2.2.2.1 HQ.out.2.2.2.2.2)
    go_region_held3 (fun w' => w'.cell? ⟨b4, 0, none⟩ = some (.bool q0) ∧ w'.cell? ⟨b4, 1, none⟩ = some (.int .u32 q1) ∧ w'.cell? ⟨b4, 2, none⟩ = some (.int .u8 q2) ∧ w'.cell? ⟨b4, 3, none⟩ = some (.int .u8 q3) ∧ w'.cell? ⟨b4, 4, none⟩ = some (.int .u8 q4) ∧ w'.cell? ⟨b4, 5, none⟩ = some (.int .u16 q5) ∧ w'.cell? ⟨b4, 6, none⟩ = some (.int .u16 q6) ∧ w'.cell? ⟨b8, 0, none⟩ = some (.bool q0) ∧ w'.cell? ⟨b8, 1, none⟩ = some (.int .u32 A) ∧ w'.cell? ⟨b8, 2, none⟩ = some (.int .u8 n1) ∧ w'.cell? ⟨b8, 3, none⟩ = some (.int .u8 n2) ∧ w'.cell? ⟨b8, 4, none⟩ = some (.int .u8 n3) ∧ w'.cell? ⟨b8, 5, none⟩ = some (.int .u16 n4) ∧ w'.cell? ⟨b8, 6, none⟩ = some (.int .u16 n5) ∧ w'.cell? ⟨b12, 0, none⟩ = some (.bool q0) ∧ w'.cell? ⟨b12, 1, none⟩ = some (.int .u32 A) ∧ w'.cell? ⟨b12, 2, none⟩ = some (.int .u8 n1) ∧ w'.cell? ⟨b12, 3, none⟩ = some (.int .u8 n2) ∧ w'.cell? ⟨b12, 4, none⟩ = some (.int .u8 n3) ∧ w'.cell? ⟨b12, 5, none⟩ = some (.int .u16 n4) ∧ w'.cell? ⟨b12, 6, none⟩ = some (.int .u16 n5) ∧ w'.cell? ⟨b14, 0, none⟩ = some (.bool false) ∧ w'.cell? ⟨b14, 1, none⟩ = some (.int .u32 v) ∧ Below w.heap.size w w') (first | (with_reducible refine keepKD ?_; with_reducible assumption) | (with_reducible exact keepK (by with_reducible assumption) (by with_reducible assumption))) (first | (go_at_call 18; ((with_reducible refine (HBY.out _).mono ?_)); rintro e w' ⟨rfl, hb⟩) | (go_at_call 17; ((with_reducible refine (HO.out _).mono ?_)); rintro e w' ⟨rfl, hb⟩) | (go_at_call 13; ((with_reducible refine (lives_calls _).mono ?_)); rintro e w' ⟨rfl, hb⟩))
    rename_i hH_
    have HE := Aside0.mk hH_.2.2.2.2.2.2.2.2.2.2.2.2.2.2.2.2.2.2.2.2.2.2.2
    clear hH_ hs
    go_wp2
    go_ret
    exact ⟨rfl, HE.out⟩
end Go.Proofs.Ytiiemfnaegapmaa.Q

-- What is done to both memories; whether both tell the same. By hand. Lean checks it.
namespace Go.Proofs.Ytiiemfnaegapmaa.Q
open Go.Proofs.Ytiiemfnaegapmaa.Pure Go.Proofs.Ytiiemfnaegapmaa.Z
open Go.RowKit Go.Proofs.YtiiemfnaegapmaaW.PrintWords Go.Proofs.YtiiemfnaegapmaaW.PrintLast Go.Proofs.YtiiemfnaegapmaaW.PrintMore
set_option linter.unusedVariables false
set_option linter.unusedSimpArgs false
attribute [local go_sem high] eqS30
/-- Both memories, with the same bytes and tags, all of it younger than the elder world. -/
structure Tw (w0 W : World) (g h gb gt : Nat) (B : Nat → Int) (T : Nat → Bool) : Prop where
  m : Mem W g true B T
  r : RMem W h gb gt B T
  b : Below w0.heap.size w0 W
  o : w0.heap.size ≤ g ∧ w0.heap.size ≤ gb ∧ w0.heap.size ≤ gt
  n : g ≠ h ∧ g ≠ gb ∧ g ≠ gt
  B : ∀ i, 0 ≤ B i ∧ B i ≤ 255
theorem Tw.below {w0 W W2 : World} {g h gb gt : Nat} {B : Nat → Int} {T : Nat → Bool} (x : Tw w0 W g h gb gt B T) (k : Below W.heap.size W W2) : Tw w0 W2 g h gb gt B T := ⟨x.m.below k, x.r.below k, below_step x.b k, x.o, x.n, x.B⟩
theorem wrap_range (a : Int) : 0 ≤ IntKind.u32.wrap a ∧ IntKind.u32.wrap a < 4294967296 := by simp [IntKind.wrap, IntKind.bits, IntKind.signed]; omega
set_option maxRecDepth 100000 in
set_option maxHeartbeats 8000000 in
theorem alike_calls {w0 : World} {g h gb gt : Nat} {B : Nat → Int} {T : Nat → Bool} (a n s : Int) (w : World) (hT : Tw w0 w g h gb gt B T) :
    Calls Try.prog 21 #[.pointer (some ⟨g, 0, none⟩), .pointer (some ⟨h, 0, none⟩), .int .i64 a, .int .i64 n, .int .i64 s] w fun e w' => e = .returned (.bool true) ∧ Below w.heap.size w w' := by
  have HT := Aside0.mk hT
  have HB : Aside0 (Below w.heap.size w w) := ⟨Below.refl _ _⟩
  clear hT
  go_enter Try.func21, Try.ntmps21
  go_wp2_with fail
  refine (Bytes_any a n _ HT.out.m).mono ?_
  rintro e w1 ⟨v1, rfl, hr, hb⟩
  obtain ⟨A1, c1, rfl, hl1, hC1⟩ := Kd.R_reads hr
  replace HT := Aside0.mk (HT.out.below hb)
  replace HB := Aside0.mk (below_step HB.out hb)
  have C1 := Aside0.mk (And.intro hC1 hl1)
  clear hb hr hC1 hl1
  go_wp2_with fail
  refine (rBytes_any a n _ HT.out.r).mono ?_
  rintro e w2 ⟨v2, rfl, hr, hb⟩
  obtain ⟨A2, c2, rfl, hl2, hC2⟩ := Kd.R_reads hr
  replace HT := Aside0.mk (HT.out.below hb)
  replace HB := Aside0.mk (below_step HB.out hb)
  replace C1 := Aside0.mk (And.intro (Kd.C_below C1.out.1 hb) C1.out.2)
  have C2 := Aside0.mk (And.intro hC2 hl2)
  clear hb hr hC2 hl2
  go_wp2_with fail
  refine (Tags_any a n _ HT.out.m).mono ?_
  rintro e w3 ⟨rfl, rfl⟩
  go_wp2_with fail
  refine (rTags_any a n _ HT.out.r).mono ?_
  rintro e w3 ⟨rfl, rfl⟩
  go_wp2_with fail
  refine (same_calls _ _ _ _ _ _ C1.out.1 C1.out.2 C2.out.1 C2.out.2).mono ?_
  rintro e w3 ⟨rfl, hb⟩
  replace HT := Aside0.mk (HT.out.below hb)
  replace HB := Aside0.mk (below_step HB.out hb)
  clear hb C1 C2
  go_wp2_with fail
  refine (Load_any HT.out.B (IntKind.u32.wrap a) s (wrap_range a) _ HT.out.m).mono ?_
  rintro e w4 ⟨rfl, hb⟩
  replace HT := Aside0.mk (HT.out.below hb)
  replace HB := Aside0.mk (below_step HB.out hb)
  clear hb
  go_wp2_with fail
  refine (rLoad_any HT.out.B (IntKind.u32.wrap a) s (wrap_range a) _ HT.out.r).mono ?_
  rintro e w5 ⟨rfl, hb⟩
  replace HT := Aside0.mk (HT.out.below hb)
  replace HB := Aside0.mk (below_step HB.out hb)
  clear hb
  go_wp2_with fail
  have HL1 := LoadCap_any HT.out.B (IntKind.u32.wrap a) (wrap_range a) _ HT.out.m
  have HL2 := fun W hM => rLoadCap_any (h := h) (gb := gb) (gt := gt) (T := T) HT.out.B (IntKind.u32.wrap a) (wrap_range a) W hM
  generalize lN B (IntKind.u32.wrap a) = nn at HL1 HL2
  generalize lA B (IntKind.u32.wrap a) = aa at HL1 HL2
  generalize lT T (IntKind.u32.wrap a) = tt at HL1 HL2
  generalize nn % 128 = n1 at HL1 HL2
  generalize nn / 128 % 8 = n2 at HL1 HL2
  generalize nn / 1024 % 16 = n3 at HL1 HL2
  generalize nn / 16384 % 512 = n4 at HL1 HL2
  generalize nn / 8388608 % 512 = n5 at HL1 HL2
  refine HL1.mono ?_
  clear HL1
  replace HL2 := Aside0.mk HL2
  rintro e w6 ⟨rfl, hb⟩
  replace HT := Aside0.mk (HT.out.below hb)
  replace HB := Aside0.mk (below_step HB.out hb)
  clear hb
  go_wp2_with fail
  have hbl := (Below.refl w6.heap.size w6).alloc (Nat.le_refl _) (.cells #[.bool tt, .int .u32 aa, .int .u8 n1, .int .u8 n2, .int .u8 n3, .int .u16 n4, .int .u16 n5] 30)
  replace HT := Aside0.mk (HT.out.below hbl)
  replace HB := Aside0.mk (below_step HB.out hbl)
  have C1 := Aside0.mk (heap_alloc_new w6 (.cells #[.bool tt, .int .u32 aa, .int .u8 n1, .int .u8 n2, .int .u8 n3, .int .u16 n4, .int .u16 n5] 30))
  clear hbl
  generalize (w6.alloc (.cells #[.bool tt, .int .u32 aa, .int .u8 n1, .int .u8 n2, .int .u8 n3, .int .u16 n4, .int .u16 n5] 30)) = w7 at *
  generalize w6.heap.size = b1 at *
  refine (HL2.out _ HT.out.r).mono ?_
  rintro e w8 ⟨rfl, hb⟩
  replace HB := Aside0.mk (below_step HB.out hb)
  replace C1 := Aside0.mk (blk_below C1.out hb)
  clear hb HL2 HT
  have hlt1 : b1 < w8.heap.size := blk_lt C1.out
  have hc0 := (blk_cell C1.out 0).trans rfl
  have hc1 := (blk_cell C1.out 1).trans rfl
  have hc2 := (blk_cell C1.out 2).trans rfl
  have hc3 := (blk_cell C1.out 3).trans rfl
  have hc4 := (blk_cell C1.out 4).trans rfl
  have hc5 := (blk_cell C1.out 5).trans rfl
  have hc6 := (blk_cell C1.out 6).trans rfl
  have hbl : Aside0 (Below w.heap.size w (w8.alloc (.cells #[.bool tt, .int .u32 aa, .int .u8 n1, .int .u8 n2, .int .u8 n3, .int .u16 n4, .int .u16 n5] 30))) := ⟨below_step HB.out ((Below.refl w8.heap.size w8).alloc (Nat.le_refl _) (.cells #[.bool tt, .int .u32 aa, .int .u8 n1, .int .u8 n2, .int .u8 n3, .int .u16 n4, .int .u16 n5] 30))⟩
  go_wp2
  go_ret
  exact ⟨rfl, hbl.out⟩
/-- The cells of an act. -/
theorem Tw.store {w0 W W2 W3 : World} {g h gb gt : Nat} {B B' : Nat → Int} {T T' : Nat → Bool} (x : Tw w0 W g h gb gt B T) (hm : Mem W2 g true B' T') (f : Fr (fun k => k = g) W W2) (hr : RMem W3 h gb gt B' T') (f2 : Fr (fun k => k = gb ∨ k = gt) W2 W3) (hB : ∀ i, 0 ≤ B' i ∧ B' i ≤ 255) : Tw w0 W3 g h gb gt B' T' :=
  ⟨hm.fr f2 (by have := x.n; omega), hr, f2.below (f.below x.b (by intro i e; have := x.o; omega) x.b.size) (by intro i e; have := x.o; omega) (Nat.le_trans x.b.size f.size), x.o, x.n, hB⟩
theorem keepK0A {W W2 : World} {b g : Nat} {p s v : Int} (f : Fr (fun k => k = g) W W2) (hn : b ≠ g) (h : W.cell? ⟨b, 1, none⟩ = some (.int .u32 p) ∧ W.cell? ⟨b, 2, none⟩ = some (.int .i64 s) ∧ W.cell? ⟨b, 3, none⟩ = some (.int .u32 v)) : W2.cell? ⟨b, 1, none⟩ = some (.int .u32 p) ∧ W2.cell? ⟨b, 2, none⟩ = some (.int .i64 s) ∧ W2.cell? ⟨b, 3, none⟩ = some (.int .u32 v) := by
  have hc : ∀ i u, W.cell? ⟨b, i, none⟩ = some u → W2.cell? ⟨b, i, none⟩ = some u := fun i u hu => (World.cell?_of_block (f.block b (World.block_lt_of_cell? _ _ hu) (by simpa using hn))).trans hu
  obtain ⟨h0, h1, h2⟩ := h
  exact ⟨hc _ _ h0, hc _ _ h1, hc _ _ h2⟩
theorem keepK0B {W W2 : World} {b gb gt : Nat} {p s v : Int} (f : Fr (fun k => k = gb ∨ k = gt) W W2) (hn : b ≠ gb ∧ b ≠ gt) (h : W.cell? ⟨b, 1, none⟩ = some (.int .u32 p) ∧ W.cell? ⟨b, 2, none⟩ = some (.int .i64 s) ∧ W.cell? ⟨b, 3, none⟩ = some (.int .u32 v)) : W2.cell? ⟨b, 1, none⟩ = some (.int .u32 p) ∧ W2.cell? ⟨b, 2, none⟩ = some (.int .i64 s) ∧ W2.cell? ⟨b, 3, none⟩ = some (.int .u32 v) := by
  have hc : ∀ i u, W.cell? ⟨b, i, none⟩ = some u → W2.cell? ⟨b, i, none⟩ = some u := fun i u hu => (World.cell?_of_block (f.block b (World.block_lt_of_cell? _ _ hu) (by simpa using hn))).trans hu
  obtain ⟨h0, h1, h2⟩ := h
  exact ⟨hc _ _ h0, hc _ _ h1, hc _ _ h2⟩
theorem keepK0D {W : World} {b : Nat} {p s v : Int} (h : W.cell? ⟨b, 1, none⟩ = some (.int .u32 p) ∧ W.cell? ⟨b, 2, none⟩ = some (.int .i64 s) ∧ W.cell? ⟨b, 3, none⟩ = some (.int .u32 v)) : W.drew.cell? ⟨b, 1, none⟩ = some (.int .u32 p) ∧ W.drew.cell? ⟨b, 2, none⟩ = some (.int .i64 s) ∧ W.drew.cell? ⟨b, 3, none⟩ = some (.int .u32 v) := h
theorem keepK1A {W W2 : World} {b g : Nat} {q0 : Bool} {p q1 q2 q3 q4 q5 q6 : Int} (f : Fr (fun k => k = g) W W2) (hn : b ≠ g) (h : W.cell? ⟨b, 1, none⟩ = some (.int .u32 p) ∧ W.cell? ⟨b, 4, none⟩ = some (.bool q0) ∧ W.cell? ⟨b, 5, none⟩ = some (.int .u32 q1) ∧ W.cell? ⟨b, 6, none⟩ = some (.int .u8 q2) ∧ W.cell? ⟨b, 7, none⟩ = some (.int .u8 q3) ∧ W.cell? ⟨b, 8, none⟩ = some (.int .u8 q4) ∧ W.cell? ⟨b, 9, none⟩ = some (.int .u16 q5) ∧ W.cell? ⟨b, 10, none⟩ = some (.int .u16 q6)) : W2.cell? ⟨b, 1, none⟩ = some (.int .u32 p) ∧ W2.cell? ⟨b, 4, none⟩ = some (.bool q0) ∧ W2.cell? ⟨b, 5, none⟩ = some (.int .u32 q1) ∧ W2.cell? ⟨b, 6, none⟩ = some (.int .u8 q2) ∧ W2.cell? ⟨b, 7, none⟩ = some (.int .u8 q3) ∧ W2.cell? ⟨b, 8, none⟩ = some (.int .u8 q4) ∧ W2.cell? ⟨b, 9, none⟩ = some (.int .u16 q5) ∧ W2.cell? ⟨b, 10, none⟩ = some (.int .u16 q6) := by
  have hc : ∀ i u, W.cell? ⟨b, i, none⟩ = some u → W2.cell? ⟨b, i, none⟩ = some u := fun i u hu => (World.cell?_of_block (f.block b (World.block_lt_of_cell? _ _ hu) (by simpa using hn))).trans hu
  obtain ⟨h0, h1, h2, h3, h4, h5, h6, h7⟩ := h
  exact ⟨hc _ _ h0, hc _ _ h1, hc _ _ h2, hc _ _ h3, hc _ _ h4, hc _ _ h5, hc _ _ h6, hc _ _ h7⟩
theorem keepK1B {W W2 : World} {b gb gt : Nat} {q0 : Bool} {p q1 q2 q3 q4 q5 q6 : Int} (f : Fr (fun k => k = gb ∨ k = gt) W W2) (hn : b ≠ gb ∧ b ≠ gt) (h : W.cell? ⟨b, 1, none⟩ = some (.int .u32 p) ∧ W.cell? ⟨b, 4, none⟩ = some (.bool q0) ∧ W.cell? ⟨b, 5, none⟩ = some (.int .u32 q1) ∧ W.cell? ⟨b, 6, none⟩ = some (.int .u8 q2) ∧ W.cell? ⟨b, 7, none⟩ = some (.int .u8 q3) ∧ W.cell? ⟨b, 8, none⟩ = some (.int .u8 q4) ∧ W.cell? ⟨b, 9, none⟩ = some (.int .u16 q5) ∧ W.cell? ⟨b, 10, none⟩ = some (.int .u16 q6)) : W2.cell? ⟨b, 1, none⟩ = some (.int .u32 p) ∧ W2.cell? ⟨b, 4, none⟩ = some (.bool q0) ∧ W2.cell? ⟨b, 5, none⟩ = some (.int .u32 q1) ∧ W2.cell? ⟨b, 6, none⟩ = some (.int .u8 q2) ∧ W2.cell? ⟨b, 7, none⟩ = some (.int .u8 q3) ∧ W2.cell? ⟨b, 8, none⟩ = some (.int .u8 q4) ∧ W2.cell? ⟨b, 9, none⟩ = some (.int .u16 q5) ∧ W2.cell? ⟨b, 10, none⟩ = some (.int .u16 q6) := by
  have hc : ∀ i u, W.cell? ⟨b, i, none⟩ = some u → W2.cell? ⟨b, i, none⟩ = some u := fun i u hu => (World.cell?_of_block (f.block b (World.block_lt_of_cell? _ _ hu) (by simpa using hn))).trans hu
  obtain ⟨h0, h1, h2, h3, h4, h5, h6, h7⟩ := h
  exact ⟨hc _ _ h0, hc _ _ h1, hc _ _ h2, hc _ _ h3, hc _ _ h4, hc _ _ h5, hc _ _ h6, hc _ _ h7⟩
theorem keepK1D {W : World} {b : Nat} {q0 : Bool} {p q1 q2 q3 q4 q5 q6 : Int} (h : W.cell? ⟨b, 1, none⟩ = some (.int .u32 p) ∧ W.cell? ⟨b, 4, none⟩ = some (.bool q0) ∧ W.cell? ⟨b, 5, none⟩ = some (.int .u32 q1) ∧ W.cell? ⟨b, 6, none⟩ = some (.int .u8 q2) ∧ W.cell? ⟨b, 7, none⟩ = some (.int .u8 q3) ∧ W.cell? ⟨b, 8, none⟩ = some (.int .u8 q4) ∧ W.cell? ⟨b, 9, none⟩ = some (.int .u16 q5) ∧ W.cell? ⟨b, 10, none⟩ = some (.int .u16 q6)) : W.drew.cell? ⟨b, 1, none⟩ = some (.int .u32 p) ∧ W.drew.cell? ⟨b, 4, none⟩ = some (.bool q0) ∧ W.drew.cell? ⟨b, 5, none⟩ = some (.int .u32 q1) ∧ W.drew.cell? ⟨b, 6, none⟩ = some (.int .u8 q2) ∧ W.drew.cell? ⟨b, 7, none⟩ = some (.int .u8 q3) ∧ W.drew.cell? ⟨b, 8, none⟩ = some (.int .u8 q4) ∧ W.drew.cell? ⟨b, 9, none⟩ = some (.int .u16 q5) ∧ W.drew.cell? ⟨b, 10, none⟩ = some (.int .u16 q6) := h
set_option maxRecDepth 100000 in
set_option maxHeartbeats 8000000 in
theorem did_calls {w0 : World} {g h gb gt : Nat} {B : Nat → Int} {T : Nat → Bool} (d p s v : Int) (hp : 0 ≤ p ∧ p < 4294967296) (hv : 0 ≤ v ∧ v < 4294967296) (q0 : Bool) (q1 q2 q3 q4 q5 q6 : Int) (h1 : 0 ≤ q1 ∧ q1 < 4294967296) (h2 : 0 ≤ q2 ∧ q2 ≤ 255) (h3 : 0 ≤ q3 ∧ q3 ≤ 255) (h4 : 0 ≤ q4 ∧ q4 ≤ 255) (h5 : 0 ≤ q5 ∧ q5 ≤ 65535) (h6 : 0 ≤ q6 ∧ q6 ≤ 65535) (w : World) (hT : Tw w0 w g h gb gt B T) :
    Calls Try.prog 20 #[.pointer (some ⟨g, 0, none⟩), .pointer (some ⟨h, 0, none⟩), .agg #[.int .i64 d, .int .u32 p, .int .i64 s, .int .u32 v, .bool q0, .int .u32 q1, .int .u8 q2, .int .u8 q3, .int .u8 q4, .int .u16 q5, .int .u16 q6]] w fun e w' => ∃ g' B' T', e = .returned (.tuple #[.pointer (some ⟨g', 0, none⟩), .bool true]) ∧ Tw w0 w' g' h gb gt B' T' := by
  have hu30 := Try.underlying30
  have hu32 := Try.underlying32
  have HP := Aside0.mk hp
  have HV := Aside0.mk hv
  have HQ := Aside0.mk (And.intro h1 (And.intro h2 (And.intro h3 (And.intro h4 (And.intro h5 h6)))))
  have C5 : Aside0 ((w.alloc (.cells #[.int .i64 d, .int .u32 p, .int .i64 s, .int .u32 v, .bool q0, .int .u32 q1, .int .u8 q2, .int .u8 q3, .int .u8 q4, .int .u16 q5, .int .u16 q6] 32)).heap[w.heap.size]? = some (.cells #[.int .i64 d, .int .u32 p, .int .i64 s, .int .u32 v, .bool q0, .int .u32 q1, .int .u8 q2, .int .u8 q3, .int .u8 q4, .int .u16 q5, .int .u16 q6] 32 (0, 0))) := ⟨heap_alloc_new _ _⟩
  have HT : Aside0 (Tw w0 (w.alloc (.cells #[.int .i64 d, .int .u32 p, .int .i64 s, .int .u32 v, .bool q0, .int .u32 q1, .int .u8 q2, .int .u8 q3, .int .u8 q4, .int .u16 q5, .int .u16 q6] 32)) g h gb gt B T) := ⟨hT.below ((Below.refl _ _).alloc (Nat.le_refl _) _)⟩
  have NE : Aside0 (w.heap.size ≠ g ∧ w.heap.size ≠ gb ∧ w.heap.size ≠ gt) := ⟨by have h1 := hT.m.lt; have h2 := hT.r.lt; omega⟩
  clear hp hv h1 h2 h3 h4 h5 h6 hT
  go_enter Try.func20, Try.ntmps20
  by_cases e0 : d = 0
  · subst e0
    go_wp2
    generalize (w.alloc (.cells #[.int .i64 0, .int .u32 p, .int .i64 s, .int .u32 v, .bool q0, .int .u32 q1, .int .u8 q2, .int .u8 q3, .int .u8 q4, .int .u16 q5, .int .u16 q6] 32)) = w1 at *
    generalize w.heap.size = b at *
    have hs : w1.cell? ⟨b, 1, none⟩ = some (.int .u32 p) ∧ w1.cell? ⟨b, 2, none⟩ = some (.int .i64 s) ∧ w1.cell? ⟨b, 3, none⟩ = some (.int .u32 v) := ⟨(blk_cell C5.out 1).trans rfl, (blk_cell C5.out 2).trans rfl, (blk_cell C5.out 3).trans rfl⟩
    have HTD : Aside0 (Tw w0 w1.drew g h gb gt B T) := ⟨HT.out.below (Below.refl _ _).drew⟩
    have H8 := Aside0.mk (Store_any p s v HP.out HV.out _ HTD.out.m)
    have H31 := Aside0.mk (fun W (hM : RMem W h gb gt B T) => rStore_any p s v HP.out HV.out W hM)
    generalize stE p s = st at H8 H31
    have NE2 : b ≠ gb ∧ b ≠ gt := NE.out.2
    have NE1 : b ≠ g := NE.out.1
    go_region_held3 (fun w' => w'.cell? ⟨b, 1, none⟩ = some (.int .u32 p) ∧ w'.cell? ⟨b, 2, none⟩ = some (.int .i64 s) ∧ w'.cell? ⟨b, 3, none⟩ = some (.int .u32 v)) (first | with_reducible assumption | (with_reducible refine keepK0D ?_; with_reducible assumption) | (with_reducible exact keepK0A (by with_reducible assumption) (by with_reducible assumption) (by with_reducible assumption)) | (with_reducible exact keepK0B (by with_reducible assumption) (by with_reducible assumption) (by with_reducible assumption))) (first | (go_at_call 8; ((with_reducible refine (H8.out).mono ?_)); rintro e w' ⟨rfl, hm8, hf8⟩; have hr8 := HTD.out.r.fr hf8 (by have := HT.out.n; omega) (by have := HT.out.n; omega) (by have := HT.out.n; omega)) | (go_at_call 31; ((with_reducible refine (H31.out _ (by with_reducible assumption)).mono ?_)); rintro e w' ⟨rfl, hm9, hf9⟩))
    have HE := Aside0.mk (HTD.out.store hm8 hf8 hm9 hf9 (sB_range HT.out.B p s v HV.out.1))
    clear hm8 hf8 hm9 hf9 hr8 HTD HT
    go_wp2
    go_ret2
    exact ⟨g, _, _, rfl, HE.out⟩
  · by_cases e1 : d = 1
    · subst e1
      clear e0
      go_wp2
      generalize (w.alloc (.cells #[.int .i64 1, .int .u32 p, .int .i64 s, .int .u32 v, .bool q0, .int .u32 q1, .int .u8 q2, .int .u8 q3, .int .u8 q4, .int .u16 q5, .int .u16 q6] 32)) = w1 at *
      generalize w.heap.size = b at *
      have hs : w1.cell? ⟨b, 1, none⟩ = some (.int .u32 p) ∧ w1.cell? ⟨b, 4, none⟩ = some (.bool q0) ∧ w1.cell? ⟨b, 5, none⟩ = some (.int .u32 q1) ∧ w1.cell? ⟨b, 6, none⟩ = some (.int .u8 q2) ∧ w1.cell? ⟨b, 7, none⟩ = some (.int .u8 q3) ∧ w1.cell? ⟨b, 8, none⟩ = some (.int .u8 q4) ∧ w1.cell? ⟨b, 9, none⟩ = some (.int .u16 q5) ∧ w1.cell? ⟨b, 10, none⟩ = some (.int .u16 q6) := ⟨(blk_cell C5.out 1).trans rfl, (blk_cell C5.out 4).trans rfl, (blk_cell C5.out 5).trans rfl, (blk_cell C5.out 6).trans rfl, (blk_cell C5.out 7).trans rfl, (blk_cell C5.out 8).trans rfl, (blk_cell C5.out 9).trans rfl, (blk_cell C5.out 10).trans rfl⟩
      have HTD : Aside0 (Tw w0 w1.drew g h gb gt B T) := ⟨HT.out.below (Below.refl _ _).drew⟩
      have H8 := Aside0.mk (StoreCap_any p HP.out q0 q1 q2 q3 q4 q5 q6 HQ.out.1 HQ.out.2.1 HQ.out.2.2.1 HQ.out.2.2.2.1 HQ.out.2.2.2.2.1 HQ.out.2.2.2.2.2 _ HTD.out.m)
      have H31 := Aside0.mk (fun W (hM : RMem W h gb gt B T) => rStoreCap_any p HP.out q0 q1 q2 q3 q4 q5 q6 HQ.out.1 HQ.out.2.1 HQ.out.2.2.1 HQ.out.2.2.2.1 HQ.out.2.2.2.2.1 HQ.out.2.2.2.2.2 W hM)
      generalize cE p = st at H8 H31
      have NE2 : b ≠ gb ∧ b ≠ gt := NE.out.2
      have NE1 : b ≠ g := NE.out.1
      go_region_held3 (fun w' => w'.cell? ⟨b, 1, none⟩ = some (.int .u32 p) ∧ w'.cell? ⟨b, 4, none⟩ = some (.bool q0) ∧ w'.cell? ⟨b, 5, none⟩ = some (.int .u32 q1) ∧ w'.cell? ⟨b, 6, none⟩ = some (.int .u8 q2) ∧ w'.cell? ⟨b, 7, none⟩ = some (.int .u8 q3) ∧ w'.cell? ⟨b, 8, none⟩ = some (.int .u8 q4) ∧ w'.cell? ⟨b, 9, none⟩ = some (.int .u16 q5) ∧ w'.cell? ⟨b, 10, none⟩ = some (.int .u16 q6)) (first | with_reducible assumption | (with_reducible refine keepK1D ?_; with_reducible assumption) | (with_reducible exact keepK1A (by with_reducible assumption) (by with_reducible assumption) (by with_reducible assumption)) | (with_reducible exact keepK1B (by with_reducible assumption) (by with_reducible assumption) (by with_reducible assumption))) (first | (go_at_call 9; ((with_reducible refine (H8.out).mono ?_)); rintro e w' ⟨rfl, hm8, hf8⟩; have hr8 := HTD.out.r.fr hf8 (by have := HT.out.n; omega) (by have := HT.out.n; omega) (by have := HT.out.n; omega)) | (go_at_call 32; ((with_reducible refine (H31.out _ (by with_reducible assumption)).mono ?_)); rintro e w' ⟨rfl, hm9, hf9⟩))
      have HE := Aside0.mk (HTD.out.store hm8 hf8 hm9 hf9 (cB_range HT.out.B p q1 q2 q3 q4 q5 q6 HQ.out.1.1))
      clear hm8 hf8 hm9 hf9 hr8 HTD HT
      go_wp2
      go_ret2
      exact ⟨g, _, _, rfl, HE.out⟩
    · have i0 : (d == 0) = false := by simp [e0]
      have i1 : (d == 1) = false := by simp [e1]
      have i2 : decide (d = 0) = false := decide_eq_false e0
      have i3 : decide (d = 1) = false := decide_eq_false e1
      go_wp2_with fail
      generalize (w.alloc (.cells #[.int .i64 d, .int .u32 p, .int .i64 s, .int .u32 v, .bool q0, .int .u32 q1, .int .u8 q2, .int .u8 q3, .int .u8 q4, .int .u16 q5, .int .u16 q6] 32)) = w1 at *
      generalize w.heap.size = b at *
      refine (Copy_ok _ HT.out.m).mono ?_
      rintro e w2 ⟨rfl, hm, hb⟩
      have HM := Aside0.mk hm
      replace C5 := Aside0.mk (blk_below C5.out hb)
      have NC : Aside0 (w0.heap.size ≤ w1.heap.size ∧ g < w1.heap.size ∧ h < w1.heap.size ∧ gb < w1.heap.size ∧ gt < w1.heap.size) := ⟨HT.out.b.size, HT.out.m.lt, HT.out.r.lt⟩
      replace HT := Aside0.mk (HT.out.below hb)
      clear hm hb
      generalize w1.heap.size = c at *
      have hc1 := (blk_cell C5.out 1).trans rfl
      have hc2 := (blk_cell C5.out 2).trans rfl
      have hc3 := (blk_cell C5.out 3).trans rfl
      go_wp2_with fail
      clear hc1 hc2 hc3
      refine (Store_any p s v HP.out HV.out _ HT.out.m).mono ?_
      rintro e w3 ⟨rfl, hm, hf⟩
      have HE : Aside0 (Tw w0 w3 c h gb gt B T) := ⟨⟨HM.out.fr hf (by have := NC.out; omega), HT.out.r.fr hf (by have := HT.out.n; omega) (by have := HT.out.n; omega) (by have := HT.out.n; omega), hf.below HT.out.b (by intro i e; have := HT.out.o; omega) HT.out.b.size, ⟨NC.out.1, HT.out.o.2⟩, by have := NC.out; omega, HT.out.B⟩⟩
      clear hm hf
      cases hk : okS p s with
      | true =>
        rw [show stE p s = 0 from if_pos hk]
        go_wp2
        go_ret2
        exact ⟨c, _, _, rfl, HE.out⟩
      | false =>
        rw [show stE p s = 2 from if_neg (by simp [hk])]
        go_wp2
        go_ret2
        exact ⟨c, _, _, rfl, HE.out⟩
end Go.Proofs.Ytiiemfnaegapmaa.Q

-- The law that both memories play alike. By hand. Lean checks it.
namespace Go.Proofs.Ytiiemfnaegapmaa.Q
open Go.Proofs.Ytiiemfnaegapmaa.Pure Go.Proofs.Ytiiemfnaegapmaa.Z
open Go.RowKit Go.Proofs.YtiiemfnaegapmaaW.PrintWords Go.Proofs.YtiiemfnaegapmaaW.PrintLast Go.Proofs.YtiiemfnaegapmaaW.PrintMore
set_option linter.unusedVariables false
set_option linter.unusedSimpArgs false
/-- An act: what is done, where, its size, the number, the capability. -/
structure A11 where
  d : Int
  p : Int
  s : Int
  v : Int
  q0 : Bool
  q1 : Int
  q2 : Int
  q3 : Int
  q4 : Int
  q5 : Int
  q6 : Int
def A11.cs (x : A11) : List Value := [.int .i64 x.d, .int .u32 x.p, .int .i64 x.s, .int .u32 x.v, .bool x.q0, .int .u32 x.q1, .int .u8 x.q2, .int .u8 x.q3, .int .u8 x.q4, .int .u16 x.q5, .int .u16 x.q6]
structure A11.Ok (x : A11) : Prop where
  p : 0 ≤ x.p ∧ x.p < 4294967296
  v : 0 ≤ x.v ∧ x.v < 4294967296
  q1 : 0 ≤ x.q1 ∧ x.q1 < 4294967296
  q2 : 0 ≤ x.q2 ∧ x.q2 ≤ 255
  q3 : 0 ≤ x.q3 ∧ x.q3 ≤ 255
  q4 : 0 ≤ x.q4 ∧ x.q4 ≤ 255
  q5 : 0 ≤ x.q5 ∧ x.q5 ≤ 65535
  q6 : 0 ≤ x.q6 ∧ x.q6 ≤ 65535
/-- A row of acts. -/
structure Acts (w : World) (A : Option Addr) (l : List A11) : Prop where
  max : l.length ≤ 9223372036854775807
  at_ : ∀ i x, l[i]? = some x → ∃ ad, A = some ad ∧ ∀ j u, x.cs[j]? = some u → w.cell? (ad.add (i * 11 + j)) = some u
  ok : ∀ x ∈ l, x.Ok
theorem Acts.get {w w1 : World} {A : Option Addr} {l : List A11} (h : Acts w A l) (k : Below w.heap.size w w1) (i : Nat) (hi : i < l.length) : ∃ ad x, A = some ad ∧ A11.Ok x ∧ l[i]? = some x ∧ w1.cell? (ad.add (i * 11)) = some (.int .i64 x.d) ∧ w1.cell? ⟨(ad.add (i * 11)).block, (ad.add (i * 11)).off + 1, none⟩ = some (.int .u32 x.p) ∧ w1.cell? ⟨(ad.add (i * 11)).block, (ad.add (i * 11)).off + 2, none⟩ = some (.int .i64 x.s) ∧ w1.cell? ⟨(ad.add (i * 11)).block, (ad.add (i * 11)).off + 3, none⟩ = some (.int .u32 x.v) ∧ w1.cell? ⟨(ad.add (i * 11)).block, (ad.add (i * 11)).off + 4, none⟩ = some (.bool x.q0) ∧ w1.cell? ⟨(ad.add (i * 11)).block, (ad.add (i * 11)).off + 5, none⟩ = some (.int .u32 x.q1) ∧ w1.cell? ⟨(ad.add (i * 11)).block, (ad.add (i * 11)).off + 6, none⟩ = some (.int .u8 x.q2) ∧ w1.cell? ⟨(ad.add (i * 11)).block, (ad.add (i * 11)).off + 7, none⟩ = some (.int .u8 x.q3) ∧ w1.cell? ⟨(ad.add (i * 11)).block, (ad.add (i * 11)).off + 8, none⟩ = some (.int .u8 x.q4) ∧ w1.cell? ⟨(ad.add (i * 11)).block, (ad.add (i * 11)).off + 9, none⟩ = some (.int .u16 x.q5) ∧ w1.cell? ⟨(ad.add (i * 11)).block, (ad.add (i * 11)).off + 10, none⟩ = some (.int .u16 x.q6) := by
  obtain ⟨ad, rfl, hc⟩ := h.at_ i _ (List.getElem?_eq_getElem hi)
  have hb : ∀ j u, (l[i]).cs[j]? = some u → w1.cell? (ad.add (i * 11 + j)) = some u := fun j u hu => (k.cell (World.block_lt_of_cell? _ _ (hc j u hu))).trans (hc j u hu)
  have hd : ∀ j u, j ≠ 0 → (l[i]).cs[j]? = some u → w1.cell? ⟨(ad.add (i * 11)).block, (ad.add (i * 11)).off + j, none⟩ = some u := by
    intro j u hj hu
    have h2 := hb j u hu
    rw [← Go.Deep.add_add] at h2
    rw [← h2]
    congr 1
    show _ = if j = 0 then _ else _
    rw [if_neg hj]
  refine ⟨ad, _, rfl, h.ok _ (List.getElem_mem hi), List.getElem?_eq_getElem hi, hb 0 _ rfl, hd 1 _ (by decide) rfl, hd 2 _ (by decide) rfl, hd 3 _ (by decide) rfl, hd 4 _ (by decide) rfl, hd 5 _ (by decide) rfl, hd 6 _ (by decide) rfl, hd 7 _ (by decide) rfl, hd 8 _ (by decide) rfl, hd 9 _ (by decide) rfl, hd 10 _ (by decide) rfl⟩
theorem keepP {W W2 : World} {a1 a2 a3 : Addr} {v1 v2 v3 : Value} (k : Below W.heap.size W W2) (h : W.cell? a1 = some v1 ∧ W.cell? a2 = some v2 ∧ W.cell? a3 = some v3) : W2.cell? a1 = some v1 ∧ W2.cell? a2 = some v2 ∧ W2.cell? a3 = some v3 :=
  ⟨(k.cell (World.block_lt_of_cell? _ _ h.1)).trans h.1, (k.cell (World.block_lt_of_cell? _ _ h.2.1)).trans h.2.1, (k.cell (World.block_lt_of_cell? _ _ h.2.2)).trans h.2.2⟩
theorem keepPD {W : World} {a1 a2 a3 : Addr} {v1 v2 v3 : Value} (h : W.cell? a1 = some v1 ∧ W.cell? a2 = some v2 ∧ W.cell? a3 = some v3) : W.drew.cell? a1 = some v1 ∧ W.drew.cell? a2 = some v2 ∧ W.drew.cell? a3 = some v3 := h
set_option maxRecDepth 100000 in
set_option maxHeartbeats 8000000 in
theorem MemoryPlays_calls (A0 A1 A2 A3 : Option Addr) (c0 c1 c2 c3 : Nat) (l : List A11) (l1 l2 l3 : List Int) (w : World) (hA : Acts w A0 l)
    (r1 : Kd.C (Kd.int .i64) w A1 l1.length l1) (r2 : Kd.C (Kd.int .i64) w A2 l2.length l2) (r3 : Kd.C (Kd.int .i64) w A3 l3.length l3) :
    Calls Try.prog 5 #[.slice A0 l.length c0, .slice A1 l1.length c1, .slice A2 l2.length c2, .slice A3 l3.length c3] w fun e w' => e = .returned (.bool true) ∧ Below w.heap.size w w' := by
  have hu32 := Try.underlying32
  have hu22 := Try.underlying22
  have HA := Aside0.mk hA
  have HR1 := Aside0.mk r1
  have HR2 := Aside0.mk r2
  have HR3 := Aside0.mk r3
  clear hA r1 r2 r3
  go_enter Try.func5, Try.ntmps5
  go_wp2_with fail
  refine (New_calls _).mono ?_
  rintro e w1 ⟨rfl, hm, hb1⟩
  go_wp2_with fail
  refine (rNew_calls _).mono ?_
  rintro e w2 ⟨h, gb, gt, rfl, hr, ho, hb2⟩
  have HT0 : Aside0 (Tw w w2 w.heap.size h gb gt (fun _ => 0) (fun _ => false)) := ⟨⟨hm.below hb2, hr, below_step hb1 hb2, ⟨Nat.le_refl _, by have := hb1.size; omega⟩, by have := hm.lt; omega, zero_range⟩⟩
  clear hm hb1 hr ho hb2
  go_wp2_with fail
  go_loopg [9, 11, 12] (42) (fun kq v9 v11 v12 w' => ∃ (g i : Nat) (B : Nat → Int) (T : Nat → Bool), v9 = .pointer (some ⟨g, 0, none⟩) ∧ v11 = .int .i64 (i : Int) ∧ Aside0 (i + kq = 42) ∧ Aside0 (i ≤ 40) ∧ Aside0 (Tw w w' g h gb gt B T))
  case atStart => exact ⟨_, 0, _, _, rfl, rfl, ⟨by omega⟩, ⟨by omega⟩, HT0⟩
  case round =>
    clear HT0
    obtain ⟨g, i, B, T, rfl, rfl, HK, HI, HT⟩ := hrel
    by_cases c : i < 40 ∧ i < l.length
    · cases gk with
      | zero => exact absurd HK.out (by have := HI.out; omega)
      | succ gk =>
        obtain ⟨ad, x, rfl, hx, hlx, x0, x1, x2, x3, x4, x5, x6, x7, x8, x9, x10⟩ := HA.out.get HT.out.b i c.2
        obtain ⟨d, p, s, v, q0, q1, q2, q3, q4, q5, q6⟩ := x
        simp only at x0 x1 x2 x3 x4 x5 x6 x7 x8 x9 x10
        have HX := Aside0.mk hx
        have HC := Aside0.mk c
        have p1 : 0 ≤ (i : Int) := by omega
        have p2 : ((i : Int) < (l.length : Int)) = True := eq_true (by omega)
        have p3 : ((i : Int) < 40) = True := eq_true (by omega)
        have p4 : (i < l.length) = True := eq_true (by omega)
        have p5 : (i < 40) = True := eq_true (by omega)
        clear c hx hlx
        go_wp2_with fail
        refine (did_calls d p s v HX.out.p HX.out.v q0 q1 q2 q3 q4 q5 q6 HX.out.q1 HX.out.q2 HX.out.q3 HX.out.q4 HX.out.q5 HX.out.q6 _ HT.out).mono ?_
        rintro e w3 ⟨g', B', T', rfl, hT⟩
        have HT' := Aside0.mk hT
        clear hT x0 x1 x2 x3 x4 x5 x6 x7 x8 x9 x10 HT
        go_wp2
        go_roundg gk
        case measure => omega
        case rel => exact ⟨g', i + 1, B', T', rfl, by (simp [wrap64]; have := HC.out; omega), ⟨by have := HK.out; omega⟩, ⟨by have := HC.out; omega⟩, HT'⟩
    · have hc : (decide ((i : Int) < (l.length : Int)) = false ∧ decide (i < l.length) = false ∧ True ∧ True) ∨ (decide ((i : Int) < (l.length : Int)) = true ∧ decide (i < l.length) = true ∧ decide ((i : Int) < 40) = false ∧ decide (i < 40) = false) := by
        by_cases h1 : i < l.length
        · exact .inr ⟨decide_eq_true (by omega), decide_eq_true h1, decide_eq_false (by omega), decide_eq_false (by omega)⟩
        · exact .inl ⟨decide_eq_false (by omega), decide_eq_false h1, trivial, trivial⟩
      clear c HK HI HA
      rcases hc with ⟨f1, f2, f3, f4⟩ | ⟨f1, f2, f3, f4⟩
      all_goals (
        go_wp2_with fail
        clear f1 f2 f3 f4
        go_loopg [13] (42) (fun kq v13 w' => ∃ (j : Nat), v13 = .int .i64 (j : Int) ∧ Aside0 (j + kq = 42) ∧ Aside0 (j ≤ 40) ∧ Aside0 (Tw w w' g h gb gt B T))
        case atStart => exact ⟨0, rfl, ⟨by omega⟩, ⟨by omega⟩, HT⟩
        case round =>
          clear HT
          obtain ⟨j, rfl, HK, HI, HT⟩ := hrel
          by_cases c : j < 40 ∧ j < l1.length ∧ j < l2.length ∧ j < l3.length
          · cases gk with
            | zero => exact absurd HK.out (by have := HI.out; omega)
            | succ gk =>
              obtain ⟨ad1, ea, hx1⟩ := Kd.at_int HR1.out (j : Int) (by omega) (by omega)
              cases ea
              obtain ⟨ad2, ea, hx2⟩ := Kd.at_int HR2.out (j : Int) (by omega) (by omega)
              cases ea
              obtain ⟨ad3, ea, hx3⟩ := Kd.at_int HR3.out (j : Int) (by omega) (by omega)
              cases ea
              rw [Int.toNat_natCast] at hx1 hx2 hx3
              replace hx1 := (HT.out.b.cell (World.block_lt_of_cell? w _ hx1)).trans hx1
              replace hx2 := (HT.out.b.cell (World.block_lt_of_cell? w _ hx2)).trans hx2
              replace hx3 := (HT.out.b.cell (World.block_lt_of_cell? w _ hx3)).trans hx3
              generalize rd l1 (j : Int) = y1 at hx1
              generalize rd l2 (j : Int) = y2 at hx2
              generalize rd l3 (j : Int) = y3 at hx3
              have HC := Aside0.mk c
              have p1 : 0 ≤ (j : Int) := by omega
              have p2 : ((j : Int) < (l1.length : Int)) = True := eq_true (by omega)
              have p3 : ((j : Int) < 40) = True := eq_true (by omega)
              have p4 : (j < l1.length) = True := eq_true (by omega)
              have p5 : (j < 40) = True := eq_true (by omega)
              have p6 : ((j : Int) < (l2.length : Int)) = True := eq_true (by omega)
              have p7 : (j < l2.length) = True := eq_true (by omega)
              have p8 : ((j : Int) < (l3.length : Int)) = True := eq_true (by omega)
              have p9 : (j < l3.length) = True := eq_true (by omega)
              clear c
              go_wp2
              have hs := And.intro hx1 (And.intro hx2 hx3)
              have HTD : Aside0 (Tw w wr.drew g h gb gt B T) := ⟨HT.out.below (Below.refl _ _).drew⟩
              clear hx1 hx2 hx3
              go_region_held3 (fun w' => w'.cell? (ad1.add j) = some (.int .i64 y1) ∧ w'.cell? (ad2.add j) = some (.int .i64 y2) ∧ w'.cell? (ad3.add j) = some (.int .i64 y3)) (first | with_reducible assumption | (with_reducible refine keepPD ?_; with_reducible assumption) | (with_reducible exact keepP (by with_reducible assumption) (by with_reducible assumption))) (first | (go_at_call 21; ((with_reducible refine (alike_calls y1 y2 y3 _ HTD.out).mono ?_)); rintro e w' ⟨rfl, hb⟩))
              have HT' : Aside0 (Tw w w' g h gb gt B T) := ⟨HTD.out.below hb⟩
              rename_i hH_
              clear hb hs hH_ HTD HT
              go_wp2
              go_roundg gk
              case measure => omega
              case rel => exact ⟨j + 1, by (simp [wrap64]; have := HC.out; omega), ⟨by have := HK.out; omega⟩, ⟨by have := HC.out; omega⟩, HT'⟩
          · have hc : (decide ((j : Int) < (l1.length : Int)) = false ∧ decide (j < l1.length) = false ∧ True ∧ True ∧ True ∧ True ∧ True ∧ True) ∨ (decide ((j : Int) < (l1.length : Int)) = true ∧ decide (j < l1.length) = true ∧ decide ((j : Int) < (l2.length : Int)) = false ∧ decide (j < l2.length) = false ∧ True ∧ True ∧ True ∧ True) ∨ (decide ((j : Int) < (l1.length : Int)) = true ∧ decide (j < l1.length) = true ∧ decide ((j : Int) < (l2.length : Int)) = true ∧ decide (j < l2.length) = true ∧ decide ((j : Int) < (l3.length : Int)) = false ∧ decide (j < l3.length) = false ∧ True ∧ True) ∨ (decide ((j : Int) < (l1.length : Int)) = true ∧ decide (j < l1.length) = true ∧ decide ((j : Int) < (l2.length : Int)) = true ∧ decide (j < l2.length) = true ∧ decide ((j : Int) < (l3.length : Int)) = true ∧ decide (j < l3.length) = true ∧ decide ((j : Int) < 40) = false ∧ decide (j < 40) = false) := by
              by_cases h1 : j < l1.length
              · refine .inr ?_
                by_cases h2 : j < l2.length
                · refine .inr ?_
                  by_cases h3 : j < l3.length
                  · exact .inr ⟨decide_eq_true (by omega), decide_eq_true h1, decide_eq_true (by omega), decide_eq_true h2, decide_eq_true (by omega), decide_eq_true h3, decide_eq_false (by omega), decide_eq_false (by omega)⟩
                  · exact .inl ⟨decide_eq_true (by omega), decide_eq_true h1, decide_eq_true (by omega), decide_eq_true h2, decide_eq_false (by omega), decide_eq_false h3, trivial, trivial⟩
                · exact .inl ⟨decide_eq_true (by omega), decide_eq_true h1, decide_eq_false (by omega), decide_eq_false h2, trivial, trivial, trivial, trivial⟩
              · exact .inl ⟨decide_eq_false (by omega), decide_eq_false h1, trivial, trivial, trivial, trivial, trivial, trivial⟩
            clear c HK HI HR1 HR2 HR3
            rcases hc with ⟨f1, f2, f3, f4, f5, f6, f7, f8⟩ | ⟨f1, f2, f3, f4, f5, f6, f7, f8⟩ | ⟨f1, f2, f3, f4, f5, f6, f7, f8⟩ | ⟨f1, f2, f3, f4, f5, f6, f7, f8⟩
            all_goals (
              go_wp2_with fail
              clear f1 f2 f3 f4 f5 f6 f7 f8
              refine (alike_calls 0 65536 4 _ HT.out).mono ?_
              rintro e w3 ⟨rfl, hb⟩
              replace HT := Aside0.mk (HT.out.below hb)
              clear hb
              go_wp2_with fail
              refine (lives_calls _).mono ?_
              rintro e w4 ⟨rfl, hb⟩
              have HE := Aside0.mk (below_step HT.out.b hb)
              clear hb HT
              go_wp2
              go_ret
              exact ⟨rfl, HE.out⟩))
end Go.Proofs.Ytiiemfnaegapmaa.Q
