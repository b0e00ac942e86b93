-- The memory's and the reference's functions at whatever arguments, in one form. Lean checks it.
import Derived.Test.YtiiemfnaegapmaaH12
namespace Go.Proofs.Ytiiemfnaegapmaa.Q
open Go.Proofs.Ytiiemfnaegapmaa.Pure Go.Proofs.Ytiiemfnaegapmaa.Z
open Go.RowKit Go.Proofs.YtiiemfnaegapmaaW.PrintWords Go.Proofs.YtiiemfnaegapmaaW.PrintLast Go.Proofs.YtiiemfnaegapmaaW.PrintMore
set_option linter.unusedVariables false
set_option linter.unusedSimpArgs false

def okS (a s : Int) : Bool := isNum s && isThere a s
theorem okS_is {a s : Int} (ha : 0 ≤ a) (h : okS a s = true) : ∃ n k : Nat, a = (n : Int) ∧ s = (k : Int) ∧ (k = 1 ∨ k = 2 ∨ k = 4) ∧ (n : Int) % k = 0 ∧ n + k ≤ 65536 := by
  unfold okS at h
  rw [Bool.and_eq_true] at h
  obtain ⟨k, rfl, hk⟩ := isNum_is h.1
  have h2 := of_decide_eq_true h.2
  obtain ⟨n, rfl⟩ := Int.eq_ofNat_of_zero_le ha
  exact ⟨n, k, rfl, rfl, hk, h2.1, by omega⟩
theorem there8 {a : Int} (ha : 0 ≤ a) (h : isThere a 8 = true) : ∃ n : Nat, a = (n : Int) ∧ n % 8 = 0 ∧ n + 8 ≤ 65536 := by
  have h2 := of_decide_eq_true h
  obtain ⟨n, rfl⟩ := Int.eq_ofNat_of_zero_le ha
  exact ⟨n, rfl, by omega, by omega⟩
theorem part_is2 {a s : Int} (h : isPart a s = true) : ∃ n k : Nat, a = (n : Int) ∧ s = (k : Int) ∧ n + k ≤ 65536 := by
  have h2 := of_decide_eq_true h
  obtain ⟨n, rfl⟩ := Int.eq_ofNat_of_zero_le h2.1
  obtain ⟨k, rfl⟩ := Int.eq_ofNat_of_zero_le h2.2.1
  exact ⟨n, k, rfl, rfl, by omega⟩
def stE (a s : Int) : Int := if okS a s = true then 0 else 2
def sB (B : Nat → Int) (a s v : Int) : Nat → Int := if okS a s = true then stB B a.toNat s.toNat v else B
def sT (T : Nat → Bool) (a s : Int) : Nat → Bool := if okS a s = true then upT T (a.toNat / 8) false else T
def cE (a : Int) : Int := if isThere a 8 = true then 0 else 2
def cB (B : Nat → Int) (a q1 q2 q3 q4 q5 q6 : Int) : Nat → Int := if isThere a 8 = true then stC B a.toNat q1 (num2 q2 q3 q4 q5 q6) else B
def cT (T : Nat → Bool) (a : Int) (q0 : Bool) : Nat → Bool := if isThere a 8 = true then upT T (a.toNat / 8) q0 else T
def lV (B : Nat → Int) (a s : Int) : Int := if okS a s = true then numOf (row B a.toNat s.toNat) else 0
def lA (B : Nat → Int) (a : Int) : Int := if isThere a 8 = true then ldA B a.toNat else 0
def lN (B : Nat → Int) (a : Int) : Int := if isThere a 8 = true then ldN B a.toNat else 0
def lT (T : Nat → Bool) (a : Int) : Bool := if isThere a 8 = true then T (a.toNat / 8) else false
def pE (a s : Int) : Int := if isPart a s = true then 0 else 2
def bL (B : Nat → Int) (a s : Int) : List Int := if isPart a s = true then row B a.toNat s.toNat else []
def tV (T : Nat → Bool) (a s : Int) : Int := if isPart a s = true then (cntT T (a.toNat / 8) (spanN a.toNat s.toNat) : Nat) else 0
theorem Store_any {g : Nat} {B : Nat → Int} {T : Nat → Bool} (a s v : Int) (ha : 0 ≤ a ∧ a < 4294967296) (hv : 0 ≤ v ∧ v < 4294967296) (w : World) (hM : Mem w g true B T) :
    Calls Try.prog 8 #[.pointer (some ⟨g, 0, none⟩), .int .u32 a, .int .i64 s, .int .u32 v] w fun e w' => e = .returned (.int .i64 (stE a s)) ∧ Mem w' g true (sB B a s v) (sT T a s) ∧ Fr (fun k => k = g) w w' := by
  unfold stE sB sT
  cases hc : okS a s with
  | true =>
    obtain ⟨n, k, rfl, rfl, hk, hd, hn⟩ := okS_is ha.1 hc
    simp only [if_true, Int.toNat_natCast]
    exact Store_ok n k v w hM hk hd hn hv
  | false =>
    simp only [Bool.false_eq_true, if_false]
    refine (Store_bad a s v w hM ha hc).mono ?_
    rintro e w' ⟨rfl, rfl⟩
    exact ⟨rfl, hM, Fr.refl _ _⟩
theorem StoreCap_any {g : Nat} {B : Nat → Int} {T : Nat → Bool} (a : Int) (ha : 0 ≤ a ∧ a < 4294967296) (q0 : Bool) (q1 q2 q3 q4 q5 q6 : Int) (h1 : 0 ≤ q1 ∧ q1 < 4294967296) (h2 : 0 ≤ q2 ∧ q2 ≤ 255) (h3 : 0 ≤ q3 ∧ q3 ≤ 255) (h4 : 0 ≤ q4 ∧ q4 ≤ 255) (h5 : 0 ≤ q5 ∧ q5 ≤ 65535) (h6 : 0 ≤ q6 ∧ q6 ≤ 65535) (w : World) (hM : Mem w g true B T) :
    Calls Try.prog 9 #[.pointer (some ⟨g, 0, none⟩), .int .u32 a, .agg #[.bool q0, .int .u32 q1, .int .u8 q2, .int .u8 q3, .int .u8 q4, .int .u16 q5, .int .u16 q6]] w fun e w' => e = .returned (.int .i64 (cE a)) ∧ Mem w' g true (cB B a q1 q2 q3 q4 q5 q6) (cT T a q0) ∧ Fr (fun k => k = g) w w' := by
  unfold cE cB cT
  cases hc : isThere a 8 with
  | true =>
    obtain ⟨n, rfl, hd, hn⟩ := there8 ha.1 hc
    simp only [if_true, Int.toNat_natCast]
    exact StoreCap_ok n q0 q1 q2 q3 q4 q5 q6 h1 h2 h3 h4 h5 h6 w hM hd hn
  | false =>
    simp only [Bool.false_eq_true, if_false]
    refine (StoreCap_bad a q0 q1 q2 q3 q4 q5 q6 w hM ha hc).mono ?_
    rintro e w' ⟨rfl, hb⟩
    exact ⟨rfl, hM.below hb, Fr.of_below hb⟩
theorem Load_any {g : Nat} {B : Nat → Int} {T : Nat → Bool} (hB : ∀ i, 0 ≤ B i ∧ B i ≤ 255) (a s : Int) (ha : 0 ≤ a ∧ a < 4294967296) (w : World) (hM : Mem w g true B T) :
    Calls Try.prog 14 #[.pointer (some ⟨g, 0, none⟩), .int .u32 a, .int .i64 s] w fun e w' => e = .returned (.tuple #[.int .u32 (lV B a s), .int .i64 (stE a s)]) ∧ Below w.heap.size w w' := by
  unfold stE lV
  cases hc : okS a s with
  | true =>
    obtain ⟨n, k, rfl, rfl, hk, hd, hn⟩ := okS_is ha.1 hc
    simp only [if_true, Int.toNat_natCast]
    exact Load_ok hB n k w hM hk hd hn
    
    
    
  | false =>
    simp only [Bool.false_eq_true, if_false]
    refine (Load_bad a s w hM ha hc).mono ?_
    rintro e w' ⟨rfl, rfl⟩
    exact ⟨rfl, Below.refl _ _⟩
theorem LoadCap_any {g : Nat} {B : Nat → Int} {T : Nat → Bool} (hB : ∀ i, 0 ≤ B i ∧ B i ≤ 255) (a : Int) (ha : 0 ≤ a ∧ a < 4294967296) (w : World) (hM : Mem w g true B T) :
    Calls Try.prog 15 #[.pointer (some ⟨g, 0, none⟩), .int .u32 a] w fun e w' => e = .returned (.tuple #[.agg #[.bool (lT T a), .int .u32 (lA B a), .int .u8 (lN B a % 128), .int .u8 (lN B a / 128 % 8), .int .u8 (lN B a / 1024 % 16), .int .u16 (lN B a / 16384 % 512), .int .u16 (lN B a / 8388608 % 512)], .int .i64 (cE a)]) ∧ Below w.heap.size w w' := by
  unfold cE lT lA lN
  cases hc : isThere a 8 with
  | true =>
    obtain ⟨n, rfl, hd, hn⟩ := there8 ha.1 hc
    simp only [if_true, Int.toNat_natCast]
    exact LoadCap_ok hB n w hM hd hn
  | false =>
    simp only [Bool.false_eq_true, if_false]
    exact LoadCap_bad a w hM ha hc
theorem Bytes_any {g : Nat} {B : Nat → Int} {T : Nat → Bool} (a s : Int) (w : World) (hM : Mem w g true B T) :
    Calls Try.prog 10 #[.pointer (some ⟨g, 0, none⟩), .int .i64 a, .int .i64 s] w fun e w' => ∃ v, e = .returned (.tuple #[v, .int .i64 (pE a s)]) ∧ Kd.R (Kd.int .u8) 5 w' w.heap.size (fun _ => True) v (bL B a s) ∧ Below w.heap.size w w' := by
  unfold pE bL
  cases hc : isPart a s with
  | true =>
    obtain ⟨n, k, rfl, rfl, hn⟩ := part_is2 hc
    simp only [if_true, Int.toNat_natCast]
    exact Bytes_ok n k w hM hn
  | false =>
    simp only [Bool.false_eq_true, if_false]
    refine (Bytes_bad a s w hM hc).mono ?_
    rintro e w' ⟨rfl, rfl⟩
    exact ⟨_, rfl, Kd.R_nil _ _ _ _ _, Below.refl _ _⟩
theorem Tags_any {g : Nat} {B : Nat → Int} {T : Nat → Bool} (a s : Int) (w : World) (hM : Mem w g true B T) :
    Calls Try.prog 11 #[.pointer (some ⟨g, 0, none⟩), .int .i64 a, .int .i64 s] w fun e w' => e = .returned (.tuple #[.int .i64 (tV T a s), .int .i64 (pE a s)]) ∧ w = w' := by
  unfold pE tV
  cases hc : isPart a s with
  | true =>
    obtain ⟨n, k, rfl, rfl, hn⟩ := part_is2 hc
    simp only [if_true, Int.toNat_natCast]
    exact Tags_ok n k w hM hn
  | false =>
    simp only [Bool.false_eq_true, if_false]
    exact Tags_bad a s w hM hc
theorem rStore_any {h gb gt : Nat} {B : Nat → Int} {T : Nat → Bool} (a s v : Int) (ha : 0 ≤ a ∧ a < 4294967296) (hv : 0 ≤ v ∧ v < 4294967296) (w : World) (hM : RMem w h gb gt B T) :
    Calls Try.prog 31 #[.pointer (some ⟨h, 0, none⟩), .int .u32 a, .int .i64 s, .int .u32 v] w fun e w' => e = .returned (.int .i64 (stE a s)) ∧ RMem w' h gb gt (sB B a s v) (sT T a s) ∧ Fr (fun k => k = gb ∨ k = gt) w w' := by
  unfold stE sB sT
  cases hc : okS a s with
  | true =>
    obtain ⟨n, k, rfl, rfl, hk, hd, hn⟩ := okS_is ha.1 hc
    simp only [if_true, Int.toNat_natCast]
    exact rStore_ok n k v w hM hk hd hn hv
  | false =>
    simp only [Bool.false_eq_true, if_false]
    refine (rStore_bad h a s v w ha hc).mono ?_
    rintro e w' ⟨rfl, rfl⟩
    exact ⟨rfl, hM, Fr.refl _ _⟩
theorem rStoreCap_any {h gb gt : Nat} {B : Nat → Int} {T : Nat → Bool} (a : Int) (ha : 0 ≤ a ∧ a < 4294967296) (q0 : Bool) (q1 q2 q3 q4 q5 q6 : Int) (h1 : 0 ≤ q1 ∧ q1 < 4294967296) (h2 : 0 ≤ q2 ∧ q2 ≤ 255) (h3 : 0 ≤ q3 ∧ q3 ≤ 255) (h4 : 0 ≤ q4 ∧ q4 ≤ 255) (h5 : 0 ≤ q5 ∧ q5 ≤ 65535) (h6 : 0 ≤ q6 ∧ q6 ≤ 65535) (w : World) (hM : RMem w h gb gt B T) :
    Calls Try.prog 32 #[.pointer (some ⟨h, 0, none⟩), .int .u32 a, .agg #[.bool q0, .int .u32 q1, .int .u8 q2, .int .u8 q3, .int .u8 q4, .int .u16 q5, .int .u16 q6]] w fun e w' => e = .returned (.int .i64 (cE a)) ∧ RMem w' h gb gt (cB B a q1 q2 q3 q4 q5 q6) (cT T a q0) ∧ Fr (fun k => k = gb ∨ k = gt) w w' := by
  unfold cE cB cT
  cases hc : isThere a 8 with
  | true =>
    obtain ⟨n, rfl, hd, hn⟩ := there8 ha.1 hc
    simp only [if_true, Int.toNat_natCast]
    exact rStoreCap_ok n q0 q1 q2 q3 q4 q5 q6 h1 h2 h3 h4 h5 h6 w hM hd hn
  | false =>
    simp only [Bool.false_eq_true, if_false]
    refine (rStoreCap_bad h a q0 q1 q2 q3 q4 q5 q6 w ha hc).mono ?_
    rintro e w' ⟨rfl, hb⟩
    exact ⟨rfl, hM.below hb, Fr.of_below hb⟩
theorem rLoad_any {h gb gt : Nat} {B : Nat → Int} {T : Nat → Bool} (hB : ∀ i, 0 ≤ B i ∧ B i ≤ 255) (a s : Int) (ha : 0 ≤ a ∧ a < 4294967296) (w : World) (hM : RMem w h gb gt B T) :
    Calls Try.prog 35 #[.pointer (some ⟨h, 0, none⟩), .int .u32 a, .int .i64 s] w fun e w' => e = .returned (.tuple #[.int .u32 (lV B a s), .int .i64 (stE a s)]) ∧ Below w.heap.size w w' := by
  unfold stE lV
  cases hc : okS a s with
  | true =>
    obtain ⟨n, k, rfl, rfl, hk, hd, hn⟩ := okS_is ha.1 hc
    simp only [if_true, Int.toNat_natCast]
    have hq : Calls Try.prog 35 #[.pointer (some ⟨h, 0, none⟩), .int .u32 n, .int .i64 k] w fun e w1 => e = .returned (.tuple #[.int .u32 (numOf (row B n k)), .int .i64 0]) ∧ w = w1 := by rcases hk with rfl | rfl | rfl <;> first | exact rLoad_1 hB n w hM hd hn | exact rLoad_2 hB n w hM hd hn | exact rLoad_4 hB n w hM hd hn
    refine hq.mono ?_
    rintro e w1 ⟨rfl, rfl⟩
    exact ⟨rfl, Below.refl _ _⟩
  | false =>
    simp only [Bool.false_eq_true, if_false]
    refine (rLoad_bad h a s w ha hc).mono ?_
    rintro e w' ⟨rfl, rfl⟩
    exact ⟨rfl, Below.refl _ _⟩
theorem rLoadCap_any {h gb gt : Nat} {B : Nat → Int} {T : Nat → Bool} (hB : ∀ i, 0 ≤ B i ∧ B i ≤ 255) (a : Int) (ha : 0 ≤ a ∧ a < 4294967296) (w : World) (hM : RMem w h gb gt B T) :
    Calls Try.prog 36 #[.pointer (some ⟨h, 0, none⟩), .int .u32 a] w fun e w' => e = .returned (.tuple #[.agg #[.bool (lT T a), .int .u32 (lA B a), .int .u8 (lN B a % 128), .int .u8 (lN B a / 128 % 8), .int .u8 (lN B a / 1024 % 16), .int .u16 (lN B a / 16384 % 512), .int .u16 (lN B a / 8388608 % 512)], .int .i64 (cE a)]) ∧ Below w.heap.size w w' := by
  unfold cE lT lA lN
  cases hc : isThere a 8 with
  | true =>
    obtain ⟨n, rfl, hd, hn⟩ := there8 ha.1 hc
    simp only [if_true, Int.toNat_natCast]
    exact rLoadCap_ok hB n w hM hd hn
  | false =>
    simp only [Bool.false_eq_true, if_false]
    exact rLoadCap_bad h a w ha hc
theorem rBytes_any {h gb gt : Nat} {B : Nat → Int} {T : Nat → Bool} (a s : Int) (w : World) (hM : RMem w h gb gt B T) :
    Calls Try.prog 33 #[.pointer (some ⟨h, 0, none⟩), .int .i64 a, .int .i64 s] w fun e w' => ∃ v, e = .returned (.tuple #[v, .int .i64 (pE a s)]) ∧ Kd.R (Kd.int .u8) 5 w' w.heap.size (fun _ => True) v (bL B a s) ∧ Below w.heap.size w w' := by
  unfold pE bL
  cases hc : isPart a s with
  | true =>
    obtain ⟨n, k, rfl, rfl, hn⟩ := part_is2 hc
    simp only [if_true, Int.toNat_natCast]
    exact rBytes_ok n k w hM hn
  | false =>
    simp only [Bool.false_eq_true, if_false]
    refine (rBytes_bad h a s w hc).mono ?_
    rintro e w' ⟨rfl, rfl⟩
    exact ⟨_, rfl, Kd.R_nil _ _ _ _ _, Below.refl _ _⟩
theorem rTags_any {h gb gt : Nat} {B : Nat → Int} {T : Nat → Bool} (a s : Int) (w : World) (hM : RMem w h gb gt B T) :
    Calls Try.prog 34 #[.pointer (some ⟨h, 0, none⟩), .int .i64 a, .int .i64 s] w fun e w' => e = .returned (.tuple #[.int .i64 (tV T a s), .int .i64 (pE a s)]) ∧ w = w' := by
  unfold pE tV
  cases hc : isPart a s with
  | true =>
    obtain ⟨n, k, rfl, rfl, hn⟩ := part_is2 hc
    simp only [if_true, Int.toNat_natCast]
    exact rTags_ok n k w hM hn
  | false =>
    simp only [Bool.false_eq_true, if_false]
    exact rTags_bad h a s w hc
theorem sB_range {B : Nat → Int} (hB : ∀ i, 0 ≤ B i ∧ B i ≤ 255) (a s v : Int) (hv : 0 ≤ v) : ∀ i, 0 ≤ sB B a s v i ∧ sB B a s v i ≤ 255 := by
  intro i
  unfold sB
  split
  · unfold stB
    split
    · exact nth_u8 _ _ hv
    · exact hB i
  · exact hB i
theorem cB_range {B : Nat → Int} (hB : ∀ i, 0 ≤ B i ∧ B i ≤ 255) (a q1 q2 q3 q4 q5 q6 : Int) (hq : 0 ≤ q1) : ∀ i, 0 ≤ cB B a q1 q2 q3 q4 q5 q6 i ∧ cB B a q1 q2 q3 q4 q5 q6 i ≤ 255 := by
  intro i
  unfold cB
  split
  · unfold stC
    split
    · exact nth_u8 _ _ hq
    · split
      · exact nth_u8 _ _ (num2_range _ _ _ _ _).1
      · exact hB i
  · exact hB i
theorem same_loop (l : List Int) (hl : l.length ≤ 9223372036854775807) (d : Nat) : ∀ (k : Nat) (i : Int), 0 ≤ i → i + d = l.length → d < k → bulwarkref00_Same.l0 k l l i = some true := by
  induction d with
  | zero =>
    intro k i h0 h1 hk
    obtain ⟨k, rfl⟩ : ∃ m, k = m + 1 := ⟨k - 1, by omega⟩
    simp only [bulwarkref00_Same.l0]
    rw [if_neg (by omega)]
  | succ d ih =>
    intro k i h0 h1 hk
    obtain ⟨k, rfl⟩ : ∃ m, k = m + 1 := ⟨k - 1, by omega⟩
    have hw : wrap64 (i + 1) = i + 1 := by unfold wrap64; omega
    simp only [bulwarkref00_Same.l0]
    simp only [if_true]
    rw [if_pos (by omega), if_pos h0, if_pos (by omega), hw]
    exact ih k (i + 1) (by omega) (by omega) (by omega)
theorem same_is (l : List Int) (hl : l.length ≤ 9223372036854775807) : bulwarkref00_Same.f (l.length + 1) l l = some true := by
  unfold bulwarkref00_Same.f
  rw [if_pos rfl]
  exact same_loop l hl l.length _ 0 (by omega) (by omega) (by omega)
/-- Two rows that read alike are the same. -/
theorem same_calls (A0 A1 : Option Addr) (c0 c1 : Nat) (l : List Int) (w : World) (hr0 : Kd.C (Kd.int .u8) w A0 l.length l) (hc0 : l.length ≤ c0) (hr1 : Kd.C (Kd.int .u8) w A1 l.length l) (hc1 : l.length ≤ c1) :
    Calls Try.prog 12 #[.slice A0 l.length c0, .slice A1 l.length c1] w fun e w' => e = .returned (.bool true) ∧ Below w.heap.size w w' := by
  refine (bulwarkref00_Same.calls _ A0 c0 l A1 c1 l true w hr0 hc0 hr1 hc1 (same_is l hr0.2.1)).mono ?_
  rintro e w' ⟨rfl, ⟨n, rfl⟩⟩
  exact ⟨rfl, pw_below_drewN (Below.refl _ _) n⟩
end Go.Proofs.Ytiiemfnaegapmaa.Q
