-- The law that what is stored is loaded, and nothing beside it turns. By hand. Lean checks it.
import Derived.Test.YtiiemfnaegapmaaM3
import Derived.Test.YtiiemfnaegapmaaOpenA
namespace Go.Proofs.Ytiiemfnaegapmaa.Q
open Go.Proofs.Ytiiemfnaegapmaa.Pure Go.Proofs.Ytiiemfnaegapmaa.Z
open Go.RowKit Go.Proofs.YtiiemfnaegapmaaW.PrintWords Go.Proofs.YtiiemfnaegapmaaW.PrintLast Go.Proofs.YtiiemfnaegapmaaW.PrintMore
set_option linter.unusedVariables false
set_option linter.unusedSimpArgs false
theorem keepB0 {W W2 : World} {b o g : Nat} {p s v : Int} (f : Fr (fun k => k = g) W W2) (hn : b ≠ g) (h : W.cell? ⟨b, o + 1, none⟩ = some (.int .u32 p) ∧ W.cell? ⟨b, o + 2, none⟩ = some (.int .i64 s) ∧ W.cell? ⟨b, o + 3, none⟩ = some (.int .u32 v)) : W2.cell? ⟨b, o + 1, none⟩ = some (.int .u32 p) ∧ W2.cell? ⟨b, o + 2, none⟩ = some (.int .i64 s) ∧ W2.cell? ⟨b, o + 3, none⟩ = some (.int .u32 v) := by
  have hc : ∀ i u, W.cell? ⟨b, o + i, none⟩ = some u → W2.cell? ⟨b, o + i, none⟩ = some u := fun i u hu => (World.cell?_of_block (f.block b (World.block_lt_of_cell? _ _ hu) (by simpa using hn))).trans hu
  obtain ⟨h0, h1, h2⟩ := h
  exact ⟨hc _ _ h0, hc _ _ h1, hc _ _ h2⟩
theorem keepB0D {W : World} {b o : Nat} {p s v : Int} (h : W.cell? ⟨b, o + 1, none⟩ = some (.int .u32 p) ∧ W.cell? ⟨b, o + 2, none⟩ = some (.int .i64 s) ∧ W.cell? ⟨b, o + 3, none⟩ = some (.int .u32 v)) : W.drew.cell? ⟨b, o + 1, none⟩ = some (.int .u32 p) ∧ W.drew.cell? ⟨b, o + 2, none⟩ = some (.int .i64 s) ∧ W.drew.cell? ⟨b, o + 3, none⟩ = some (.int .u32 v) := h
theorem keepB1 {W W2 : World} {b o g : Nat} {q0 : Bool} {p q1 q2 q3 q4 q5 q6 : Int} (f : Fr (fun k => k = g) W W2) (hn : b ≠ g) (h : W.cell? ⟨b, o + 1, none⟩ = some (.int .u32 p) ∧ W.cell? ⟨b, o + 4, none⟩ = some (.bool q0) ∧ W.cell? ⟨b, o + 5, none⟩ = some (.int .u32 q1) ∧ W.cell? ⟨b, o + 6, none⟩ = some (.int .u8 q2) ∧ W.cell? ⟨b, o + 7, none⟩ = some (.int .u8 q3) ∧ W.cell? ⟨b, o + 8, none⟩ = some (.int .u8 q4) ∧ W.cell? ⟨b, o + 9, none⟩ = some (.int .u16 q5) ∧ W.cell? ⟨b, o + 10, none⟩ = some (.int .u16 q6)) : W2.cell? ⟨b, o + 1, none⟩ = some (.int .u32 p) ∧ W2.cell? ⟨b, o + 4, none⟩ = some (.bool q0) ∧ W2.cell? ⟨b, o + 5, none⟩ = some (.int .u32 q1) ∧ W2.cell? ⟨b, o + 6, none⟩ = some (.int .u8 q2) ∧ W2.cell? ⟨b, o + 7, none⟩ = some (.int .u8 q3) ∧ W2.cell? ⟨b, o + 8, none⟩ = some (.int .u8 q4) ∧ W2.cell? ⟨b, o + 9, none⟩ = some (.int .u16 q5) ∧ W2.cell? ⟨b, o + 10, none⟩ = some (.int .u16 q6) := by
  have hc : ∀ i u, W.cell? ⟨b, o + i, none⟩ = some u → W2.cell? ⟨b, o + i, none⟩ = some u := fun i u hu => (World.cell?_of_block (f.block b (World.block_lt_of_cell? _ _ hu) (by simpa using hn))).trans hu
  obtain ⟨h0, h1, h2, h3, h4, h5, h6, h7⟩ := h
  exact ⟨hc _ _ h0, hc _ _ h1, hc _ _ h2, hc _ _ h3, hc _ _ h4, hc _ _ h5, hc _ _ h6, hc _ _ h7⟩
theorem keepB1D {W : World} {b o : Nat} {q0 : Bool} {p q1 q2 q3 q4 q5 q6 : Int} (h : W.cell? ⟨b, o + 1, none⟩ = some (.int .u32 p) ∧ W.cell? ⟨b, o + 4, none⟩ = some (.bool q0) ∧ W.cell? ⟨b, o + 5, none⟩ = some (.int .u32 q1) ∧ W.cell? ⟨b, o + 6, none⟩ = some (.int .u8 q2) ∧ W.cell? ⟨b, o + 7, none⟩ = some (.int .u8 q3) ∧ W.cell? ⟨b, o + 8, none⟩ = some (.int .u8 q4) ∧ W.cell? ⟨b, o + 9, none⟩ = some (.int .u16 q5) ∧ W.cell? ⟨b, o + 10, none⟩ = some (.int .u16 q6)) : W.drew.cell? ⟨b, o + 1, none⟩ = some (.int .u32 p) ∧ W.drew.cell? ⟨b, o + 4, none⟩ = some (.bool q0) ∧ W.drew.cell? ⟨b, o + 5, none⟩ = some (.int .u32 q1) ∧ W.drew.cell? ⟨b, o + 6, none⟩ = some (.int .u8 q2) ∧ W.drew.cell? ⟨b, o + 7, none⟩ = some (.int .u8 q3) ∧ W.drew.cell? ⟨b, o + 8, none⟩ = some (.int .u8 q4) ∧ W.drew.cell? ⟨b, o + 9, none⟩ = some (.int .u16 q5) ∧ W.drew.cell? ⟨b, o + 10, none⟩ = some (.int .u16 q6) := h
/-- What the law wants: the bytes and tags before, put anew. -/
theorem row_set (B B' : Nat → Int) (m n i : Nat) (hi : i < m) : (row B' 0 m).set i (B i) = row (fun j => if j = i then B j else B' j) 0 m := by
  apply List.ext_getElem?
  intro j
  rw [List.getElem?_set]
  by_cases hj : j < m
  · rw [row_get _ _ _ _ hj]
    by_cases e : i = j
    · subst e
      rw [if_pos rfl, if_pos (by rw [row_len]; exact hi), row_get _ _ _ _ hi]
      simp
    · rw [if_neg e, row_get _ _ _ _ hj]
      rw [if_neg (by omega)]
  · have h1 : (row B' 0 m).length ≤ j := by rw [row_len]; omega
    have h2 : (row (fun j => if j = i then B j else B' j) 0 m).length ≤ j := by rw [row_len]; omega
    rw [List.getElem?_eq_none h2, List.getElem?_eq_none h1, if_neg (by omega)]
theorem rd_row (B : Nat → Int) (m i : Nat) (hi : i < m) : rdOf 0 (row B 0 m) (i : Int) = B i := by
  unfold rdOf
  rw [Int.toNat_natCast, List.getD_eq_getElem?_getD, row_get _ _ _ _ hi]
  simp
theorem rd_rowN {L : List Int} {B : Nat → Int} {N : Nat} (h : L = row B 0 N) (i : Nat) (hi : i < N) : rd L ((i : Nat) : Int) = B i := by
  subst h
  exact rd_row B N i hi
/-- The bytes of B' with those of B put back from n on, so many. -/
def mixB (B B' : Nat → Int) (n b : Nat) : Nat → Int := fun j => if n ≤ j ∧ j < n + b then B j else B' j
theorem mixB_zero (B B' : Nat → Int) (n : Nat) : mixB B B' n 0 = B' := by
  funext j
  unfold mixB
  rw [if_neg (by omega)]
theorem mixB_step (B B' : Nat → Int) (n b m : Nat) (h : n + b < m) : (row (mixB B B' n b) 0 m).set (n + b) (B (n + b)) = row (mixB B B' n (b + 1)) 0 m := by
  rw [row_set _ _ _ 0 _ h]
  congr 1
  funext j
  unfold mixB
  by_cases e : j = n + b
  · subst e
    rw [if_pos rfl, if_pos (by omega)]
  · rw [if_neg e]
    by_cases e2 : n ≤ j ∧ j < n + b
    · rw [if_pos e2, if_pos (by omega)]
    · rw [if_neg e2, if_neg (by omega)]
theorem mixB_full (B : Nat → Int) (n k : Nat) (v : Int) : mixB B (stB B n k v) n k = B := by
  funext j
  unfold mixB stB
  split
  · rfl
  · rfl
theorem bL_all (B : Nat → Int) : bL B 0 65536 = row B 0 65536 := by unfold bL; rw [if_pos (by decide)]; rfl
theorem C_fr {S : Nat → Prop} {w w1 : World} {A : Option Addr} {n : Nat} {l : List Int} (h : Kd.C (Kd.int .u8) w A n l) (f : Fr S w w1) (hA : ∀ ad, A = some ad → ¬ S ad.block) : Kd.C (Kd.int .u8) w1 A n l := by
  have hr := Kd.reads_of_C (enc := Value.int .u8) (d := (0 : Int)) (h1 := fun _ => rfl) h
  refine Kd.C_of_reads (d := (0 : Int)) (h1 := fun _ => rfl) ⟨hr.1, hr.2.1, fun h0 => ?_⟩
  obtain ⟨ad, e, hc⟩ := hr.2.2 h0
  refine ⟨ad, e, fun j hj => ?_⟩
  have hb : (ad.add j).block = ad.block := by unfold Addr.add; split <;> rfl
  refine (World.cell?_of_block ?_).trans (hc j hj)
  rw [hb]
  refine f.block _ ?_ (hA ad e)
  have := World.block_lt_of_cell? _ _ (hc j hj)
  rw [hb] at this
  exact this
theorem R_row {w : World} {base n c : Nat} {ok : Nat → Prop} {A : Option Addr} {L : List Int} (h : Kd.R (Kd.int .u8) 5 w base ok (.slice A n c) L) (hn : 0 < L.length) : ∃ g1, A = some ⟨g1, 0, none⟩ ∧ base ≤ g1 ∧ n = L.length := by
  obtain ⟨inner, _, ⟨_, h0⟩ | ⟨g1, cap, cur, hv, hb, _⟩⟩ := Kd.R_own h
  · omega
  · cases hv
    exact ⟨g1, rfl, hb, rfl⟩
theorem sum_small {n b K : Nat} (h1 : n + K ≤ 65536) (h2 : b < K) : n + b < 4611686018427387904 := by omega
theorem wrap_small (n b : Nat) (h : n + b < 4611686018427387904) : wrap64 ((n : Int) + (b : Int)) = (n : Int) + (b : Int) := by unfold wrap64; omega
theorem wrap_pred (m : Nat) (h : m ≤ 8192) : wrap64 ((m : Nat) - 1 : Int) = (m : Int) - 1 := by unfold wrap64; omega
theorem bits_low (v M : Int) (m : Nat) (h0 : 0 ≤ v) (h1 : v < 18446744073709551616) (hm : m ≤ 64) (hM : M = 2 ^ m - 1) : bits BinOp.and IntKind.u64 (IntKind.u64.wrap v) M = v % 2 ^ m := by
  have hw : IntKind.u64.wrap v = v := by simp [IntKind.wrap, IntKind.bits, IntKind.signed]; omega
  subst hM
  rw [hw]
  exact u64_mask m hm v h0 h1
theorem same_callsN {A0 A1 : Option Addr} {c0 c1 N : Nat} {l : List Int} {w : World} (hl : l.length = N) (hr0 : Kd.C (Kd.int .u8) w A0 N l) (hc0 : N ≤ c0) (hr1 : Kd.C (Kd.int .u8) w A1 N l) (hc1 : N ≤ c1) :
    Calls Try.prog 12 #[.slice A0 N c0, .slice A1 N c1] w fun e w' => e = .returned (.bool true) ∧ Below w.heap.size w w' := by
  subst hl
  exact same_calls A0 A1 c0 c1 l w hr0 hc0 hr1 hc1
/-- One granule fewer at most. -/
theorem cntT_one (T : Nat → Bool) (i : Nat) : cntT (upT T i false) i 1 = 0 := by
  simp [cntT, upT]
theorem cntT_up (T : Nat → Bool) (lo i : Nat) (h : lo ≤ i) : ∀ k, (i < lo + k → cntT (upT T i false) lo k + (if T i = true then 1 else 0) = cntT T lo k) ∧ (lo + k ≤ i → cntT (upT T i false) lo k = cntT T lo k)
  | 0 => ⟨fun h => by omega, fun _ => rfl⟩
  | k + 1 => by
    obtain ⟨h1, h2⟩ := cntT_up T lo i h k
    refine ⟨fun hk => ?_, fun hk => ?_⟩
    · show cntT (upT T i false) lo k + (if upT T i false (lo + k) = true then 1 else 0) + _ = cntT T lo k + (if T (lo + k) = true then 1 else 0)
      by_cases e : lo + k = i
      · rw [h2 (by omega), e]
        unfold upT
        simp
      · have := h1 (by omega)
        have hu : upT T i false (lo + k) = T (lo + k) := by unfold upT; rw [if_neg e]
        rw [hu]
        omega
    · show cntT (upT T i false) lo k + (if upT T i false (lo + k) = true then 1 else 0) = cntT T lo k + (if T (lo + k) = true then 1 else 0)
      have hu : upT T i false (lo + k) = T (lo + k) := by unfold upT; rw [if_neg (by omega)]
      rw [hu, h2 (by omega)]
theorem tV_all (T : Nat → Bool) : tV T 0 65536 = (cntT T 0 8192 : Nat) := by
  unfold tV
  rw [if_pos (by decide)]
  rfl
theorem all_tags (T : Nat → Bool) (i : Nat) (hi : i < 8192) : tV (upT T i false) 0 65536 = tV T 0 65536 ∨ tV (upT T i false) 0 65536 = tV T 0 65536 - 1 := by
  rw [tV_all, tV_all]
  have := (cntT_up T 0 i (Nat.zero_le _) 8192).1 (by omega)
  split at this <;> omega
theorem num_row (v : Int) (hv : 0 ≤ v) (B : Nat → Int) (n k : Nat) (hk : k = 1 ∨ k = 2 ∨ k = 4) : numOf (row (stB B n k v) n k) = v % 2 ^ (8 * k) := by
  have h : row (stB B n k v) n k = lowBytes k v := by
    apply List.ext_getElem?
    intro j
    by_cases hj : j < k
    · rw [row_get _ _ _ _ hj]
      unfold stB
      rw [if_pos (by omega), Nat.add_sub_cancel_left]
      have : j = 0 ∨ j = 1 ∨ j = 2 ∨ j = 3 := by omega
      rcases hk with rfl | rfl | rfl <;> rcases this with rfl | rfl | rfl | rfl <;> first | omega | (simp [lowBytes, nth]; try omega)
    · rw [List.getElem?_eq_none (by rw [row_len]; omega)]
      rcases hk with rfl | rfl | rfl <;> rw [List.getElem?_eq_none (by simp [lowBytes]; omega)]
  rw [h, numOf_lowBytes]
set_option maxRecDepth 100000 in
set_option maxHeartbeats 8000000 in
theorem MemoryBack_calls (A0 : Option Addr) (c0 : Nat) (l : List A11) (a s v : Int) (ha : 0 ≤ a ∧ a < 4294967296) (hv : 0 ≤ v ∧ v < 4294967296) (w : World) (hA : Acts w A0 l) :
    Calls Try.prog 3 #[.slice A0 l.length c0, .int .u32 a, .int .i64 s, .int .u32 v] w fun e w' => e = .returned (.bool true) ∧ Below w.heap.size w w' := by
  have hu30 := Try.underlying30
  have hu32 := Try.underlying32
  have hu22 := Try.underlying22
  have HA := Aside0.mk hA
  have HV := Aside0.mk hv
  have HAA := Aside0.mk ha
  clear hA hv ha
  go_enter Try.func3, Try.ntmps3
  obtain ⟨g, HG⟩ : ∃ g, Aside0 (g = w.heap.size) := ⟨_, ⟨rfl⟩⟩
  go_wp2_with fail
  refine (New_calls _).mono ?_
  rintro e w1 ⟨rfl, hm, hb⟩
  have HS0 : Aside0 (St w w1 w.heap.size (fun _ => 0) (fun _ => false)) := ⟨St.mk hm hb (Nat.le_refl _)⟩
  clear hm hb
  rw [← HG.out] at HS0 ⊢
  go_wp2_with fail
  go_loopg [10] (22) (fun kq v10 w' => ∃ (i : Nat) (B : Nat → Int) (T : Nat → Bool), v10 = .int .i64 (i : Int) ∧ Aside0 (i + kq = 22) ∧ Aside0 (i ≤ 20) ∧ Aside0 (St w w' g B T) ∧ Aside0 (∀ j, 0 ≤ B j ∧ B j ≤ 255))
  case atStart => exact ⟨0, _, _, rfl, ⟨by omega⟩, ⟨by omega⟩, HS0, ⟨zero_range⟩⟩
  case round =>
    clear HS0
    obtain ⟨i, B, T, rfl, HK, HI, HS, HB⟩ := hrel
    by_cases c : i < 20 ∧ i < l.length
    · cases gk with
      | zero => exact absurd HK.out (by have := HI.out; omega)
      | succ gk =>
        obtain ⟨ad, x, rfl, hx, hlx, x0, x1, x2, x3, x4, x5, x6, x7, x8, x9, x10⟩ := HA.out.get HS.out.b i c.2
        have hbl : (ad.add (i * 11)).block < w.heap.size := by
          obtain ⟨ad', e', hc⟩ := HA.out.at_ i x hlx
          cases e'
          have := World.block_lt_of_cell? w _ (hc 0 _ rfl)
          exact this
        obtain ⟨d, p, s2, v2, q0, q1, q2, q3, q4, q5, q6⟩ := x
        simp only at x0 x1 x2 x3 x4 x5 x6 x7 x8 x9 x10
        have HX := Aside0.mk hx
        have HC := Aside0.mk c
        have NE1 : (ad.add (i * 11)).block ≠ g := by have := HG.out; omega
        have p1 : 0 ≤ (i : Int) := by omega
        have p2 : ((i : Int) < (l.length : Int)) = True := eq_true (by omega)
        have p3 : ((i : Int) < 20) = True := eq_true (by omega)
        have p4 : (i < l.length) = True := eq_true (by omega)
        have p5 : (i < 20) = True := eq_true (by omega)
        clear c hx hlx hbl
        have HTD : Aside0 (St w wr.drew g B T) := ⟨HS.out.below (Below.refl _ _).drew⟩
        by_cases e0 : d = 0
        · subst e0
          go_wp2
          have hs := And.intro x1 (And.intro x2 x3)
          clear x0 x1 x2 x3 x4 x5 x6 x7 x8 x9 x10
          go_region_held3 (fun w' => w'.cell? ⟨(ad.add (i * 11)).block, (ad.add (i * 11)).off + 1, none⟩ = some (.int .u32 p) ∧ w'.cell? ⟨(ad.add (i * 11)).block, (ad.add (i * 11)).off + 2, none⟩ = some (.int .i64 s2) ∧ w'.cell? ⟨(ad.add (i * 11)).block, (ad.add (i * 11)).off + 3, none⟩ = some (.int .u32 v2)) (first | with_reducible assumption | (with_reducible refine keepB0D ?_; with_reducible assumption) | (with_reducible exact keepB0 (by with_reducible assumption) (by with_reducible assumption) (by with_reducible assumption))) (first | (go_at_call 8; ((with_reducible refine (Store_any p s2 v2 HX.out.p HX.out.v _ HTD.out.m).mono ?_)); rintro e w' ⟨rfl, hm8, hf8⟩))
          have HE := Aside0.mk (HTD.out.step hm8 hf8)
          have HB2 := Aside0.mk (sB_range HB.out p s2 v2 HX.out.v.1)
          clear hm8 hf8 HTD HS HB hs
          go_wp2
          go_roundg gk
          case measure => omega
          case rel => exact ⟨i + 1, _, _, by (simp [wrap64]; have := HC.out; omega), ⟨by have := HK.out; omega⟩, ⟨by have := HC.out; omega⟩, HE, HB2⟩
        · have i0 : (d == 0) = false := by simp [e0]
          have i2 : decide (d = 0) = false := decide_eq_false e0
          go_wp2
          have hs := And.intro x1 (And.intro x4 (And.intro x5 (And.intro x6 (And.intro x7 (And.intro x8 (And.intro x9 x10))))))
          clear x0 x1 x2 x3 x4 x5 x6 x7 x8 x9 x10 e0 i0 i2
          go_region_held3 (fun w' => w'.cell? ⟨(ad.add (i * 11)).block, (ad.add (i * 11)).off + 1, none⟩ = some (.int .u32 p) ∧ w'.cell? ⟨(ad.add (i * 11)).block, (ad.add (i * 11)).off + 4, none⟩ = some (.bool q0) ∧ w'.cell? ⟨(ad.add (i * 11)).block, (ad.add (i * 11)).off + 5, none⟩ = some (.int .u32 q1) ∧ w'.cell? ⟨(ad.add (i * 11)).block, (ad.add (i * 11)).off + 6, none⟩ = some (.int .u8 q2) ∧ w'.cell? ⟨(ad.add (i * 11)).block, (ad.add (i * 11)).off + 7, none⟩ = some (.int .u8 q3) ∧ w'.cell? ⟨(ad.add (i * 11)).block, (ad.add (i * 11)).off + 8, none⟩ = some (.int .u8 q4) ∧ w'.cell? ⟨(ad.add (i * 11)).block, (ad.add (i * 11)).off + 9, none⟩ = some (.int .u16 q5) ∧ w'.cell? ⟨(ad.add (i * 11)).block, (ad.add (i * 11)).off + 10, none⟩ = some (.int .u16 q6)) (first | with_reducible assumption | (with_reducible refine keepB1D ?_; with_reducible assumption) | (with_reducible exact keepB1 (by with_reducible assumption) (by with_reducible assumption) (by with_reducible assumption))) (first | (go_at_call 9; ((with_reducible refine (StoreCap_any p HX.out.p q0 q1 q2 q3 q4 q5 q6 HX.out.q1 HX.out.q2 HX.out.q3 HX.out.q4 HX.out.q5 HX.out.q6 _ HTD.out.m).mono ?_)); rintro e w' ⟨rfl, hm8, hf8⟩))
          have HE := Aside0.mk (HTD.out.step hm8 hf8)
          have HB2 := Aside0.mk (cB_range HB.out p q1 q2 q3 q4 q5 q6 HX.out.q1.1)
          clear hm8 hf8 HTD HS HB hs
          go_wp2
          go_roundg gk
          case measure => omega
          case rel => exact ⟨i + 1, _, _, by (simp [wrap64]; have := HC.out; omega), ⟨by have := HK.out; omega⟩, ⟨by have := HC.out; omega⟩, HE, HB2⟩
    · have hc : (decide ((i : Int) < (l.length : Int)) = false ∧ decide (i < l.length) = false ∧ True ∧ True) ∨ (decide ((i : Int) < (l.length : Int)) = true ∧ decide (i < l.length) = true ∧ decide ((i : Int) < 20) = false ∧ decide (i < 20) = false) := by
        by_cases h1 : i < l.length
        · exact .inr ⟨decide_eq_true (by omega), decide_eq_true h1, decide_eq_false (by omega), decide_eq_false (by omega)⟩
        · exact .inl ⟨decide_eq_false (by omega), decide_eq_false h1, trivial, trivial⟩
      clear c HK HI HA
      rcases hc with ⟨f1, f2, f3, f4⟩ | ⟨f1, f2, f3, f4⟩
      all_goals (
        go_wp2_with fail
        clear f1 f2 f3 f4
        refine (Bytes_any 0 65536 _ HS.out.m).mono ?_
        rintro e w2 ⟨v0, rfl, hr, hb⟩
        obtain ⟨A1, c1, rfl, hl1, hC1⟩ := Kd.R_reads hr
        rw [bL_all] at hr hC1 hl1 ⊢
        have HA1 : Aside0 (∀ ad, A1 = some ad → ¬ ad.block = g) := ⟨by
          intro ad e he
          obtain ⟨g1, e1, hg1, _⟩ := R_row hr (by rw [row_len]; decide)
          rw [e1] at e
          cases e
          have := HS.out.m.lt
          simp only at he
          omega⟩
        rw [show pE 0 65536 = 0 from if_pos (by decide)]
        obtain ⟨N, hN⟩ : ∃ N, N = (65536 : Nat) := ⟨_, rfl⟩
        obtain ⟨L1, hL1⟩ : ∃ L, L = row B 0 65536 := ⟨_, rfl⟩
        rw [← hL1] at hC1 hl1 ⊢
        have hLN : L1.length = N := by rw [hL1, hN, row_len]
        rw [hLN] at hC1 hl1 ⊢
        have C1 := Aside0.mk (And.intro hC1 hl1)
        replace HS := Aside0.mk (HS.out.below hb)
        have HL1 := Aside0.mk hL1
        have HN := Aside0.mk hN
        have HL1N : Aside0 (L1 = row B 0 N) := ⟨by rw [hN]; exact hL1⟩
        have hNi : ((N : Int) != 65536) = false := by rw [hN]; rfl
        clear hr hC1 hl1 hb hL1 hN
        go_wp2_with fail
        refine (Tags_any 0 65536 _ HS.out.m).mono ?_
        rw [show pE 0 65536 = 0 from if_pos (by decide)]
        obtain ⟨t0, ht0⟩ : ∃ t, t = tV T 0 65536 := ⟨_, rfl⟩
        rw [← ht0]
        have HT0 := Aside0.mk ht0
        clear ht0
        rintro e w3 ⟨rfl, rfl⟩
        go_wp2_with fail
        refine (Store_any a s v HAA.out HV.out _ HS.out.m).mono ?_
        cases hok : okS a s with
        | false =>
          rw [show stE a s = 2 from if_neg (by simp [hok]), show sB B a s v = B from if_neg (by simp [hok]), show sT T a s = T from if_neg (by simp [hok])]
          rintro e w3 ⟨rfl, hm, hf⟩
          replace HS := Aside0.mk (HS.out.step hm hf)
          replace C1 : Aside0 (Kd.C (Kd.int .u8) w3 A1 N L1 ∧ N ≤ c1) := ⟨C_fr C1.out.1 hf HA1.out, C1.out.2⟩
          clear hm hf hok
          go_wp2_with fail
          refine (Bytes_any 0 65536 _ HS.out.m).mono ?_
          rintro e w4 ⟨v1, rfl, hr, hb⟩
          obtain ⟨A2, c2, rfl, hl2, hC2⟩ := Kd.R_reads hr
          rw [bL_all] at hC2 hl2 ⊢
          rw [show pE 0 65536 = 0 from if_pos (by decide)]
          rw [← HL1.out] at hC2 hl2 ⊢
          rw [hLN] at hC2 hl2 ⊢
          have C2 := Aside0.mk (And.intro hC2 hl2)
          replace HS := Aside0.mk (HS.out.below hb)
          replace C1 := Aside0.mk (And.intro (Kd.C_below C1.out.1 hb) C1.out.2)
          clear hr hC2 hl2 hb
          go_wp2_with fail
          refine (same_callsN hLN C1.out.1 C1.out.2 C2.out.1 C2.out.2).mono ?_
          rintro e w5 ⟨rfl, hb⟩
          replace HS := Aside0.mk (HS.out.below hb)
          clear hb
          go_wp2_with fail
          refine (lives_calls _).mono ?_
          rintro e w6 ⟨rfl, hb⟩
          have HE := Aside0.mk (below_step HS.out.b hb)
          clear hb
          go_wp2
          go_ret
          exact ⟨rfl, HE.out⟩
        | true =>
          obtain ⟨n, k, rfl, rfl, hk, hd, hn⟩ := okS_is HAA.out.1 hok
          rw [show stE (n : Int) (k : Int) = 0 from if_pos hok, show sB B n k v = stB B n k v from (by unfold sB; rw [if_pos hok]; rfl), show sT T n k = upT T (n / 8) false from (by unfold sT; rw [if_pos hok]; rfl)]
          rintro e w3 ⟨rfl, hm, hf⟩
          replace HS := Aside0.mk (HS.out.step hm hf)
          replace C1 : Aside0 (Kd.C (Kd.int .u8) w3 A1 N L1 ∧ N ≤ c1) := ⟨C_fr C1.out.1 hf HA1.out, C1.out.2⟩
          have HB2 : Aside0 (∀ j, 0 ≤ stB B n k v j ∧ stB B n k v j ≤ 255) := ⟨by have h := sB_range HB.out n k v HV.out.1; rw [show sB B n k v = stB B n k v from (by unfold sB; rw [if_pos hok]; rfl)] at h; exact h⟩
          have HLV : Aside0 (lV (stB B n k v) n k = v % 2 ^ (8 * k)) := ⟨by unfold lV; rw [if_pos hok]; exact num_row v HV.out.1 B n k hk⟩
          have HTV : Aside0 (tV (upT T (n / 8) false) n k = 0) := ⟨by
            unfold tV
            rw [if_pos (show isPart (n : Int) (k : Int) = true from decide_eq_true (by omega))]
            simp only [Int.toNat_natCast]
            rw [show spanN n k = 1 from (by unfold spanN; rw [if_neg (by omega)]; rcases hk with rfl | rfl | rfl <;> omega), cntT_one]
            rfl⟩
          have HST : Aside0 (stE (n : Int) (k : Int) = 0) := ⟨if_pos hok⟩
          have HPE : Aside0 (pE (n : Int) (k : Int) = 0) := ⟨if_pos (decide_eq_true (by omega))⟩
          have HTR : Aside0 (wrap64 (t0 - 1) = t0 - 1) := ⟨by
            have h1 := cntT_le T 0 8192
            rw [HT0.out, tV_all]
            exact wrap_pred _ h1⟩
          have HAT : Aside0 (tV (upT T (n / 8) false) 0 65536 = t0 ∨ tV (upT T (n / 8) false) 0 65536 = t0 - 1) := ⟨by rw [HT0.out]; exact all_tags T (n / 8) (by omega)⟩
          have HD := Aside0.mk (And.intro hk (And.intro hd hn))
          have q1 : wrap64 (n : Int) = n := by unfold wrap64; omega
          clear hm hf hok hd hn hk HT0
          go_wp2_with fail
          refine (Load_any HB2.out n k HAA.out _ HS.out.m).mono ?_
          rw [HLV.out, HST.out]
          rintro e w4 ⟨rfl, hb⟩
          replace HS := Aside0.mk (HS.out.below hb)
          replace C1 := Aside0.mk (And.intro (Kd.C_below C1.out.1 hb) C1.out.2)
          clear hb
          go_wp2_with fail
          refine (Tags_any n k _ HS.out.m).mono ?_
          rw [HTV.out, HPE.out]
          rintro e w5 ⟨rfl, rfl⟩
          go_wp2_with fail
          refine (Tags_any 0 65536 _ HS.out.m).mono ?_
          rw [show pE 0 65536 = 0 from if_pos (by decide)]
          generalize tV (upT T (n / 8) false) 0 65536 = t1 at HAT ⊢
          rintro e w5 ⟨rfl, rfl⟩
          go_wp2_with fail
          refine (Bytes_any 0 65536 _ HS.out.m).mono ?_
          rintro e w5 ⟨v1, rfl, hr, hb⟩
          obtain ⟨A2, c2, rfl, hl2, hC2⟩ := Kd.R_reads hr
          rw [bL_all] at hr hC2 hl2 ⊢
          rw [show pE 0 65536 = 0 from if_pos (by decide)]
          obtain ⟨g2, rfl, hg2, hdrop⟩ := R_row hr (by rw [row_len]; decide)
          clear hdrop
          rw [row_len] at hl2 hr ⊢
          rw [← HN.out] at hl2 hr ⊢
          have HBW : Aside0 (Below w.heap.size w w4) := ⟨HS.out.b⟩
          have HBB := Aside0.mk hb
          have HR0 : Aside0 (Kd.R (Kd.int .u8) 5 w5 w4.heap.size (fun _ => True) (.slice (some ⟨g2, 0, none⟩) N c2) (row (mixB B (stB B n k v) n 0) 0 N)) := ⟨by rw [mixB_zero]; exact hr⟩
          clear hr hC2 hb HST HPE HTV HLV HB2 HS HB
          have hk := HD.out.1
          rcases hk with rfl | rfl | rfl
          · go_wp2_with fail
            go_loopg [26] (1 + 2) (fun kq v26 w' => ∃ (b : Nat), v26 = .int .i64 (b : Int) ∧ Aside0 (b + kq = 1 + 2) ∧ Aside0 (b ≤ 1) ∧ Aside0 (Kd.R (Kd.int .u8) 5 w' w4.heap.size (fun _ => True) (.slice (some ⟨g2, 0, none⟩) N c2) (row (mixB B (stB B n 1 v) n b) 0 N)) ∧ Aside0 (Below w4.heap.size w4 w'))
            case atStart => exact ⟨0, rfl, ⟨by omega⟩, ⟨by omega⟩, HR0, HBB⟩
            case round =>
              clear HR0 HBB
              obtain ⟨b, rfl, HK, HI, HR, HBB⟩ := hrel
              by_cases c : b < 1
              · cases gk with
                | zero => exact absurd HK.out (by have := HI.out; omega)
                | succ gk =>
                  have hN1 : n + b < N := by have := HD.out; have := HN.out; omega
                  have hx1 := Kd.at_int C1.out.1 ((n + b : Nat) : Int) (by omega) (by omega)
                  obtain ⟨ad1, ea, hx1⟩ := hx1
                  cases ea
                  have hb1 : rd L1 ((n + b : Nat) : Int) = B (n + b) := rd_rowN HL1N.out (n + b) hN1
                  rw [hb1, Int.toNat_natCast] at hx1
                  replace hx1 := (HBB.out.cell (World.block_lt_of_cell? w4 _ hx1)).trans hx1
                  obtain ⟨hx2, hf2⟩ := Kd.R_celln (enc := Value.int .u8) (h1 := fun _ => rfl) (0 : Int) HR.out ((n + b : Nat) : Int) (by omega) (by omega)
                  rw [Int.toNat_natCast] at hx2 hf2
                  have HR2 := Aside0.mk (Kd.R_putn (enc := Value.int .u8) (h1 := fun _ => rfl) HR.out ((n + b : Nat) : Int) (B (n + b)))
                  rw [Int.toNat_natCast, mixB_step B _ n b N hN1] at HR2
                  have HBB2 : Aside0 (Below w4.heap.size w4 (wr.setCell ⟨g2, n + b, none⟩ (.int .u8 (B (n + b))))) := ⟨HBB.out.setCell hg2 _⟩
                  have HC := Aside0.mk c
                  have c1' : decide ((b : Int) < 1) = true := decide_eq_true (by omega)
                  have c2' : ((b : Int) < 1) = True := eq_true (by omega)
                  have c3' : (b < 1) = True := eq_true (by omega)
                  have d1 : wrap64 ((n : Int) + (b : Int)) = (n : Int) + (b : Int) := wrap_small n b (sum_small HD.out.2.2 HC.out)
                  have d2 : (0 : Int) ≤ (n : Int) + (b : Int) := Int.add_nonneg (Int.natCast_nonneg n) (Int.natCast_nonneg b)
                  have d3 : ((n : Int) + (b : Int) < (N : Int)) = True := eq_true (by exact_mod_cast hN1)
                  have d4 : ((n : Int) + (b : Int)).toNat = n + b := by rw [← Int.natCast_add]; exact Int.toNat_natCast _
                  have d5 : (n + b < N) = True := eq_true hN1
                  generalize B (n + b) = y at hx1 HR2 HBB2
                  clear c hN1 hb1
                  go_wp2
                  go_roundg gk
                  case measure => omega
                  case rel => exact ⟨b + 1, by (simp [wrap64]; have := HC.out; omega), ⟨by have := HK.out; omega⟩, ⟨by have := HC.out; omega⟩, HR2, HBB2⟩
              · have hbk : b = 1 := by have := HI.out; omega
                subst hbk
                rw [mixB_full] at HR
                have hC2 : Kd.C (Kd.int .u8) wr (some ⟨g2, 0, none⟩) N L1 := by
                  obtain ⟨A', c', e', hl', hc'⟩ := Kd.R_reads HR.out
                  have hlr : (row B 0 N).length = N := row_len _ _ _
                  rw [hlr] at hc' e'
                  cases e'
                  rw [HL1N.out]
                  exact hc'
                have C3 := Aside0.mk (And.intro (Kd.C_below C1.out.1 HBB.out) hC2)
                have HBW2 := Aside0.mk (below_step HBW.out HBB.out)
                have hbits : bits BinOp.and IntKind.u64 (IntKind.u64.wrap v) 255 = v % 256 := bits_low v 255 (8 * 1) HV.out.1 (Int.lt_trans HV.out.2 (by decide)) (by decide) (by decide)
                obtain ⟨x, hx⟩ : ∃ x, x = v % 256 := ⟨_, rfl⟩
                rw [← hx] at hbits
                have i1 : wrap64 (t0 - 1) = t0 - 1 := HTR.out
                have hx' : v % 256 = x := hx.symm
                clear c HK HI HR HBB hC2 hx
                rcases HAT.out with e1 | e1
                · subst e1
                  go_wp2_with fail
                  refine (same_callsN hLN C3.out.1 C1.out.2 C3.out.2 hl2).mono ?_
                  rintro e w6 ⟨rfl, hb⟩
                  have HE := Aside0.mk (below_step HBW2.out hb)
                  clear hb C3 HBW2
                  go_wp2_with fail
                  refine (lives_calls _).mono ?_
                  rintro e w7 ⟨rfl, hb⟩
                  replace HE := Aside0.mk (below_step HE.out hb)
                  clear hb
                  go_wp2
                  go_ret
                  exact ⟨rfl, HE.out⟩
                · subst e1
                  go_wp2_with fail
                  refine (same_callsN hLN C3.out.1 C1.out.2 C3.out.2 hl2).mono ?_
                  rintro e w6 ⟨rfl, hb⟩
                  have HE := Aside0.mk (below_step HBW2.out hb)
                  clear hb C3 HBW2
                  go_wp2_with fail
                  refine (lives_calls _).mono ?_
                  rintro e w7 ⟨rfl, hb⟩
                  replace HE := Aside0.mk (below_step HE.out hb)
                  clear hb
                  go_wp2
                  go_ret
                  exact ⟨rfl, HE.out⟩
          · go_wp2_with fail
            go_loopg [26] (2 + 2) (fun kq v26 w' => ∃ (b : Nat), v26 = .int .i64 (b : Int) ∧ Aside0 (b + kq = 2 + 2) ∧ Aside0 (b ≤ 2) ∧ Aside0 (Kd.R (Kd.int .u8) 5 w' w4.heap.size (fun _ => True) (.slice (some ⟨g2, 0, none⟩) N c2) (row (mixB B (stB B n 2 v) n b) 0 N)) ∧ Aside0 (Below w4.heap.size w4 w'))
            case atStart => exact ⟨0, rfl, ⟨by omega⟩, ⟨by omega⟩, HR0, HBB⟩
            case round =>
              clear HR0 HBB
              obtain ⟨b, rfl, HK, HI, HR, HBB⟩ := hrel
              by_cases c : b < 2
              · cases gk with
                | zero => exact absurd HK.out (by have := HI.out; omega)
                | succ gk =>
                  have hN1 : n + b < N := by have := HD.out; have := HN.out; omega
                  have hx1 := Kd.at_int C1.out.1 ((n + b : Nat) : Int) (by omega) (by omega)
                  obtain ⟨ad1, ea, hx1⟩ := hx1
                  cases ea
                  have hb1 : rd L1 ((n + b : Nat) : Int) = B (n + b) := rd_rowN HL1N.out (n + b) hN1
                  rw [hb1, Int.toNat_natCast] at hx1
                  replace hx1 := (HBB.out.cell (World.block_lt_of_cell? w4 _ hx1)).trans hx1
                  obtain ⟨hx2, hf2⟩ := Kd.R_celln (enc := Value.int .u8) (h1 := fun _ => rfl) (0 : Int) HR.out ((n + b : Nat) : Int) (by omega) (by omega)
                  rw [Int.toNat_natCast] at hx2 hf2
                  have HR2 := Aside0.mk (Kd.R_putn (enc := Value.int .u8) (h1 := fun _ => rfl) HR.out ((n + b : Nat) : Int) (B (n + b)))
                  rw [Int.toNat_natCast, mixB_step B _ n b N hN1] at HR2
                  have HBB2 : Aside0 (Below w4.heap.size w4 (wr.setCell ⟨g2, n + b, none⟩ (.int .u8 (B (n + b))))) := ⟨HBB.out.setCell hg2 _⟩
                  have HC := Aside0.mk c
                  have c1' : decide ((b : Int) < 2) = true := decide_eq_true (by omega)
                  have c2' : ((b : Int) < 2) = True := eq_true (by omega)
                  have c3' : (b < 2) = True := eq_true (by omega)
                  have d1 : wrap64 ((n : Int) + (b : Int)) = (n : Int) + (b : Int) := wrap_small n b (sum_small HD.out.2.2 HC.out)
                  have d2 : (0 : Int) ≤ (n : Int) + (b : Int) := Int.add_nonneg (Int.natCast_nonneg n) (Int.natCast_nonneg b)
                  have d3 : ((n : Int) + (b : Int) < (N : Int)) = True := eq_true (by exact_mod_cast hN1)
                  have d4 : ((n : Int) + (b : Int)).toNat = n + b := by rw [← Int.natCast_add]; exact Int.toNat_natCast _
                  have d5 : (n + b < N) = True := eq_true hN1
                  generalize B (n + b) = y at hx1 HR2 HBB2
                  clear c hN1 hb1
                  go_wp2
                  go_roundg gk
                  case measure => omega
                  case rel => exact ⟨b + 1, by (simp [wrap64]; have := HC.out; omega), ⟨by have := HK.out; omega⟩, ⟨by have := HC.out; omega⟩, HR2, HBB2⟩
              · have hbk : b = 2 := by have := HI.out; omega
                subst hbk
                rw [mixB_full] at HR
                have hC2 : Kd.C (Kd.int .u8) wr (some ⟨g2, 0, none⟩) N L1 := by
                  obtain ⟨A', c', e', hl', hc'⟩ := Kd.R_reads HR.out
                  have hlr : (row B 0 N).length = N := row_len _ _ _
                  rw [hlr] at hc' e'
                  cases e'
                  rw [HL1N.out]
                  exact hc'
                have C3 := Aside0.mk (And.intro (Kd.C_below C1.out.1 HBB.out) hC2)
                have HBW2 := Aside0.mk (below_step HBW.out HBB.out)
                have hbits : bits BinOp.and IntKind.u64 (IntKind.u64.wrap v) 65535 = v % 65536 := bits_low v 65535 (8 * 2) HV.out.1 (Int.lt_trans HV.out.2 (by decide)) (by decide) (by decide)
                obtain ⟨x, hx⟩ : ∃ x, x = v % 65536 := ⟨_, rfl⟩
                rw [← hx] at hbits
                have i1 : wrap64 (t0 - 1) = t0 - 1 := HTR.out
                have hx' : v % 65536 = x := hx.symm
                clear c HK HI HR HBB hC2 hx
                rcases HAT.out with e1 | e1
                · subst e1
                  go_wp2_with fail
                  refine (same_callsN hLN C3.out.1 C1.out.2 C3.out.2 hl2).mono ?_
                  rintro e w6 ⟨rfl, hb⟩
                  have HE := Aside0.mk (below_step HBW2.out hb)
                  clear hb C3 HBW2
                  go_wp2_with fail
                  refine (lives_calls _).mono ?_
                  rintro e w7 ⟨rfl, hb⟩
                  replace HE := Aside0.mk (below_step HE.out hb)
                  clear hb
                  go_wp2
                  go_ret
                  exact ⟨rfl, HE.out⟩
                · subst e1
                  go_wp2_with fail
                  refine (same_callsN hLN C3.out.1 C1.out.2 C3.out.2 hl2).mono ?_
                  rintro e w6 ⟨rfl, hb⟩
                  have HE := Aside0.mk (below_step HBW2.out hb)
                  clear hb C3 HBW2
                  go_wp2_with fail
                  refine (lives_calls _).mono ?_
                  rintro e w7 ⟨rfl, hb⟩
                  replace HE := Aside0.mk (below_step HE.out hb)
                  clear hb
                  go_wp2
                  go_ret
                  exact ⟨rfl, HE.out⟩
          · go_wp2_with fail
            go_loopg [26] (4 + 2) (fun kq v26 w' => ∃ (b : Nat), v26 = .int .i64 (b : Int) ∧ Aside0 (b + kq = 4 + 2) ∧ Aside0 (b ≤ 4) ∧ Aside0 (Kd.R (Kd.int .u8) 5 w' w4.heap.size (fun _ => True) (.slice (some ⟨g2, 0, none⟩) N c2) (row (mixB B (stB B n 4 v) n b) 0 N)) ∧ Aside0 (Below w4.heap.size w4 w'))
            case atStart => exact ⟨0, rfl, ⟨by omega⟩, ⟨by omega⟩, HR0, HBB⟩
            case round =>
              clear HR0 HBB
              obtain ⟨b, rfl, HK, HI, HR, HBB⟩ := hrel
              by_cases c : b < 4
              · cases gk with
                | zero => exact absurd HK.out (by have := HI.out; omega)
                | succ gk =>
                  have hN1 : n + b < N := by have := HD.out; have := HN.out; omega
                  have hx1 := Kd.at_int C1.out.1 ((n + b : Nat) : Int) (by omega) (by omega)
                  obtain ⟨ad1, ea, hx1⟩ := hx1
                  cases ea
                  have hb1 : rd L1 ((n + b : Nat) : Int) = B (n + b) := rd_rowN HL1N.out (n + b) hN1
                  rw [hb1, Int.toNat_natCast] at hx1
                  replace hx1 := (HBB.out.cell (World.block_lt_of_cell? w4 _ hx1)).trans hx1
                  obtain ⟨hx2, hf2⟩ := Kd.R_celln (enc := Value.int .u8) (h1 := fun _ => rfl) (0 : Int) HR.out ((n + b : Nat) : Int) (by omega) (by omega)
                  rw [Int.toNat_natCast] at hx2 hf2
                  have HR2 := Aside0.mk (Kd.R_putn (enc := Value.int .u8) (h1 := fun _ => rfl) HR.out ((n + b : Nat) : Int) (B (n + b)))
                  rw [Int.toNat_natCast, mixB_step B _ n b N hN1] at HR2
                  have HBB2 : Aside0 (Below w4.heap.size w4 (wr.setCell ⟨g2, n + b, none⟩ (.int .u8 (B (n + b))))) := ⟨HBB.out.setCell hg2 _⟩
                  have HC := Aside0.mk c
                  have c1' : decide ((b : Int) < 4) = true := decide_eq_true (by omega)
                  have c2' : ((b : Int) < 4) = True := eq_true (by omega)
                  have c3' : (b < 4) = True := eq_true (by omega)
                  have d1 : wrap64 ((n : Int) + (b : Int)) = (n : Int) + (b : Int) := wrap_small n b (sum_small HD.out.2.2 HC.out)
                  have d2 : (0 : Int) ≤ (n : Int) + (b : Int) := Int.add_nonneg (Int.natCast_nonneg n) (Int.natCast_nonneg b)
                  have d3 : ((n : Int) + (b : Int) < (N : Int)) = True := eq_true (by exact_mod_cast hN1)
                  have d4 : ((n : Int) + (b : Int)).toNat = n + b := by rw [← Int.natCast_add]; exact Int.toNat_natCast _
                  have d5 : (n + b < N) = True := eq_true hN1
                  generalize B (n + b) = y at hx1 HR2 HBB2
                  clear c hN1 hb1
                  go_wp2
                  go_roundg gk
                  case measure => omega
                  case rel => exact ⟨b + 1, by (simp [wrap64]; have := HC.out; omega), ⟨by have := HK.out; omega⟩, ⟨by have := HC.out; omega⟩, HR2, HBB2⟩
              · have hbk : b = 4 := by have := HI.out; omega
                subst hbk
                rw [mixB_full] at HR
                have hC2 : Kd.C (Kd.int .u8) wr (some ⟨g2, 0, none⟩) N L1 := by
                  obtain ⟨A', c', e', hl', hc'⟩ := Kd.R_reads HR.out
                  have hlr : (row B 0 N).length = N := row_len _ _ _
                  rw [hlr] at hc' e'
                  cases e'
                  rw [HL1N.out]
                  exact hc'
                have C3 := Aside0.mk (And.intro (Kd.C_below C1.out.1 HBB.out) hC2)
                have HBW2 := Aside0.mk (below_step HBW.out HBB.out)
                have hbits : bits BinOp.and IntKind.u64 (IntKind.u64.wrap v) 4294967295 = v % 4294967296 := bits_low v 4294967295 (8 * 4) HV.out.1 (Int.lt_trans HV.out.2 (by decide)) (by decide) (by decide)
                obtain ⟨x, hx⟩ : ∃ x, x = v % 4294967296 := ⟨_, rfl⟩
                rw [← hx] at hbits
                have i1 : wrap64 (t0 - 1) = t0 - 1 := HTR.out
                have hx' : v % 4294967296 = x := hx.symm
                clear c HK HI HR HBB hC2 hx
                rcases HAT.out with e1 | e1
                · subst e1
                  go_wp2_with fail
                  refine (same_callsN hLN C3.out.1 C1.out.2 C3.out.2 hl2).mono ?_
                  rintro e w6 ⟨rfl, hb⟩
                  have HE := Aside0.mk (below_step HBW2.out hb)
                  clear hb C3 HBW2
                  go_wp2_with fail
                  refine (lives_calls _).mono ?_
                  rintro e w7 ⟨rfl, hb⟩
                  replace HE := Aside0.mk (below_step HE.out hb)
                  clear hb
                  go_wp2
                  go_ret
                  exact ⟨rfl, HE.out⟩
                · subst e1
                  go_wp2_with fail
                  refine (same_callsN hLN C3.out.1 C1.out.2 C3.out.2 hl2).mono ?_
                  rintro e w6 ⟨rfl, hb⟩
                  have HE := Aside0.mk (below_step HBW2.out hb)
                  clear hb C3 HBW2
                  go_wp2_with fail
                  refine (lives_calls _).mono ?_
                  rintro e w7 ⟨rfl, hb⟩
                  replace HE := Aside0.mk (below_step HE.out hb)
                  clear hb
                  go_wp2
                  go_ret
                  exact ⟨rfl, HE.out⟩)
end Go.Proofs.Ytiiemfnaegapmaa.Q
