/- Joined texts: H6, H7, H8, H9, H10, H11, H12. Lean checks them. -/
import Derived.Test.YtiiemfnaegapmaaM1
-- The reference's memory: Store, Load, Tags, Bytes, by hand. Lean checks it.
namespace Go.Proofs.Ytiiemfnaegapmaa.Q
open Go.Proofs.Ytiiemfnaegapmaa.Pure Go.Proofs.Ytiiemfnaegapmaa.Z
open Go.RowKit Go.Proofs.YtiiemfnaegapmaaW.PrintWords Go.Proofs.YtiiemfnaegapmaaW.PrintLast Go.Proofs.YtiiemfnaegapmaaW.PrintMore
set_option linter.unusedVariables false
set_option linter.unusedSimpArgs false
/-- Block h is the reference's memory, its bytes in block gb, its tags in block gt. -/
structure RMem (w : World) (h gb gt : Nat) (B : Nat → Int) (T : Nat → Bool) : Prop where
  hd : w.heap[h]? = some (.cells #[.slice (some ⟨gb, 0, none⟩) 65536 65536, .slice (some ⟨gt, 0, none⟩) 8192 8192] 75 (0, 0))
  bs : ∃ cs : Array Value, w.heap[gb]? = some (.cells cs 5 (0, 0)) ∧ cs.size = 65536 ∧ ∀ i, i < 65536 → cs[i]? = some (.int .u8 (B i))
  ts : ∃ cs : Array Value, w.heap[gt]? = some (.cells cs 4 (0, 0)) ∧ cs.size = 8192 ∧ ∀ i, i < 8192 → cs[i]? = some (.bool (T i))
section
variable {w w1 : World} {h gb gt : Nat} {B : Nat → Int} {T : Nat → Bool}
theorem RMem.fr {S : Nat → Prop} (k : RMem w h gb gt B T) (f : Fr S w w1) (h0 : ¬ S h) (h1 : ¬ S gb) (h2 : ¬ S gt) : RMem w1 h gb gt B T := by
  obtain ⟨cs, hb, r⟩ := k.bs
  obtain ⟨ds, ht, q⟩ := k.ts
  exact ⟨f.blk k.hd h0, ⟨cs, f.blk hb h1, r⟩, ⟨ds, f.blk ht h2, q⟩⟩
theorem RMem.below (k : RMem w h gb gt B T) (f : Below w.heap.size w w1) : RMem w1 h gb gt B T := k.fr (S := fun _ => False) (Fr.of_below f) id id id
theorem RMem.lt (k : RMem w h gb gt B T) : h < w.heap.size ∧ gb < w.heap.size ∧ gt < w.heap.size := by
  obtain ⟨cs, hb, r⟩ := k.bs
  obtain ⟨ds, ht, q⟩ := k.ts
  exact ⟨blk_lt k.hd, blk_lt hb, blk_lt ht⟩
theorem RMem.ne (k : RMem w h gb gt B T) : h ≠ gb ∧ h ≠ gt ∧ gb ≠ gt := by
  obtain ⟨cs, hb, r⟩ := k.bs
  obtain ⟨ds, ht, q⟩ := k.ts
  exact ⟨blk_ne k.hd hb (by decide), blk_ne k.hd ht (by decide), blk_ne hb ht (by decide)⟩
theorem RMem.c0 (k : RMem w h gb gt B T) : w.cell? ⟨h, 0, none⟩ = some (.slice (some ⟨gb, 0, none⟩) 65536 65536) := (blk_cell k.hd 0).trans rfl
theorem RMem.c1 (k : RMem w h gb gt B T) : w.cell? ⟨h, 1, none⟩ = some (.slice (some ⟨gt, 0, none⟩) 8192 8192) := (blk_cell k.hd 1).trans rfl
theorem RMem.byte (k : RMem w h gb gt B T) (i : Nat) (hi : i < 65536) : w.cell? ⟨gb, i, none⟩ = some (.int .u8 (B i)) := by
  obtain ⟨cs, hb, _, h0⟩ := k.bs
  rw [blk_cell hb]; exact h0 i hi
theorem RMem.tag (k : RMem w h gb gt B T) (i : Nat) (hi : i < 8192) : w.cell? ⟨gt, i, none⟩ = some (.bool (T i)) := by
  obtain ⟨cs, hb, _, h0⟩ := k.ts
  rw [blk_cell hb]; exact h0 i hi
theorem RMem.freeB (k : RMem w h gb gt B T) (i : Nat) : w.frozen? ⟨gb, i, none⟩ = false := by
  obtain ⟨cs, hb, _⟩ := k.bs
  exact blk_frozen hb i
theorem RMem.freeT (k : RMem w h gb gt B T) (i : Nat) : w.frozen? ⟨gt, i, none⟩ = false := by
  obtain ⟨cs, hb, _⟩ := k.ts
  exact blk_frozen hb i
theorem RMem.setB (k : RMem w h gb gt B T) (i : Nat) (hi : i < 65536) (v : Int) : RMem (w.setCell ⟨gb, i, none⟩ (.int .u8 v)) h gb gt (upB B i v) T := by
  obtain ⟨n1, n2, n3⟩ := k.ne
  obtain ⟨cs, hb, hz, h1⟩ := k.bs
  obtain ⟨ds, ht, q⟩ := k.ts
  refine ⟨blk_far k.hd n1 _, ⟨cs.setIfInBounds i (.int .u8 v), blk_set hb i _, by rw [Array.size_setIfInBounds]; exact hz, ?_⟩, ⟨ds, blk_far ht (Ne.symm n3) _, q⟩⟩
  intro j hj
  unfold upB
  by_cases e : j = i
  · subst e
    rw [if_pos rfl, Array.getElem?_setIfInBounds_self_of_lt (by omega)]
  · rw [if_neg e, Array.getElem?_setIfInBounds_ne (by omega)]; exact h1 j hj
theorem RMem.setT (k : RMem w h gb gt B T) (i : Nat) (hi : i < 8192) (v : Bool) : RMem (w.setCell ⟨gt, i, none⟩ (.bool v)) h gb gt B (upT T i v) := by
  obtain ⟨n1, n2, n3⟩ := k.ne
  obtain ⟨cs, hb, r⟩ := k.bs
  obtain ⟨ds, ht, hz, h1⟩ := k.ts
  refine ⟨blk_far k.hd n2 _, ⟨cs, blk_far hb n3 _, r⟩, ⟨ds.setIfInBounds i (.bool v), blk_set ht i _, by rw [Array.size_setIfInBounds]; exact hz, ?_⟩⟩
  intro j hj
  unfold upT
  by_cases e : j = i
  · subst e
    rw [if_pos rfl, Array.getElem?_setIfInBounds_self_of_lt (by omega)]
  · rw [if_neg e, Array.getElem?_setIfInBounds_ne (by omega)]; exact h1 j hj
theorem RMem.C (k : RMem w h gb gt B T) (at_ n : Nat) (hn : at_ + n ≤ 65536) : Kd.C (Kd.int .u8) w (some ⟨gb, at_, none⟩) (row B at_ n).length (row B at_ n) := by
  rw [row_len]
  refine Kd.C_of_reads (d := (0 : Int)) (h1 := fun _ => rfl) ⟨row_len _ _ _, by omega, fun _ => ⟨_, rfl, ?_⟩⟩
  intro j hj
  rw [Addr.add_mid, k.byte _ (by omega)]
  congr 2
  rw [List.getD_eq_getElem?_getD, row_get _ _ _ _ hj]; rfl
end
theorem div8 (v : Int) (i : Nat) : v / 2 ^ (8 * i) / 256 = v / 2 ^ (8 * (i + 1)) := by
  rw [Int.ediv_ediv_of_nonneg (by exact Int.le_of_lt (Int.pow_pos (by decide)))]
  congr 1
  rw [show 8 * (i + 1) = 8 * i + 8 by omega, Int.pow_add]
  rfl
theorem nth_u8 (v : Int) (i : Nat) (hv : 0 ≤ v) : 0 ≤ nth v i ∧ nth v i ≤ 255 := by unfold nth; omega
theorem div_range (v : Int) (i : Nat) (hv : 0 ≤ v ∧ v < 4294967296) : 0 ≤ v / 2 ^ (8 * i) ∧ v / 2 ^ (8 * i) < 4294967296 := by
  have hp : (0 : Int) < 2 ^ (8 * i) := Int.pow_pos (by decide)
  exact ⟨Int.ediv_nonneg hv.1 (Int.le_of_lt hp), Int.lt_of_le_of_lt (Int.ediv_le_self _ hv.1) hv.2⟩
set_option maxRecDepth 100000 in
set_option maxHeartbeats 8000000 in
theorem rStore_1 {h gb gt : Nat} {B : Nat → Int} {T : Nat → Bool} (n : Nat) (v : Int) (w : World) (hM : RMem w h gb gt B T) (hd : (n : Int) % 1 = 0) (hn : n + 1 ≤ 65536) (hv : 0 ≤ v ∧ v < 4294967296) :
    Calls Try.prog 31 #[.pointer (some ⟨h, 0, none⟩), .int .u32 n, .int .i64 1, .int .u32 v] w fun e w' => e = .returned (.int .i64 0) ∧ RMem w' h gb gt (stB B n 1 v) (upT T (n / 8) false) ∧ Fr (fun k => k = gb ∨ k = gt) w w' := by
  have HN := Aside0.mk hn
  have HV := Aside0.mk hv
  have HM0 : Aside0 (RMem w h gb gt (stB B n 0 v) T) := ⟨by rw [stB_zero]; exact hM⟩
  have hw1 : wrap64 (n : Int) = n := by unfold wrap64; omega
  have hw2 : wrap64 ((n : Int) + 1) = (n : Int) + 1 := by unfold wrap64; omega
  have d2 : decide (65536 < (n : Int) + 1) = false := decide_eq_false (by omega)
  have hd1 : Int.tmod (n : Int) 1 = 0 := by rw [Int.tmod_eq_emod_of_nonneg (by omega)]; exact hd
  have HD0 := Aside0.mk hd
  clear hM hn hv hd
  go_enter Try.func31, Try.ntmps31
  go_wp2_with fail
  clear hw1 hw2 d2
  go_loopg [3, 9] (1 + 1) (fun kq v3 v9 w' => ∃ i : Nat, v3 = .int .u32 (v / 2 ^ (8 * i)) ∧ v9 = .int .i64 (i : Int) ∧ Aside0 (i + kq = 1 + 1) ∧ Aside0 (i ≤ 1) ∧ Aside0 (RMem w' h gb gt (stB B n i v) T) ∧ Aside0 (Fr (fun k => k = gb ∨ k = gt) w w'))
  case atStart => exact ⟨0, by simp, rfl, ⟨by omega⟩, ⟨by omega⟩, HM0, ⟨Fr.refl _ _⟩⟩
  case round =>
    clear HM0
    obtain ⟨i, rfl, rfl, HK, HI, HM, HF⟩ := hrel
    by_cases c : i < 1
    · cases gk with
      | zero => exact absurd HK.out (by have := HI.out; omega)
      | succ gk =>
        have hn2 : n + i < 65536 := by have := HN.out; omega
        have hc0 := HM.out.c0
        have hcell := HM.out.byte (n + i) hn2
        have hfr := HM.out.freeB (n + i)
        have HD := Aside0.mk (div8 v i)
        have HM1 : Aside0 (RMem (wr.setCell ⟨gb, n + i, none⟩ (.int .u8 (nth v i))) h gb gt (stB B n (i + 1) v) T) := ⟨by rw [← stB_step]; exact HM.out.setB (n + i) hn2 _⟩
        have hr0 := (div_range v i HV.out).1
        have hr1 := (div_range v i HV.out).2
        have HX2 : Aside0 (v / 2 ^ (8 * i) % 256 = nth v i) := ⟨rfl⟩
        obtain ⟨x, hx⟩ : ∃ x, x = v / 2 ^ (8 * i) := ⟨_, rfl⟩
        rw [← hx] at hr0 hr1 HD HX2 ⊢
        clear hx
        have HC := Aside0.mk c
        go_wp2
        go_roundg gk
        case measure => omega
        case rel => exact ⟨i + 1, int_eq HD.out, by go_num, ⟨by have := HK.out; omega⟩, ⟨by have := HC.out; omega⟩, ⟨by rw [HX2.out]; exact HM1.out⟩, ⟨HF.out.setCell (.inl rfl) _⟩⟩
    · have hi : i = 1 := by have := HI.out; omega
      subst hi
      have hn2 : n / 8 < 8192 := by have := HN.out; omega
      have hc1 := HM.out.c1
      have hcell := HM.out.tag (n / 8) hn2
      have hfr := HM.out.freeT (n / 8)
      have HM1 := Aside0.mk (HM.out.setT (n / 8) hn2 false)
      go_wp2
      go_ret
      exact ⟨rfl, HM1.out, HF.out.setCell (.inr rfl) _⟩
set_option maxRecDepth 100000 in
set_option maxHeartbeats 8000000 in
theorem rStore_2 {h gb gt : Nat} {B : Nat → Int} {T : Nat → Bool} (n : Nat) (v : Int) (w : World) (hM : RMem w h gb gt B T) (hd : (n : Int) % 2 = 0) (hn : n + 2 ≤ 65536) (hv : 0 ≤ v ∧ v < 4294967296) :
    Calls Try.prog 31 #[.pointer (some ⟨h, 0, none⟩), .int .u32 n, .int .i64 2, .int .u32 v] w fun e w' => e = .returned (.int .i64 0) ∧ RMem w' h gb gt (stB B n 2 v) (upT T (n / 8) false) ∧ Fr (fun k => k = gb ∨ k = gt) w w' := by
  have HN := Aside0.mk hn
  have HV := Aside0.mk hv
  have HM0 : Aside0 (RMem w h gb gt (stB B n 0 v) T) := ⟨by rw [stB_zero]; exact hM⟩
  have hw1 : wrap64 (n : Int) = n := by unfold wrap64; omega
  have hw2 : wrap64 ((n : Int) + 2) = (n : Int) + 2 := by unfold wrap64; omega
  have d2 : decide (65536 < (n : Int) + 2) = false := decide_eq_false (by omega)
  have hd1 : Int.tmod (n : Int) 2 = 0 := by rw [Int.tmod_eq_emod_of_nonneg (by omega)]; exact hd
  have HD0 := Aside0.mk hd
  clear hM hn hv hd
  go_enter Try.func31, Try.ntmps31
  go_wp2_with fail
  clear hw1 hw2 d2
  go_loopg [3, 9] (2 + 1) (fun kq v3 v9 w' => ∃ i : Nat, v3 = .int .u32 (v / 2 ^ (8 * i)) ∧ v9 = .int .i64 (i : Int) ∧ Aside0 (i + kq = 2 + 1) ∧ Aside0 (i ≤ 2) ∧ Aside0 (RMem w' h gb gt (stB B n i v) T) ∧ Aside0 (Fr (fun k => k = gb ∨ k = gt) w w'))
  case atStart => exact ⟨0, by simp, rfl, ⟨by omega⟩, ⟨by omega⟩, HM0, ⟨Fr.refl _ _⟩⟩
  case round =>
    clear HM0
    obtain ⟨i, rfl, rfl, HK, HI, HM, HF⟩ := hrel
    by_cases c : i < 2
    · cases gk with
      | zero => exact absurd HK.out (by have := HI.out; omega)
      | succ gk =>
        have hn2 : n + i < 65536 := by have := HN.out; omega
        have hc0 := HM.out.c0
        have hcell := HM.out.byte (n + i) hn2
        have hfr := HM.out.freeB (n + i)
        have HD := Aside0.mk (div8 v i)
        have HM1 : Aside0 (RMem (wr.setCell ⟨gb, n + i, none⟩ (.int .u8 (nth v i))) h gb gt (stB B n (i + 1) v) T) := ⟨by rw [← stB_step]; exact HM.out.setB (n + i) hn2 _⟩
        have hr0 := (div_range v i HV.out).1
        have hr1 := (div_range v i HV.out).2
        have HX2 : Aside0 (v / 2 ^ (8 * i) % 256 = nth v i) := ⟨rfl⟩
        obtain ⟨x, hx⟩ : ∃ x, x = v / 2 ^ (8 * i) := ⟨_, rfl⟩
        rw [← hx] at hr0 hr1 HD HX2 ⊢
        clear hx
        have HC := Aside0.mk c
        go_wp2
        go_roundg gk
        case measure => omega
        case rel => exact ⟨i + 1, int_eq HD.out, by go_num, ⟨by have := HK.out; omega⟩, ⟨by have := HC.out; omega⟩, ⟨by rw [HX2.out]; exact HM1.out⟩, ⟨HF.out.setCell (.inl rfl) _⟩⟩
    · have hi : i = 2 := by have := HI.out; omega
      subst hi
      have hn2 : n / 8 < 8192 := by have := HN.out; omega
      have hc1 := HM.out.c1
      have hcell := HM.out.tag (n / 8) hn2
      have hfr := HM.out.freeT (n / 8)
      have HM1 := Aside0.mk (HM.out.setT (n / 8) hn2 false)
      go_wp2
      go_ret
      exact ⟨rfl, HM1.out, HF.out.setCell (.inr rfl) _⟩
set_option maxRecDepth 100000 in
set_option maxHeartbeats 8000000 in
theorem rStore_4 {h gb gt : Nat} {B : Nat → Int} {T : Nat → Bool} (n : Nat) (v : Int) (w : World) (hM : RMem w h gb gt B T) (hd : (n : Int) % 4 = 0) (hn : n + 4 ≤ 65536) (hv : 0 ≤ v ∧ v < 4294967296) :
    Calls Try.prog 31 #[.pointer (some ⟨h, 0, none⟩), .int .u32 n, .int .i64 4, .int .u32 v] w fun e w' => e = .returned (.int .i64 0) ∧ RMem w' h gb gt (stB B n 4 v) (upT T (n / 8) false) ∧ Fr (fun k => k = gb ∨ k = gt) w w' := by
  have HN := Aside0.mk hn
  have HV := Aside0.mk hv
  have HM0 : Aside0 (RMem w h gb gt (stB B n 0 v) T) := ⟨by rw [stB_zero]; exact hM⟩
  have hw1 : wrap64 (n : Int) = n := by unfold wrap64; omega
  have hw2 : wrap64 ((n : Int) + 4) = (n : Int) + 4 := by unfold wrap64; omega
  have d2 : decide (65536 < (n : Int) + 4) = false := decide_eq_false (by omega)
  have hd1 : Int.tmod (n : Int) 4 = 0 := by rw [Int.tmod_eq_emod_of_nonneg (by omega)]; exact hd
  have HD0 := Aside0.mk hd
  clear hM hn hv hd
  go_enter Try.func31, Try.ntmps31
  go_wp2_with fail
  clear hw1 hw2 d2
  go_loopg [3, 9] (4 + 1) (fun kq v3 v9 w' => ∃ i : Nat, v3 = .int .u32 (v / 2 ^ (8 * i)) ∧ v9 = .int .i64 (i : Int) ∧ Aside0 (i + kq = 4 + 1) ∧ Aside0 (i ≤ 4) ∧ Aside0 (RMem w' h gb gt (stB B n i v) T) ∧ Aside0 (Fr (fun k => k = gb ∨ k = gt) w w'))
  case atStart => exact ⟨0, by simp, rfl, ⟨by omega⟩, ⟨by omega⟩, HM0, ⟨Fr.refl _ _⟩⟩
  case round =>
    clear HM0
    obtain ⟨i, rfl, rfl, HK, HI, HM, HF⟩ := hrel
    by_cases c : i < 4
    · cases gk with
      | zero => exact absurd HK.out (by have := HI.out; omega)
      | succ gk =>
        have hn2 : n + i < 65536 := by have := HN.out; omega
        have hc0 := HM.out.c0
        have hcell := HM.out.byte (n + i) hn2
        have hfr := HM.out.freeB (n + i)
        have HD := Aside0.mk (div8 v i)
        have HM1 : Aside0 (RMem (wr.setCell ⟨gb, n + i, none⟩ (.int .u8 (nth v i))) h gb gt (stB B n (i + 1) v) T) := ⟨by rw [← stB_step]; exact HM.out.setB (n + i) hn2 _⟩
        have hr0 := (div_range v i HV.out).1
        have hr1 := (div_range v i HV.out).2
        have HX2 : Aside0 (v / 2 ^ (8 * i) % 256 = nth v i) := ⟨rfl⟩
        obtain ⟨x, hx⟩ : ∃ x, x = v / 2 ^ (8 * i) := ⟨_, rfl⟩
        rw [← hx] at hr0 hr1 HD HX2 ⊢
        clear hx
        have HC := Aside0.mk c
        go_wp2
        go_roundg gk
        case measure => omega
        case rel => exact ⟨i + 1, int_eq HD.out, by go_num, ⟨by have := HK.out; omega⟩, ⟨by have := HC.out; omega⟩, ⟨by rw [HX2.out]; exact HM1.out⟩, ⟨HF.out.setCell (.inl rfl) _⟩⟩
    · have hi : i = 4 := by have := HI.out; omega
      subst hi
      have hn2 : n / 8 < 8192 := by have := HN.out; omega
      have hc1 := HM.out.c1
      have hcell := HM.out.tag (n / 8) hn2
      have hfr := HM.out.freeT (n / 8)
      have HM1 := Aside0.mk (HM.out.setT (n / 8) hn2 false)
      go_wp2
      go_ret
      exact ⟨rfl, HM1.out, HF.out.setCell (.inr rfl) _⟩
theorem rStore_ok {h gb gt : Nat} {B : Nat → Int} {T : Nat → Bool} (n s : Nat) (v : Int) (w : World) (hM : RMem w h gb gt B T) (hs : s = 1 ∨ s = 2 ∨ s = 4) (hd : (n : Int) % s = 0) (hn : n + s ≤ 65536) (hv : 0 ≤ v ∧ v < 4294967296) :
    Calls Try.prog 31 #[.pointer (some ⟨h, 0, none⟩), .int .u32 n, .int .i64 s, .int .u32 v] w fun e w' => e = .returned (.int .i64 0) ∧ RMem w' h gb gt (stB B n s v) (upT T (n / 8) false) ∧ Fr (fun k => k = gb ∨ k = gt) w w' := by
  rcases hs with rfl | rfl | rfl
  · exact rStore_1 n v w hM hd hn hv
  · exact rStore_2 n v w hM hd hn hv
  · exact rStore_4 n v w hM hd hn hv
end Go.Proofs.Ytiiemfnaegapmaa.Q

-- The reference's memory: Load, what is refused, Tags, Bytes, by hand. Lean checks it.
namespace Go.Proofs.Ytiiemfnaegapmaa.Q
open Go.Proofs.Ytiiemfnaegapmaa.Pure Go.Proofs.Ytiiemfnaegapmaa.Z
open Go.RowKit Go.Proofs.YtiiemfnaegapmaaW.PrintWords Go.Proofs.YtiiemfnaegapmaaW.PrintLast Go.Proofs.YtiiemfnaegapmaaW.PrintMore
set_option linter.unusedVariables false
set_option linter.unusedSimpArgs false
theorem row_cons (B : Nat → Int) (m k : Nat) : row B m (k + 1) = B m :: row B (m + 1) k := by
  unfold row
  rw [List.range_succ_eq_map, List.map_cons, List.map_map]
  congr 1
  apply List.map_congr_left
  intro x _
  simp only [Function.comp]
  congr 1
  omega
theorem numRow (B : Nat → Int) (m k : Nat) : numOf (row B m (k + 1)) = B m + 256 * numOf (row B (m + 1) k) := by
  rw [row_cons]
  rfl
theorem numRow3 {B : Nat → Int} (hB : ∀ i, 0 ≤ B i ∧ B i ≤ 255) (m k : Nat) (hk : k ≤ 3) : 0 ≤ numOf (row B m k) ∧ numOf (row B m k) ≤ 16777215 := by
  have h := numOf_range (row B m k) (row_bytes hB m k)
  rw [row_len] at h
  have h2 : (2 : Int) ^ (8 * k) ≤ 16777216 := by
    have : k = 0 ∨ k = 1 ∨ k = 2 ∨ k = 3 := by omega
    rcases this with h | h | h | h <;> subst h <;> decide
  omega
set_option maxRecDepth 100000 in
set_option maxHeartbeats 8000000 in
theorem rLoad_1 {h gb gt : Nat} {B : Nat → Int} {T : Nat → Bool} (hB : ∀ i, 0 ≤ B i ∧ B i ≤ 255) (n : Nat) (w : World) (hM : RMem w h gb gt B T) (hd : (n : Int) % 1 = 0) (hn : n + 1 ≤ 65536) :
    Calls Try.prog 35 #[.pointer (some ⟨h, 0, none⟩), .int .u32 n, .int .i64 1] w fun e w' => e = .returned (.tuple #[.int .u32 (numOf (row B n 1)), .int .i64 0]) ∧ w = w' := by
  have HN := Aside0.mk hn
  have HM := Aside0.mk hM
  have HBY := Aside0.mk hB
  have hw1 : wrap64 (n : Int) = n := by unfold wrap64; omega
  have hw2 : wrap64 ((n : Int) + 1) = (n : Int) + 1 := by unfold wrap64; omega
  have d2 : decide (65536 < (n : Int) + 1) = false := decide_eq_false (by omega)
  have hd1 : Int.tmod (n : Int) 1 = 0 := by rw [Int.tmod_eq_emod_of_nonneg (by omega)]; exact hd
  clear hM hn hd hB
  go_enter Try.func35, Try.ntmps35
  go_wp2_with fail
  clear hw1 hw2 d2
  go_loopg [8, 9] (1 + 1) (fun kq v8 v9 w' => ∃ j : Nat, v8 = .int .u32 (numOf (row B (n + 1 - j) j)) ∧ v9 = .int .i64 (1 - 1 - (j : Int)) ∧ Aside0 (j + kq = 1 + 1) ∧ Aside0 (j ≤ 1) ∧ w' = w)
  case atStart => exact ⟨0, rfl, by simp, ⟨by omega⟩, ⟨by omega⟩, rfl⟩
  case round =>
    obtain ⟨j, rfl, rfl, HK, HI, rfl⟩ := hrel
    have hj : j = 0 ∨ j = 1 := by have := HI.out; omega
    rcases hj with rfl | rfl
    · cases gk with
      | zero => exact absurd HK.out (by omega)
      | succ gk =>
        rw [show (1 : Int) - 1 - (((0 : Nat)) : Int) = 0 from rfl]
        have hc0 := HM.out.c0
        have hcell := HM.out.byte (n) (by have := HN.out; omega)
        have hy := HBY.out (n)
        have hr := numRow3 HBY.out (n + 1 - 0) 0 (by omega)
        have HD : Aside0 (256 * numOf (row B (n + 1 - 0) 0) + B (n) = numOf (row B (n + 1 - 1) 1)) := ⟨by rw [numRow B (n + 1 - 1) 0, show n + 1 - 1 + 1 = n + 1 - 0 by omega, show n + 1 - 1 = n by omega]; omega⟩
        have hlt : n < 65536 := by have := HN.out; omega
        obtain ⟨x, hx⟩ : ∃ x, x = numOf (row B (n + 1 - 0) 0) := ⟨_, rfl⟩
        rw [← hx] at hr HD ⊢
        clear hx
        obtain ⟨y, hyy⟩ : ∃ y, y = B (n) := ⟨_, rfl⟩
        rw [← hyy] at hy HD hcell
        clear hyy
        obtain ⟨hr0, hr1⟩ := hr
        obtain ⟨hy0, hy1⟩ := hy
        go_wp2
        go_roundg gk
        case measure => omega
        case rel => exact ⟨1, int_eq HD.out, int_eq (by omega), ⟨by have := HK.out; omega⟩, ⟨by omega⟩, rfl⟩
    · rw [show (1 : Int) - 1 - (((1 : Nat)) : Int) = -1 from rfl]
      go_wp2
      go_ret2
      exact ⟨ret2i (by rw [show n + 1 - 1 = n by omega]), rfl⟩
set_option maxRecDepth 100000 in
set_option maxHeartbeats 8000000 in
theorem rLoad_2 {h gb gt : Nat} {B : Nat → Int} {T : Nat → Bool} (hB : ∀ i, 0 ≤ B i ∧ B i ≤ 255) (n : Nat) (w : World) (hM : RMem w h gb gt B T) (hd : (n : Int) % 2 = 0) (hn : n + 2 ≤ 65536) :
    Calls Try.prog 35 #[.pointer (some ⟨h, 0, none⟩), .int .u32 n, .int .i64 2] w fun e w' => e = .returned (.tuple #[.int .u32 (numOf (row B n 2)), .int .i64 0]) ∧ w = w' := by
  have HN := Aside0.mk hn
  have HM := Aside0.mk hM
  have HBY := Aside0.mk hB
  have hw1 : wrap64 (n : Int) = n := by unfold wrap64; omega
  have hw2 : wrap64 ((n : Int) + 2) = (n : Int) + 2 := by unfold wrap64; omega
  have d2 : decide (65536 < (n : Int) + 2) = false := decide_eq_false (by omega)
  have hd1 : Int.tmod (n : Int) 2 = 0 := by rw [Int.tmod_eq_emod_of_nonneg (by omega)]; exact hd
  clear hM hn hd hB
  go_enter Try.func35, Try.ntmps35
  go_wp2_with fail
  clear hw1 hw2 d2
  go_loopg [8, 9] (2 + 1) (fun kq v8 v9 w' => ∃ j : Nat, v8 = .int .u32 (numOf (row B (n + 2 - j) j)) ∧ v9 = .int .i64 (2 - 1 - (j : Int)) ∧ Aside0 (j + kq = 2 + 1) ∧ Aside0 (j ≤ 2) ∧ w' = w)
  case atStart => exact ⟨0, rfl, by simp, ⟨by omega⟩, ⟨by omega⟩, rfl⟩
  case round =>
    obtain ⟨j, rfl, rfl, HK, HI, rfl⟩ := hrel
    have hj : j = 0 ∨ j = 1 ∨ j = 2 := by have := HI.out; omega
    rcases hj with rfl | rfl | rfl
    · cases gk with
      | zero => exact absurd HK.out (by omega)
      | succ gk =>
        rw [show (2 : Int) - 1 - (((0 : Nat)) : Int) = 1 from rfl]
        have hc0 := HM.out.c0
        have hcell := HM.out.byte (n + 1) (by have := HN.out; omega)
        have hy := HBY.out (n + 1)
        have hr := numRow3 HBY.out (n + 2 - 0) 0 (by omega)
        have HD : Aside0 (256 * numOf (row B (n + 2 - 0) 0) + B (n + 1) = numOf (row B (n + 2 - 1) 1)) := ⟨by rw [numRow B (n + 2 - 1) 0, show n + 2 - 1 + 1 = n + 2 - 0 by omega, show n + 2 - 1 = n + 1 by omega]; omega⟩
        have hlt : n + 1 < 65536 := by have := HN.out; omega
        obtain ⟨x, hx⟩ : ∃ x, x = numOf (row B (n + 2 - 0) 0) := ⟨_, rfl⟩
        rw [← hx] at hr HD ⊢
        clear hx
        obtain ⟨y, hyy⟩ : ∃ y, y = B (n + 1) := ⟨_, rfl⟩
        rw [← hyy] at hy HD hcell
        clear hyy
        obtain ⟨hr0, hr1⟩ := hr
        obtain ⟨hy0, hy1⟩ := hy
        go_wp2
        go_roundg gk
        case measure => omega
        case rel => exact ⟨1, int_eq HD.out, int_eq (by omega), ⟨by have := HK.out; omega⟩, ⟨by omega⟩, rfl⟩
    · cases gk with
      | zero => exact absurd HK.out (by omega)
      | succ gk =>
        rw [show (2 : Int) - 1 - (((1 : Nat)) : Int) = 0 from rfl]
        have hc0 := HM.out.c0
        have hcell := HM.out.byte (n) (by have := HN.out; omega)
        have hy := HBY.out (n)
        have hr := numRow3 HBY.out (n + 2 - 1) 1 (by omega)
        have HD : Aside0 (256 * numOf (row B (n + 2 - 1) 1) + B (n) = numOf (row B (n + 2 - 2) 2)) := ⟨by rw [numRow B (n + 2 - 2) 1, show n + 2 - 2 + 1 = n + 2 - 1 by omega, show n + 2 - 2 = n by omega]; omega⟩
        have hlt : n < 65536 := by have := HN.out; omega
        obtain ⟨x, hx⟩ : ∃ x, x = numOf (row B (n + 2 - 1) 1) := ⟨_, rfl⟩
        rw [← hx] at hr HD ⊢
        clear hx
        obtain ⟨y, hyy⟩ : ∃ y, y = B (n) := ⟨_, rfl⟩
        rw [← hyy] at hy HD hcell
        clear hyy
        obtain ⟨hr0, hr1⟩ := hr
        obtain ⟨hy0, hy1⟩ := hy
        go_wp2
        go_roundg gk
        case measure => omega
        case rel => exact ⟨2, int_eq HD.out, int_eq (by omega), ⟨by have := HK.out; omega⟩, ⟨by omega⟩, rfl⟩
    · rw [show (2 : Int) - 1 - (((2 : Nat)) : Int) = -1 from rfl]
      go_wp2
      go_ret2
      exact ⟨ret2i (by rw [show n + 2 - 2 = n by omega]), rfl⟩
set_option maxRecDepth 100000 in
set_option maxHeartbeats 8000000 in
theorem rLoad_4 {h gb gt : Nat} {B : Nat → Int} {T : Nat → Bool} (hB : ∀ i, 0 ≤ B i ∧ B i ≤ 255) (n : Nat) (w : World) (hM : RMem w h gb gt B T) (hd : (n : Int) % 4 = 0) (hn : n + 4 ≤ 65536) :
    Calls Try.prog 35 #[.pointer (some ⟨h, 0, none⟩), .int .u32 n, .int .i64 4] w fun e w' => e = .returned (.tuple #[.int .u32 (numOf (row B n 4)), .int .i64 0]) ∧ w = w' := by
  have HN := Aside0.mk hn
  have HM := Aside0.mk hM
  have HBY := Aside0.mk hB
  have hw1 : wrap64 (n : Int) = n := by unfold wrap64; omega
  have hw2 : wrap64 ((n : Int) + 4) = (n : Int) + 4 := by unfold wrap64; omega
  have d2 : decide (65536 < (n : Int) + 4) = false := decide_eq_false (by omega)
  have hd1 : Int.tmod (n : Int) 4 = 0 := by rw [Int.tmod_eq_emod_of_nonneg (by omega)]; exact hd
  clear hM hn hd hB
  go_enter Try.func35, Try.ntmps35
  go_wp2_with fail
  clear hw1 hw2 d2
  go_loopg [8, 9] (4 + 1) (fun kq v8 v9 w' => ∃ j : Nat, v8 = .int .u32 (numOf (row B (n + 4 - j) j)) ∧ v9 = .int .i64 (4 - 1 - (j : Int)) ∧ Aside0 (j + kq = 4 + 1) ∧ Aside0 (j ≤ 4) ∧ w' = w)
  case atStart => exact ⟨0, rfl, by simp, ⟨by omega⟩, ⟨by omega⟩, rfl⟩
  case round =>
    obtain ⟨j, rfl, rfl, HK, HI, rfl⟩ := hrel
    have hj : j = 0 ∨ j = 1 ∨ j = 2 ∨ j = 3 ∨ j = 4 := by have := HI.out; omega
    rcases hj with rfl | rfl | rfl | rfl | rfl
    · cases gk with
      | zero => exact absurd HK.out (by omega)
      | succ gk =>
        rw [show (4 : Int) - 1 - (((0 : Nat)) : Int) = 3 from rfl]
        have hc0 := HM.out.c0
        have hcell := HM.out.byte (n + 3) (by have := HN.out; omega)
        have hy := HBY.out (n + 3)
        have hr := numRow3 HBY.out (n + 4 - 0) 0 (by omega)
        have HD : Aside0 (256 * numOf (row B (n + 4 - 0) 0) + B (n + 3) = numOf (row B (n + 4 - 1) 1)) := ⟨by rw [numRow B (n + 4 - 1) 0, show n + 4 - 1 + 1 = n + 4 - 0 by omega, show n + 4 - 1 = n + 3 by omega]; omega⟩
        have hlt : n + 3 < 65536 := by have := HN.out; omega
        obtain ⟨x, hx⟩ : ∃ x, x = numOf (row B (n + 4 - 0) 0) := ⟨_, rfl⟩
        rw [← hx] at hr HD ⊢
        clear hx
        obtain ⟨y, hyy⟩ : ∃ y, y = B (n + 3) := ⟨_, rfl⟩
        rw [← hyy] at hy HD hcell
        clear hyy
        obtain ⟨hr0, hr1⟩ := hr
        obtain ⟨hy0, hy1⟩ := hy
        go_wp2
        go_roundg gk
        case measure => omega
        case rel => exact ⟨1, int_eq HD.out, int_eq (by omega), ⟨by have := HK.out; omega⟩, ⟨by omega⟩, rfl⟩
    · cases gk with
      | zero => exact absurd HK.out (by omega)
      | succ gk =>
        rw [show (4 : Int) - 1 - (((1 : Nat)) : Int) = 2 from rfl]
        have hc0 := HM.out.c0
        have hcell := HM.out.byte (n + 2) (by have := HN.out; omega)
        have hy := HBY.out (n + 2)
        have hr := numRow3 HBY.out (n + 4 - 1) 1 (by omega)
        have HD : Aside0 (256 * numOf (row B (n + 4 - 1) 1) + B (n + 2) = numOf (row B (n + 4 - 2) 2)) := ⟨by rw [numRow B (n + 4 - 2) 1, show n + 4 - 2 + 1 = n + 4 - 1 by omega, show n + 4 - 2 = n + 2 by omega]; omega⟩
        have hlt : n + 2 < 65536 := by have := HN.out; omega
        obtain ⟨x, hx⟩ : ∃ x, x = numOf (row B (n + 4 - 1) 1) := ⟨_, rfl⟩
        rw [← hx] at hr HD ⊢
        clear hx
        obtain ⟨y, hyy⟩ : ∃ y, y = B (n + 2) := ⟨_, rfl⟩
        rw [← hyy] at hy HD hcell
        clear hyy
        obtain ⟨hr0, hr1⟩ := hr
        obtain ⟨hy0, hy1⟩ := hy
        go_wp2
        go_roundg gk
        case measure => omega
        case rel => exact ⟨2, int_eq HD.out, int_eq (by omega), ⟨by have := HK.out; omega⟩, ⟨by omega⟩, rfl⟩
    · cases gk with
      | zero => exact absurd HK.out (by omega)
      | succ gk =>
        rw [show (4 : Int) - 1 - (((2 : Nat)) : Int) = 1 from rfl]
        have hc0 := HM.out.c0
        have hcell := HM.out.byte (n + 1) (by have := HN.out; omega)
        have hy := HBY.out (n + 1)
        have hr := numRow3 HBY.out (n + 4 - 2) 2 (by omega)
        have HD : Aside0 (256 * numOf (row B (n + 4 - 2) 2) + B (n + 1) = numOf (row B (n + 4 - 3) 3)) := ⟨by rw [numRow B (n + 4 - 3) 2, show n + 4 - 3 + 1 = n + 4 - 2 by omega, show n + 4 - 3 = n + 1 by omega]; omega⟩
        have hlt : n + 1 < 65536 := by have := HN.out; omega
        obtain ⟨x, hx⟩ : ∃ x, x = numOf (row B (n + 4 - 2) 2) := ⟨_, rfl⟩
        rw [← hx] at hr HD ⊢
        clear hx
        obtain ⟨y, hyy⟩ : ∃ y, y = B (n + 1) := ⟨_, rfl⟩
        rw [← hyy] at hy HD hcell
        clear hyy
        obtain ⟨hr0, hr1⟩ := hr
        obtain ⟨hy0, hy1⟩ := hy
        go_wp2
        go_roundg gk
        case measure => omega
        case rel => exact ⟨3, int_eq HD.out, int_eq (by omega), ⟨by have := HK.out; omega⟩, ⟨by omega⟩, rfl⟩
    · cases gk with
      | zero => exact absurd HK.out (by omega)
      | succ gk =>
        rw [show (4 : Int) - 1 - (((3 : Nat)) : Int) = 0 from rfl]
        have hc0 := HM.out.c0
        have hcell := HM.out.byte (n) (by have := HN.out; omega)
        have hy := HBY.out (n)
        have hr := numRow3 HBY.out (n + 4 - 3) 3 (by omega)
        have HD : Aside0 (256 * numOf (row B (n + 4 - 3) 3) + B (n) = numOf (row B (n + 4 - 4) 4)) := ⟨by rw [numRow B (n + 4 - 4) 3, show n + 4 - 4 + 1 = n + 4 - 3 by omega, show n + 4 - 4 = n by omega]; omega⟩
        have hlt : n < 65536 := by have := HN.out; omega
        obtain ⟨x, hx⟩ : ∃ x, x = numOf (row B (n + 4 - 3) 3) := ⟨_, rfl⟩
        rw [← hx] at hr HD ⊢
        clear hx
        obtain ⟨y, hyy⟩ : ∃ y, y = B (n) := ⟨_, rfl⟩
        rw [← hyy] at hy HD hcell
        clear hyy
        obtain ⟨hr0, hr1⟩ := hr
        obtain ⟨hy0, hy1⟩ := hy
        go_wp2
        go_roundg gk
        case measure => omega
        case rel => exact ⟨4, int_eq HD.out, int_eq (by omega), ⟨by have := HK.out; omega⟩, ⟨by omega⟩, rfl⟩
    · rw [show (4 : Int) - 1 - (((4 : Nat)) : Int) = -1 from rfl]
      go_wp2
      go_ret2
      exact ⟨ret2i (by rw [show n + 4 - 4 = n by omega]), rfl⟩
end Go.Proofs.Ytiiemfnaegapmaa.Q

-- The reference's memory: what is refused, Tags, Bytes, by hand. Lean checks it.
namespace Go.Proofs.Ytiiemfnaegapmaa.Q
open Go.Proofs.Ytiiemfnaegapmaa.Pure Go.Proofs.Ytiiemfnaegapmaa.Z
open Go.RowKit Go.Proofs.YtiiemfnaegapmaaW.PrintWords Go.Proofs.YtiiemfnaegapmaaW.PrintLast Go.Proofs.YtiiemfnaegapmaaW.PrintMore
set_option linter.unusedVariables false
set_option linter.unusedSimpArgs false
set_option maxRecDepth 100000 in
set_option maxHeartbeats 8000000 in
theorem rStore_badA (h : Nat) (a s : Int) (v : Int) (w : World) (hb : isNum s = false) :
    Calls Try.prog 31 #[.pointer (some ⟨h, 0, none⟩), .int .u32 a, .int .i64 s, .int .u32 v] w fun e w' => e = .returned (.int .i64 2) ∧ w = w' := by
  unfold isNum at hb
  have hb' := of_decide_eq_false hb
  have c1 : (s == 1) = false := by simp; omega
  have c2 : (s == 2) = false := by simp; omega
  have c4 : (s == 4) = false := by simp; omega
  have e1 : (s != 1) = true := by simp; omega
  have e2 : (s != 2) = true := by simp; omega
  have e4 : (s != 4) = true := by simp; omega
  clear hb hb'
  go_enter Try.func31, Try.ntmps31
  go_wp2
  go_ret
  exact ⟨rfl, rfl⟩
set_option maxRecDepth 100000 in
set_option maxHeartbeats 8000000 in
theorem rStore_badB2 (h : Nat) (a : Int) (v : Int) (w : World) (ha0 : 0 ≤ a) (ha1 : a ≤ 4294967295) (hb : ¬ a % 2 = 0) :
    Calls Try.prog 31 #[.pointer (some ⟨h, 0, none⟩), .int .u32 a, .int .i64 2, .int .u32 v] w fun e w' => e = .returned (.int .i64 2) ∧ w = w' := by
  have ht : Int.tmod a 2 = a % 2 := Int.tmod_eq_emod_of_nonneg ha0
  have c1 : (a % 2 == 0) = false := by simpa using hb
  go_enter Try.func31, Try.ntmps31
  go_wp2
  go_ret
  exact ⟨rfl, rfl⟩
set_option maxRecDepth 100000 in
set_option maxHeartbeats 8000000 in
theorem rStore_badB4 (h : Nat) (a : Int) (v : Int) (w : World) (ha0 : 0 ≤ a) (ha1 : a ≤ 4294967295) (hb : ¬ a % 4 = 0) :
    Calls Try.prog 31 #[.pointer (some ⟨h, 0, none⟩), .int .u32 a, .int .i64 4, .int .u32 v] w fun e w' => e = .returned (.int .i64 2) ∧ w = w' := by
  have ht : Int.tmod a 4 = a % 4 := Int.tmod_eq_emod_of_nonneg ha0
  have c1 : (a % 4 == 0) = false := by simpa using hb
  go_enter Try.func31, Try.ntmps31
  go_wp2
  go_ret
  exact ⟨rfl, rfl⟩
set_option maxRecDepth 100000 in
set_option maxHeartbeats 8000000 in
theorem rStore_badC1 (h : Nat) (a : Int) (v : Int) (w : World) (ha0 : 0 ≤ a) (ha1 : a ≤ 4294967295) (hd : a % 1 = 0) (hb : 65536 < a + 1) :
    Calls Try.prog 31 #[.pointer (some ⟨h, 0, none⟩), .int .u32 a, .int .i64 1, .int .u32 v] w fun e w' => e = .returned (.int .i64 2) ∧ w = w' := by
  have ht : Int.tmod a 1 = 0 := by rw [Int.tmod_eq_emod_of_nonneg ha0]; exact hd
  have c1 : decide (65536 < a + 1) = true := decide_eq_true hb
  clear hb hd
  go_enter Try.func31, Try.ntmps31
  go_wp2
  go_ret
  exact ⟨rfl, rfl⟩
set_option maxRecDepth 100000 in
set_option maxHeartbeats 8000000 in
theorem rStore_badC2 (h : Nat) (a : Int) (v : Int) (w : World) (ha0 : 0 ≤ a) (ha1 : a ≤ 4294967295) (hd : a % 2 = 0) (hb : 65536 < a + 2) :
    Calls Try.prog 31 #[.pointer (some ⟨h, 0, none⟩), .int .u32 a, .int .i64 2, .int .u32 v] w fun e w' => e = .returned (.int .i64 2) ∧ w = w' := by
  have ht : Int.tmod a 2 = 0 := by rw [Int.tmod_eq_emod_of_nonneg ha0]; exact hd
  have c1 : decide (65536 < a + 2) = true := decide_eq_true hb
  clear hb hd
  go_enter Try.func31, Try.ntmps31
  go_wp2
  go_ret
  exact ⟨rfl, rfl⟩
set_option maxRecDepth 100000 in
set_option maxHeartbeats 8000000 in
theorem rStore_badC4 (h : Nat) (a : Int) (v : Int) (w : World) (ha0 : 0 ≤ a) (ha1 : a ≤ 4294967295) (hd : a % 4 = 0) (hb : 65536 < a + 4) :
    Calls Try.prog 31 #[.pointer (some ⟨h, 0, none⟩), .int .u32 a, .int .i64 4, .int .u32 v] w fun e w' => e = .returned (.int .i64 2) ∧ w = w' := by
  have ht : Int.tmod a 4 = 0 := by rw [Int.tmod_eq_emod_of_nonneg ha0]; exact hd
  have c1 : decide (65536 < a + 4) = true := decide_eq_true hb
  clear hb hd
  go_enter Try.func31, Try.ntmps31
  go_wp2
  go_ret
  exact ⟨rfl, rfl⟩
theorem rStore_bad (h : Nat) (a s : Int) (v : Int) (w : World) (ha : 0 ≤ a ∧ a < 4294967296) (hb : (isNum s && isThere a s) = false) :
    Calls Try.prog 31 #[.pointer (some ⟨h, 0, none⟩), .int .u32 a, .int .i64 s, .int .u32 v] w fun e w' => e = .returned (.int .i64 2) ∧ w = w' := by
  cases hc : isNum s with
  | false => exact rStore_badA h a s v w hc
  | true =>
    rw [hc, Bool.true_and] at hb
    unfold isThere at hb
    have hb := of_decide_eq_false hb
    obtain ⟨k, rfl, hk⟩ := isNum_is hc
    rcases hk with rfl | rfl | rfl
    · exact rStore_badC1 h a v w ha.1 (by omega) (by omega) (by omega)
    · by_cases c : a % 2 = 0
      · exact rStore_badC2 h a v w ha.1 (by omega) c (by omega)
      · exact rStore_badB2 h a v w ha.1 (by omega) c
    · by_cases c : a % 4 = 0
      · exact rStore_badC4 h a v w ha.1 (by omega) c (by omega)
      · exact rStore_badB4 h a v w ha.1 (by omega) c
set_option maxRecDepth 100000 in
set_option maxHeartbeats 8000000 in
theorem rLoad_badA (h : Nat) (a s : Int)  (w : World) (hb : isNum s = false) :
    Calls Try.prog 35 #[.pointer (some ⟨h, 0, none⟩), .int .u32 a, .int .i64 s] w fun e w' => e = .returned (.tuple #[.int .u32 0, .int .i64 2]) ∧ w = w' := by
  unfold isNum at hb
  have hb' := of_decide_eq_false hb
  have c1 : (s == 1) = false := by simp; omega
  have c2 : (s == 2) = false := by simp; omega
  have c4 : (s == 4) = false := by simp; omega
  have e1 : (s != 1) = true := by simp; omega
  have e2 : (s != 2) = true := by simp; omega
  have e4 : (s != 4) = true := by simp; omega
  clear hb hb'
  go_enter Try.func35, Try.ntmps35
  go_wp2
  go_ret2
  exact ⟨rfl, rfl⟩
set_option maxRecDepth 100000 in
set_option maxHeartbeats 8000000 in
theorem rLoad_badB2 (h : Nat) (a : Int)  (w : World) (ha0 : 0 ≤ a) (ha1 : a ≤ 4294967295) (hb : ¬ a % 2 = 0) :
    Calls Try.prog 35 #[.pointer (some ⟨h, 0, none⟩), .int .u32 a, .int .i64 2] w fun e w' => e = .returned (.tuple #[.int .u32 0, .int .i64 2]) ∧ w = w' := by
  have ht : Int.tmod a 2 = a % 2 := Int.tmod_eq_emod_of_nonneg ha0
  have c1 : (a % 2 == 0) = false := by simpa using hb
  go_enter Try.func35, Try.ntmps35
  go_wp2
  go_ret2
  exact ⟨rfl, rfl⟩
set_option maxRecDepth 100000 in
set_option maxHeartbeats 8000000 in
theorem rLoad_badB4 (h : Nat) (a : Int)  (w : World) (ha0 : 0 ≤ a) (ha1 : a ≤ 4294967295) (hb : ¬ a % 4 = 0) :
    Calls Try.prog 35 #[.pointer (some ⟨h, 0, none⟩), .int .u32 a, .int .i64 4] w fun e w' => e = .returned (.tuple #[.int .u32 0, .int .i64 2]) ∧ w = w' := by
  have ht : Int.tmod a 4 = a % 4 := Int.tmod_eq_emod_of_nonneg ha0
  have c1 : (a % 4 == 0) = false := by simpa using hb
  go_enter Try.func35, Try.ntmps35
  go_wp2
  go_ret2
  exact ⟨rfl, rfl⟩
set_option maxRecDepth 100000 in
set_option maxHeartbeats 8000000 in
theorem rLoad_badC1 (h : Nat) (a : Int)  (w : World) (ha0 : 0 ≤ a) (ha1 : a ≤ 4294967295) (hd : a % 1 = 0) (hb : 65536 < a + 1) :
    Calls Try.prog 35 #[.pointer (some ⟨h, 0, none⟩), .int .u32 a, .int .i64 1] w fun e w' => e = .returned (.tuple #[.int .u32 0, .int .i64 2]) ∧ w = w' := by
  have ht : Int.tmod a 1 = 0 := by rw [Int.tmod_eq_emod_of_nonneg ha0]; exact hd
  have c1 : decide (65536 < a + 1) = true := decide_eq_true hb
  clear hb hd
  go_enter Try.func35, Try.ntmps35
  go_wp2
  go_ret2
  exact ⟨rfl, rfl⟩
set_option maxRecDepth 100000 in
set_option maxHeartbeats 8000000 in
theorem rLoad_badC2 (h : Nat) (a : Int)  (w : World) (ha0 : 0 ≤ a) (ha1 : a ≤ 4294967295) (hd : a % 2 = 0) (hb : 65536 < a + 2) :
    Calls Try.prog 35 #[.pointer (some ⟨h, 0, none⟩), .int .u32 a, .int .i64 2] w fun e w' => e = .returned (.tuple #[.int .u32 0, .int .i64 2]) ∧ w = w' := by
  have ht : Int.tmod a 2 = 0 := by rw [Int.tmod_eq_emod_of_nonneg ha0]; exact hd
  have c1 : decide (65536 < a + 2) = true := decide_eq_true hb
  clear hb hd
  go_enter Try.func35, Try.ntmps35
  go_wp2
  go_ret2
  exact ⟨rfl, rfl⟩
set_option maxRecDepth 100000 in
set_option maxHeartbeats 8000000 in
theorem rLoad_badC4 (h : Nat) (a : Int)  (w : World) (ha0 : 0 ≤ a) (ha1 : a ≤ 4294967295) (hd : a % 4 = 0) (hb : 65536 < a + 4) :
    Calls Try.prog 35 #[.pointer (some ⟨h, 0, none⟩), .int .u32 a, .int .i64 4] w fun e w' => e = .returned (.tuple #[.int .u32 0, .int .i64 2]) ∧ w = w' := by
  have ht : Int.tmod a 4 = 0 := by rw [Int.tmod_eq_emod_of_nonneg ha0]; exact hd
  have c1 : decide (65536 < a + 4) = true := decide_eq_true hb
  clear hb hd
  go_enter Try.func35, Try.ntmps35
  go_wp2
  go_ret2
  exact ⟨rfl, rfl⟩
theorem rLoad_bad (h : Nat) (a s : Int)  (w : World) (ha : 0 ≤ a ∧ a < 4294967296) (hb : (isNum s && isThere a s) = false) :
    Calls Try.prog 35 #[.pointer (some ⟨h, 0, none⟩), .int .u32 a, .int .i64 s] w fun e w' => e = .returned (.tuple #[.int .u32 0, .int .i64 2]) ∧ w = w' := by
  cases hc : isNum s with
  | false => exact rLoad_badA h a s w hc
  | true =>
    rw [hc, Bool.true_and] at hb
    unfold isThere at hb
    have hb := of_decide_eq_false hb
    obtain ⟨k, rfl, hk⟩ := isNum_is hc
    rcases hk with rfl | rfl | rfl
    · exact rLoad_badC1 h a w ha.1 (by omega) (by omega) (by omega)
    · by_cases c : a % 2 = 0
      · exact rLoad_badC2 h a w ha.1 (by omega) c (by omega)
      · exact rLoad_badB2 h a w ha.1 (by omega) c
    · by_cases c : a % 4 = 0
      · exact rLoad_badC4 h a w ha.1 (by omega) c (by omega)
      · exact rLoad_badB4 h a w ha.1 (by omega) c
set_option maxRecDepth 100000 in
set_option maxHeartbeats 8000000 in
theorem rStoreCap_badB (h : Nat) (a : Int) (q0 : Bool) (q1 q2 q3 q4 q5 q6 : Int) (w : World) (ha0 : 0 ≤ a) (ha1 : a ≤ 4294967295) (hb : ¬ a % 8 = 0) :
    Calls Try.prog 32 #[.pointer (some ⟨h, 0, none⟩), .int .u32 a, .agg #[.bool q0, .int .u32 q1, .int .u8 q2, .int .u8 q3, .int .u8 q4, .int .u16 q5, .int .u16 q6]] w fun e w' => e = .returned (.int .i64 2) ∧ Below w.heap.size w w' := by
  have hu30 := Try.underlying30
  have HB : Aside0 (Below w.heap.size w (w.alloc (.cells #[.bool q0, .int .u32 q1, .int .u8 q2, .int .u8 q3, .int .u8 q4, .int .u16 q5, .int .u16 q6] 30))) := ⟨(Below.refl _ _).alloc (Nat.le_refl _) _⟩
  have ht : Int.tmod a 8 = a % 8 := Int.tmod_eq_emod_of_nonneg ha0
  have c1 : (a % 8 == 0) = false := by simpa using hb
  go_enter Try.func32, Try.ntmps32
  go_wp2
  go_ret
  exact ⟨rfl, HB.out⟩
set_option maxRecDepth 100000 in
set_option maxHeartbeats 8000000 in
theorem rStoreCap_badC (h : Nat) (a : Int) (q0 : Bool) (q1 q2 q3 q4 q5 q6 : Int) (w : World) (ha0 : 0 ≤ a) (ha1 : a ≤ 4294967295) (hd : a % 8 = 0) (hb : 65536 ≤ a) :
    Calls Try.prog 32 #[.pointer (some ⟨h, 0, none⟩), .int .u32 a, .agg #[.bool q0, .int .u32 q1, .int .u8 q2, .int .u8 q3, .int .u8 q4, .int .u16 q5, .int .u16 q6]] w fun e w' => e = .returned (.int .i64 2) ∧ Below w.heap.size w w' := by
  have hu30 := Try.underlying30
  have HB : Aside0 (Below w.heap.size w (w.alloc (.cells #[.bool q0, .int .u32 q1, .int .u8 q2, .int .u8 q3, .int .u8 q4, .int .u16 q5, .int .u16 q6] 30))) := ⟨(Below.refl _ _).alloc (Nat.le_refl _) _⟩
  have ht : Int.tmod a 8 = 0 := by rw [Int.tmod_eq_emod_of_nonneg ha0]; exact hd
  have c1 : decide (65536 ≤ a) = true := decide_eq_true hb
  clear hb hd
  go_enter Try.func32, Try.ntmps32
  go_wp2
  go_ret
  exact ⟨rfl, HB.out⟩
theorem rStoreCap_bad (h : Nat) (a : Int) (q0 : Bool) (q1 q2 q3 q4 q5 q6 : Int) (w : World) (ha : 0 ≤ a ∧ a < 4294967296) (hb : isThere a 8 = false) :
    Calls Try.prog 32 #[.pointer (some ⟨h, 0, none⟩), .int .u32 a, .agg #[.bool q0, .int .u32 q1, .int .u8 q2, .int .u8 q3, .int .u8 q4, .int .u16 q5, .int .u16 q6]] w fun e w' => e = .returned (.int .i64 2) ∧ Below w.heap.size w w' := by
  unfold isThere at hb
  have hb := of_decide_eq_false hb
  by_cases c : a % 8 = 0
  · exact rStoreCap_badC h a q0 q1 q2 q3 q4 q5 q6 w ha.1 (by omega) c (by omega)
  · exact rStoreCap_badB h a q0 q1 q2 q3 q4 q5 q6 w ha.1 (by omega) c
set_option maxRecDepth 100000 in
set_option maxHeartbeats 8000000 in
theorem rLoadCap_badB (h : Nat) (a : Int)  (w : World) (ha0 : 0 ≤ a) (ha1 : a ≤ 4294967295) (hb : ¬ a % 8 = 0) :
    Calls Try.prog 36 #[.pointer (some ⟨h, 0, none⟩), .int .u32 a] w fun e w' => e = .returned (.tuple #[.agg #[.bool false, .int .u32 0, .int .u8 0, .int .u8 0, .int .u8 0, .int .u16 0, .int .u16 0], .int .i64 2]) ∧ Below w.heap.size w w' := by
  have hu30 := Try.underlying30
  have HB : Aside0 (Below w.heap.size w (w.alloc (.cells #[.bool false, .int .u32 0, .int .u8 0, .int .u8 0, .int .u8 0, .int .u16 0, .int .u16 0] 30))) := ⟨(Below.refl _ _).alloc (Nat.le_refl _) _⟩
  have ht : Int.tmod a 8 = a % 8 := Int.tmod_eq_emod_of_nonneg ha0
  have c1 : (a % 8 == 0) = false := by simpa using hb
  go_enter Try.func36, Try.ntmps36
  go_wp2
  exact bodyPost_ret (v := .tuple #[.agg #[.bool false, .int .u32 0, .int .u8 0, .int .u8 0, .int .u8 0, .int .u16 0, .int .u16 0], .int .i64 2]) (by simp [results, Try.results36, go_sem]) rfl ⟨rfl, HB.out⟩
set_option maxRecDepth 100000 in
set_option maxHeartbeats 8000000 in
theorem rLoadCap_badC (h : Nat) (a : Int)  (w : World) (ha0 : 0 ≤ a) (ha1 : a ≤ 4294967295) (hd : a % 8 = 0) (hb : 65536 ≤ a) :
    Calls Try.prog 36 #[.pointer (some ⟨h, 0, none⟩), .int .u32 a] w fun e w' => e = .returned (.tuple #[.agg #[.bool false, .int .u32 0, .int .u8 0, .int .u8 0, .int .u8 0, .int .u16 0, .int .u16 0], .int .i64 2]) ∧ Below w.heap.size w w' := by
  have hu30 := Try.underlying30
  have HB : Aside0 (Below w.heap.size w (w.alloc (.cells #[.bool false, .int .u32 0, .int .u8 0, .int .u8 0, .int .u8 0, .int .u16 0, .int .u16 0] 30))) := ⟨(Below.refl _ _).alloc (Nat.le_refl _) _⟩
  have ht : Int.tmod a 8 = 0 := by rw [Int.tmod_eq_emod_of_nonneg ha0]; exact hd
  have c1 : decide (65536 ≤ a) = true := decide_eq_true hb
  clear hb hd
  go_enter Try.func36, Try.ntmps36
  go_wp2
  exact bodyPost_ret (v := .tuple #[.agg #[.bool false, .int .u32 0, .int .u8 0, .int .u8 0, .int .u8 0, .int .u16 0, .int .u16 0], .int .i64 2]) (by simp [results, Try.results36, go_sem]) rfl ⟨rfl, HB.out⟩
theorem rLoadCap_bad (h : Nat) (a : Int)  (w : World) (ha : 0 ≤ a ∧ a < 4294967296) (hb : isThere a 8 = false) :
    Calls Try.prog 36 #[.pointer (some ⟨h, 0, none⟩), .int .u32 a] w fun e w' => e = .returned (.tuple #[.agg #[.bool false, .int .u32 0, .int .u8 0, .int .u8 0, .int .u8 0, .int .u16 0, .int .u16 0], .int .i64 2]) ∧ Below w.heap.size w w' := by
  unfold isThere at hb
  have hb := of_decide_eq_false hb
  by_cases c : a % 8 = 0
  · exact rLoadCap_badC h a w ha.1 (by omega) c (by omega)
  · exact rLoadCap_badB h a w ha.1 (by omega) c
set_option maxRecDepth 100000 in
set_option maxHeartbeats 8000000 in
theorem rBytes_bad (h : Nat) (a s : Int) (w : World) (hb : isPart a s = false) :
    Calls Try.prog 33 #[.pointer (some ⟨h, 0, none⟩), .int .i64 a, .int .i64 s] w fun e w' => e = .returned (.tuple #[.slice none 0 0, .int .i64 2]) ∧ w = w' := by
  unfold isPart at hb
  have hb := of_decide_eq_false hb
  by_cases c1 : a < 0
  · have d1 : decide (a < 0) = true := decide_eq_true c1
    clear hb c1
    go_enter Try.func33, Try.ntmps33
    go_wp2
    go_ret2
    exact ⟨rfl, rfl⟩
  have d1 : decide (a < 0) = false := decide_eq_false c1
  by_cases c2 : s < 0
  · have d2 : decide (s < 0) = true := decide_eq_true c2
    clear hb c1 c2
    go_enter Try.func33, Try.ntmps33
    go_wp2
    go_ret2
    exact ⟨rfl, rfl⟩
  have d2 : decide (s < 0) = false := decide_eq_false c2
  by_cases c3 : 65536 < a
  · have d3 : decide (65536 < a) = true := decide_eq_true c3
    clear hb c1 c2 c3
    go_enter Try.func33, Try.ntmps33
    go_wp2
    go_ret2
    exact ⟨rfl, rfl⟩
  have d3 : decide (65536 < a) = false := decide_eq_false c3
  have hw : wrap64 (65536 - a) = 65536 - a := by unfold wrap64; omega
  have d4 : decide (65536 - a < s) = true := decide_eq_true (by omega)
  clear hb c1 c2 c3
  go_enter Try.func33, Try.ntmps33
  go_wp2
  go_ret2
  exact ⟨rfl, rfl⟩
set_option maxRecDepth 100000 in
set_option maxHeartbeats 8000000 in
theorem rTags_bad (h : Nat) (a s : Int) (w : World) (hb : isPart a s = false) :
    Calls Try.prog 34 #[.pointer (some ⟨h, 0, none⟩), .int .i64 a, .int .i64 s] w fun e w' => e = .returned (.tuple #[.int .i64 0, .int .i64 2]) ∧ w = w' := by
  unfold isPart at hb
  have hb := of_decide_eq_false hb
  by_cases c1 : a < 0
  · have d1 : decide (a < 0) = true := decide_eq_true c1
    clear hb c1
    go_enter Try.func34, Try.ntmps34
    go_wp2
    go_ret2
    exact ⟨rfl, rfl⟩
  have d1 : decide (a < 0) = false := decide_eq_false c1
  by_cases c2 : s < 0
  · have d2 : decide (s < 0) = true := decide_eq_true c2
    clear hb c1 c2
    go_enter Try.func34, Try.ntmps34
    go_wp2
    go_ret2
    exact ⟨rfl, rfl⟩
  have d2 : decide (s < 0) = false := decide_eq_false c2
  by_cases c3 : 65536 < a
  · have d3 : decide (65536 < a) = true := decide_eq_true c3
    clear hb c1 c2 c3
    go_enter Try.func34, Try.ntmps34
    go_wp2
    go_ret2
    exact ⟨rfl, rfl⟩
  have d3 : decide (65536 < a) = false := decide_eq_false c3
  have hw : wrap64 (65536 - a) = 65536 - a := by unfold wrap64; omega
  have d4 : decide (65536 - a < s) = true := decide_eq_true (by omega)
  clear hb c1 c2 c3
  go_enter Try.func34, Try.ntmps34
  go_wp2
  go_ret2
  exact ⟨rfl, rfl⟩
end Go.Proofs.Ytiiemfnaegapmaa.Q

-- The reference's memory: New, Tags, Bytes, by hand. Lean checks it.
namespace Go.Proofs.Ytiiemfnaegapmaa.Q
open Go.Proofs.Ytiiemfnaegapmaa.Pure Go.Proofs.Ytiiemfnaegapmaa.Z
open Go.RowKit Go.Proofs.YtiiemfnaegapmaaW.PrintWords Go.Proofs.YtiiemfnaegapmaaW.PrintLast Go.Proofs.YtiiemfnaegapmaaW.PrintMore
set_option linter.unusedVariables false
set_option linter.unusedSimpArgs false
theorem slice36 (g n s : Nat) (k1 k2 : IntKind) (h : n + s ≤ 65536) (w : World) :
    (Instr.sliceAt 36 (.slice (some ⟨g, 0, none⟩) 65536 65536) (some (.int k1 (n : Int))) (some (.int k2 ((n : Int) + (s : Int)))) none).run Try.prog w = .ok (.slice (if 65536 = n then some ⟨g, 0, none⟩ else some ⟨g, n, none⟩) s (65536 - n)) w := by
  have e : ((n : Int) + (s : Int)) = ((n + s : Nat) : Int) := by omega
  rw [e]
  unfold Instr.sliceAt
  rw [Sem.run_bind, run_underlying Try.underlying36]
  simp only [Result.andThen_ok]
  unfold Instr.slice Instr.sliceBounds
  rw [Sem.run_bind, run_underlying Try.underlying36]
  simp only [Result.andThen_ok, Sem.run_bind, Sem.run_pure]
  rw [run_bound (x := undef) (n := n + s) w h]
  simp only [Result.andThen_ok]
  rw [run_bound (x := undef) (n := n) w (by omega)]
  simp only [Result.andThen_ok]
  rw [Try.sizeOf5]
  simp only [Result.andThen_ok, Option.map_some]
  rw [Addr.add_mid, Nat.mul_one, Nat.zero_add, show n + s - n = s by omega]
/-- How many of the first granules have a tag, and are touched. -/
def rcnt (T : Nat → Bool) (n s : Nat) : Nat → Nat
  | 0 => 0
  | k + 1 => rcnt T n s k + (if T k = true ∧ 0 < s ∧ n < 8 * k + 8 ∧ 8 * k < n + s then 1 else 0)
theorem rcnt_low (T : Nat → Bool) (n s : Nat) : ∀ k, k ≤ n / 8 → rcnt T n s k = 0
  | 0, _ => rfl
  | k + 1, h => by
    unfold rcnt
    rw [rcnt_low T n s k (by omega), if_neg (by omega)]
theorem rcnt_mid (T : Nat → Bool) (n s : Nat) : ∀ k, k ≤ spanN n s → rcnt T n s (n / 8 + k) = cntT T (n / 8) k
  | 0, _ => rcnt_low T n s _ (Nat.le_refl _)
  | k + 1, h => by
    have ih := rcnt_mid T n s k (by omega)
    unfold spanN at h
    split at h
    · omega
    · rw [← Nat.add_assoc]
      unfold rcnt cntT
      rw [ih]
      by_cases c : T (n / 8 + k) = true
      · rw [if_pos c, if_pos ⟨c, by omega, by omega, by omega⟩]
      · rw [if_neg c, if_neg (fun x => c x.1)]
theorem rcnt_high (T : Nat → Bool) (n s : Nat) (j : Nat) : ∀ k, rcnt T n s (n / 8 + spanN n s + k) = rcnt T n s (n / 8 + spanN n s)
  | 0 => rfl
  | k + 1 => by
    rw [← Nat.add_assoc]
    show rcnt T n s (n / 8 + spanN n s + k) + _ = _
    rw [rcnt_high T n s j k, if_neg, Nat.add_zero]
    unfold spanN
    split <;> omega
theorem rcnt_is (T : Nat → Bool) (n s : Nat) (h : n + s ≤ 65536) : rcnt T n s 8192 = cntT T (n / 8) (spanN n s) := by
  have hs : n / 8 + spanN n s ≤ 8192 := by unfold spanN; split <;> omega
  have h1 := rcnt_high T n s 0 (8192 - (n / 8 + spanN n s))
  rw [show n / 8 + spanN n s + (8192 - (n / 8 + spanN n s)) = 8192 by omega] at h1
  rw [h1, rcnt_mid T n s _ (Nat.le_refl _)]
theorem rcnt_le (T : Nat → Bool) (n s : Nat) : ∀ k, rcnt T n s k ≤ k
  | 0 => Nat.le_refl _
  | k + 1 => by have := rcnt_le T n s k; unfold rcnt; split <;> omega
set_option maxRecDepth 100000 in
set_option maxHeartbeats 8000000 in
theorem rTags_ok {h gb gt : Nat} {B : Nat → Int} {T : Nat → Bool} (n s : Nat) (w : World) (hM : RMem w h gb gt B T) (hn : n + s ≤ 65536) :
    Calls Try.prog 34 #[.pointer (some ⟨h, 0, none⟩), .int .i64 n, .int .i64 s] w fun e w' => e = .returned (.tuple #[.int .i64 (cntT T (n / 8) (spanN n s)), .int .i64 0]) ∧ w = w' := by
  rw [← rcnt_is T n s hn]
  have HM := Aside0.mk hM
  have HN := Aside0.mk hn
  have d1 : decide ((n : Int) < 0) = false := decide_eq_false (by omega)
  have d2 : decide ((s : Int) < 0) = false := decide_eq_false (by omega)
  have d3 : decide (65536 < (n : Int)) = false := decide_eq_false (by omega)
  have hw : wrap64 (65536 - (n : Int)) = 65536 - (n : Int) := by unfold wrap64; omega
  have d4 : decide (65536 - (n : Int) < (s : Int)) = false := decide_eq_false (by omega)
  have ho : ∃ m, m = 8192 := ⟨_, rfl⟩
  obtain ⟨m, hm⟩ := ho
  have HMM := Aside0.mk hm
  rw [← hm]
  clear hM hn hm
  go_enter Try.func34, Try.ntmps34
  go_wp2_with fail
  clear d1 d2 d3 hw d4
  go_loopg [8, 9] (m + 1) (fun kq v8 v9 w' => ∃ j : Nat, v8 = .int .i64 (rcnt T n s j : Nat) ∧ v9 = .int .i64 (j : Int) ∧ Aside0 (j + kq = m + 1) ∧ Aside0 (j ≤ m) ∧ w' = w)
  case atStart => exact ⟨0, rfl, rfl, ⟨by omega⟩, ⟨by omega⟩, rfl⟩
  case round =>
    obtain ⟨j, rfl, rfl, HK, HI, rfl⟩ := hrel
    have hq0 := rcnt_le T n s j
    have hj8 : j ≤ 8192 := by have := HI.out; have := HMM.out; omega
    obtain ⟨q, hq⟩ : ∃ q, q = rcnt T n s j := ⟨_, rfl⟩
    rw [← hq] at hq0 ⊢
    have HQ := Aside0.mk hq
    have hw1 : wrap64 ((q : Int) + 1) = (q : Int) + 1 := by unfold wrap64; omega
    have hw2 : wrap64 ((j : Int) + 1) = (j : Int) + 1 := by unfold wrap64; omega
    have hw3 : wrap64 (8 * (j : Int)) = 8 * (j : Int) := by unfold wrap64; omega
    have hw4 : wrap64 (8 * (j : Int) + 8) = 8 * (j : Int) + 8 := by unfold wrap64; omega
    have hw5 : wrap64 ((n : Int) + (s : Int)) = (n : Int) + (s : Int) := by have := HN.out; unfold wrap64; omega
    clear hq hq0
    by_cases c : j < m
    · cases gk with
      | zero => exact absurd HK.out (by have := HI.out; omega)
      | succ gk =>
        have hlt : j < 8192 := by have := HMM.out; omega
        have hc1 := HM.out.c1
        have hcell := HM.out.tag j hlt
        have HC := Aside0.mk c
        have d5 : decide ((j : Int) < 8192) = true := decide_eq_true (by omega)
        have hj0 : (0 : Int) ≤ (j : Int) := by omega
        cases ht : T j with
        | false =>
          rw [ht] at hcell
          have NO : Aside0 (¬ (T j = true ∧ 0 < s ∧ n < 8 * j + 8 ∧ 8 * j < n + s)) := ⟨fun x => by rw [ht] at x; exact absurd x.1 (by decide)⟩
          clear ht c
          go_wp2
          go_roundg gk
          case measure => omega
          case rel => exact ⟨j + 1, int_eq (by unfold rcnt; rw [if_neg NO.out, HQ.out]; rfl), int_eq (by omega), ⟨by have := HK.out; omega⟩, ⟨by have := HC.out; omega⟩, rfl⟩
        | true =>
          rw [ht] at hcell
          have HT := Aside0.mk ht
          clear ht c
          by_cases e0 : 0 < s
          rotate_left
          · have NO : Aside0 (¬ (T j = true ∧ 0 < s ∧ n < 8 * j + 8 ∧ 8 * j < n + s)) := ⟨fun x => by omega⟩
            have f0 : decide ((0 : Int) < (s : Int)) = false := decide_eq_false (by omega)
            have g0 : decide (0 < s) = false := decide_eq_false (by omega)
            clear e0 
            go_wp2
            go_roundg gk
            case measure => omega
            case rel => exact ⟨j + 1, int_eq (by unfold rcnt; rw [if_neg NO.out, HQ.out]; rfl), int_eq (by omega), ⟨by have := HK.out; omega⟩, ⟨by have := HC.out; omega⟩, rfl⟩
          have f0 : decide ((0 : Int) < (s : Int)) = true := decide_eq_true (by omega)
          have g0 : decide (0 < s) = true := decide_eq_true (by omega)
          by_cases e1 : n < 8 * j + 8
          rotate_left
          · have NO : Aside0 (¬ (T j = true ∧ 0 < s ∧ n < 8 * j + 8 ∧ 8 * j < n + s)) := ⟨fun x => by omega⟩
            have f1 : decide ((n : Int) < 8 * (j : Int) + 8) = false := decide_eq_false (by omega)
            have g1 : decide (n < 8 * j + 8) = false := decide_eq_false (by omega)
            clear e1 e0
            go_wp2
            go_roundg gk
            case measure => omega
            case rel => exact ⟨j + 1, int_eq (by unfold rcnt; rw [if_neg NO.out, HQ.out]; rfl), int_eq (by omega), ⟨by have := HK.out; omega⟩, ⟨by have := HC.out; omega⟩, rfl⟩
          have f1 : decide ((n : Int) < 8 * (j : Int) + 8) = true := decide_eq_true (by omega)
          have g1 : decide (n < 8 * j + 8) = true := decide_eq_true (by omega)
          by_cases e2 : 8 * j < n + s
          rotate_left
          · have NO : Aside0 (¬ (T j = true ∧ 0 < s ∧ n < 8 * j + 8 ∧ 8 * j < n + s)) := ⟨fun x => by omega⟩
            have f2 : decide (8 * (j : Int) < (n : Int) + (s : Int)) = false := decide_eq_false (by omega)
            have g2 : decide (8 * j < n + s) = false := decide_eq_false (by omega)
            clear e2 e0 e1
            go_wp2
            go_roundg gk
            case measure => omega
            case rel => exact ⟨j + 1, int_eq (by unfold rcnt; rw [if_neg NO.out, HQ.out]; rfl), int_eq (by omega), ⟨by have := HK.out; omega⟩, ⟨by have := HC.out; omega⟩, rfl⟩
          have f2 : decide (8 * (j : Int) < (n : Int) + (s : Int)) = true := decide_eq_true (by omega)
          have g2 : decide (8 * j < n + s) = true := decide_eq_true (by omega)
          have YES : Aside0 (T j = true ∧ 0 < s ∧ n < 8 * j + 8 ∧ 8 * j < n + s) := ⟨⟨HT.out, e0, e1, e2⟩⟩
          clear e0 e1 e2
          go_wp2
          go_roundg gk
          case measure => omega
          case rel => exact ⟨j + 1, int_eq (by unfold rcnt; rw [if_pos YES.out, ← HQ.out, hw1]; omega), int_eq (by omega), ⟨by have := HK.out; omega⟩, ⟨by have := HC.out; omega⟩, rfl⟩
    · have hi : j = m := by have := HI.out; omega
      have hi2 : j = 8192 := by rw [hi]; exact HMM.out
      have d5 : decide ((j : Int) < 8192) = false := decide_eq_false (by omega)
      have HJ := Aside0.mk hi
      clear hi hi2 c hw1 hw2 hw3 hw4 hw5
      go_wp2
      go_ret2
      exact ⟨ret2i (by rw [HQ.out, HJ.out]), rfl⟩
end Go.Proofs.Ytiiemfnaegapmaa.Q

-- The reference's memory: New, Bytes, by hand. Lean checks it.
namespace Go.Proofs.Ytiiemfnaegapmaa.Q
open Go.Proofs.Ytiiemfnaegapmaa.Pure Go.Proofs.Ytiiemfnaegapmaa.Z
open Go.RowKit Go.Proofs.YtiiemfnaegapmaaW.PrintWords Go.Proofs.YtiiemfnaegapmaaW.PrintLast Go.Proofs.YtiiemfnaegapmaaW.PrintMore
set_option linter.unusedVariables false
set_option linter.unusedSimpArgs false
set_option maxRecDepth 100000 in
set_option maxHeartbeats 8000000 in
theorem rBytes_ok {h gb gt : Nat} {B : Nat → Int} {T : Nat → Bool} (n s : Nat) (w : World) (hM : RMem w h gb gt B T) (hn : n + s ≤ 65536) :
    Calls Try.prog 33 #[.pointer (some ⟨h, 0, none⟩), .int .i64 n, .int .i64 s] w fun e w' => ∃ v, e = .returned (.tuple #[v, .int .i64 0]) ∧ Kd.R (Kd.int .u8) 5 w' w.heap.size (fun _ => True) v (row B n s) ∧ Below w.heap.size w w' := by
  have HM := Aside0.mk hM
  have hc0 := hM.c0
  have d1 : decide ((n : Int) < 0) = false := decide_eq_false (by omega)
  have d2 : decide ((s : Int) < 0) = false := decide_eq_false (by omega)
  have d3 : decide (65536 < (n : Int)) = false := decide_eq_false (by omega)
  have hw : wrap64 (65536 - (n : Int)) = 65536 - (n : Int) := by unfold wrap64; omega
  have hw2 : wrap64 ((n : Int) + (s : Int)) = (n : Int) + (s : Int) := by unfold wrap64; omega
  have d4 : decide (65536 - (n : Int) < (s : Int)) = false := decide_eq_false (by omega)
  obtain ⟨A2, hsl, hC⟩ : ∃ A2, (∀ w : World, (Instr.sliceAt 36 (.slice (some ⟨gb, 0, none⟩) 65536 65536) (some (.int .i64 (n : Int))) (some (.int .i64 ((n : Int) + (s : Int)))) none).run Try.prog w = .ok (.slice A2 s (65536 - n)) w) ∧ Kd.C (Kd.int .u8) w A2 (row B n s).length (row B n s) := by
    refine ⟨_, slice36 gb n s .i64 .i64 hn, ?_⟩
    by_cases e : 65536 = n
    · have hz : s = 0 := by omega
      subst hz
      exact C_none _ _ _
    · rw [if_neg e]
      exact hM.C n s hn
  rw [row_len] at hC
  have HC := Aside0.mk hC
  have HN := Aside0.mk hn
  have HB := Aside0.mk (Below.refl w.heap.size w)
  have HR := Aside0.mk (Kd.R_nil (Kd.int .u8) 5 w w.heap.size (fun _ => True))
  clear hM hC hn
  go_enter Try.func33, Try.ntmps33
  go_wp2_with (first | ((with_reducible refine gate_builtin (b := .append) (xs := #[.tmp 27, .tmp 36]) rfl ?_); at_builtin; refine Kd.R_append_rows (Kd.int .u8) (w0 := w) w.heap.size rfl (.tmp 27) (.tmp 36) 36 5 (.int .u8 0) 1 rfl Try.underlying36 info5 rfl (by decide) (by omega) (.slice none 0 0) ([] : List Int) (row B n s) A2 s (65536 - n) (fun _ => True) (fun _ => False) rfl rfl HR.out HC.out (fun _ _ h => h) (fun _ h => h.elim) (fun _ _ => trivial) HB.out (Nat.le_refl _) (by have := HN.out; simp; omega) ?_; intro v1 w3 ho hb hg hat; have HO1 := Aside0.mk ho; have HB1 := Aside0.mk hb; clear ho hb hg hat))
  go_ret2
  exact ⟨_, rfl, by have h := HO1.out; rw [List.nil_append] at h; exact h, HB1.out⟩
def mb : Array Value := madeCells #[.int .u8 0] 65536
def mt : Array Value := madeCells #[.bool false] 8192
theorem mb_size : mb.size = 65536 := by unfold mb; rw [size_madeCells]
theorem mt_size : mt.size = 8192 := by unfold mt; rw [size_madeCells]
theorem mb_get (i : Nat) (hi : i < 65536) : mb[i]? = some (.int .u8 0) := by
  unfold mb madeCells
  rw [Array.getElem?_map, Array.getElem?_range, if_pos hi]
  simp [Nat.mod_one]
theorem mt_get (i : Nat) (hi : i < 8192) : mt[i]? = some (.bool false) := by
  unfold mt madeCells
  rw [Array.getElem?_map, Array.getElem?_range, if_pos hi]
  simp [Nat.mod_one]
theorem make36 (W : World) : (Instr.makeSlice 36 (.int .i64 65536) (.int .i64 65536)).run Try.prog W = .ok (.slice (some ⟨W.heap.size, 0, none⟩) 65536 65536) (W.alloc (.cells mb 5)) :=
  print_make 36 5 .u8 1 Try.underlying36 info5 (by decide) 65536 (by decide) W
theorem info4 : (Try.prog.info? 4).map (fun i => (i.zero, i.size, i.bytes)) = some (some (.bool false), 1, 1) := by kernel_rfl
theorem make73 (W : World) : (Instr.makeSlice 73 (.int .i64 8192) (.int .i64 8192)).run Try.prog W = .ok (.slice (some ⟨W.heap.size, 0, none⟩) 8192 8192) (W.alloc (.cells mt 4)) :=
  run_make_row' 73 4 (.bool false) 1 Try.underlying73 info4 rfl .i64 .i64 8192 (by decide) (by decide) W
theorem RMem.of {w : World} {h gb gt : Nat} (h0 : w.heap[h]? = some (.cells #[.slice (some ⟨gb, 0, none⟩) 65536 65536, .slice (some ⟨gt, 0, none⟩) 8192 8192] 75 (0, 0))) (h1 : w.heap[gb]? = some (.cells mb 5 (0, 0))) (h2 : w.heap[gt]? = some (.cells mt 4 (0, 0))) : RMem w h gb gt (fun _ => 0) (fun _ => false) :=
  ⟨h0, ⟨mb, h1, mb_size, mb_get⟩, ⟨mt, h2, mt_size, mt_get⟩⟩
def RNew (w : World) (e : Ending) (w' : World) : Prop := ∃ h gb gt, e = .returned (.pointer (some ⟨h, 0, none⟩)) ∧ RMem w' h gb gt (fun _ => 0) (fun _ => false) ∧ (w.heap.size ≤ h ∧ w.heap.size ≤ gb ∧ w.heap.size ≤ gt) ∧ Below w.heap.size w w'
theorem RNew.mk1 (w : World) : RNew w (.returned (.pointer (some ⟨w.heap.size + 1 + 1, 0, none⟩))) (((w.alloc (.cells mb 5)).alloc (.cells mt 4)).alloc (.cells #[.slice (some ⟨w.heap.size, 0, none⟩) 65536 65536, .slice (some ⟨w.heap.size + 1, 0, none⟩) 8192 8192] 75)).drew := by
  have e1 : (w.alloc (.cells mb 5)).heap.size = w.heap.size + 1 := by simp
  have e2 : ((w.alloc (.cells mb 5)).alloc (.cells mt 4)).heap.size = w.heap.size + 1 + 1 := by simp
  refine ⟨_, w.heap.size, w.heap.size + 1, rfl, RMem.of ?_ ?_ ?_, ⟨by omega, by omega, by omega⟩, ?_⟩
  · rw [← e2]; exact heap_alloc_new _ _
  · exact (heap_alloc_old _ _ (by omega)).trans ((heap_alloc_old _ _ (by omega)).trans (heap_alloc_new _ _))
  · refine (heap_alloc_old _ _ (by omega)).trans ?_
    rw [← e1]; exact heap_alloc_new _ _
  · exact ((((Below.refl w.heap.size w).alloc (Nat.le_refl _) _).alloc (by omega) _).alloc (by omega) _).drew
theorem RNew.mk2 (w : World) : RNew w (.returned (.pointer (some ⟨w.heap.size + 1 + 1, 0, none⟩))) (((w.alloc (.cells mt 4)).alloc (.cells mb 5)).alloc (.cells #[.slice (some ⟨w.heap.size + 1, 0, none⟩) 65536 65536, .slice (some ⟨w.heap.size, 0, none⟩) 8192 8192] 75)).drew := by
  have e1 : (w.alloc (.cells mt 4)).heap.size = w.heap.size + 1 := by simp
  have e2 : ((w.alloc (.cells mt 4)).alloc (.cells mb 5)).heap.size = w.heap.size + 1 + 1 := by simp
  refine ⟨_, w.heap.size + 1, w.heap.size, rfl, RMem.of ?_ ?_ ?_, ⟨by omega, by omega, by omega⟩, ?_⟩
  · rw [← e2]; exact heap_alloc_new _ _
  · refine (heap_alloc_old _ _ (by omega)).trans ?_
    rw [← e1]; exact heap_alloc_new _ _
  · exact (heap_alloc_old _ _ (by omega)).trans ((heap_alloc_old _ _ (by omega)).trans (heap_alloc_new _ _))
  · exact ((((Below.refl w.heap.size w).alloc (Nat.le_refl _) _).alloc (by omega) _).alloc (by omega) _).drew
set_option maxHeartbeats 4000000 in
theorem rNew_calls (w : World) : Calls Try.prog 19 #[] w (RNew w) := by
  have h1 := make36
  have h2 := make73
  have hu := Try.underlying75
  go_enter Try.func19, Try.ntmps19
  go_wp2
  go_region
  all_goals (go_wp2; go_ret)
  all_goals first | exact RNew.mk1 w | exact RNew.mk2 w
end Go.Proofs.Ytiiemfnaegapmaa.Q

-- The reference's memory: StoreCap, LoadCap, by hand. Lean checks it.
namespace Go.Proofs.Ytiiemfnaegapmaa.Q
open Go.Proofs.Ytiiemfnaegapmaa.Pure Go.Proofs.Ytiiemfnaegapmaa.Z
open Go.RowKit Go.Proofs.YtiiemfnaegapmaaW.PrintWords Go.Proofs.YtiiemfnaegapmaaW.PrintLast Go.Proofs.YtiiemfnaegapmaaW.PrintMore
set_option linter.unusedVariables false
set_option linter.unusedSimpArgs false
def byteAt (a m : Int) (k : Nat) : Int := if k < 4 then nth a k else nth m (k - 4)
/-- Behind the first j bytes of a capability's store. -/
def stCk (B : Nat → Int) (n : Nat) (a m : Int) (j : Nat) : Nat → Int := fun i => if n ≤ i ∧ i < n + j then byteAt a m (i - n) else B i
theorem stCk_zero (B : Nat → Int) (n : Nat) (a m : Int) : stCk B n a m 0 = B := by
  funext i; unfold stCk; rw [if_neg (by omega)]
theorem stCk_step (B : Nat → Int) (n : Nat) (a m : Int) (j : Nat) : upB (stCk B n a m j) (n + j) (byteAt a m j) = stCk B n a m (j + 1) := by
  funext i
  unfold upB stCk
  by_cases e : i = n + j
  · rw [if_pos e, if_pos (by omega)]
    congr 1
    omega
  · rw [if_neg e]
    by_cases c : n ≤ i ∧ i < n + j
    · rw [if_pos c, if_pos (by omega)]
    · rw [if_neg c, if_neg (by omega)]
theorem stCk_eight (B : Nat → Int) (n : Nat) (a m : Int) : stCk B n a m 8 = stC B n a m := by
  funext i
  unfold stCk stC byteAt
  by_cases c : n ≤ i ∧ i < n + 8
  · rw [if_pos c]
    by_cases d : i < n + 4
    · rw [if_pos (by omega), if_pos (by omega)]
    · rw [if_neg (by omega), if_neg (by omega), if_pos (by omega), show i - n - 4 = i - (n + 4) by omega]
  · rw [if_neg c, if_neg (by omega), if_neg (by omega)]
def arr8 (a m : Int) : Array Value := #[.int .u8 (nth a 0), .int .u8 (nth a 1), .int .u8 (nth a 2), .int .u8 (nth a 3), .int .u8 (nth m 0), .int .u8 (nth m 1), .int .u8 (nth m 2), .int .u8 (nth m 3)]
theorem arr8_get (a m : Int) (j : Nat) (hj : j < 8) : (arr8 a m)[j]? = some (.int .u8 (byteAt a m j)) := by
  have : j = 0 ∨ j = 1 ∨ j = 2 ∨ j = 3 ∨ j = 4 ∨ j = 5 ∨ j = 6 ∨ j = 7 := by omega
  rcases this with h | h | h | h | h | h | h | h <;> subst h <;> rfl
set_option maxRecDepth 100000 in
set_option maxHeartbeats 8000000 in
theorem rStoreCap_ok {h gb gt : Nat} {B : Nat → Int} {T : Nat → Bool} (n : Nat) (q0 : Bool) (q1 q2 q3 q4 q5 q6 : Int) (h1 : 0 ≤ q1 ∧ q1 < 4294967296) (h2 : 0 ≤ q2 ∧ q2 ≤ 255) (h3 : 0 ≤ q3 ∧ q3 ≤ 255) (h4 : 0 ≤ q4 ∧ q4 ≤ 255) (h5 : 0 ≤ q5 ∧ q5 ≤ 65535) (h6 : 0 ≤ q6 ∧ q6 ≤ 65535) (w : World) (hM : RMem w h gb gt B T) (hd : n % 8 = 0) (hn : n + 8 ≤ 65536) :
    Calls Try.prog 32 #[.pointer (some ⟨h, 0, none⟩), .int .u32 n, .agg #[.bool q0, .int .u32 q1, .int .u8 q2, .int .u8 q3, .int .u8 q4, .int .u16 q5, .int .u16 q6]] w fun e w' => e = .returned (.int .i64 0) ∧ RMem w' h gb gt (stC B n q1 (num2 q2 q3 q4 q5 q6)) (upT T (n / 8) q0) ∧ Fr (fun k => k = gb ∨ k = gt) w w' := by
  have HM := Aside0.mk hM
  have HN := Aside0.mk hn
  have HB : Aside0 (Below w.heap.size w (w.alloc (.cells #[.bool q0, .int .u32 q1, .int .u8 q2, .int .u8 q3, .int .u8 q4, .int .u16 q5, .int .u16 q6] 30))) := ⟨(Below.refl _ _).alloc (Nat.le_refl _) _⟩
  have HM1 := Aside0.mk (HM.out.below HB.out)
  have hu30 := Try.underlying30
  have hu51 := Try.underlying51
  have ht : Int.tmod (n : Int) 8 = 0 := by rw [Int.tmod_eq_emod_of_nonneg (by omega)]; omega
  have d1 : decide (65536 ≤ (n : Int)) = false := decide_eq_false (by omega)
  have HBC := Aside0.mk (rbytes_callsE q0 q1 q2 q3 q4 q5 q6 h1 h2 h3 h4 h5 h6)
  clear hM hd hn h1 h2 h3 h4 h5 h6
  go_enter Try.func32, Try.ntmps32
  go_wp2_with fail
  refine (HBC.out _).mono ?_
  rintro e w3 ⟨rfl, hb⟩
  have HM3 := Aside0.mk (HM1.out.below hb)
  have HB3 := Aside0.mk (below_step HB.out hb)
  have BQ := Aside0.mk (blk_below (heap_alloc_new w (.cells #[.bool q0, .int .u32 q1, .int .u8 q2, .int .u8 q3, .int .u8 q4, .int .u16 q5, .int .u16 q6] 30)) hb)
  clear hb ht d1 HBC
  go_wp2_with fail
  have HM4 := Aside0.mk (HM3.out.below ((Below.refl w3.heap.size w3).alloc (Nat.le_refl _) (.cells (arr8 q1 (num2 q2 q3 q4 q5 q6)) 51)))
  have HB4 := Aside0.mk (below_step HB3.out ((Below.refl w3.heap.size w3).alloc (Nat.le_refl _) (.cells (arr8 q1 (num2 q2 q3 q4 q5 q6)) 51)))
  have BA := Aside0.mk (heap_alloc_new w3 (.cells (arr8 q1 (num2 q2 q3 q4 q5 q6)) 51))
  replace BQ := Aside0.mk (blk_below BQ.out ((Below.refl w3.heap.size w3).alloc (Nat.le_refl _) (.cells (arr8 q1 (num2 q2 q3 q4 q5 q6)) 51)))
  have NE : Aside0 ((gb ≠ w3.heap.size ∧ gt ≠ w3.heap.size) ∧ gb ≠ w.heap.size ∧ gt ≠ w.heap.size) := ⟨by have h1 := HM.out.lt; have h2 := HB3.out.size; omega⟩
  obtain ⟨w4, hw4⟩ : ∃ w4, w4 = w3.alloc (.cells (arr8 q1 (num2 q2 q3 q4 q5 q6)) 51) := ⟨_, rfl⟩
  show Code.wp _ _ _ _ (w3.alloc (.cells (arr8 q1 (num2 q2 q3 q4 q5 q6)) 51))
  rw [← hw4] at HM4 HB4 BA BQ ⊢
  clear hw4 HM1 HM3
  have HM0 : Aside0 (RMem w4 h gb gt (stCk B n q1 (num2 q2 q3 q4 q5 q6) 0) T) := ⟨by rw [stCk_zero]; exact HM4.out⟩
  have HF0 : Aside0 (Fr (fun k => k = gb ∨ k = gt) w w4) := ⟨Fr.of_below HB4.out⟩
  go_loopg [8] (9) (fun kq v8 w' => ∃ j : Nat, v8 = .int .i64 (j : Int) ∧ Aside0 (j + kq = 9) ∧ Aside0 (j ≤ 8) ∧ Aside0 (RMem w' h gb gt (stCk B n q1 (num2 q2 q3 q4 q5 q6) j) T) ∧ Aside0 (w'.heap[w3.heap.size]? = some (.cells (arr8 q1 (num2 q2 q3 q4 q5 q6)) 51 (0, 0))) ∧ Aside0 (w'.heap[w.heap.size]? = some (.cells #[.bool q0, .int .u32 q1, .int .u8 q2, .int .u8 q3, .int .u8 q4, .int .u16 q5, .int .u16 q6] 30 (0, 0))) ∧ Aside0 (Fr (fun k => k = gb ∨ k = gt) w w'))
  case atStart => exact ⟨0, rfl, ⟨rfl⟩, ⟨by omega⟩, HM0, BA, BQ, HF0⟩
  case round =>
    clear HM0 HF0 BA BQ HM4 HB4
    obtain ⟨j, rfl, HK, HJ, HM5, BA, BQ, HF⟩ := hrel
    by_cases c : j < 8
    · cases gk with
      | zero => exact absurd HK.out (by have := HJ.out; omega)
      | succ gk =>
        have hn2 : n + j < 65536 := by have := HN.out; omega
        have hc0 := HM5.out.c0
        have hcell := HM5.out.byte (n + j) hn2
        have hfr := HM5.out.freeB (n + j)
        have hca : wr.cell? ⟨w3.heap.size, j, none⟩ = some (.int .u8 (byteAt q1 (num2 q2 q3 q4 q5 q6) j)) := (blk_cell BA.out j).trans (arr8_get _ _ j c)
        have HM6 : Aside0 (RMem (wr.setCell ⟨gb, n + j, none⟩ (.int .u8 (byteAt q1 (num2 q2 q3 q4 q5 q6) j))) h gb gt (stCk B n q1 (num2 q2 q3 q4 q5 q6) (j + 1)) T) := ⟨by rw [← stCk_step]; exact HM5.out.setB (n + j) hn2 _⟩
        obtain ⟨y, hy⟩ : ∃ y, y = byteAt q1 (num2 q2 q3 q4 q5 q6) j := ⟨_, rfl⟩
        rw [← hy] at hca HM6
        clear hy
        have HC := Aside0.mk c
        have d5 : decide ((j : Int) < 8) = true := decide_eq_true (by omega)
        have i1 : (0 : Int) ≤ (j : Int) := by omega
        have i2 : (j : Int) < 8 := by omega
        have i3 : IntKind.i64.wrap ((n : Int) + (j : Int)) = (n : Int) + (j : Int) := by rw [IntKind.wrap_i64]; omega
        have i4 : IntKind.i64.wrap (n : Int) = (n : Int) := by rw [IntKind.wrap_i64]; omega
        have i5 : ((n : Int) + (j : Int)).toNat = n + j := by omega
        have i6 : (0 : Int) ≤ (n : Int) + (j : Int) := by omega
        have i7 : (n : Int) + (j : Int) < 65536 := by omega
        clear c
        go_wp2
        go_region
        go_wp2
        go_roundg gk
        case measure => omega
        case rel => exact ⟨j + 1, by go_num, ⟨by have := HK.out; omega⟩, ⟨by have := HC.out; omega⟩, ⟨⟨HM6.out.hd, HM6.out.bs, HM6.out.ts⟩⟩, ⟨blk_far BA.out (Ne.symm NE.out.1.1) _⟩, ⟨blk_far BQ.out (Ne.symm NE.out.2.1) _⟩, ⟨(HF.out.setCell (.inl rfl) _).drew⟩⟩
    · have hj : j = 8 := by have := HJ.out; omega
      subst hj
      have HM6 : Aside0 (RMem wr h gb gt (stC B n q1 (num2 q2 q3 q4 q5 q6)) T) := ⟨by rw [← stCk_eight]; exact HM5.out⟩
      have hr2 : n / 8 < 8192 := by have := HN.out; omega
      have HR := Aside0.mk hr2
      have hc1 := HM6.out.c1
      have hcq : wr.cell? ⟨w.heap.size, 0, none⟩ = some (.bool q0) := (blk_cell BQ.out 0).trans rfl
      have hct := HM6.out.tag (n / 8) hr2
      have hft := HM6.out.freeT (n / 8)
      have q1' : Int.tdiv (n : Int) 8 = (n : Int) / 8 := Int.tdiv_eq_ediv_of_nonneg (by omega)
      have q2' : IntKind.u32.wrap ((n : Int) / 8) = (n : Int) / 8 := by have := HN.out; simp [IntKind.wrap, IntKind.bits, IntKind.signed]; omega
      have q3' : (0 : Int) ≤ (n : Int) / 8 := by omega
      have q4' : (n : Int) / 8 < 8192 := by omega
      have q5' : ((n : Int) / 8).toNat = n / 8 := by omega
      clear hr2 c
      go_wp2
      go_region
      go_wp2
      go_ret
      exact ⟨rfl, ⟨(HM6.out.setT (n / 8) HR.out q0).hd, (HM6.out.setT (n / 8) HR.out q0).bs, (HM6.out.setT (n / 8) HR.out q0).ts⟩, (HF.out.setCell (.inr rfl) _).drew⟩
end Go.Proofs.Ytiiemfnaegapmaa.Q

-- The reference's memory: LoadCap, by hand. Lean checks it.
namespace Go.Proofs.Ytiiemfnaegapmaa.Q
open Go.Proofs.Ytiiemfnaegapmaa.Pure Go.Proofs.Ytiiemfnaegapmaa.Z
open Go.RowKit Go.Proofs.YtiiemfnaegapmaaW.PrintWords Go.Proofs.YtiiemfnaegapmaaW.PrintLast Go.Proofs.YtiiemfnaegapmaaW.PrintMore
set_option linter.unusedVariables false
set_option linter.unusedSimpArgs false
def arrK (B : Nat → Int) (n j : Nat) : Array Value := #[.int .u8 (if 0 < j then B n else 0), .int .u8 (if 1 < j then B (n + 1) else 0), .int .u8 (if 2 < j then B (n + 2) else 0), .int .u8 (if 3 < j then B (n + 3) else 0), .int .u8 (if 4 < j then B (n + 4) else 0), .int .u8 (if 5 < j then B (n + 5) else 0), .int .u8 (if 6 < j then B (n + 6) else 0), .int .u8 (if 7 < j then B (n + 7) else 0)]
theorem arrK_step (B : Nat → Int) (n j : Nat) (hj : j < 8) : (arrK B n j).setIfInBounds j (.int .u8 (B (n + j))) = arrK B n (j + 1) := by
  have : j = 0 ∨ j = 1 ∨ j = 2 ∨ j = 3 ∨ j = 4 ∨ j = 5 ∨ j = 6 ∨ j = 7 := by omega
  rcases this with h | h | h | h | h | h | h | h <;> subst h <;> rfl
section
variable {w W W2 : World} {g h gt n : Nat} {B : Nat → Int} {T : Nat → Bool}
theorem keepRL (k : Below W.heap.size W W2) (hh : W.cell? ⟨g, 0, none⟩ = some (.int .u8 (B n)) ∧ W.cell? ⟨g, 1, none⟩ = some (.int .u8 (B (n + 1))) ∧ W.cell? ⟨g, 2, none⟩ = some (.int .u8 (B (n + 2))) ∧ W.cell? ⟨g, 3, none⟩ = some (.int .u8 (B (n + 3))) ∧ W.cell? ⟨g, 4, none⟩ = some (.int .u8 (B (n + 4))) ∧ W.cell? ⟨g, 5, none⟩ = some (.int .u8 (B (n + 5))) ∧ W.cell? ⟨g, 6, none⟩ = some (.int .u8 (B (n + 6))) ∧ W.cell? ⟨g, 7, none⟩ = some (.int .u8 (B (n + 7))) ∧ W.cell? ⟨h, 1, none⟩ = some (.slice (some ⟨gt, 0, none⟩) 8192 8192) ∧ W.cell? ⟨gt, n / 8, none⟩ = some (.bool (T (n / 8))) ∧ Below w.heap.size w W ∧ w.heap.size < W.heap.size) : W2.cell? ⟨g, 0, none⟩ = some (.int .u8 (B n)) ∧ W2.cell? ⟨g, 1, none⟩ = some (.int .u8 (B (n + 1))) ∧ W2.cell? ⟨g, 2, none⟩ = some (.int .u8 (B (n + 2))) ∧ W2.cell? ⟨g, 3, none⟩ = some (.int .u8 (B (n + 3))) ∧ W2.cell? ⟨g, 4, none⟩ = some (.int .u8 (B (n + 4))) ∧ W2.cell? ⟨g, 5, none⟩ = some (.int .u8 (B (n + 5))) ∧ W2.cell? ⟨g, 6, none⟩ = some (.int .u8 (B (n + 6))) ∧ W2.cell? ⟨g, 7, none⟩ = some (.int .u8 (B (n + 7))) ∧ W2.cell? ⟨h, 1, none⟩ = some (.slice (some ⟨gt, 0, none⟩) 8192 8192) ∧ W2.cell? ⟨gt, n / 8, none⟩ = some (.bool (T (n / 8))) ∧ Below w.heap.size w W2 ∧ w.heap.size < W2.heap.size := by
  obtain ⟨h0, h1, h2, h3, h4, h5, h6, h7, h8, h9, h10, h11⟩ := hh
  exact ⟨(k.cell (World.block_lt_of_cell? _ _ h0)).trans h0, (k.cell (World.block_lt_of_cell? _ _ h1)).trans h1, (k.cell (World.block_lt_of_cell? _ _ h2)).trans h2, (k.cell (World.block_lt_of_cell? _ _ h3)).trans h3, (k.cell (World.block_lt_of_cell? _ _ h4)).trans h4, (k.cell (World.block_lt_of_cell? _ _ h5)).trans h5, (k.cell (World.block_lt_of_cell? _ _ h6)).trans h6, (k.cell (World.block_lt_of_cell? _ _ h7)).trans h7, (k.cell (World.block_lt_of_cell? _ _ h8)).trans h8, (k.cell (World.block_lt_of_cell? _ _ h9)).trans h9, below_step h10 k, Nat.lt_of_lt_of_le h11 k.size⟩
theorem keepRD (hh : W.cell? ⟨g, 0, none⟩ = some (.int .u8 (B n)) ∧ W.cell? ⟨g, 1, none⟩ = some (.int .u8 (B (n + 1))) ∧ W.cell? ⟨g, 2, none⟩ = some (.int .u8 (B (n + 2))) ∧ W.cell? ⟨g, 3, none⟩ = some (.int .u8 (B (n + 3))) ∧ W.cell? ⟨g, 4, none⟩ = some (.int .u8 (B (n + 4))) ∧ W.cell? ⟨g, 5, none⟩ = some (.int .u8 (B (n + 5))) ∧ W.cell? ⟨g, 6, none⟩ = some (.int .u8 (B (n + 6))) ∧ W.cell? ⟨g, 7, none⟩ = some (.int .u8 (B (n + 7))) ∧ W.cell? ⟨h, 1, none⟩ = some (.slice (some ⟨gt, 0, none⟩) 8192 8192) ∧ W.cell? ⟨gt, n / 8, none⟩ = some (.bool (T (n / 8))) ∧ Below w.heap.size w W ∧ w.heap.size < W.heap.size) : W.drew.cell? ⟨g, 0, none⟩ = some (.int .u8 (B n)) ∧ W.drew.cell? ⟨g, 1, none⟩ = some (.int .u8 (B (n + 1))) ∧ W.drew.cell? ⟨g, 2, none⟩ = some (.int .u8 (B (n + 2))) ∧ W.drew.cell? ⟨g, 3, none⟩ = some (.int .u8 (B (n + 3))) ∧ W.drew.cell? ⟨g, 4, none⟩ = some (.int .u8 (B (n + 4))) ∧ W.drew.cell? ⟨g, 5, none⟩ = some (.int .u8 (B (n + 5))) ∧ W.drew.cell? ⟨g, 6, none⟩ = some (.int .u8 (B (n + 6))) ∧ W.drew.cell? ⟨g, 7, none⟩ = some (.int .u8 (B (n + 7))) ∧ W.drew.cell? ⟨h, 1, none⟩ = some (.slice (some ⟨gt, 0, none⟩) 8192 8192) ∧ W.drew.cell? ⟨gt, n / 8, none⟩ = some (.bool (T (n / 8))) ∧ Below w.heap.size w W.drew ∧ w.heap.size < W.drew.heap.size := by
  obtain ⟨h0, h1, h2, h3, h4, h5, h6, h7, h8, h9, h10, h11⟩ := hh
  exact ⟨h0, h1, h2, h3, h4, h5, h6, h7, h8, h9, h10.drew, h11⟩
theorem keepRS {j : Nat} (u : Value) (hh : W.cell? ⟨g, 0, none⟩ = some (.int .u8 (B n)) ∧ W.cell? ⟨g, 1, none⟩ = some (.int .u8 (B (n + 1))) ∧ W.cell? ⟨g, 2, none⟩ = some (.int .u8 (B (n + 2))) ∧ W.cell? ⟨g, 3, none⟩ = some (.int .u8 (B (n + 3))) ∧ W.cell? ⟨g, 4, none⟩ = some (.int .u8 (B (n + 4))) ∧ W.cell? ⟨g, 5, none⟩ = some (.int .u8 (B (n + 5))) ∧ W.cell? ⟨g, 6, none⟩ = some (.int .u8 (B (n + 6))) ∧ W.cell? ⟨g, 7, none⟩ = some (.int .u8 (B (n + 7))) ∧ W.cell? ⟨h, 1, none⟩ = some (.slice (some ⟨gt, 0, none⟩) 8192 8192) ∧ W.cell? ⟨gt, n / 8, none⟩ = some (.bool (T (n / 8))) ∧ Below w.heap.size w W ∧ w.heap.size < W.heap.size) (hg : g ≠ w.heap.size ∧ h ≠ w.heap.size ∧ gt ≠ w.heap.size) : (W.setCell ⟨w.heap.size, j, none⟩ u).cell? ⟨g, 0, none⟩ = some (.int .u8 (B n)) ∧ (W.setCell ⟨w.heap.size, j, none⟩ u).cell? ⟨g, 1, none⟩ = some (.int .u8 (B (n + 1))) ∧ (W.setCell ⟨w.heap.size, j, none⟩ u).cell? ⟨g, 2, none⟩ = some (.int .u8 (B (n + 2))) ∧ (W.setCell ⟨w.heap.size, j, none⟩ u).cell? ⟨g, 3, none⟩ = some (.int .u8 (B (n + 3))) ∧ (W.setCell ⟨w.heap.size, j, none⟩ u).cell? ⟨g, 4, none⟩ = some (.int .u8 (B (n + 4))) ∧ (W.setCell ⟨w.heap.size, j, none⟩ u).cell? ⟨g, 5, none⟩ = some (.int .u8 (B (n + 5))) ∧ (W.setCell ⟨w.heap.size, j, none⟩ u).cell? ⟨g, 6, none⟩ = some (.int .u8 (B (n + 6))) ∧ (W.setCell ⟨w.heap.size, j, none⟩ u).cell? ⟨g, 7, none⟩ = some (.int .u8 (B (n + 7))) ∧ (W.setCell ⟨w.heap.size, j, none⟩ u).cell? ⟨h, 1, none⟩ = some (.slice (some ⟨gt, 0, none⟩) 8192 8192) ∧ (W.setCell ⟨w.heap.size, j, none⟩ u).cell? ⟨gt, n / 8, none⟩ = some (.bool (T (n / 8))) ∧ Below w.heap.size w (W.setCell ⟨w.heap.size, j, none⟩ u) ∧ w.heap.size < (W.setCell ⟨w.heap.size, j, none⟩ u).heap.size := by
  obtain ⟨h0, h1, h2, h3, h4, h5, h6, h7, h8, h9, h10, h11⟩ := hh
  have hc : ∀ b, b ≠ w.heap.size → ∀ i, (W.setCell ⟨w.heap.size, j, none⟩ u).cell? ⟨b, i, none⟩ = W.cell? ⟨b, i, none⟩ := fun b hb i => World.cell?_of_block (Below.heap_setCell W ⟨w.heap.size, j, none⟩ u b hb)
  exact ⟨(hc _ hg.1 _).trans h0, (hc _ hg.1 _).trans h1, (hc _ hg.1 _).trans h2, (hc _ hg.1 _).trans h3, (hc _ hg.1 _).trans h4, (hc _ hg.1 _).trans h5, (hc _ hg.1 _).trans h6, (hc _ hg.1 _).trans h7, (hc _ hg.2.1 _).trans h8, (hc _ hg.2.2 _).trans h9, h10.setCell (Nat.le_refl _) u, by simpa [World.setCell] using h11⟩
end
set_option maxRecDepth 100000 in
set_option maxHeartbeats 8000000 in
theorem rLoadCap_ok {h gb gt : Nat} {B : Nat → Int} {T : Nat → Bool} (hB : ∀ i, 0 ≤ B i ∧ B i ≤ 255) (n : Nat) (w : World) (hM : RMem w h gb gt B T) (hd : n % 8 = 0) (hn : n + 8 ≤ 65536) :
    Calls Try.prog 36 #[.pointer (some ⟨h, 0, none⟩), .int .u32 n] w fun e w' => e = .returned (.tuple #[.agg #[.bool (T (n / 8)), .int .u32 (ldA B n), .int .u8 (ldN B n % 128), .int .u8 (ldN B n / 128 % 8), .int .u8 (ldN B n / 1024 % 16), .int .u16 (ldN B n / 16384 % 512), .int .u16 (ldN B n / 8388608 % 512)], .int .i64 0]) ∧ Below w.heap.size w w' := by
  have HM := Aside0.mk hM
  have HBY := Aside0.mk hB
  have HN := Aside0.mk hn
  have hu30 := Try.underlying30
  have hu51 := Try.underlying51
  have ht : Int.tmod (n : Int) 8 = 0 := by rw [Int.tmod_eq_emod_of_nonneg (by omega)]; omega
  have d1 : decide (65536 ≤ (n : Int)) = false := decide_eq_false (by omega)
  have HB0 : Aside0 (Below w.heap.size w ((w.alloc (.cells #[.bool false, .int .u32 0, .int .u8 0, .int .u8 0, .int .u8 0, .int .u16 0, .int .u16 0] 30)).alloc (.cells (arrK B n 0) 51))) := ⟨((Below.refl _ _).alloc (Nat.le_refl _) _).alloc (by simp) _⟩
  have HM0 := Aside0.mk (HM.out.below HB0.out)
  have BZ0 : Aside0 (((w.alloc (.cells #[.bool false, .int .u32 0, .int .u8 0, .int .u8 0, .int .u8 0, .int .u16 0, .int .u16 0] 30)).alloc (.cells (arrK B n 0) 51)).heap[w.heap.size]? = some (.cells #[.bool false, .int .u32 0, .int .u8 0, .int .u8 0, .int .u8 0, .int .u16 0, .int .u16 0] 30 (0, 0))) := ⟨(heap_alloc_old _ _ (by simp)).trans (heap_alloc_new _ _)⟩
  have BA0 : Aside0 (((w.alloc (.cells #[.bool false, .int .u32 0, .int .u8 0, .int .u8 0, .int .u8 0, .int .u16 0, .int .u16 0] 30)).alloc (.cells (arrK B n 0) 51)).heap[w.heap.size + 1]? = some (.cells (arrK B n 0) 51 (0, 0))) := ⟨by have h := heap_alloc_new (w.alloc (.cells #[.bool false, .int .u32 0, .int .u8 0, .int .u8 0, .int .u8 0, .int .u16 0, .int .u16 0] 30)) (.cells (arrK B n 0) 51); simpa using h⟩
  clear hM hd hn hB
  go_enter Try.func36, Try.ntmps36
  go_wp2_with fail
  show Code.wp _ _ _ _ ((w.alloc (.cells #[.bool false, .int .u32 0, .int .u8 0, .int .u8 0, .int .u8 0, .int .u16 0, .int .u16 0] 30)).alloc (.cells (arrK B n 0) 51))
  obtain ⟨w4, hw4⟩ : ∃ w4, w4 = ((w.alloc (.cells #[.bool false, .int .u32 0, .int .u8 0, .int .u8 0, .int .u8 0, .int .u16 0, .int .u16 0] 30)).alloc (.cells (arrK B n 0) 51)) := ⟨_, rfl⟩
  rw [← hw4] at HM0 HB0 BA0 BZ0 ⊢
  have HSZ : Aside0 (w.heap.size + 1 < w4.heap.size) := ⟨by rw [hw4]; simp⟩
  clear hw4 ht d1
  have NE : Aside0 ((h ≠ w.heap.size ∧ gt ≠ w.heap.size ∧ gb ≠ w.heap.size) ∧ h ≠ w.heap.size + 1 ∧ gt ≠ w.heap.size + 1 ∧ gb ≠ w.heap.size + 1) := ⟨by have h1 := HM.out.lt; omega⟩
  go_loopg [7] (9) (fun kq v7 w' => ∃ j : Nat, v7 = .int .i64 (j : Int) ∧ Aside0 (j + kq = 9) ∧ Aside0 (j ≤ 8) ∧ Aside0 (RMem w' h gb gt B T) ∧ Aside0 (w'.heap[w.heap.size]? = some (.cells #[.bool false, .int .u32 0, .int .u8 0, .int .u8 0, .int .u8 0, .int .u16 0, .int .u16 0] 30 (0, 0))) ∧ Aside0 (w'.heap[w.heap.size + 1]? = some (.cells (arrK B n j) 51 (0, 0))) ∧ Aside0 (Below w.heap.size w w') ∧ Aside0 (w.heap.size + 1 < w'.heap.size))
  case atStart => exact ⟨0, rfl, ⟨rfl⟩, ⟨by omega⟩, HM0, BZ0, BA0, HB0, HSZ⟩
  case round =>
    clear HM0 BZ0 BA0 HB0 HSZ
    obtain ⟨j, rfl, HK, HJ, HM5, BZ, BA, HB, HSZ⟩ := hrel
    by_cases c : j < 8
    · cases gk with
      | zero => exact absurd HK.out (by have := HJ.out; omega)
      | succ gk =>
        have hn2 : n + j < 65536 := by have := HN.out; omega
        have hc0 := HM5.out.c0
        have hcell := HM5.out.byte (n + j) hn2
        obtain ⟨vv, hca⟩ : ∃ vv, wr.cell? ⟨w.heap.size + 1, j, none⟩ = some vv := by
          rw [blk_cell BA.out j]
          exact ⟨_, Array.getElem?_eq_getElem (show j < 8 from c)⟩
        have hfa := blk_frozen BA.out j
        have BA2 : Aside0 ((wr.setCell ⟨w.heap.size + 1, j, none⟩ (.int .u8 (B (n + j)))).heap[w.heap.size + 1]? = some (.cells (arrK B n (j + 1)) 51 (0, 0))) := ⟨blk_put BA.out j _ (arrK_step B n j c)⟩
        have HF2 : Aside0 (Fr (fun k => k = w.heap.size + 1) wr (wr.setCell ⟨w.heap.size + 1, j, none⟩ (.int .u8 (B (n + j))))) := ⟨(Fr.refl (fun k => k = w.heap.size + 1) wr).setCell (p := ⟨w.heap.size + 1, j, none⟩) rfl _⟩
        obtain ⟨y, hy⟩ : ∃ y, y = B (n + j) := ⟨_, rfl⟩
        rw [← hy] at hcell BA2 HF2
        clear hy
        have HC := Aside0.mk c
        have d5 : decide ((j : Int) < 8) = true := decide_eq_true (by omega)
        have i2 : ((j : Int) < 8) = True := eq_true (by omega)
        have i3 : (j < 8) = True := eq_true c
        clear c
        go_wp2
        go_roundg gk
        case measure => omega
        case rel => exact ⟨j + 1, by go_num, ⟨by have := HK.out; omega⟩, ⟨by have := HC.out; omega⟩, ⟨HM5.out.fr HF2.out NE.out.2.1 NE.out.2.2.2 NE.out.2.2.1⟩, ⟨blk_far BZ.out (by simp) _⟩, BA2, ⟨HB.out.setCell (by simp) _⟩, ⟨by have := HSZ.out; simpa [World.setCell] using this⟩⟩
    · have hj : j = 8 := by have := HJ.out; omega
      subst hj
      have hr2 : n / 8 < 8192 := by have := HN.out; omega
      have q1' : Int.tdiv (n : Int) 8 = (n : Int) / 8 := Int.tdiv_eq_ediv_of_nonneg (by omega)
      have q2' : IntKind.u32.wrap ((n : Int) / 8) = (n : Int) / 8 := by have := HN.out; simp [IntKind.wrap, IntKind.bits, IntKind.signed]; omega
      have q3' : (0 : Int) ≤ (n : Int) / 8 := by omega
      have q4' : (n : Int) / 8 < 8192 := by omega
      have q5' : ((n : Int) / 8).toNat = n / 8 := by omega
      have hne : w.heap.size + 1 ≠ w.heap.size ∧ h ≠ w.heap.size ∧ gt ≠ w.heap.size := ⟨by omega, NE.out.1.1, NE.out.1.2.1⟩
      have hs : wr.cell? ⟨w.heap.size + 1, 0, none⟩ = some (.int .u8 (B n)) ∧ wr.cell? ⟨w.heap.size + 1, 1, none⟩ = some (.int .u8 (B (n + 1))) ∧ wr.cell? ⟨w.heap.size + 1, 2, none⟩ = some (.int .u8 (B (n + 2))) ∧ wr.cell? ⟨w.heap.size + 1, 3, none⟩ = some (.int .u8 (B (n + 3))) ∧ wr.cell? ⟨w.heap.size + 1, 4, none⟩ = some (.int .u8 (B (n + 4))) ∧ wr.cell? ⟨w.heap.size + 1, 5, none⟩ = some (.int .u8 (B (n + 5))) ∧ wr.cell? ⟨w.heap.size + 1, 6, none⟩ = some (.int .u8 (B (n + 6))) ∧ wr.cell? ⟨w.heap.size + 1, 7, none⟩ = some (.int .u8 (B (n + 7))) ∧ wr.cell? ⟨h, 1, none⟩ = some (.slice (some ⟨gt, 0, none⟩) 8192 8192) ∧ wr.cell? ⟨gt, n / 8, none⟩ = some (.bool (T (n / 8))) ∧ Below w.heap.size w wr ∧ w.heap.size < wr.heap.size := ⟨(blk_cell BA.out 0).trans rfl, (blk_cell BA.out 1).trans rfl, (blk_cell BA.out 2).trans rfl, (blk_cell BA.out 3).trans rfl, (blk_cell BA.out 4).trans rfl, (blk_cell BA.out 5).trans rfl, (blk_cell BA.out 6).trans rfl, (blk_cell BA.out 7).trans rfl, HM5.out.c1, HM5.out.tag _ hr2, HB.out, by have := HSZ.out; omega⟩
      have HO := Aside0.mk (rof_callsE (B n) (B (n + 1)) (B (n + 2)) (B (n + 3)) (B (n + 4)) (B (n + 5)) (B (n + 6)) (B (n + 7)) (row8_bytes HBY.out n) (T (n / 8)))
      have hzl : w.heap.size < wr.heap.size := by have := HSZ.out; omega
      have hcz0 : wr.cell? ⟨w.heap.size, 0, none⟩ = some (.bool false) := (blk_cell BZ.out 0).trans rfl
      have hcz1 : wr.cell? ⟨w.heap.size, 1, none⟩ = some (.int .u32 0) := (blk_cell BZ.out 1).trans rfl
      have hcz2 : wr.cell? ⟨w.heap.size, 2, none⟩ = some (.int .u8 0) := (blk_cell BZ.out 2).trans rfl
      have hcz3 : wr.cell? ⟨w.heap.size, 3, none⟩ = some (.int .u8 0) := (blk_cell BZ.out 3).trans rfl
      have hcz4 : wr.cell? ⟨w.heap.size, 4, none⟩ = some (.int .u8 0) := (blk_cell BZ.out 4).trans rfl
      have hcz5 : wr.cell? ⟨w.heap.size, 5, none⟩ = some (.int .u16 0) := (blk_cell BZ.out 5).trans rfl
      have hcz6 : wr.cell? ⟨w.heap.size, 6, none⟩ = some (.int .u16 0) := (blk_cell BZ.out 6).trans rfl
      have hfz0 := blk_frozen BZ.out 0
      have hfz1 := blk_frozen BZ.out 1
      have hfz2 := blk_frozen BZ.out 2
      have hfz3 := blk_frozen BZ.out 3
      have hfz4 := blk_frozen BZ.out 4
      have hfz5 := blk_frozen BZ.out 5
      have hfz6 := blk_frozen BZ.out 6
      clear c
      go_wp2
      go_region_held3 (fun w' => w'.cell? ⟨w.heap.size + 1, 0, none⟩ = some (.int .u8 (B n)) ∧ w'.cell? ⟨w.heap.size + 1, 1, none⟩ = some (.int .u8 (B (n + 1))) ∧ w'.cell? ⟨w.heap.size + 1, 2, none⟩ = some (.int .u8 (B (n + 2))) ∧ w'.cell? ⟨w.heap.size + 1, 3, none⟩ = some (.int .u8 (B (n + 3))) ∧ w'.cell? ⟨w.heap.size + 1, 4, none⟩ = some (.int .u8 (B (n + 4))) ∧ w'.cell? ⟨w.heap.size + 1, 5, none⟩ = some (.int .u8 (B (n + 5))) ∧ w'.cell? ⟨w.heap.size + 1, 6, none⟩ = some (.int .u8 (B (n + 6))) ∧ w'.cell? ⟨w.heap.size + 1, 7, none⟩ = some (.int .u8 (B (n + 7))) ∧ w'.cell? ⟨h, 1, none⟩ = some (.slice (some ⟨gt, 0, none⟩) 8192 8192) ∧ w'.cell? ⟨gt, n / 8, none⟩ = some (.bool (T (n / 8))) ∧ Below w.heap.size w w' ∧ w.heap.size < w'.heap.size) (first | (with_reducible refine keepRD ?_; with_reducible assumption) | (with_reducible exact keepRL (by with_reducible assumption) (by with_reducible assumption)) | (repeat (first | with_reducible assumption | with_reducible refine keepRS _ ?_ (by with_reducible assumption)))) (first | (go_at_call 17; ((with_reducible refine (HO.out _).mono ?_)); rintro e w' ⟨rfl, hb⟩; have hy0 := ((bcell hb).1 w.heap.size 0 hzl).trans hcz0; have hz0 := ((bcell hb).2 w.heap.size 0 hzl).trans hfz0; have hy1 := ((bcell hb).1 w.heap.size 1 hzl).trans hcz1; have hz1 := ((bcell hb).2 w.heap.size 1 hzl).trans hfz1; have hy2 := ((bcell hb).1 w.heap.size 2 hzl).trans hcz2; have hz2 := ((bcell hb).2 w.heap.size 2 hzl).trans hfz2; have hy3 := ((bcell hb).1 w.heap.size 3 hzl).trans hcz3; have hz3 := ((bcell hb).2 w.heap.size 3 hzl).trans hfz3; have hy4 := ((bcell hb).1 w.heap.size 4 hzl).trans hcz4; have hz4 := ((bcell hb).2 w.heap.size 4 hzl).trans hfz4; have hy5 := ((bcell hb).1 w.heap.size 5 hzl).trans hcz5; have hz5 := ((bcell hb).2 w.heap.size 5 hzl).trans hfz5; have hy6 := ((bcell hb).1 w.heap.size 6 hzl).trans hcz6; have hz6 := ((bcell hb).2 w.heap.size 6 hzl).trans hfz6))
      rename_i hH_
      have HE := Aside0.mk hH_.2.2.2.2.2.2.2.2.2.2.1
      have BZ1 := Aside0.mk (blk_below (blk_below BZ.out ((Below.refl _ _).drew)) hb)
      clear hH_ hs hy0 hz0 hy1 hz1 hy2 hz2 hy3 hz3 hy4 hz4 hy5 hz5 hy6 hz6 hcz0 hcz1 hcz2 hcz3 hcz4 hcz5 hcz6 hfz0 hfz1 hfz2 hfz3 hfz4 hfz5 hfz6
      go_wp2
      refine bodyPost_ret (results_cell_tmp rfl _ _ w.heap.size 30 #[.bool (T (n / 8)), .int .u32 (ldA B n), .int .u8 (ldN B n % 128), .int .u8 (ldN B n / 128 % 8), .int .u8 (ldN B n / 1024 % 16), .int .u16 (ldN B n / 16384 % 512), .int .u16 (ldN B n / 8388608 % 512)] (0, 0) _ rfl (put7 (.bool (T (n / 8))) (.int .u32 (ldA B n)) (.int .u8 (ldN B n % 128)) (.int .u8 (ldN B n / 128 % 8)) (.int .u8 (ldN B n / 1024 % 16)) (.int .u16 (ldN B n / 16384 % 512)) (.int .u16 (ldN B n / 8388608 % 512)) BZ1.out) rfl Try.underlying30 (by kernel_rfl)) rfl ?_
      exact ⟨rfl, HE.out⟩
end Go.Proofs.Ytiiemfnaegapmaa.Q
