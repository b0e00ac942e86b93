-- The reference's memory: Store, Load, Tags, Bytes, by hand. Lean checks it.
import Derived.Test.YtiiemfnaegapmaaH5
namespace Go.Proofs.Ytiiemfnaegapmaa.Q
open Go.Proofs.Ytiiemfnaegapmaa.Pure Go.Proofs.Ytiiemfnaegapmaa.Z
open Go.RowKit Go.Proofs.YtiiemfnaegapmaaW.PrintWords Go.Proofs.YtiiemfnaegapmaaW.PrintLast Go.Proofs.YtiiemfnaegapmaaW.PrintMore
set_option linter.unusedVariables false
set_option linter.unusedSimpArgs false
/-- Block h is the reference's memory, its bytes in block gb, its tags in block gt. -/
structure RMem (w : World) (h gb gt : Nat) (B : Nat → Int) (T : Nat → Bool) : Prop where
  hd : w.heap[h]? = some (.cells #[.slice (some ⟨gb, 0, none⟩) 65536 65536, .slice (some ⟨gt, 0, none⟩) 8192 8192] 75 (0, 0))
  bs : ∃ cs : Array Value, w.heap[gb]? = some (.cells cs 5 (0, 0)) ∧ cs.size = 65536 ∧ ∀ i, i < 65536 → cs[i]? = some (.int .u8 (B i))
  ts : ∃ cs : Array Value, w.heap[gt]? = some (.cells cs 4 (0, 0)) ∧ cs.size = 8192 ∧ ∀ i, i < 8192 → cs[i]? = some (.bool (T i))
section
variable {w w1 : World} {h gb gt : Nat} {B : Nat → Int} {T : Nat → Bool}
theorem RMem.fr {S : Nat → Prop} (k : RMem w h gb gt B T) (f : Fr S w w1) (h0 : ¬ S h) (h1 : ¬ S gb) (h2 : ¬ S gt) : RMem w1 h gb gt B T := by
  obtain ⟨cs, hb, r⟩ := k.bs
  obtain ⟨ds, ht, q⟩ := k.ts
  exact ⟨f.blk k.hd h0, ⟨cs, f.blk hb h1, r⟩, ⟨ds, f.blk ht h2, q⟩⟩
theorem RMem.below (k : RMem w h gb gt B T) (f : Below w.heap.size w w1) : RMem w1 h gb gt B T := k.fr (S := fun _ => False) (Fr.of_below f) id id id
theorem RMem.lt (k : RMem w h gb gt B T) : h < w.heap.size ∧ gb < w.heap.size ∧ gt < w.heap.size := by
  obtain ⟨cs, hb, r⟩ := k.bs
  obtain ⟨ds, ht, q⟩ := k.ts
  exact ⟨blk_lt k.hd, blk_lt hb, blk_lt ht⟩
theorem RMem.ne (k : RMem w h gb gt B T) : h ≠ gb ∧ h ≠ gt ∧ gb ≠ gt := by
  obtain ⟨cs, hb, r⟩ := k.bs
  obtain ⟨ds, ht, q⟩ := k.ts
  exact ⟨blk_ne k.hd hb (by decide), blk_ne k.hd ht (by decide), blk_ne hb ht (by decide)⟩
theorem RMem.c0 (k : RMem w h gb gt B T) : w.cell? ⟨h, 0, none⟩ = some (.slice (some ⟨gb, 0, none⟩) 65536 65536) := (blk_cell k.hd 0).trans rfl
theorem RMem.c1 (k : RMem w h gb gt B T) : w.cell? ⟨h, 1, none⟩ = some (.slice (some ⟨gt, 0, none⟩) 8192 8192) := (blk_cell k.hd 1).trans rfl
theorem RMem.byte (k : RMem w h gb gt B T) (i : Nat) (hi : i < 65536) : w.cell? ⟨gb, i, none⟩ = some (.int .u8 (B i)) := by
  obtain ⟨cs, hb, _, h0⟩ := k.bs
  rw [blk_cell hb]; exact h0 i hi
theorem RMem.tag (k : RMem w h gb gt B T) (i : Nat) (hi : i < 8192) : w.cell? ⟨gt, i, none⟩ = some (.bool (T i)) := by
  obtain ⟨cs, hb, _, h0⟩ := k.ts
  rw [blk_cell hb]; exact h0 i hi
theorem RMem.freeB (k : RMem w h gb gt B T) (i : Nat) : w.frozen? ⟨gb, i, none⟩ = false := by
  obtain ⟨cs, hb, _⟩ := k.bs
  exact blk_frozen hb i
theorem RMem.freeT (k : RMem w h gb gt B T) (i : Nat) : w.frozen? ⟨gt, i, none⟩ = false := by
  obtain ⟨cs, hb, _⟩ := k.ts
  exact blk_frozen hb i
theorem RMem.setB (k : RMem w h gb gt B T) (i : Nat) (hi : i < 65536) (v : Int) : RMem (w.setCell ⟨gb, i, none⟩ (.int .u8 v)) h gb gt (upB B i v) T := by
  obtain ⟨n1, n2, n3⟩ := k.ne
  obtain ⟨cs, hb, hz, h1⟩ := k.bs
  obtain ⟨ds, ht, q⟩ := k.ts
  refine ⟨blk_far k.hd n1 _, ⟨cs.setIfInBounds i (.int .u8 v), blk_set hb i _, by rw [Array.size_setIfInBounds]; exact hz, ?_⟩, ⟨ds, blk_far ht (Ne.symm n3) _, q⟩⟩
  intro j hj
  unfold upB
  by_cases e : j = i
  · subst e
    rw [if_pos rfl, Array.getElem?_setIfInBounds_self_of_lt (by omega)]
  · rw [if_neg e, Array.getElem?_setIfInBounds_ne (by omega)]; exact h1 j hj
theorem RMem.setT (k : RMem w h gb gt B T) (i : Nat) (hi : i < 8192) (v : Bool) : RMem (w.setCell ⟨gt, i, none⟩ (.bool v)) h gb gt B (upT T i v) := by
  obtain ⟨n1, n2, n3⟩ := k.ne
  obtain ⟨cs, hb, r⟩ := k.bs
  obtain ⟨ds, ht, hz, h1⟩ := k.ts
  refine ⟨blk_far k.hd n2 _, ⟨cs, blk_far hb n3 _, r⟩, ⟨ds.setIfInBounds i (.bool v), blk_set ht i _, by rw [Array.size_setIfInBounds]; exact hz, ?_⟩⟩
  intro j hj
  unfold upT
  by_cases e : j = i
  · subst e
    rw [if_pos rfl, Array.getElem?_setIfInBounds_self_of_lt (by omega)]
  · rw [if_neg e, Array.getElem?_setIfInBounds_ne (by omega)]; exact h1 j hj
theorem RMem.C (k : RMem w h gb gt B T) (at_ n : Nat) (hn : at_ + n ≤ 65536) : Kd.C (Kd.int .u8) w (some ⟨gb, at_, none⟩) (row B at_ n).length (row B at_ n) := by
  rw [row_len]
  refine Kd.C_of_reads (d := (0 : Int)) (h1 := fun _ => rfl) ⟨row_len _ _ _, by omega, fun _ => ⟨_, rfl, ?_⟩⟩
  intro j hj
  rw [Addr.add_mid, k.byte _ (by omega)]
  congr 2
  rw [List.getD_eq_getElem?_getD, row_get _ _ _ _ hj]; rfl
end
theorem div8 (v : Int) (i : Nat) : v / 2 ^ (8 * i) / 256 = v / 2 ^ (8 * (i + 1)) := by
  rw [Int.ediv_ediv_of_nonneg (by exact Int.le_of_lt (Int.pow_pos (by decide)))]
  congr 1
  rw [show 8 * (i + 1) = 8 * i + 8 by omega, Int.pow_add]
  rfl
theorem nth_u8 (v : Int) (i : Nat) (hv : 0 ≤ v) : 0 ≤ nth v i ∧ nth v i ≤ 255 := by unfold nth; omega
theorem div_range (v : Int) (i : Nat) (hv : 0 ≤ v ∧ v < 4294967296) : 0 ≤ v / 2 ^ (8 * i) ∧ v / 2 ^ (8 * i) < 4294967296 := by
  have hp : (0 : Int) < 2 ^ (8 * i) := Int.pow_pos (by decide)
  exact ⟨Int.ediv_nonneg hv.1 (Int.le_of_lt hp), Int.lt_of_le_of_lt (Int.ediv_le_self _ hv.1) hv.2⟩
set_option maxRecDepth 100000 in
set_option maxHeartbeats 8000000 in
theorem rStore_1 {h gb gt : Nat} {B : Nat → Int} {T : Nat → Bool} (n : Nat) (v : Int) (w : World) (hM : RMem w h gb gt B T) (hd : (n : Int) % 1 = 0) (hn : n + 1 ≤ 65536) (hv : 0 ≤ v ∧ v < 4294967296) :
    Calls Try.prog 31 #[.pointer (some ⟨h, 0, none⟩), .int .u32 n, .int .i64 1, .int .u32 v] w fun e w' => e = .returned (.int .i64 0) ∧ RMem w' h gb gt (stB B n 1 v) (upT T (n / 8) false) ∧ Fr (fun k => k = gb ∨ k = gt) w w' := by
  have HN := Aside0.mk hn
  have HV := Aside0.mk hv
  have HM0 : Aside0 (RMem w h gb gt (stB B n 0 v) T) := ⟨by rw [stB_zero]; exact hM⟩
  have hw1 : wrap64 (n : Int) = n := by unfold wrap64; omega
  have hw2 : wrap64 ((n : Int) + 1) = (n : Int) + 1 := by unfold wrap64; omega
  have d2 : decide (65536 < (n : Int) + 1) = false := decide_eq_false (by omega)
  have hd1 : Int.tmod (n : Int) 1 = 0 := by rw [Int.tmod_eq_emod_of_nonneg (by omega)]; exact hd
  have HD0 := Aside0.mk hd
  clear hM hn hv hd
  go_enter Try.func31, Try.ntmps31
  go_wp2_with fail
  clear hw1 hw2 d2
  go_loopg [3, 9] (1 + 1) (fun kq v3 v9 w' => ∃ i : Nat, v3 = .int .u32 (v / 2 ^ (8 * i)) ∧ v9 = .int .i64 (i : Int) ∧ Aside0 (i + kq = 1 + 1) ∧ Aside0 (i ≤ 1) ∧ Aside0 (RMem w' h gb gt (stB B n i v) T) ∧ Aside0 (Fr (fun k => k = gb ∨ k = gt) w w'))
  case atStart => exact ⟨0, by simp, rfl, ⟨by omega⟩, ⟨by omega⟩, HM0, ⟨Fr.refl _ _⟩⟩
  case round =>
    clear HM0
    obtain ⟨i, rfl, rfl, HK, HI, HM, HF⟩ := hrel
    by_cases c : i < 1
    · cases gk with
      | zero => exact absurd HK.out (by have := HI.out; omega)
      | succ gk =>
        have hn2 : n + i < 65536 := by have := HN.out; omega
        have hc0 := HM.out.c0
        have hcell := HM.out.byte (n + i) hn2
        have hfr := HM.out.freeB (n + i)
        have HD := Aside0.mk (div8 v i)
        have HM1 : Aside0 (RMem (wr.setCell ⟨gb, n + i, none⟩ (.int .u8 (nth v i))) h gb gt (stB B n (i + 1) v) T) := ⟨by rw [← stB_step]; exact HM.out.setB (n + i) hn2 _⟩
        have hr0 := (div_range v i HV.out).1
        have hr1 := (div_range v i HV.out).2
        have HX2 : Aside0 (v / 2 ^ (8 * i) % 256 = nth v i) := ⟨rfl⟩
        obtain ⟨x, hx⟩ : ∃ x, x = v / 2 ^ (8 * i) := ⟨_, rfl⟩
        rw [← hx] at hr0 hr1 HD HX2 ⊢
        clear hx
        have HC := Aside0.mk c
        go_wp2
        go_roundg gk
        case measure => omega
        case rel => exact ⟨i + 1, int_eq HD.out, by go_num, ⟨by have := HK.out; omega⟩, ⟨by have := HC.out; omega⟩, ⟨by rw [HX2.out]; exact HM1.out⟩, ⟨HF.out.setCell (.inl rfl) _⟩⟩
    · have hi : i = 1 := by have := HI.out; omega
      subst hi
      have hn2 : n / 8 < 8192 := by have := HN.out; omega
      have hc1 := HM.out.c1
      have hcell := HM.out.tag (n / 8) hn2
      have hfr := HM.out.freeT (n / 8)
      have HM1 := Aside0.mk (HM.out.setT (n / 8) hn2 false)
      go_wp2
      go_ret
      exact ⟨rfl, HM1.out, HF.out.setCell (.inr rfl) _⟩
set_option maxRecDepth 100000 in
set_option maxHeartbeats 8000000 in
theorem rStore_2 {h gb gt : Nat} {B : Nat → Int} {T : Nat → Bool} (n : Nat) (v : Int) (w : World) (hM : RMem w h gb gt B T) (hd : (n : Int) % 2 = 0) (hn : n + 2 ≤ 65536) (hv : 0 ≤ v ∧ v < 4294967296) :
    Calls Try.prog 31 #[.pointer (some ⟨h, 0, none⟩), .int .u32 n, .int .i64 2, .int .u32 v] w fun e w' => e = .returned (.int .i64 0) ∧ RMem w' h gb gt (stB B n 2 v) (upT T (n / 8) false) ∧ Fr (fun k => k = gb ∨ k = gt) w w' := by
  have HN := Aside0.mk hn
  have HV := Aside0.mk hv
  have HM0 : Aside0 (RMem w h gb gt (stB B n 0 v) T) := ⟨by rw [stB_zero]; exact hM⟩
  have hw1 : wrap64 (n : Int) = n := by unfold wrap64; omega
  have hw2 : wrap64 ((n : Int) + 2) = (n : Int) + 2 := by unfold wrap64; omega
  have d2 : decide (65536 < (n : Int) + 2) = false := decide_eq_false (by omega)
  have hd1 : Int.tmod (n : Int) 2 = 0 := by rw [Int.tmod_eq_emod_of_nonneg (by omega)]; exact hd
  have HD0 := Aside0.mk hd
  clear hM hn hv hd
  go_enter Try.func31, Try.ntmps31
  go_wp2_with fail
  clear hw1 hw2 d2
  go_loopg [3, 9] (2 + 1) (fun kq v3 v9 w' => ∃ i : Nat, v3 = .int .u32 (v / 2 ^ (8 * i)) ∧ v9 = .int .i64 (i : Int) ∧ Aside0 (i + kq = 2 + 1) ∧ Aside0 (i ≤ 2) ∧ Aside0 (RMem w' h gb gt (stB B n i v) T) ∧ Aside0 (Fr (fun k => k = gb ∨ k = gt) w w'))
  case atStart => exact ⟨0, by simp, rfl, ⟨by omega⟩, ⟨by omega⟩, HM0, ⟨Fr.refl _ _⟩⟩
  case round =>
    clear HM0
    obtain ⟨i, rfl, rfl, HK, HI, HM, HF⟩ := hrel
    by_cases c : i < 2
    · cases gk with
      | zero => exact absurd HK.out (by have := HI.out; omega)
      | succ gk =>
        have hn2 : n + i < 65536 := by have := HN.out; omega
        have hc0 := HM.out.c0
        have hcell := HM.out.byte (n + i) hn2
        have hfr := HM.out.freeB (n + i)
        have HD := Aside0.mk (div8 v i)
        have HM1 : Aside0 (RMem (wr.setCell ⟨gb, n + i, none⟩ (.int .u8 (nth v i))) h gb gt (stB B n (i + 1) v) T) := ⟨by rw [← stB_step]; exact HM.out.setB (n + i) hn2 _⟩
        have hr0 := (div_range v i HV.out).1
        have hr1 := (div_range v i HV.out).2
        have HX2 : Aside0 (v / 2 ^ (8 * i) % 256 = nth v i) := ⟨rfl⟩
        obtain ⟨x, hx⟩ : ∃ x, x = v / 2 ^ (8 * i) := ⟨_, rfl⟩
        rw [← hx] at hr0 hr1 HD HX2 ⊢
        clear hx
        have HC := Aside0.mk c
        go_wp2
        go_roundg gk
        case measure => omega
        case rel => exact ⟨i + 1, int_eq HD.out, by go_num, ⟨by have := HK.out; omega⟩, ⟨by have := HC.out; omega⟩, ⟨by rw [HX2.out]; exact HM1.out⟩, ⟨HF.out.setCell (.inl rfl) _⟩⟩
    · have hi : i = 2 := by have := HI.out; omega
      subst hi
      have hn2 : n / 8 < 8192 := by have := HN.out; omega
      have hc1 := HM.out.c1
      have hcell := HM.out.tag (n / 8) hn2
      have hfr := HM.out.freeT (n / 8)
      have HM1 := Aside0.mk (HM.out.setT (n / 8) hn2 false)
      go_wp2
      go_ret
      exact ⟨rfl, HM1.out, HF.out.setCell (.inr rfl) _⟩
set_option maxRecDepth 100000 in
set_option maxHeartbeats 8000000 in
theorem rStore_4 {h gb gt : Nat} {B : Nat → Int} {T : Nat → Bool} (n : Nat) (v : Int) (w : World) (hM : RMem w h gb gt B T) (hd : (n : Int) % 4 = 0) (hn : n + 4 ≤ 65536) (hv : 0 ≤ v ∧ v < 4294967296) :
    Calls Try.prog 31 #[.pointer (some ⟨h, 0, none⟩), .int .u32 n, .int .i64 4, .int .u32 v] w fun e w' => e = .returned (.int .i64 0) ∧ RMem w' h gb gt (stB B n 4 v) (upT T (n / 8) false) ∧ Fr (fun k => k = gb ∨ k = gt) w w' := by
  have HN := Aside0.mk hn
  have HV := Aside0.mk hv
  have HM0 : Aside0 (RMem w h gb gt (stB B n 0 v) T) := ⟨by rw [stB_zero]; exact hM⟩
  have hw1 : wrap64 (n : Int) = n := by unfold wrap64; omega
  have hw2 : wrap64 ((n : Int) + 4) = (n : Int) + 4 := by unfold wrap64; omega
  have d2 : decide (65536 < (n : Int) + 4) = false := decide_eq_false (by omega)
  have hd1 : Int.tmod (n : Int) 4 = 0 := by rw [Int.tmod_eq_emod_of_nonneg (by omega)]; exact hd
  have HD0 := Aside0.mk hd
  clear hM hn hv hd
  go_enter Try.func31, Try.ntmps31
  go_wp2_with fail
  clear hw1 hw2 d2
  go_loopg [3, 9] (4 + 1) (fun kq v3 v9 w' => ∃ i : Nat, v3 = .int .u32 (v / 2 ^ (8 * i)) ∧ v9 = .int .i64 (i : Int) ∧ Aside0 (i + kq = 4 + 1) ∧ Aside0 (i ≤ 4) ∧ Aside0 (RMem w' h gb gt (stB B n i v) T) ∧ Aside0 (Fr (fun k => k = gb ∨ k = gt) w w'))
  case atStart => exact ⟨0, by simp, rfl, ⟨by omega⟩, ⟨by omega⟩, HM0, ⟨Fr.refl _ _⟩⟩
  case round =>
    clear HM0
    obtain ⟨i, rfl, rfl, HK, HI, HM, HF⟩ := hrel
    by_cases c : i < 4
    · cases gk with
      | zero => exact absurd HK.out (by have := HI.out; omega)
      | succ gk =>
        have hn2 : n + i < 65536 := by have := HN.out; omega
        have hc0 := HM.out.c0
        have hcell := HM.out.byte (n + i) hn2
        have hfr := HM.out.freeB (n + i)
        have HD := Aside0.mk (div8 v i)
        have HM1 : Aside0 (RMem (wr.setCell ⟨gb, n + i, none⟩ (.int .u8 (nth v i))) h gb gt (stB B n (i + 1) v) T) := ⟨by rw [← stB_step]; exact HM.out.setB (n + i) hn2 _⟩
        have hr0 := (div_range v i HV.out).1
        have hr1 := (div_range v i HV.out).2
        have HX2 : Aside0 (v / 2 ^ (8 * i) % 256 = nth v i) := ⟨rfl⟩
        obtain ⟨x, hx⟩ : ∃ x, x = v / 2 ^ (8 * i) := ⟨_, rfl⟩
        rw [← hx] at hr0 hr1 HD HX2 ⊢
        clear hx
        have HC := Aside0.mk c
        go_wp2
        go_roundg gk
        case measure => omega
        case rel => exact ⟨i + 1, int_eq HD.out, by go_num, ⟨by have := HK.out; omega⟩, ⟨by have := HC.out; omega⟩, ⟨by rw [HX2.out]; exact HM1.out⟩, ⟨HF.out.setCell (.inl rfl) _⟩⟩
    · have hi : i = 4 := by have := HI.out; omega
      subst hi
      have hn2 : n / 8 < 8192 := by have := HN.out; omega
      have hc1 := HM.out.c1
      have hcell := HM.out.tag (n / 8) hn2
      have hfr := HM.out.freeT (n / 8)
      have HM1 := Aside0.mk (HM.out.setT (n / 8) hn2 false)
      go_wp2
      go_ret
      exact ⟨rfl, HM1.out, HF.out.setCell (.inr rfl) _⟩
theorem rStore_ok {h gb gt : Nat} {B : Nat → Int} {T : Nat → Bool} (n s : Nat) (v : Int) (w : World) (hM : RMem w h gb gt B T) (hs : s = 1 ∨ s = 2 ∨ s = 4) (hd : (n : Int) % s = 0) (hn : n + s ≤ 65536) (hv : 0 ≤ v ∧ v < 4294967296) :
    Calls Try.prog 31 #[.pointer (some ⟨h, 0, none⟩), .int .u32 n, .int .i64 s, .int .u32 v] w fun e w' => e = .returned (.int .i64 0) ∧ RMem w' h gb gt (stB B n s v) (upT T (n / 8) false) ∧ Fr (fun k => k = gb ∨ k = gt) w w' := by
  rcases hs with rfl | rfl | rfl
  · exact rStore_1 n v w hM hd hn hv
  · exact rStore_2 n v w hM hd hn hv
  · exact rStore_4 n v w hM hd hn hv
end Go.Proofs.Ytiiemfnaegapmaa.Q
