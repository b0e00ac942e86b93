-- What is answered is new memory: Clone, Part, Pad with their room, and Spoil, by hand. Lean checks it.
import Derived.Test.YtkbnagmlmmengaaQ0
import Derived.Test.YtkbnagmlmmengaaQ5
import Derived.Test.YtkbnagmlmmengaaQ6
import Derived.Test.YtkbnagmlmmengaaQ7
import Derived.Test.YtkbnagmlmmengaaQ14
import Derived.Test.YtkbnagmlmmengaaG0
import Derived.Test.YtkbnagmlmmengaaG2
import Derived.Test.YtkbnagmlmmengaaG4
namespace Go.Proofs.Ytkbnagmlmmengaa.Q
open Go.RowKit Go.Proofs.YtkbnagmlmmengaaW.PrintWords Go.Proofs.YtkbnagmlmmengaaW.PrintLast Go.Proofs.YtkbnagmlmmengaaW.PrintMore
attribute [local go_sem] max2_int min2_int max_two min_two max_three min_three max_four min_four   -- for this text's walks alone
set_option linter.unusedVariables false
set_option linter.unusedSimpArgs false

set_option maxHeartbeats 8000000 in
set_option maxRecDepth 100000 in
theorem bytes_Clone.full (A0 : Option Addr) (c0 : Nat) (l0 : List Int) (r : List Int) (w : World) (hr0 : Kd.C (Kd.int .u8) w A0 l0.length l0) (hc0 : l0.length ≤ c0) (h : bytes_Clone.f l0 = some r) :
    Calls Try.prog 45 #[.slice A0 l0.length c0] w fun e w' => ∃ v0_ : Value, e = .returned (v0_) ∧ Kd.R (Kd.int .u8) 5 w' w.heap.size (fun _ => True) v0_ r ∧ Full w' v0_ ∧ Below w.heap.size w w' := by
  unfold bytes_Clone.f at h
  have c2 : l0.length < 140737488355328 := by
    rcases Nat.lt_or_ge l0.length 140737488355328 with g | g
    · exact g
    · rw [if_neg (by omega)] at h; cases h
  rw [if_pos c2] at h
  obtain rfl := Option.some.inj h
  have HR0 := Aside0.mk hr0
  have HC0 := Aside0.mk hc0
  have LM := Aside0.mk c2
  clear hr0 hc0 h c2
  have HB := Aside0.mk (Below.refl w.heap.size w)
  cases A0 with
  | none =>
    have e0 : l0 = [] := by
      have h := HR0.out
      rcases Nat.eq_zero_or_pos l0.length with h0 | h0
      · exact List.eq_nil_of_length_eq_zero h0
      · obtain ⟨ad, h', _⟩ := h.2.2 h0
        cases h'
    have hq := fun (w : World) => Lib.run_eql_slice_nil (P := Try.prog) w 41 5 none l0.length c0 0 0 Try.underlying41
    simp only [Option.isNone_none] at hq
    have E0 := Aside0.mk e0
    clear e0
    go_enter Try.func45, Try.ntmps45
    go_wp2
    go_ret
    exact ⟨_, rfl, by rw [E0.out]; exact Kd.R_nil _ _ _ _ _, Full.nil _, HB.out⟩
  | some ad =>
    have hq := fun (w : World) => Lib.run_eql_slice_nil (P := Try.prog) w 41 5 (some ad) l0.length c0 0 0 Try.underlying41
    simp only [Option.isNone_some] at hq
    go_enter Try.func45, Try.ntmps45
    go_wp2_with (first | ((with_reducible refine gate_builtin (b := .append) (xs := #[.tmp 5, .tmp 6]) rfl ?_); at_builtin; refine F_append_rows (w0 := w) w.heap.size rfl (.tmp 5) (.tmp 6) rfl (.slice (some ⟨w.heap.size, 0, none⟩) 0 0) ([] : List Int) l0 _ _ _ rfl rfl ?aO ?aG ?aR ?aB ?aS ?aL ?_; (case aR => exact Kd.C_alloc HR0.out _); (case aB => exact below_alloc HB.out _); (case aG => exact Full.of_cells (heap_alloc_new w _) (by simp)); (case aO => exact R_lit0 .u8 5 w w.heap.size (Nat.le_refl _)); (case aS => simp); (case aL => have := LM.out; simp; omega); intro v110 w3 ho hf hb; have n0_ := Aside0.mk (hb); have n1_ := Aside0.mk (ho); have HF111 := Aside0.mk hf; clear HB; have HB := n0_; have HO111 := n1_; clear n0_ n1_; clear ho hb hf))
    go_ret
    exact ⟨_, rfl, HO111.out, HF111.out, HB.out⟩

set_option maxHeartbeats 8000000 in
set_option maxRecDepth 100000 in
theorem ends_Part.full (A0 : Option Addr) (c0 : Nat) (l0 : List Int) (a1 : Int) (a2 : Int) (r1 : List Int) (r2 : Int) (w : World) (hr0 : Kd.C (Kd.int .u8) w A0 l0.length l0) (hc0 : l0.length ≤ c0) (h : ends_Part.f l0 a1 a2 = some (r1, r2)) :
    Calls Try.prog 33 #[.slice A0 l0.length c0, .int .i64 a1, .int .i64 a2] w fun e w' => ∃ v0_ : Value, e = .returned (.tuple #[v0_, .int .i64 r2]) ∧ Kd.R (Kd.int .u8) 5 w' w.heap.size (fun _ => True) v0_ r1 ∧ Full w' v0_ ∧ Below w.heap.size w w' := by
  have HR0 := Aside0.mk hr0
  have HC0 := Aside0.mk hc0
  clear hr0 hc0
  have HB := Aside0.mk (Below.refl w.heap.size w)
  unfold ends_Part.f at h
  by_cases c1 : a1 < 0
  · rw [if_pos c1] at h
    simp only [Option.some.injEq, Prod.mk.injEq] at h
    obtain ⟨rfl, rfl⟩ := h
    have c1b : decide (a1 < 0) = true := decide_eq_true c1
    clear c1
    go_enter Try.func33, Try.ntmps33
    go_wp2
    go_ret2
    exact ⟨_, rfl, Kd.R_nil _ _ _ _ _, Full.nil _, HB.out⟩
  rw [if_neg c1] at h
  have c1b : decide (a1 < 0) = false := decide_eq_false c1
  by_cases c2 : a1 > (l0.length : Int)
  · rw [if_pos c2] at h
    simp only [Option.some.injEq, Prod.mk.injEq] at h
    obtain ⟨rfl, rfl⟩ := h
    have c2b : decide ((l0.length : Int) < a1) = true := decide_eq_true c2
    clear c1 c2
    go_enter Try.func33, Try.ntmps33
    go_wp2
    go_ret2
    exact ⟨_, rfl, Kd.R_nil _ _ _ _ _, Full.nil _, HB.out⟩
  rw [if_neg c2] at h
  have c2b : decide ((l0.length : Int) < a1) = false := decide_eq_false c2
  by_cases c3 : a2 < 0
  · rw [if_pos c3] at h
    simp only [Option.some.injEq, Prod.mk.injEq] at h
    obtain ⟨rfl, rfl⟩ := h
    have c3b : decide (a2 < 0) = true := decide_eq_true c3
    clear c1 c2 c3
    go_enter Try.func33, Try.ntmps33
    go_wp2
    go_ret2
    exact ⟨_, rfl, Kd.R_nil _ _ _ _ _, Full.nil _, HB.out⟩
  rw [if_neg c3] at h
  have c3b : decide (a2 < 0) = false := decide_eq_false c3
  have hl : l0.length ≤ 9223372036854775807 := HR0.out.2.1
  have hw : wrap64 ((l0.length : Int) - a1) = (l0.length : Int) - a1 := by unfold wrap64; omega
  by_cases c4 : (l0.length : Int) - a1 < a2
  · rw [if_pos c4] at h
    simp only [Option.some.injEq, Prod.mk.injEq] at h
    obtain ⟨rfl, rfl⟩ := h
    have c4b : decide ((l0.length : Int) - a1 < a2) = true := decide_eq_true c4
    clear c1 c2 c3 c4 hl
    go_enter Try.func33, Try.ntmps33
    go_wp2
    go_ret2
    exact ⟨_, rfl, Kd.R_nil _ _ _ _ _, Full.nil _, HB.out⟩
  rw [if_neg c4] at h
  have c4b : decide ((l0.length : Int) - a1 < a2) = false := decide_eq_false c4
  obtain ⟨q, hq, h⟩ := Option.bind_eq_some_iff.mp h
  simp only [Option.some.injEq, Prod.mk.injEq] at h
  obtain ⟨rfl, rfl⟩ := h
  obtain ⟨i0, hi0, hz0⟩ := Option.map_eq_some_iff.1 info5
  simp only [Prod.mk.injEq] at hz0
  have HQ := Aside0.mk hq
  clear hq
  have hw2 : wrap64 (a1 + a2) = a1 + a2 := by unfold wrap64; omega
  have hcut := cut_three 41 5 Try.underlying41 hi0 hz0.2.1 A0 l0.length c0 a1 (a1 + a2) (by omega) (by omega) (by have := HC0.out; omega)
  have hlen : ((l0.take (a1 + a2).toNat).drop a1.toNat).length = (a1 + a2).toNat - a1.toNat := by rw [List.length_drop, List.length_take]; omega
  have HC := Aside0.mk (Kd.C_drop (k := Kd.int .u8) (w := w) (A := A0) (xs := l0.take (a1 + a2).toNat) (m := a1.toNat) (c := (a1 + a2).toNat) (Kd.C_take HR0.out (by omega)) (by rw [List.length_take]; omega) (by rw [List.length_take]; omega))
  rw [← hlen] at hcut
  have HC2 := HC.out
  clear HC
  have e1 : (Kd.int IntKind.u8).sz = 1 := rfl
  rw [e1] at HC2
  generalize (l0.take (a1 + a2).toNat).drop a1.toNat = L at hcut HC2 HQ
  generalize (if (a1 + a2).toNat = a1.toNat then A0 else Option.map (fun x => x.add (a1.toNat * 1)) A0) = A2 at hcut HC2
  have HC := Aside0.mk HC2
  clear HC2 c1 c2 c3 c4 hl hz0 hi0 i0 hlen h e1
  go_enter Try.func33, Try.ntmps33
  go_wp2_with fail
  refine (bytes_Clone.full A2 L.length L q _ HC.out (Nat.le_refl _) HQ.out).mono ?_
  rintro e w1 ⟨v, rfl, hR, hF, hB⟩
  have HF1 := Aside0.mk hF
  have HR1 := Aside0.mk hR
  have HB1 := Aside0.mk hB
  clear hR hF hB
  go_wp2
  go_ret2
  exact ⟨_, rfl, HR1.out, HF1.out, HB1.out⟩

set_option maxHeartbeats 8000000 in
set_option maxRecDepth 100000 in
theorem ends_Pad.full (A0 : Option Addr) (c0 : Nat) (l0 : List Int) (r : List Int) (w : World) (hr0 : Kd.C (Kd.int .u8) w A0 l0.length l0) (hc0 : l0.length ≤ c0) (h : ends_Pad.f l0 = some r) :
    Calls Try.prog 35 #[.slice A0 l0.length c0] w fun e w' => ∃ v0_ : Value, e = .returned (v0_) ∧ Kd.R (Kd.int .u8) 5 w' w.heap.size (fun _ => True) v0_ r ∧ Full w' v0_ ∧ Below w.heap.size w w' := by
  have HR0 := Aside0.mk hr0
  have HC0 := Aside0.mk hc0
  clear hr0 hc0
  unfold ends_Pad.f at h
  have c2 : l0.length + 8 < 140737488355328 := by
    rcases Nat.lt_or_ge (l0.length + 8) 140737488355328 with g | g
    · exact g
    · rw [if_neg (by omega)] at h; cases h
  rw [if_pos c2] at h
  obtain rfl := Option.some.inj h
  have LM := Aside0.mk c2
  have HQ := Aside0.mk (show bytes_Clone.f l0 = some l0 by unfold bytes_Clone.f; rw [if_pos (by omega)])
  have e1 : Int.tmod (l0.length : Int) 8 = ((l0.length % 8 : Nat) : Int) := by rw [Int.tmod_eq_emod_of_nonneg (by omega)]; omega
  have hm : l0.length % 8 < 8 := Nat.mod_lt _ (by decide)
  obtain ⟨m, hme⟩ : ∃ m, m = l0.length % 8 := ⟨_, rfl⟩
  rw [← hme] at hm e1 ⊢
  have HM := Aside0.mk hme
  clear hme h c2
  have e2 : wrap64 (8 - (m : Int)) = 8 - (m : Int) := by unfold wrap64; omega
  have e3 : Int.tmod (8 - (m : Int)) 8 = (((8 - m) % 8 : Nat) : Int) := by rw [Int.tmod_eq_emod_of_nonneg (by omega)]; omega
  have HB := Aside0.mk (Below.refl w.heap.size w)
  go_enter Try.func35, Try.ntmps35
  go_wp2_with fail
  refine (bytes_Clone.full A0 c0 l0 l0 _ HR0.out HC0.out HQ.out).mono ?_
  rintro e w1 ⟨v, rfl, hR, hF, hB⟩
  have HF1 := Aside0.mk hF
  have HR1 := Aside0.mk hR
  have HB1 := Aside0.mk hB
  clear hR hF hB
  have HQ8 := Aside0.mk (show (8 - m) % 8 < 8 from Nat.mod_lt _ (by decide))
  go_wp2_with (first | ((with_reducible refine gate_builtin (b := .append) (xs := #[.tmp 4, .tmp 9]) rfl ?_); at_builtin; go_loud (refine F_append_zeros (w0 := w) w.heap.size rfl (.tmp 4) (.tmp 9) rfl v l0 ((8 - m) % 8) rfl rfl ?aO ?aG ?aB ?aS ?aL ?_); (case aB => exact HB1.out); (case aG => exact HF1.out); (case aO => exact HR1.out); (case aS => exact below_size HB1.out); (case aL => have := LM.out; have := HQ8.out; omega); intro v2 w2 ho hf hb; have n0_ := Aside0.mk (hb); have n1_ := Aside0.mk (ho); have HF := Aside0.mk hf; clear HB; have HB := n0_; have HO := n1_; clear n0_ n1_; clear ho hb hf))
  go_ret
  exact ⟨_, rfl, HO.out, HF.out, HB.out⟩

set_option maxHeartbeats 8000000 in
set_option maxRecDepth 100000 in
theorem bulwarkref00_Spoil.calls (A : Option Addr) (n c : Nat) (L : List Int) (by_ : Int) (base : Nat) (w : World) (hL : L.length = c) (hr : Kd.R (Kd.int .u8) 5 w base (fun _ => True) (.slice A c c) L) :
    Calls Try.prog 41 #[.slice A n c, .int .u8 by_] w fun e w' => ∃ v, e = .returned v ∧ Below base w w' := by
  obtain ⟨i0, hi0, hz0⟩ := Option.map_eq_some_iff.1 info5
  simp only [Prod.mk.injEq] at hz0
  have hcut := cut_all 41 5 Try.underlying41 hi0 hz0.2.1 A n c (c : Int) (by omega) (by omega)
  rw [Int.toNat_natCast] at hcut
  have HR := Aside0.mk hr
  have HL := Aside0.mk hL
  have HB := Aside0.mk (Below.refl base w)
  have HM := Aside0.mk (show c ≤ 9223372036854775807 by have := (Kd.R_reads' hr).2.2.2.1; simpa [hL] using this)
  clear hr hL hi0 hz0 i0
  go_enter Try.func41, Try.ntmps41
  go_wp2
  clear hcut
  go_loopg [5] (c + 1) (fun kq v5 w' => ∃ (L1 : List Int) (x : Int), v5 = .int .i64 x ∧ Aside0 (0 ≤ x ∧ x ≤ c ∧ x + kq = c + 1 ∧ L1.length = c) ∧ Aside0 (Kd.R (Kd.int .u8) 5 w' base (fun _ => True) (.slice A c c) L1) ∧ Aside0 (Below base w w'))
  case atStart => exact ⟨L, 0, rfl, ⟨by omega, by omega, by omega, HL.out⟩, HR, HB⟩
  case round =>
    clear HR HL HB
    obtain ⟨L1, x, rfl, HX, HO, HB⟩ := hrel
    cases gk with
    | zero => exact absurd HX.out (by omega)
    | succ gk =>
      have hx := HX.out
      by_cases g : x < (c : Int)
      · have c1 : decide (x < (c : Int)) = true := decide_eq_true g
        have HW1 : Aside0 (wrap64 (x + 1) = x + 1) := ⟨by have := HM.out; unfold wrap64; omega⟩
        have hLc : L1.length = c := hx.2.2.2
        subst hLc
        obtain ⟨go1, co1, eo1, gb1, gl1, cl1, HG1⟩ := Kd.R_form HO.out (by omega)
        cases eo1
        obtain ⟨hx0, hf0⟩ := Kd.R_celln 0 HO.out x hx.1 g
        have HP := Kd.R_putg HO.out x (IntKind.u8.wrap (rdOf 0 L1 x + by_))
        have p1 : (0 ≤ x) = True := eq_true hx.1
        have q1 : (x < (L1.length : Int)) = True := eq_true g
        have CX := Aside0.mk g
        have GB := Aside0.mk gb1
        clear hx g gb1 gl1 cl1 HG1
        go_wp2_with (first | ((with_reducible refine gate_store (t := 5) (p := 26) rfl ?_); refine store_event (t := 5) (p := 26) (v := ?vo_w12) (w1 := (wr.setCell ⟨go1, (x : Int).toNat, none⟩ (.int .u8 (IntKind.u8.wrap (rdOf 0 L1 x + by_))))) ?hg ?ho ?hn ?hr ?_; (case ho => rfl); (case hg => rfl); (case hn => rfl); (case hr => first | (go_simp; done) | (go_simp; rfl)); intro w12 hw; have n0_ := Aside0.mk (by rw [hw]; exact HP.1 : Kd.R (Kd.int .u8) 5 w12 base (fun _ => True) (.slice (some ⟨go1, 0, none⟩) L1.length L1.length) (L1.set (x : Int).toNat (IntKind.u8.wrap (rdOf 0 L1 x + by_)))); have n1_ := Aside0.mk (by rw [hw]; exact HB.out.setCell GB.out _ : Below base w w12); clear HO HB HP hw; have HO := n0_; have HB := n1_; clear n0_ n1_))
        go_roundg gk
        case measure => omega
        case rel => exact ⟨_, _, rfl, ⟨by have := HX.out; have := HW1.out; omega, by have := HX.out; have := HW1.out; have := CX.out; omega, by have := HX.out; have := HW1.out; have := CX.out; omega, by rw [List.length_set]⟩, HO, HB⟩
      · have c1 : decide (x < (c : Int)) = false := decide_eq_false g
        clear hx g
        go_wp2
        go_end0
        exact ⟨_, rfl, HB.out⟩
/-! ### bulwarkref00_Copy: function 40 -/
def bulwarkref00_Copy.f (l0 : List Int) : Option (List Int) := if ([] : List Int).length + l0.length < 140737488355328 then (some (([] : List Int) ++ l0)) else (none)
set_option maxHeartbeats 8000000 in
set_option maxRecDepth 100000 in
theorem bulwarkref00_Copy.calls (A0 : Option Addr) (c0 : Nat) (l0 : List Int) (r : List Int) (w : World) (hr0 : Kd.C (Kd.int .u8) w A0 l0.length l0) (hc0 : l0.length ≤ c0) (h : bulwarkref00_Copy.f l0 = some r) :
    Calls Try.prog 40 #[.slice A0 l0.length c0] w fun e w' => ∃ v0_ : Value, e = .returned (v0_) ∧ Kd.R (Kd.int .u8) 5 w' w.heap.size (fun _ => True) v0_ r ∧ Below w.heap.size w w' := by
  have HR0 := Aside0.mk hr0
  have HC0 := Aside0.mk hc0
  clear hr0 hc0
  have HB := Aside0.mk (Below.refl w.heap.size w)
  have H : (if ([] : List Int).length + l0.length < 140737488355328 then (some (([] : List Int) ++ l0)) else (none)) = some r := h
  clear h
  by_cases c2 : ([] : List Int).length + l0.length < 140737488355328
  · rw [if_pos c2] at H
    have LMc2 := Aside0.mk c2
    clear c2
    obtain ⟨y109, hy109⟩ : ∃ y_ : List Int, y_ = (([] : List Int) ++ l0) := ⟨_, rfl⟩
    replace H : (some y109) = some r := by first | (rw [hy109]; with_reducible exact H) | (have H2_ := (Option.bind_some _ _).symm.trans H; rw [hy109]; with_reducible exact H2_) | (have H2_ := (Option.bind_some _ _).symm.trans H; with_reducible exact H2_) | with_reducible exact H | (rw [hy109]; exact H) | exact H
    have Ny109 := Aside0.mk hy109
    clear hy109
    obtain rfl := Option.some.inj H
    go_enter Try.func40, Try.ntmps40
    go_wp2_with (first | ((with_reducible refine gate_builtin (b := .append) (xs := #[.tmp 4, .tmp 5]) rfl ?_); at_builtin; refine Kd.R_append_rows (Kd.int .u8) (w0 := w) w.heap.size rfl (.tmp 4) (.tmp 5) 41 5 (.int .u8 0) 1 rfl Try.underlying41 info5 rfl (by decide) (by omega) (.slice none 0 0) ([] : List Int) l0 _ _ _ (fun _ => True) (fun _ => False) rfl rfl ?aO ?aR (fun _ _ h => h) (fun _ h => h.elim) ?aF ?aB ?aS ?aL ?_; (case aR => repeat (first | exact HR0.out | (with_reducible refine Kd.C_alloc ?_ _) | (with_reducible refine Kd.C_drewN ?_ _) | (with_reducible refine Kd.C_drew ?_))); (case aB => exact (by repeat (first | (with_reducible first | exact HB.out | apply below_alloc | apply pw_below_drewN | apply below_drew1) | exact HB.out))); (case aF => exact (fun _ _ => trivial)); (case aO => exact ((Kd.R_nil _ _ _ _ (fun _ => True)))); (case aS => exact (below_size (by repeat (first | (with_reducible first | exact HB.out | apply below_alloc | apply pw_below_drewN | apply below_drew1) | exact HB.out)))); (case aL => have := LMc2.out; omega); intro v110 w3 ho hb hg hat; rw [← Ny109.out] at ho; have n0_ := Aside0.mk (hb); have n1_ := Aside0.mk (ho); clear HB; have HB := n0_; have HO111 := n1_; clear n0_ n1_; clear ho hb hg hat))
    go_ret
    exact ⟨_, by first | rfl | (simp [errW_none, errW_some] <;> rfl) | (simp [*, errW_none, errW_some] <;> rfl), by (with_reducible repeat (first | apply Kd.R_alloc | apply Kd.R_drewN | apply Kd.R_drew)); exact HO111.out, by repeat (first | (with_reducible first | exact HB.out | apply below_alloc | apply pw_below_drewN | apply below_drew1) | exact HB.out)⟩
  · rw [if_neg c2] at H
    exact absurd H (by simp)

-- NOT PRINTED: function 41 (bulwarkref00_Spoil)

-- NOT PRINTED: function 14 (bulwarklaw01_EndsFresh)


end Go.Proofs.Ytkbnagmlmmengaa.Q
