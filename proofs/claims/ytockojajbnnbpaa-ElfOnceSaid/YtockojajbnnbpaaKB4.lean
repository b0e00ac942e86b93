/- Joined texts (S28, S29, S30, S32, P4, S35, P5, T0, P6, P7, S36, P8, V0, U1, U2, U3, S31, S33, S37, S38, U4, U5, S39): what the law needs of them. Lean checks them. -/
import Derived.Test.YtockojajbnnbpaaKB0
import Derived.Test.YtockojajbnnbpaaKB1
import Derived.Test.YtockojajbnnbpaaKB2
import Derived.Test.YtockojajbnnbpaaKB3
import Derived.Deep.RegionHeld2
import Derived.Shelf.SlSortCmp.KitK
import Derived.Sort.LotA
import Derived.Defers
import Derived.Recover
import Derived.Deep.CutRange
namespace Go.Proofs.Ytockojajbnnbpaa.E
open Go.RowKit Go.Proofs.Ytockojajbnnbpaa.Q Go.Proofs.YtockojajbnnbpaaW.PrintWords Go.Proofs.YtockojajbnnbpaaW.PrintLast Go.Proofs.YtockojajbnnbpaaW.PrintMore
set_option linter.unusedVariables false
set_option linter.unusedSimpArgs false
theorem ixZ_pos (l : List S47) : 0 ≤ ixZ l ↔ ∃ y ∈ l, y.f1 = 2 := by
  unfold ixZ
  cases h : l.findIdx? (fun x => x.f1 == 2) with
  | none =>
    rw [List.findIdx?_eq_none_iff] at h
    constructor
    · intro h0; exact absurd h0 (by decide)
    · rintro ⟨y, hy, he⟩
      have := h y hy
      rw [he] at this
      cases this
  | some k =>
    rw [List.findIdx?_eq_some_iff_getElem] at h
    obtain ⟨hk, he, _⟩ := h
    exact ⟨fun _ => ⟨_, List.getElem_mem hk, by simpa using he⟩, fun _ => Int.natCast_nonneg k⟩
theorem Gr.one {α : Type} {d : Kd α} {e : Nat} (w : World) (n : Int) : Gr d e (Kd.int .i64) 3 w (w.alloc (.cells #[.int .i64 n] 3)) (fun _ => False) (fun k => k = w.heap.size) (.slice none 0 0) (.slice (some ⟨w.heap.size, 0, none⟩) 1 1) [] [n] :=
  ⟨below_alloc (Below.refl _ _) _, Kd.R_nil _ _ _ _ _, R_one (Kd.int .i64) 3 w n [.int .i64 n] rfl, fun _ h => h.elim, fun k hk => ⟨by omega, by rw [hk, alloc_size]; omega⟩, fun _ h => h.elim⟩
def SymsRes (b : List Int) (rows : List S47) (nums : List Int) (w0 : World) (e : Ending) (w' : World) : Prop :=
  match symsR b rows nums with
  | none => e = wrongE 5 ∧ Below w0.heap.size w0 w'
  | some p => ∃ S S2 v v2, e = .returned (.tuple #[v, v2, .int .i64 p.2.2]) ∧ Gr k94 94 (Kd.int .i64) 3 w0 w' S S2 v v2 p.1 p.2.1
theorem SymsRes.no {b : List Int} {rows : List S47} {nums : List Int} {w0 w' : World} (h : symsR b rows nums = none) (hb : Below w0.heap.size w0 w') : SymsRes b rows nums w0 (wrongE 5) w' := by unfold SymsRes; rw [h]; exact ⟨rfl, hb⟩
theorem SymsRes.ok {b : List Int} {rows : List S47} {nums : List Int} {w0 w' : World} {p : List S94 × List Int × Int} {S S2 : Nat → Prop} {v v2 : Value} (h : symsR b rows nums = some p) (hb : Gr k94 94 (Kd.int .i64) 3 w0 w' S S2 v v2 p.1 p.2.1) : SymsRes b rows nums w0 (.returned (.tuple #[v, v2, .int .i64 p.2.2])) w' := by unfold SymsRes; rw [h]; exact ⟨S, S2, v, v2, rfl, hb⟩
theorem bcell {w W : World} {p : Addr} {u : Value} (h : Below w.heap.size w W) (hc : w.cell? p = some u) : W.cell? p = some u := (World.cell?_of_block (h.block _ (World.block_lt_of_cell? _ _ hc))).trans hc
theorem rowS_mem {rows : List S47} {n kind : Int} {x : S47} (h : rowS rows n kind = some x) : x ∈ rows ∧ x.f1 = kind := by
  unfold rowS at h
  cases hh : rows[n.toNat]? with
  | none => rw [hh] at h; cases h
  | some y =>
    rw [hh, Option.bind_some] at h
    by_cases c : y.f1 = kind
    · rw [if_pos c] at h; cases h; exact ⟨List.mem_of_getElem? hh, c⟩
    · rw [if_neg c] at h; cases h
theorem rd_cut (L : List Int) (p k : Nat) (h : p + 16 ≤ L.length) (hk : k < 16) : rd ((L.take (p + 16)).drop p) (k : Int) = rd L ((p + k : Nat) : Int) := by
  unfold rd
  rw [Int.toNat_natCast, Int.toNat_natCast]
  rw [List.getD_eq_getElem?_getD, List.getD_eq_getElem?_getD, List.getElem?_drop, List.getElem?_take, if_pos (by omega)]
theorem cut_len (L : List Int) (p : Nat) (h : p + 16 ≤ L.length) : ((L.take (p + 16)).drop p).length = 16 := by rw [List.length_drop, List.length_take]; omega
theorem symsR_none {b : List Int} {rows : List S47} {nums : List Int} (h : rows.findIdx? (fun x => x.f1 == 2) = none) : symsR b rows nums = some ([], [-1], 0) := by unfold symsR; rw [h]
theorem symsR_two {b : List Int} {rows : List S47} {nums : List Int} {k : Nat} (h : rows.findIdx? (fun x => x.f1 == 2) = some k) (h2 : ∃ y ∈ rows.drop (k + 1), y.f1 = 2) : symsR b rows nums = none := by unfold symsR; rw [h]; exact if_pos h2
theorem symsR_row {b : List Int} {rows : List S47} {nums : List Int} {k : Nat} (h : rows.findIdx? (fun x => x.f1 == 2) = some k) (h3 : rowS rows (rd_T47 rows k).f6 3 = none) : symsR b rows nums = none := by
  unfold symsR; rw [h]
  by_cases h2 : ∃ y ∈ rows.drop (k + 1), y.f1 = 2
  · exact if_pos h2
  · refine (if_neg h2).trans ?_
    rw [h3]; rfl
theorem symsR_is {b : List Int} {rows : List S47} {nums : List Int} {k : Nat} {nm : S47} (h : rows.findIdx? (fun x => x.f1 == 2) = some k) (h2 : ¬ ∃ y ∈ rows.drop (k + 1), y.f1 = 2) (h3 : rowS rows (rd_T47 rows k).f6 3 = some nm) :
    symsR b rows nums = if (partB b (rd_T47 rows k)).length % 16 = 0 ∧ (partB b (rd_T47 rows k)).take 16 = List.replicate 16 0 then
        (foldO (symStepR b nm nums) ⟨[], [-1], 1, false⟩ ((chunks (partB b (rd_T47 rows k)) 16).drop 1)).bind fun s => if (rd_T47 rows k).f7 = s.loc then some (s.l, s.as_, (k : Int)) else none
      else none := by
  unfold symsR; rw [h]
  refine (if_neg h2).trans ?_
  rw [h3]; rfl
set_option maxRecDepth 100000 in
set_option maxHeartbeats 32000000 in
theorem rsymbols_calls {g : Nat} {b : List Int} {rows : List S47} (hb : AllBytes b) (hl : b.length ≤ 65536) (hrl : rows.length ≤ 65536) (hin : ∀ x ∈ rows, RowRg x ∧ RowIn b.length x)
    (nums : List Int) (hnl : nums.length ≤ 65536) (An : Option Addr) (cn : Nat) (w : World) (h : Rd w g b rows) (hN : Kd.C (Kd.int .i64) w An nums.length nums) :
    Calls Try.prog 33 #[.pointer (some ⟨g, 0, none⟩), .slice An nums.length cn] w fun e w' => SymsRes b rows nums w e w' := by
  have hu47 := Try.underlying47
  have hu94 := Try.underlying94
  have HB := Aside0.mk hb
  have HLB := Aside0.mk hl
  have HRL := Aside0.mk hrl
  have HIN := Aside0.mk hin
  have HN := Aside0.mk hN
  have HNL := Aside0.mk hnl
  have HRD := Aside0.mk h
  obtain ⟨A0, c0, Ar, cr, e1, e2, e3, e4, e5⟩ := h.ex
  have HCR := Aside0.mk e4
  have HCC := Aside0.mk e5
  have HBR := Aside0.mk e1
  have HIX := Aside0.mk (ixf_calls 69 is2_calls69 (fun _ _ => rfl) Ar cr rows hrl w e4)
  have hc1 : w.cell? ⟨g, 1, none⟩ = some (.slice Ar rows.length cr) := (blk_cell e1 1).trans rfl
  clear hb hl hrl hin hN hnl h e1 e2 e3 e4 e5
  cases hfi : rows.findIdx? (fun x => x.f1 == 2) with
  | none =>
    have HRS := Aside0.mk (symsR_none (b := b) (nums := nums) hfi)
    have hz : ixZ rows = -1 := by unfold ixZ; rw [hfi]
    rw [hz] at HIX
    clear hz hfi
    go_enter Try.func33, Try.ntmps33
    go_wp2_with fail
    refine HIX.out.mono ?_
    rintro e w2 ⟨rfl, hb2⟩
    have HB2 := Aside0.mk hb2
    clear hb2 hc1
    go_wp2_with fail
    go_ret3
    exact SymsRes.ok HRS.out ((Gr.one w2 (-1)).base HB2.out)
  | some k =>
    have hfi2 := List.findIdx?_eq_some_iff_getElem.1 hfi
    obtain ⟨hkl, hk2, hk3⟩ := hfi2
    clear hk3
    have HFI := Aside0.mk hfi
    have hz : ixZ rows = (k : Int) := by unfold ixZ; rw [hfi]
    rw [hz] at HIX
    have hx := rd47_get rows k hkl
    have hkx : rows[k] = rd_T47 rows (k : Int) := Option.some.inj ((List.getElem?_eq_getElem hkl).symm.trans hx)
    have hx1 : (rd_T47 rows (k : Int)).f1 = 2 := by rw [← hkx]; simpa using hk2
    have hrg := HIN.out _ (List.mem_of_getElem? hx)
    have HKL := Aside0.mk hkl
    have hw := w64s k (by have := HRL.out; omega)
    have p0 : 0 ≤ (k : Int) := by omega
    have p1 : ((k : Int) < 0) = False := eq_false (by omega)
    have p2 : ((k : Int) < (rows.length : Int)) = True := eq_true (by omega)
    have p2n : (k < rows.length) = True := eq_true hkl
    obtain ⟨Ad, hdrop, hCd⟩ := dropR .i64 Ar cr rows (k + 1) (by omega) HCC.out
    have HCD := Aside0.mk hCd
    have hdrop2 : ∀ W : World, (Instr.slice 48 (.slice Ar rows.length cr) (some (.int .i64 ((k : Int) + 1))) none none).run Try.prog W = .ok (.slice Ad (rows.drop (k + 1)).length (cr - (k + 1))) W := hdrop
    clear hdrop
    have HR2 : Aside0 (rowS rows (rd_T47 rows (k : Int)).f6 3 = none → symsR b rows nums = none) := ⟨fun h3 => symsR_row hfi h3⟩
    have HR3 : Aside0 (∀ nm, (¬ ∃ y ∈ rows.drop (k + 1), y.f1 = 2) → rowS rows (rd_T47 rows (k : Int)).f6 3 = some nm → symsR b rows nums = if (partB b (rd_T47 rows (k : Int))).length % 16 = 0 ∧ (partB b (rd_T47 rows (k : Int))).take 16 = List.replicate 16 0 then
        (foldO (symStepR b nm nums) ⟨[], [-1], 1, false⟩ ((chunks (partB b (rd_T47 rows (k : Int))) 16).drop 1)).bind fun s => if (rd_T47 rows (k : Int)).f7 = s.loc then some (s.l, s.as_, (k : Int)) else none
      else none) := ⟨fun nm h2 h3 => symsR_is hfi h2 h3⟩
    have HNXX : Aside0 ((∃ y ∈ rows.drop (k + 1), y.f1 = 2) → symsR b rows nums = none) := ⟨fun h2 => symsR_two hfi h2⟩
    obtain ⟨ad, ea, x0, x1, x2, x3, x4, x5, x6, x7, x8, x9⟩ := at_T47 HCR.out (k : Int) (by omega) (by omega)
    cases ea
    rw [Int.toNat_natCast] at x0 x1 x2 x3 x4 x5 x6 x7 x8 x9
    generalize rd_T47 rows (k : Int) = x at *
    obtain ⟨y0, y1, y2, y3, y4, y5, y6, y7, y8, y9⟩ := x
    simp only at x0 x1 x2 x3 x4 x5 x6 x7 x8 x9 hx1
    subst hx1
    have HRG := Aside0.mk hrg
    have HX : Aside0 (∀ W, Below w.heap.size w W → W.cell? (ad.add (k * 10)) = some (.int .u32 y0) ∧ W.cell? ⟨(ad.add (k * 10)).block, (ad.add (k * 10)).off + 1, none⟩ = some (.int .u32 2) ∧ W.cell? ⟨(ad.add (k * 10)).block, (ad.add (k * 10)).off + 2, none⟩ = some (.int .u32 y2) ∧ W.cell? ⟨(ad.add (k * 10)).block, (ad.add (k * 10)).off + 3, none⟩ = some (.int .u32 y3) ∧ W.cell? ⟨(ad.add (k * 10)).block, (ad.add (k * 10)).off + 4, none⟩ = some (.int .u32 y4) ∧ W.cell? ⟨(ad.add (k * 10)).block, (ad.add (k * 10)).off + 5, none⟩ = some (.int .u32 y5) ∧ W.cell? ⟨(ad.add (k * 10)).block, (ad.add (k * 10)).off + 6, none⟩ = some (.int .u32 y6) ∧ W.cell? ⟨(ad.add (k * 10)).block, (ad.add (k * 10)).off + 7, none⟩ = some (.int .u32 y7) ∧ W.cell? ⟨(ad.add (k * 10)).block, (ad.add (k * 10)).off + 8, none⟩ = some (.int .u32 y8) ∧ W.cell? ⟨(ad.add (k * 10)).block, (ad.add (k * 10)).off + 9, none⟩ = some (.int .u32 y9)) := ⟨fun W hW => ⟨bcell hW x0, bcell hW x1, bcell hW x2, bcell hW x3, bcell hW x4, bcell hW x5, bcell hW x6, bcell hW x7, bcell hW x8, bcell hW x9⟩⟩
    clear hrg hk2 hkx hx hfi hz hkl hCd x0 x1 x2 x3 x4 x5 x6 x7 x8 x9
    go_enter Try.func33, Try.ntmps33
    go_wp2_with fail
    refine HIX.out.mono ?_
    rintro e w2 ⟨rfl, hb2⟩
    obtain ⟨x0, x1, x2, x3, x4, x5, x6, x7, x8, x9⟩ := HX.out _ hb2
    have HB2 := Aside0.mk hb2
    have c2 : w2.cell? ⟨g, 1, none⟩ = some (.slice (some ad) rows.length cr) := (blk_cell (blk_below HBR.out hb2) 1).trans rfl
    have hal := below_alloc (Below.refl w2.heap.size w2) (.cells #[.int .u32 y0, .int .u32 2, .int .u32 y2, .int .u32 y3, .int .u32 y4, .int .u32 y5, .int .u32 y6, .int .u32 y7, .int .u32 y8, .int .u32 y9] 47)
    have HQ3 := Aside0.mk (heap_alloc_new w2 (.cells #[.int .u32 y0, .int .u32 2, .int .u32 y2, .int .u32 y3, .int .u32 y4, .int .u32 y5, .int .u32 y6, .int .u32 y7, .int .u32 y8, .int .u32 y9] 47))
    have HB3 := Aside0.mk (below_step hb2 hal)
    have hct := (ctf_calls Ad (cr - (k + 1)) (rows.drop (k + 1)) (by rw [List.length_drop]; have := HRL.out; omega) _ (Kd.C_below (HCD.out w HCR.out) HB3.out))
    rw [List.length_drop] at hct
    have HCT := Aside0.mk hct
    clear hct
    have c3 : (w2.alloc (.cells #[.int .u32 y0, .int .u32 2, .int .u32 y2, .int .u32 y3, .int .u32 y4, .int .u32 y5, .int .u32 y6, .int .u32 y7, .int .u32 y8, .int .u32 y9] 47)).cell? ⟨g, 1, none⟩ = some (.slice (some ad) rows.length cr) := (blk_cell (blk_below HBR.out HB3.out) 1).trans rfl
    have hlt := HKL.out
    clear hb2 hal HX HIX hc1 hlt
    go_wp2_with fail
    refine HCT.out.mono ?_
    rintro e w4 ⟨rfl, hb4⟩
    have HQ4 := Aside0.mk (blk_below HQ3.out hb4)
    have HB4 := Aside0.mk (below_step HB3.out hb4)
    generalize w2.heap.size = q at *
    clear hb4 c2 c3 HCT HQ3 HB3 HB2 hdrop2 x0 x1 x2 x3 x4 x5 x6 x7 x8 x9 HCD p1 p2 p2n p0
    by_cases cd : ∃ y ∈ rows.drop (k + 1), y.f1 = 2
    · have HNO := Aside0.mk (HNXX.out cd)
      rw [decide_eq_true ((ixZ_pos _).2 cd)]
      clear cd
      go_wp2_with fail
      refine (want_no 5 _).mono ?_
      rintro e w' ⟨rfl, rfl⟩
      exact And.intro rfl (SymsRes.no HNO.out HB4.out)
    · rw [decide_eq_false (fun h => cd ((ixZ_pos _).1 h))]
      have hy6 := HRG.out.1 y6 (by simp [fieldsL])
      obtain ⟨Y6, rfl⟩ := Int.eq_ofNat_of_zero_le hy6.1
      have HY6 : Aside0 (Y6 < 4294967296) := ⟨by have := hy6.2; omega⟩
      have q6 : w4.cell? ⟨q, 6, none⟩ = some (.int .u32 (Y6 : Int)) := (blk_cell HQ4.out 6).trans rfl
      cases hrs : rowS rows (Y6 : Int) 3 with
      | none =>
        have HNO := Aside0.mk (HR2.out hrs)
        have HRO := Aside0.mk (row_no Y6 3 HY6.out hrs (by have := HRL.out; omega) w4 (HRD.out.below HB4.out))
        clear hrs cd hy6
        go_wp2_with fail
        refine (want_yes 5 _).mono ?_
        rintro e w' ⟨rfl, rfl⟩
        go_wp2_with fail
        refine HRO.out.mono ?_
        rintro e w5 ⟨rfl, hb5⟩
        exact And.intro rfl (SymsRes.no HNO.out (below_step HB4.out hb5))
      | some nm =>
        have HIS := Aside0.mk (HR3.out nm cd hrs)
        have HRO := Aside0.mk (row_ok Y6 3 nm HY6.out hrs (by have := HRL.out; omega) w4 (HRD.out.below HB4.out))
        have hnm := rowS_mem hrs
        have HRM := Aside0.mk (HIN.out _ hnm.1)
        have HM3 := Aside0.mk hnm.2
        clear hrs cd hy6 hnm
        obtain ⟨m0, m1, m2, m3, m4, m5, m6, m7, m8, m9⟩ := nm
        simp only at HM3 HRO
        have HNB : Aside0 (0 ≤ m4 ∧ 0 ≤ m5 ∧ m4 + m5 ≤ (b.length : Int)) := ⟨by
          have h4 := HRM.out.1 m4 (by simp [fieldsL])
          have h5 := HRM.out.1 m5 (by simp [fieldsL])
          have h45 : m4 + m5 ≤ (b.length : Int) := by
            rcases HRM.out.2 with h | h | h
            · exact absurd (HM3.out.symm.trans h) (by decide)
            · exact absurd (HM3.out.symm.trans h) (by decide)
            · exact h
          exact ⟨h4.1, h5.1, h45⟩⟩
        go_wp2_with fail
        refine (want_yes 5 _).mono ?_
        rintro e w' ⟨rfl, rfl⟩
        go_wp2_with fail
        refine HRO.out.mono ?_
        rintro e w5 ⟨rfl, hb5⟩
        have HQ5 := Aside0.mk (blk_below HQ4.out hb5)
        have HB5 := Aside0.mk (below_step HB4.out hb5)
        have hal := below_alloc (Below.refl w5.heap.size w5) (.cells #[.int .u32 m0, .int .u32 m1, .int .u32 m2, .int .u32 m3, .int .u32 m4, .int .u32 m5, .int .u32 m6, .int .u32 m7, .int .u32 m8, .int .u32 m9] 47)
        have HN6 := Aside0.mk (heap_alloc_new w5 (.cells #[.int .u32 m0, .int .u32 m1, .int .u32 m2, .int .u32 m3, .int .u32 m4, .int .u32 m5, .int .u32 m6, .int .u32 m7, .int .u32 m8, .int .u32 m9] 47))
        have HB6 := Aside0.mk (below_step HB5.out hal)
        have HQ6 := Aside0.mk (blk_below HQ5.out hal)
        have hq6 := HQ6.out
        have t0 : (w5.alloc (.cells #[.int .u32 m0, .int .u32 m1, .int .u32 m2, .int .u32 m3, .int .u32 m4, .int .u32 m5, .int .u32 m6, .int .u32 m7, .int .u32 m8, .int .u32 m9] 47)).cell? ⟨q, 0, none⟩ = some (.int .u32 y0) := (blk_cell hq6 0).trans rfl
        have t1 : (w5.alloc (.cells #[.int .u32 m0, .int .u32 m1, .int .u32 m2, .int .u32 m3, .int .u32 m4, .int .u32 m5, .int .u32 m6, .int .u32 m7, .int .u32 m8, .int .u32 m9] 47)).cell? ⟨q, 1, none⟩ = some (.int .u32 2) := (blk_cell hq6 1).trans rfl
        have t2 : (w5.alloc (.cells #[.int .u32 m0, .int .u32 m1, .int .u32 m2, .int .u32 m3, .int .u32 m4, .int .u32 m5, .int .u32 m6, .int .u32 m7, .int .u32 m8, .int .u32 m9] 47)).cell? ⟨q, 2, none⟩ = some (.int .u32 y2) := (blk_cell hq6 2).trans rfl
        have t3 : (w5.alloc (.cells #[.int .u32 m0, .int .u32 m1, .int .u32 m2, .int .u32 m3, .int .u32 m4, .int .u32 m5, .int .u32 m6, .int .u32 m7, .int .u32 m8, .int .u32 m9] 47)).cell? ⟨q, 3, none⟩ = some (.int .u32 y3) := (blk_cell hq6 3).trans rfl
        have t4 : (w5.alloc (.cells #[.int .u32 m0, .int .u32 m1, .int .u32 m2, .int .u32 m3, .int .u32 m4, .int .u32 m5, .int .u32 m6, .int .u32 m7, .int .u32 m8, .int .u32 m9] 47)).cell? ⟨q, 4, none⟩ = some (.int .u32 y4) := (blk_cell hq6 4).trans rfl
        have t5 : (w5.alloc (.cells #[.int .u32 m0, .int .u32 m1, .int .u32 m2, .int .u32 m3, .int .u32 m4, .int .u32 m5, .int .u32 m6, .int .u32 m7, .int .u32 m8, .int .u32 m9] 47)).cell? ⟨q, 5, none⟩ = some (.int .u32 y5) := (blk_cell hq6 5).trans rfl
        have t6 : (w5.alloc (.cells #[.int .u32 m0, .int .u32 m1, .int .u32 m2, .int .u32 m3, .int .u32 m4, .int .u32 m5, .int .u32 m6, .int .u32 m7, .int .u32 m8, .int .u32 m9] 47)).cell? ⟨q, 6, none⟩ = some (.int .u32 (Y6 : Int)) := (blk_cell hq6 6).trans rfl
        have t7 : (w5.alloc (.cells #[.int .u32 m0, .int .u32 m1, .int .u32 m2, .int .u32 m3, .int .u32 m4, .int .u32 m5, .int .u32 m6, .int .u32 m7, .int .u32 m8, .int .u32 m9] 47)).cell? ⟨q, 7, none⟩ = some (.int .u32 y7) := (blk_cell hq6 7).trans rfl
        have t8 : (w5.alloc (.cells #[.int .u32 m0, .int .u32 m1, .int .u32 m2, .int .u32 m3, .int .u32 m4, .int .u32 m5, .int .u32 m6, .int .u32 m7, .int .u32 m8, .int .u32 m9] 47)).cell? ⟨q, 8, none⟩ = some (.int .u32 y8) := (blk_cell hq6 8).trans rfl
        have t9 : (w5.alloc (.cells #[.int .u32 m0, .int .u32 m1, .int .u32 m2, .int .u32 m3, .int .u32 m4, .int .u32 m5, .int .u32 m6, .int .u32 m7, .int .u32 m8, .int .u32 m9] 47)).cell? ⟨q, 9, none⟩ = some (.int .u32 y9) := (blk_cell hq6 9).trans rfl
        have hin := HRG.out
        have h4 := hin.1 y4 (by simp [fieldsL])
        have h5 := hin.1 y5 (by simp [fieldsL])
        have h45 : y4 + y5 ≤ (b.length : Int) := by
          rcases hin.2 with h | h | h
          · cases h
          · cases h
          · exact h
        have HRP := Aside0.mk (rpart_calls (by have := HLB.out; omega) ⟨y0, 2, y2, y3, y4, y5, (Y6 : Int), y7, y8, y9⟩ h4.1 h5.1 h45 _ (HRD.out.below HB6.out))
        have HPL : Aside0 ((partB b ⟨y0, 2, y2, y3, y4, y5, (Y6 : Int), y7, y8, y9⟩).length ≤ 65536) := ⟨by have := partB_len b ⟨y0, 2, y2, y3, y4, y5, (Y6 : Int), y7, y8, y9⟩ h4.1 h5.1 h45; have := HLB.out; simp only at *; omega⟩
        have HPB := Aside0.mk (partB_bytes HB.out ⟨y0, 2, y2, y3, y4, y5, (Y6 : Int), y7, y8, y9⟩)
        clear hin h4 h5 h45 hq6 hal hb5 q6 HRO HQ5 HB5 HQ4 HB4
        generalize partB b ⟨y0, 2, y2, y3, y4, y5, (Y6 : Int), y7, y8, y9⟩ = LB at *
        go_wp2_with fail
        refine HRP.out.mono ?_
        rintro e w7 ⟨A7, c7, rfl, hC7, hc7, hb7⟩
        have HQ7 := Aside0.mk (blk_below HQ6.out hb7)
        have HN7 := Aside0.mk (blk_below HN6.out hb7)
        have HB7 := Aside0.mk (below_step HB6.out hb7)
        have HC7 := Aside0.mk hC7
        have HL7 := Aside0.mk hc7
        have HZC := Aside0.mk (Zero_calls A7 c7 LB HPL.out w7 hC7 hc7)
        clear hb7 hC7 hc7 t0 t1 t2 t3 t4 t5 t6 t7 t8 t9 HRP HQ6 HN6 HB6
        generalize w5.heap.size = r at *
        have hrem : Int.tmod (LB.length : Int) 16 = ((LB.length % 16 : Nat) : Int) := rfl
        by_cases cm : LB.length % 16 = 0
        · by_cases cz : LB.take 16 = List.replicate 16 0
          · have hd : decide (LB.take 16 = List.replicate 16 0) = true := decide_eq_true cz
            rw [hd] at HZC
            have HIS2 : Aside0 (symsR b rows nums = (foldO (symStepR b ⟨m0, m1, m2, m3, m4, m5, m6, m7, m8, m9⟩ nums) ⟨[], [-1], 1, false⟩ ((chunks LB 16).drop 1)).bind fun s => if y7 = s.loc then some (s.l, s.as_, (k : Int)) else none) := ⟨by rw [HIS.out, if_pos ⟨cm, cz⟩]⟩
            have HCA : Aside0 (∀ i, 16 * (i + 1) < LB.length → ((chunks LB 16).drop 1)[i]? = some ((LB.take (16 * (i + 1) + 16)).drop (16 * (i + 1)))) := ⟨fun i h => chunk_at LB i h cm⟩
            have HCN : Aside0 (∀ i, ¬ 16 * (i + 1) < LB.length → i ≤ ((chunks LB 16).drop 1).length → i = ((chunks LB 16).drop 1).length) := ⟨fun i h h2 => chunk_n LB i cm h h2⟩
            have HCL : Aside0 (∀ i, 16 * (i + 1) < LB.length → i < ((chunks LB 16).drop 1).length) := ⟨fun i h => chunk_lt LB i cm h⟩
            have HCM := Aside0.mk (chunk_max LB HPL.out)
            have HCMM := Aside0.mk cm
            go_wp2_with fail
            refine HZC.out.mono ?_
            rintro e w8 ⟨rfl, hb8⟩
            have HQ8 := Aside0.mk (blk_below HQ7.out hb8)
            have HN8 := Aside0.mk (blk_below HN7.out hb8)
            have HB8 := Aside0.mk (below_step HB7.out hb8)
            have HC8 := Aside0.mk (Kd.C_below HC7.out hb8)
            clear hb8 HQ7 HN7 HB7 HC7 HZC hd cz cm hrem HIS HR2 HR3 HNXX
            go_wp2_with fail
            refine (want_yes 5 _).mono ?_
            rintro e w' ⟨rfl, rfl⟩
            have HG0 := Aside0.mk (Gr.one (d := k94) (e := 94) w8 (-1))
            generalize (chunks LB 16).drop 1 = CS at *
            have HF0 : Aside0 (foldO (symStepR b ⟨m0, m1, m2, m3, m4, m5, m6, m7, m8, m9⟩ nums) ⟨[], [-1], 1, false⟩ (CS.take 0) = some ⟨[], [-1], 1, false⟩) := ⟨rfl⟩
            go_wp2_with fail
            go_loopg [4, 5, 10, 11, 12] (CS.length + 1) (fun kq v4 v5 v10 v11 v12 w' => ∃ (i : Nat) (sl : List S94) (sa : List Int) (lo : Int) (so : Bool), v10 = .int .u32 lo ∧ v11 = .bool so ∧ v12 = .int .i64 ((16 * (i + 1) : Nat) : Int) ∧ Aside0 (i + kq = CS.length + 1) ∧ Aside0 (i ≤ CS.length) ∧ Aside0 (foldO (symStepR b ⟨m0, m1, m2, m3, m4, m5, m6, m7, m8, m9⟩ nums) ⟨[], [-1], 1, false⟩ (CS.take i) = some ⟨sl, sa, lo, so⟩) ∧ Aside0 (sa.length = i + 1) ∧ Aside0 (sl.length ≤ i) ∧ Aside0 (1 ≤ lo ∧ lo ≤ i + 1) ∧ Aside0 (∃ S S2, Gr k94 94 (Kd.int .i64) 3 w8 w' S S2 v4 v5 sl sa))
            case atStart => exact ⟨0, [], [-1], 1, false, rfl, rfl, rfl, ⟨by omega⟩, ⟨by omega⟩, HF0, ⟨rfl⟩, ⟨Nat.le_refl _⟩, ⟨⟨by decide, by decide⟩⟩, ⟨⟨_, _, HG0.out⟩⟩⟩
            case round =>
              clear HG0 HF0
              obtain ⟨i, sl, sa, lo, so, rfl, rfl, rfl, HK, HI, HF, HSA, HSL, HLO, HG⟩ := hrel
              by_cases ci : 16 * (i + 1) < LB.length
              · cases gk with
                | zero => exact absurd HK.out (by have := HCL.out i ci; omega)
                | succ gq =>
                  obtain ⟨S, S2, hg⟩ := HG.out
                  have HI2 := Aside0.mk (HCL.out i ci)
                  have hcs := HCA.out i ci
                  have hst := foldO_take HF.out hcs
                  have hp16 : 16 * (i + 1) + 16 ≤ LB.length := by have := HCMM.out; omega
                  have hpn : 16 * (i + 1 + 1) = 16 * (i + 1) + 16 := by omega
                  have HPN := Aside0.mk hpn
                  generalize 16 * (i + 1) = p at *
                  have hpl := HPL.out
                  have p1 : ((p : Int) < (LB.length : Int)) = True := eq_true (by omega)
                  have hw12 : wrap64 ((p : Int) + 12) = (p : Int) + 12 := by unfold wrap64; omega
                  have hw16 : wrap64 ((p : Int) + 16) = (p : Int) + 16 := by unfold wrap64; omega
                  have i1 : 0 ≤ (p : Int) + 12 := by omega
                  have hwi16 : IntKind.i64.wrap ((p : Int) + 16) = (p : Int) + 16 := by rw [IntKind.wrap_i64]; omega
                  have i2 : ((p : Int) + 12 < (LB.length : Int)) = True := eq_true (by omega)
                  have i3 : (p + 12 < LB.length) = True := eq_true (by omega)
                  have i4 : ((p : Int) + 12).toNat = p + 12 := by omega
                  obtain ⟨a7, ea, x12⟩ := Kd.at_int (Kd.C_below HC8.out hg.bl) ((p : Int) + 12) (by omega) (by omega)
                  cases ea
                  rw [i4] at x12
                  have he := cut_len LB p hp16
                  have hr12 := rd_cut LB p 12 hp16 (by decide)
                  have HEB : Aside0 (AllBytes ((LB.take (p + 16)).drop p)) := ⟨fun y hy => HPB.out y (List.mem_of_mem_take (List.mem_of_mem_drop hy))⟩
                  have hXr : 0 ≤ rd ((LB.take (p + 16)).drop p) 12 ∧ rd ((LB.take (p + 16)).drop p) 12 ≤ 255 := HEB.out _ (rd_mem _ 12 (by rw [he]; decide))
                  rw [show rd LB ((p : Int) + 12) = rd ((LB.take (p + 16)).drop p) 12 from hr12.symm] at x12
                  have HE16 := Aside0.mk he
                  have HST := Aside0.mk hst
                  have hand15 := and15 _ hXr
                  have HX0 : Aside0 (0 ≤ rd ((LB.take (p + 16)).drop p) 12 / 16 ∧ rd ((LB.take (p + 16)).drop p) 12 / 16 ≤ 15) := ⟨by omega⟩
                  have HP16 := Aside0.mk hp16
                  clear hp16 hpn hpl hcs hst he hr12 hXr ci HG
                  have HG2 := Aside0.mk hg
                  clear hg
                  obtain ⟨A4, c4, rfl⟩ := Kd.R_slice HG2.out.r
                  obtain ⟨A5, c5, rfl⟩ := Kd.R_slice HG2.out.r2
                  obtain ⟨AE, hmid, hCE, hcE⟩ := midB .i64 .i64 (some a7) c7 LB p (p + 16) (by omega) HP16.out HL7.out
                  have hmid2 : ∀ W : World, (Instr.slice 27 (.slice (some a7) LB.length c7) (some (.int .i64 (p : Int))) (some (.int .i64 ((p : Int) + 16))) none).run Try.prog W = .ok (.slice AE ((LB.take (p + 16)).drop p).length (c7 - p)) W := hmid
                  have HCE := Aside0.mk hCE
                  have HCEL : Aside0 (((LB.take (p + 16)).drop p).length ≤ c7 - p) := ⟨by rw [HE16.out]; have := HL7.out; have := HP16.out; omega⟩
                  clear hmid hCE hcE
                  generalize hE : (LB.take (p + 16)).drop p = E at *
                  have HE := Aside0.mk hE
                  clear hE
                  obtain ⟨B, hB⟩ : ∃ B, B = rd E 12 / 16 := ⟨_, rfl⟩
                  obtain ⟨Kd_, hKd⟩ : ∃ K, K = rd E 12 % 16 := ⟨_, rfl⟩
                  rw [← hB] at HX0
                  have hdiv := hB.symm
                  rw [← hKd] at hand15
                  have HBE := Aside0.mk hB
                  have HKE := Aside0.mk hKd
                  clear hB hKd
                  generalize rd E 12 = X at x12 hdiv hand15
                  have x12b : wr.cell? ⟨a7.block, a7.off + (p + 11 + 1), none⟩ = some (.int .u8 X) := by have h := x12; unfold Addr.add at h; rw [if_neg (by omega)] at h; exact h
                  clear x12
                  by_cases cB : B ≤ 2
                  · have dB : decide (B ≤ 2) = true := decide_eq_true cB
                    have dB2 : (B ≤ 2) = True := eq_true cB
                    by_cases c0 : 0 < B
                    · have d0 : decide (0 < B) = true := decide_eq_true c0
                      have d1 : (0 < B) = True := eq_true c0
                      have hne : ¬ B = 0 := by omega
                      have d2 : (B == 0) = false := by simpa using hne
                      by_cases cK : Kd_ = 4
                      · have k4 : (Kd_ == 4) = true := by simpa using cK
                        have HF2 : Aside0 (foldO (symStepR b ⟨m0, m1, m2, m3, m4, m5, m6, m7, m8, m9⟩ nums) ⟨[], [-1], 1, false⟩ (CS.take (i + 1)) = some ⟨sl, sa ++ [-2], lo, true⟩) := ⟨by rw [HST.out]; unfold symStepR; rw [← HBE.out, ← HKE.out, if_pos ⟨cB, Or.inl c0⟩, if_pos cK]; first | rfl | simp [d0, hne]⟩
                        clear cK
                        go_wp2_with fail
                        refine (want_yes 5 _).mono ?_
                        rintro e w' ⟨rfl, rfl⟩
                        go_wp2_with (first | ((with_reducible refine gate_builtin (b := .append) (xs := #[.tmp 92, .tmp 93]) rfl ?_); at_builtin; refine ev_one (Kd.int .i64) rfl (.tmp 92) (.tmp 93) 71 3 (.int .i64 0) 8 rfl Try.underlying71 info3 rfl (by decide) (by decide) (.slice A5 sa.length c5) sa (-2) [.int .i64 (-2)] S2 rfl rfl rfl HG2.out.r2 (by have := HSA.out; have := HI2.out; have := HCM.out; omega) ?_; intro L1 A6 c6 w6 hL1 hr1 hg1; have HM := Aside0.mk (HG2.out.set2 hr1 hg1); clear hr1 hg1))
                        go_roundg gq
                        case measure => omega
                        case rel => exact ⟨i + 1, sl, L1, lo, true, by first | rfl | (simp; done) | (simp [d0, hne]; done), by first | rfl | (simp; done) | (simp [d0, hne]; done), by rw [HPN.out]; first | rfl | (simp; done) | (simp [hw16]; done), ⟨by have := HK.out; omega⟩, ⟨HI2.out⟩, ⟨by rw [hL1.out]; exact HF2.out⟩, ⟨by rw [hL1.out, List.length_append, HSA.out]; rfl⟩, ⟨by have := HSL.out; omega⟩, ⟨by have := HLO.out; omega⟩, ⟨⟨_, _, HM.out.1⟩⟩⟩
                      · have k4 : (Kd_ == 4) = false := by simpa using cK
                        have HST2 : Aside0 (foldO (symStepR b ⟨m0, m1, m2, m3, m4, m5, m6, m7, m8, m9⟩ nums) ⟨[], [-1], 1, false⟩ (CS.take (i + 1)) = (symR b ⟨m0, m1, m2, m3, m4, m5, m6, m7, m8, m9⟩ nums E).bind fun y => some ⟨sl ++ [y], sa ++ [(sl.length : Int)], lo, true⟩) := ⟨by rw [HST.out]; unfold symStepR; rw [← HBE.out, ← HKE.out, if_pos ⟨cB, Or.inl c0⟩, if_neg cK]; first | rfl | simp [d0, hne]⟩
                        clear cK
                        go_wp2_with fail
                        refine (want_yes 5 _).mono ?_
                        rintro e w' ⟨rfl, rfl⟩
                        go_wp2_with (first | ((with_reducible refine gate_builtin (b := .append) (xs := #[.tmp 95, .tmp 98]) rfl ?_); at_builtin; refine ev_one (Kd.int .i64) rfl (.tmp 95) (.tmp 98) 71 3 (.int .i64 0) 8 rfl Try.underlying71 info3 rfl (by decide) (by decide) (.slice A5 sa.length c5) sa (sl.length : Int) [.int .i64 (sl.length : Int)] S2 rfl rfl rfl HG2.out.r2 (by have := HSA.out; have := HI2.out; have := HCM.out; omega) ?_; intro L1 A6 c6 w6 hL1 hr1 hg1; have HM := Aside0.mk (HG2.out.set2 hr1 hg1); clear hr1 hg1))
                        have HM1 := Aside0.mk HM.out.1
                        have HN6 := Aside0.mk (blk_below HN8.out HM1.out.bl)
                        have HSC : Aside0 (∀ W : World, W.heap[r]? = some (.cells #[.int .u32 m0, .int .u32 m1, .int .u32 m2, .int .u32 m3, .int .u32 m4, .int .u32 m5, .int .u32 m6, .int .u32 m7, .int .u32 m8, .int .u32 m9] 47 (0, 0)) → W.cell? ⟨r, 0, none⟩ = some (.int .u32 m0) ∧ W.cell? ⟨r, 1, none⟩ = some (.int .u32 m1) ∧ W.cell? ⟨r, 2, none⟩ = some (.int .u32 m2) ∧ W.cell? ⟨r, 3, none⟩ = some (.int .u32 m3) ∧ W.cell? ⟨r, 4, none⟩ = some (.int .u32 m4) ∧ W.cell? ⟨r, 5, none⟩ = some (.int .u32 m5) ∧ W.cell? ⟨r, 6, none⟩ = some (.int .u32 m6) ∧ W.cell? ⟨r, 7, none⟩ = some (.int .u32 m7) ∧ W.cell? ⟨r, 8, none⟩ = some (.int .u32 m8) ∧ W.cell? ⟨r, 9, none⟩ = some (.int .u32 m9)) := ⟨fun W g6 => ⟨(blk_cell g6 0).trans rfl, (blk_cell g6 1).trans rfl, (blk_cell g6 2).trans rfl, (blk_cell g6 3).trans rfl, (blk_cell g6 4).trans rfl, (blk_cell g6 5).trans rfl, (blk_cell g6 6).trans rfl, (blk_cell g6 7).trans rfl, (blk_cell g6 8).trans rfl, (blk_cell g6 9).trans rfl⟩⟩
                        have HNS : Aside0 (¬ S r) := ⟨fun h => absurd (HG2.out.q r h).1 (Nat.not_le.2 (blk_lt HN8.out))⟩
                        have HSYC : Aside0 (∀ W, Below w6.heap.size w6 W → Calls Try.prog 73 #[.pointer (some ⟨g, 0, none⟩), .slice AE E.length (c7 - p), .agg #[.int .u32 m0, .int .u32 m1, .int .u32 m2, .int .u32 m3, .int .u32 m4, .int .u32 m5, .int .u32 m6, .int .u32 m7, .int .u32 m8, .int .u32 m9], .slice An nums.length cn] W fun en w' => SymR b ⟨m0, m1, m2, m3, m4, m5, m6, m7, m8, m9⟩ nums E en ∧ Below W.heap.size W w') := ⟨fun W hW => by
                          have hbw := below_step HB8.out (below_step HM1.out.bl hW)
                          exact rsymbol_calls HB.out HLB.out ⟨m0, m1, m2, m3, m4, m5, m6, m7, m8, m9⟩ HNB.out.1 HNB.out.2.1 HNB.out.2.2 nums HNL.out E HEB.out HE16.out AE (c7 - p) An cn W (HRD.out.below hbw) (HCE.out W (Kd.C_below HC8.out (below_step HM1.out.bl hW))) HCEL.out (Kd.C_below HN.out hbw)⟩
                        clear HM
                        cases hsr : symR b ⟨m0, m1, m2, m3, m4, m5, m6, m7, m8, m9⟩ nums E with
                        | none =>
                          have HNO : Aside0 (symsR b rows nums = none) := ⟨by rw [HIS2.out]; have h := HST2.out; rw [hsr] at h; rw [foldO_dead h]; rfl⟩
                          have HSYN : Aside0 (∀ W, Below w6.heap.size w6 W → Calls Try.prog 73 #[.pointer (some ⟨g, 0, none⟩), .slice AE E.length (c7 - p), .agg #[.int .u32 m0, .int .u32 m1, .int .u32 m2, .int .u32 m3, .int .u32 m4, .int .u32 m5, .int .u32 m6, .int .u32 m7, .int .u32 m8, .int .u32 m9], .slice An nums.length cn] W fun en w' => en = wrongE 5 ∧ Below W.heap.size W w') := ⟨fun W hW => (HSYC.out W hW).mono (fun en w' hh => ⟨by have h1 := hh.1; unfold SymR at h1; rw [hsr] at h1; exact h1, hh.2⟩)⟩
                          clear hsr HSYC HST2
                          have hBD := (Below.refl w6.heap.size w6).drew
                          refine wp_region_held_drew (S := fun W => W.heap[r]? = some (.cells #[.int .u32 m0, .int .u32 m1, .int .u32 m2, .int .u32 m3, .int .u32 m4, .int .u32 m5, .int .u32 m6, .int .u32 m7, .int .u32 m8, .int .u32 m9] 47 (0, 0))) (by kernel_rfl) ?_ (fun hHeld => ?_)
                          · exact blk_below HN6.out hBD
                          refine wpAnyH_take (i := 0) (v := ?_) rfl (by kernel_rfl) (by kernel_rfl) (by kernel_rfl) (fun _ _ _ h => h) (Or.inl ⟨by rfl, ?_⟩) (by assumption) ?_
                          rotate_left
                          · (intro w hSw; go_simp; (try with_reducible rfl))
                          simp only [Act.put, List.setIfInBounds_toArray, List.set_cons_zero, List.set_cons_succ]
                          refine wpAnyH_take (i := 1) (v := ?_) rfl (by kernel_rfl) (by kernel_rfl) (by kernel_rfl) (fun _ _ _ h => h) (Or.inl ⟨by rfl, ?_⟩) (by assumption) ?_
                          rotate_left
                          · (intro w hSw; go_simp; (try with_reducible rfl))
                          simp only [Act.put, List.setIfInBounds_toArray, List.set_cons_zero, List.set_cons_succ]
                          refine wpAnyH_take (i := 2) (v := ?_) rfl (by kernel_rfl) (by kernel_rfl) (by kernel_rfl) (fun _ _ _ h => h) (Or.inl ⟨by rfl, ?_⟩) (by assumption) ?_
                          rotate_left
                          · (intro w hSw; go_simp; (try with_reducible rfl))
                          simp only [Act.put, List.setIfInBounds_toArray, List.set_cons_zero, List.set_cons_succ]
                          refine wpAnyH_take (i := 3) (v := ?_) rfl (by kernel_rfl) (by kernel_rfl) (by kernel_rfl) (fun _ _ _ h => h) (Or.inl ⟨by rfl, ?_⟩) (by assumption) ?_
                          rotate_left
                          · (intro w hSw; go_simp; (try with_reducible rfl))
                          simp only [Act.put, List.setIfInBounds_toArray, List.set_cons_zero, List.set_cons_succ]
                          refine wpAnyH_take (i := 4) (v := ?_) rfl (by kernel_rfl) (by kernel_rfl) (by kernel_rfl) (fun _ _ _ h => h) (Or.inl ⟨by rfl, ?_⟩) (by assumption) ?_
                          rotate_left
                          · (intro w hSw; go_simp; (try with_reducible rfl))
                          simp only [Act.put, List.setIfInBounds_toArray, List.set_cons_zero, List.set_cons_succ]
                          refine wpAnyH_take (i := 5) (v := .int .i64 ((p : Int) + 16)) rfl (by kernel_rfl) (by kernel_rfl) (by kernel_rfl) (fun _ _ _ h => h) (Or.inl ⟨by rfl, ?_⟩) (by assumption) ?_
                          · (intro w hSw; go_simp; (try with_reducible rfl))
                          simp only [Act.put, List.setIfInBounds_toArray, List.set_cons_zero, List.set_cons_succ]
                          refine wpAnyH_take (i := 6) (v := ?_) rfl (by kernel_rfl) (by kernel_rfl) (by kernel_rfl) (fun _ _ _ h => h) (Or.inl ⟨by rfl, ?_⟩) (by assumption) ?_
                          rotate_left
                          · (intro w hSw; go_simp; (try with_reducible rfl))
                          simp only [Act.put, List.setIfInBounds_toArray, List.set_cons_zero, List.set_cons_succ]
                          refine wpAnyH_take (i := 7) (v := ?_) rfl (by kernel_rfl) (by kernel_rfl) (by kernel_rfl) (fun _ _ _ h => h) (Or.inl ⟨by rfl, ?_⟩) (by assumption) ?_
                          rotate_left
                          · (intro w hSw; replace hSw := HSC.out w hSw; go_simp; (try with_reducible rfl))
                          simp only [Act.put, List.setIfInBounds_toArray, List.set_cons_zero, List.set_cons_succ]
                          refine wpAnyH_take (i := 8) (v := ?_) rfl (by kernel_rfl) (by kernel_rfl) (by kernel_rfl) (fun _ _ _ h => h) (Or.inl ⟨by rfl, ?_⟩) (by assumption) ?_
                          rotate_left
                          · (intro w hSw; go_simp; (try with_reducible rfl))
                          simp only [Act.put, List.setIfInBounds_toArray, List.set_cons_zero, List.set_cons_succ]
                          refine wpAnyH_ready (rs := [9]) (by kernel_rfl) (by simp) ?_
                          refine AllReadyH.cons rfl (fun K hK => ?_) AllReadyH.nil
                          go_simp
                          refine (HSYN.out _ hBD).mono ?_
                          rintro e w7 ⟨rfl, hb7⟩
                          exact And.intro rfl (SymsRes.no HNO.out (below_step HB8.out (below_step HM1.out.bl (below_step hBD hb7))))
                        | some y =>
                          have HST3 : Aside0 (foldO (symStepR b ⟨m0, m1, m2, m3, m4, m5, m6, m7, m8, m9⟩ nums) ⟨[], [-1], 1, false⟩ (CS.take (i + 1)) = some ⟨sl ++ [y], sa ++ [(sl.length : Int)], lo, true⟩) := ⟨by have h := HST2.out; rw [hsr] at h; exact h⟩
                          have HSYY : Aside0 (∀ W, Below w6.heap.size w6 W → Calls Try.prog 73 #[.pointer (some ⟨g, 0, none⟩), .slice AE E.length (c7 - p), .agg #[.int .u32 m0, .int .u32 m1, .int .u32 m2, .int .u32 m3, .int .u32 m4, .int .u32 m5, .int .u32 m6, .int .u32 m7, .int .u32 m8, .int .u32 m9], .slice An nums.length cn] W fun en w' => en = .returned (.agg #[.string y.f0, .int .u32 y.f1, .int .u32 y.f2, .int .u8 y.f3, .int .u8 y.f4, .bool y.f5, .int .i64 y.f6]) ∧ Below W.heap.size W w') := ⟨fun W hW => (HSYC.out W hW).mono (fun en w' hh => ⟨by have h1 := hh.1; unfold SymR at h1; rw [hsr] at h1; exact h1, hh.2⟩)⟩
                          clear hsr HSYC HST2
                          have hBD := (Below.refl w6.heap.size w6).drew
                          refine wp_region_held_drew (S := fun W => W.heap[r]? = some (.cells #[.int .u32 m0, .int .u32 m1, .int .u32 m2, .int .u32 m3, .int .u32 m4, .int .u32 m5, .int .u32 m6, .int .u32 m7, .int .u32 m8, .int .u32 m9] 47 (0, 0))) (by kernel_rfl) ?_ (fun hHeld => ?_)
                          · exact blk_below HN6.out hBD
                          refine wpAnyH_take (i := 0) (v := ?_) rfl (by kernel_rfl) (by kernel_rfl) (by kernel_rfl) (fun _ _ _ h => h) (Or.inl ⟨by rfl, ?_⟩) (by assumption) ?_
                          rotate_left
                          · (intro w hSw; go_simp; (try with_reducible rfl))
                          simp only [Act.put, List.setIfInBounds_toArray, List.set_cons_zero, List.set_cons_succ]
                          refine wpAnyH_take (i := 1) (v := ?_) rfl (by kernel_rfl) (by kernel_rfl) (by kernel_rfl) (fun _ _ _ h => h) (Or.inl ⟨by rfl, ?_⟩) (by assumption) ?_
                          rotate_left
                          · (intro w hSw; go_simp; (try with_reducible rfl))
                          simp only [Act.put, List.setIfInBounds_toArray, List.set_cons_zero, List.set_cons_succ]
                          refine wpAnyH_take (i := 2) (v := ?_) rfl (by kernel_rfl) (by kernel_rfl) (by kernel_rfl) (fun _ _ _ h => h) (Or.inl ⟨by rfl, ?_⟩) (by assumption) ?_
                          rotate_left
                          · (intro w hSw; go_simp; (try with_reducible rfl))
                          simp only [Act.put, List.setIfInBounds_toArray, List.set_cons_zero, List.set_cons_succ]
                          refine wpAnyH_take (i := 3) (v := ?_) rfl (by kernel_rfl) (by kernel_rfl) (by kernel_rfl) (fun _ _ _ h => h) (Or.inl ⟨by rfl, ?_⟩) (by assumption) ?_
                          rotate_left
                          · (intro w hSw; go_simp; (try with_reducible rfl))
                          simp only [Act.put, List.setIfInBounds_toArray, List.set_cons_zero, List.set_cons_succ]
                          refine wpAnyH_take (i := 4) (v := ?_) rfl (by kernel_rfl) (by kernel_rfl) (by kernel_rfl) (fun _ _ _ h => h) (Or.inl ⟨by rfl, ?_⟩) (by assumption) ?_
                          rotate_left
                          · (intro w hSw; go_simp; (try with_reducible rfl))
                          simp only [Act.put, List.setIfInBounds_toArray, List.set_cons_zero, List.set_cons_succ]
                          refine wpAnyH_take (i := 5) (v := .int .i64 ((p : Int) + 16)) rfl (by kernel_rfl) (by kernel_rfl) (by kernel_rfl) (fun _ _ _ h => h) (Or.inl ⟨by rfl, ?_⟩) (by assumption) ?_
                          · (intro w hSw; go_simp; (try with_reducible rfl))
                          simp only [Act.put, List.setIfInBounds_toArray, List.set_cons_zero, List.set_cons_succ]
                          refine wpAnyH_take (i := 6) (v := ?_) rfl (by kernel_rfl) (by kernel_rfl) (by kernel_rfl) (fun _ _ _ h => h) (Or.inl ⟨by rfl, ?_⟩) (by assumption) ?_
                          rotate_left
                          · (intro w hSw; go_simp; (try with_reducible rfl))
                          simp only [Act.put, List.setIfInBounds_toArray, List.set_cons_zero, List.set_cons_succ]
                          refine wpAnyH_take (i := 7) (v := ?_) rfl (by kernel_rfl) (by kernel_rfl) (by kernel_rfl) (fun _ _ _ h => h) (Or.inl ⟨by rfl, ?_⟩) (by assumption) ?_
                          rotate_left
                          · (intro w hSw; replace hSw := HSC.out w hSw; go_simp; (try with_reducible rfl))
                          simp only [Act.put, List.setIfInBounds_toArray, List.set_cons_zero, List.set_cons_succ]
                          refine wpAnyH_take (i := 8) (v := ?_) rfl (by kernel_rfl) (by kernel_rfl) (by kernel_rfl) (fun _ _ _ h => h) (Or.inl ⟨by rfl, ?_⟩) (by assumption) ?_
                          rotate_left
                          · (intro w hSw; go_simp; (try with_reducible rfl))
                          simp only [Act.put, List.setIfInBounds_toArray, List.set_cons_zero, List.set_cons_succ]
                          refine wpAnyH_ready (rs := [9]) (by kernel_rfl) (by simp) ?_
                          refine AllReadyH.cons rfl (fun K hK => ?_) AllReadyH.nil
                          go_simp
                          refine (HSYY.out _ hBD).mono ?_
                          rintro e w7 ⟨rfl, hb7⟩
                          have hb67 := below_step hBD hb7
                          refine hK.out _ _ (blk_below HN6.out hb67) (fun hHeld2 => ?_)
                          clear hK K hHeld
                          try simp only [Act.put, List.setIfInBounds_toArray, List.set_cons_zero, List.set_cons_succ]
                          refine wpAnyH_ready (rs := [10]) (by kernel_rfl) (by simp) ?_
                          refine AllReadyH.cons rfl (fun K hK => ?_) AllReadyH.nil
                          go_simp
                          refine hK.out _ _ (blk_below HN6.out (below_alloc hb67 _)) (fun hHeld3 => ?_)
                          clear hK K
                          try simp only [Act.put, List.setIfInBounds_toArray, List.set_cons_zero, List.set_cons_succ]
                          have HG7 := Aside0.mk (HM1.out.below hb67)
                          refine wpAnyH_ready (rs := [11]) (by kernel_rfl) (by simp) ?_
                          refine AllReadyH.cons rfl (fun K hK => ?_) AllReadyH.nil
                          refine ev_one_step (W := w7) k94 (by rfl) (.tmp 100) (.tmp 110) 23 94 _ 40 rfl Try.underlying23 info94 rfl (by decide) (by decide) (.slice A4 sl.length c4) sl y [.string y.f0, .int .u32 y.f1, .int .u32 y.f2, .int .u8 y.f3, .int .u8 y.f4, .bool y.f5, .int .i64 y.f6] S rfl rfl (k94_mkM _ _ _ _) HG7.out.r (by have := HSL.out; have := HI2.out; have := HCM.out; omega) ?_
                          intro L3 A13 c13 w13 hL3 hr3 hg3
                          have HM := Aside0.mk (HG7.out.set1 (T := fun _ => False) (fun k hk => hk.elim) (Kd.R_mono hr3 (fun k hk => ⟨hk.1.elim Or.inl (fun h => Or.inr (Or.inr h)), hk.2⟩)) hg3)
                          refine hK.out _ _ (HM.out.2.blk (blk_below HN6.out hb67) HNS.out) (fun hHeld4 => ?_)
                          clear hK K hr3 hg3
                          try simp only [Act.put, List.setIfInBounds_toArray, List.set_cons_zero, List.set_cons_succ]
                          refine wpAnyH_take (i := 12) (v := ?_) rfl (by kernel_rfl) (by kernel_rfl) (by kernel_rfl) (fun _ _ _ h => h) (Or.inl ⟨by rfl, ?_⟩) (by assumption) ?_
                          rotate_left
                          · (intro w hSw; go_simp; (try with_reducible rfl))
                          simp only [Act.put, List.setIfInBounds_toArray, List.set_cons_zero, List.set_cons_succ]
                          refine wpAnyH_done (by kernel_rfl) ?_ _
                          clear hHeld2 hHeld3 hHeld4 hBD hb7 hb67
                          go_wp2_with fail
                          go_roundg gq
                          case measure => omega
                          case rel => exact ⟨i + 1, L3, L1, lo, true, by first | rfl | (simp; done) | (simp [d0, hne]; done), by first | rfl | (simp; done) | (simp [d0, hne]; done), by rw [HPN.out]; first | rfl | (simp; done) | (simp [hw16]; done), ⟨by have := HK.out; omega⟩, ⟨HI2.out⟩, ⟨by rw [hL1.out, hL3.out]; exact HST3.out⟩, ⟨by rw [hL1.out, List.length_append, HSA.out]; rfl⟩, ⟨by rw [hL3.out, List.length_append]; have := HSL.out; simp; omega⟩, ⟨by have := HLO.out; omega⟩, ⟨⟨_, _, HM.out.1⟩⟩⟩
                    · have hb0 : B = 0 := by have := HX0.out; omega
                      cases so with
                      | true =>
                        have d0 : decide (0 < B) = false := decide_eq_false c0
                        have d1 : (0 < B) = False := eq_false c0
                        have HNO : Aside0 (symsR b rows nums = none) := ⟨by
                          rw [HIS2.out]
                          have h := HST.out
                          rw [show symStepR b ⟨m0, m1, m2, m3, m4, m5, m6, m7, m8, m9⟩ nums ⟨sl, sa, lo, true⟩ E = none from by unfold symStepR; rw [← HBE.out]; exact if_neg (fun h => h.2.elim (fun h => c0 h) (fun h => Bool.noConfusion h))] at h
                          rw [foldO_dead h]; rfl⟩
                        clear cB c0 hb0
                        go_wp2_with fail
                        refine (want_no 5 _).mono ?_
                        rintro e w' ⟨rfl, rfl⟩
                        exact And.intro rfl (SymsRes.no HNO.out (below_step HB8.out HG2.out.bl))
                      | false =>
                        have d0 : decide (0 < B) = false := decide_eq_false c0
                        have d1 : (0 < B) = False := eq_false c0
                        have d2 : (B == 0) = true := by simpa using hb0
                        have hwl : (lo + 1) % 4294967296 = lo + 1 := by have := HLO.out; have := HI2.out; have := HCM.out; omega
                        by_cases cK : Kd_ = 4
                        · have k4 : (Kd_ == 4) = true := by simpa using cK
                          have HF2 : Aside0 (foldO (symStepR b ⟨m0, m1, m2, m3, m4, m5, m6, m7, m8, m9⟩ nums) ⟨[], [-1], 1, false⟩ (CS.take (i + 1)) = some ⟨sl, sa ++ [-2], (lo + 1), false⟩) := ⟨by rw [HST.out]; unfold symStepR; rw [← HBE.out, ← HKE.out, if_pos ⟨cB, Or.inr rfl⟩, if_pos cK]; first | rfl | simp [d0, hb0, hwl]⟩
                          clear cK
                          go_wp2_with fail
                          refine (want_yes 5 _).mono ?_
                          rintro e w' ⟨rfl, rfl⟩
                          go_wp2_with (first | ((with_reducible refine gate_builtin (b := .append) (xs := #[.tmp 92, .tmp 93]) rfl ?_); at_builtin; refine ev_one (Kd.int .i64) rfl (.tmp 92) (.tmp 93) 71 3 (.int .i64 0) 8 rfl Try.underlying71 info3 rfl (by decide) (by decide) (.slice A5 sa.length c5) sa (-2) [.int .i64 (-2)] S2 rfl rfl rfl HG2.out.r2 (by have := HSA.out; have := HI2.out; have := HCM.out; omega) ?_; intro L1 A6 c6 w6 hL1 hr1 hg1; have HM := Aside0.mk (HG2.out.set2 hr1 hg1); clear hr1 hg1))
                          go_roundg gq
                          case measure => omega
                          case rel => exact ⟨i + 1, sl, L1, (lo + 1), false, by first | rfl | (simp; done) | (simp [d0, hb0, hwl]; done), by first | rfl | (simp; done) | (simp [d0, hb0, hwl]; done), by rw [HPN.out]; first | rfl | (simp; done) | (simp [hw16]; done), ⟨by have := HK.out; omega⟩, ⟨HI2.out⟩, ⟨by rw [hL1.out]; exact HF2.out⟩, ⟨by rw [hL1.out, List.length_append, HSA.out]; rfl⟩, ⟨by have := HSL.out; omega⟩, ⟨by have := HLO.out; omega⟩, ⟨⟨_, _, HM.out.1⟩⟩⟩
                        · have k4 : (Kd_ == 4) = false := by simpa using cK
                          have HST2 : Aside0 (foldO (symStepR b ⟨m0, m1, m2, m3, m4, m5, m6, m7, m8, m9⟩ nums) ⟨[], [-1], 1, false⟩ (CS.take (i + 1)) = (symR b ⟨m0, m1, m2, m3, m4, m5, m6, m7, m8, m9⟩ nums E).bind fun y => some ⟨sl ++ [y], sa ++ [(sl.length : Int)], (lo + 1), false⟩) := ⟨by rw [HST.out]; unfold symStepR; rw [← HBE.out, ← HKE.out, if_pos ⟨cB, Or.inr rfl⟩, if_neg cK]; first | rfl | simp [d0, hb0, hwl]⟩
                          clear cK
                          go_wp2_with fail
                          refine (want_yes 5 _).mono ?_
                          rintro e w' ⟨rfl, rfl⟩
                          go_wp2_with (first | ((with_reducible refine gate_builtin (b := .append) (xs := #[.tmp 95, .tmp 98]) rfl ?_); at_builtin; refine ev_one (Kd.int .i64) rfl (.tmp 95) (.tmp 98) 71 3 (.int .i64 0) 8 rfl Try.underlying71 info3 rfl (by decide) (by decide) (.slice A5 sa.length c5) sa (sl.length : Int) [.int .i64 (sl.length : Int)] S2 rfl rfl rfl HG2.out.r2 (by have := HSA.out; have := HI2.out; have := HCM.out; omega) ?_; intro L1 A6 c6 w6 hL1 hr1 hg1; have HM := Aside0.mk (HG2.out.set2 hr1 hg1); clear hr1 hg1))
                          have HM1 := Aside0.mk HM.out.1
                          have HN6 := Aside0.mk (blk_below HN8.out HM1.out.bl)
                          have HSC : Aside0 (∀ W : World, W.heap[r]? = some (.cells #[.int .u32 m0, .int .u32 m1, .int .u32 m2, .int .u32 m3, .int .u32 m4, .int .u32 m5, .int .u32 m6, .int .u32 m7, .int .u32 m8, .int .u32 m9] 47 (0, 0)) → W.cell? ⟨r, 0, none⟩ = some (.int .u32 m0) ∧ W.cell? ⟨r, 1, none⟩ = some (.int .u32 m1) ∧ W.cell? ⟨r, 2, none⟩ = some (.int .u32 m2) ∧ W.cell? ⟨r, 3, none⟩ = some (.int .u32 m3) ∧ W.cell? ⟨r, 4, none⟩ = some (.int .u32 m4) ∧ W.cell? ⟨r, 5, none⟩ = some (.int .u32 m5) ∧ W.cell? ⟨r, 6, none⟩ = some (.int .u32 m6) ∧ W.cell? ⟨r, 7, none⟩ = some (.int .u32 m7) ∧ W.cell? ⟨r, 8, none⟩ = some (.int .u32 m8) ∧ W.cell? ⟨r, 9, none⟩ = some (.int .u32 m9)) := ⟨fun W g6 => ⟨(blk_cell g6 0).trans rfl, (blk_cell g6 1).trans rfl, (blk_cell g6 2).trans rfl, (blk_cell g6 3).trans rfl, (blk_cell g6 4).trans rfl, (blk_cell g6 5).trans rfl, (blk_cell g6 6).trans rfl, (blk_cell g6 7).trans rfl, (blk_cell g6 8).trans rfl, (blk_cell g6 9).trans rfl⟩⟩
                          have HNS : Aside0 (¬ S r) := ⟨fun h => absurd (HG2.out.q r h).1 (Nat.not_le.2 (blk_lt HN8.out))⟩
                          have HSYC : Aside0 (∀ W, Below w6.heap.size w6 W → Calls Try.prog 73 #[.pointer (some ⟨g, 0, none⟩), .slice AE E.length (c7 - p), .agg #[.int .u32 m0, .int .u32 m1, .int .u32 m2, .int .u32 m3, .int .u32 m4, .int .u32 m5, .int .u32 m6, .int .u32 m7, .int .u32 m8, .int .u32 m9], .slice An nums.length cn] W fun en w' => SymR b ⟨m0, m1, m2, m3, m4, m5, m6, m7, m8, m9⟩ nums E en ∧ Below W.heap.size W w') := ⟨fun W hW => by
                            have hbw := below_step HB8.out (below_step HM1.out.bl hW)
                            exact rsymbol_calls HB.out HLB.out ⟨m0, m1, m2, m3, m4, m5, m6, m7, m8, m9⟩ HNB.out.1 HNB.out.2.1 HNB.out.2.2 nums HNL.out E HEB.out HE16.out AE (c7 - p) An cn W (HRD.out.below hbw) (HCE.out W (Kd.C_below HC8.out (below_step HM1.out.bl hW))) HCEL.out (Kd.C_below HN.out hbw)⟩
                          clear HM
                          cases hsr : symR b ⟨m0, m1, m2, m3, m4, m5, m6, m7, m8, m9⟩ nums E with
                          | none =>
                            have HNO : Aside0 (symsR b rows nums = none) := ⟨by rw [HIS2.out]; have h := HST2.out; rw [hsr] at h; rw [foldO_dead h]; rfl⟩
                            have HSYN : Aside0 (∀ W, Below w6.heap.size w6 W → Calls Try.prog 73 #[.pointer (some ⟨g, 0, none⟩), .slice AE E.length (c7 - p), .agg #[.int .u32 m0, .int .u32 m1, .int .u32 m2, .int .u32 m3, .int .u32 m4, .int .u32 m5, .int .u32 m6, .int .u32 m7, .int .u32 m8, .int .u32 m9], .slice An nums.length cn] W fun en w' => en = wrongE 5 ∧ Below W.heap.size W w') := ⟨fun W hW => (HSYC.out W hW).mono (fun en w' hh => ⟨by have h1 := hh.1; unfold SymR at h1; rw [hsr] at h1; exact h1, hh.2⟩)⟩
                            clear hsr HSYC HST2
                            have hBD := (Below.refl w6.heap.size w6).drew
                            refine wp_region_held_drew (S := fun W => W.heap[r]? = some (.cells #[.int .u32 m0, .int .u32 m1, .int .u32 m2, .int .u32 m3, .int .u32 m4, .int .u32 m5, .int .u32 m6, .int .u32 m7, .int .u32 m8, .int .u32 m9] 47 (0, 0))) (by kernel_rfl) ?_ (fun hHeld => ?_)
                            · exact blk_below HN6.out hBD
                            refine wpAnyH_take (i := 0) (v := ?_) rfl (by kernel_rfl) (by kernel_rfl) (by kernel_rfl) (fun _ _ _ h => h) (Or.inl ⟨by rfl, ?_⟩) (by assumption) ?_
                            rotate_left
                            · (intro w hSw; go_simp; (try with_reducible rfl))
                            simp only [Act.put, List.setIfInBounds_toArray, List.set_cons_zero, List.set_cons_succ]
                            refine wpAnyH_take (i := 1) (v := ?_) rfl (by kernel_rfl) (by kernel_rfl) (by kernel_rfl) (fun _ _ _ h => h) (Or.inl ⟨by rfl, ?_⟩) (by assumption) ?_
                            rotate_left
                            · (intro w hSw; go_simp; (try with_reducible rfl))
                            simp only [Act.put, List.setIfInBounds_toArray, List.set_cons_zero, List.set_cons_succ]
                            refine wpAnyH_take (i := 2) (v := ?_) rfl (by kernel_rfl) (by kernel_rfl) (by kernel_rfl) (fun _ _ _ h => h) (Or.inl ⟨by rfl, ?_⟩) (by assumption) ?_
                            rotate_left
                            · (intro w hSw; go_simp; (try with_reducible rfl))
                            simp only [Act.put, List.setIfInBounds_toArray, List.set_cons_zero, List.set_cons_succ]
                            refine wpAnyH_take (i := 3) (v := ?_) rfl (by kernel_rfl) (by kernel_rfl) (by kernel_rfl) (fun _ _ _ h => h) (Or.inl ⟨by rfl, ?_⟩) (by assumption) ?_
                            rotate_left
                            · (intro w hSw; go_simp; (try with_reducible rfl))
                            simp only [Act.put, List.setIfInBounds_toArray, List.set_cons_zero, List.set_cons_succ]
                            refine wpAnyH_take (i := 4) (v := ?_) rfl (by kernel_rfl) (by kernel_rfl) (by kernel_rfl) (fun _ _ _ h => h) (Or.inl ⟨by rfl, ?_⟩) (by assumption) ?_
                            rotate_left
                            · (intro w hSw; go_simp; (try with_reducible rfl))
                            simp only [Act.put, List.setIfInBounds_toArray, List.set_cons_zero, List.set_cons_succ]
                            refine wpAnyH_take (i := 5) (v := .int .i64 ((p : Int) + 16)) rfl (by kernel_rfl) (by kernel_rfl) (by kernel_rfl) (fun _ _ _ h => h) (Or.inl ⟨by rfl, ?_⟩) (by assumption) ?_
                            · (intro w hSw; go_simp; (try with_reducible rfl))
                            simp only [Act.put, List.setIfInBounds_toArray, List.set_cons_zero, List.set_cons_succ]
                            refine wpAnyH_take (i := 6) (v := ?_) rfl (by kernel_rfl) (by kernel_rfl) (by kernel_rfl) (fun _ _ _ h => h) (Or.inl ⟨by rfl, ?_⟩) (by assumption) ?_
                            rotate_left
                            · (intro w hSw; go_simp; (try with_reducible rfl))
                            simp only [Act.put, List.setIfInBounds_toArray, List.set_cons_zero, List.set_cons_succ]
                            refine wpAnyH_take (i := 7) (v := ?_) rfl (by kernel_rfl) (by kernel_rfl) (by kernel_rfl) (fun _ _ _ h => h) (Or.inl ⟨by rfl, ?_⟩) (by assumption) ?_
                            rotate_left
                            · (intro w hSw; replace hSw := HSC.out w hSw; go_simp; (try with_reducible rfl))
                            simp only [Act.put, List.setIfInBounds_toArray, List.set_cons_zero, List.set_cons_succ]
                            refine wpAnyH_take (i := 8) (v := ?_) rfl (by kernel_rfl) (by kernel_rfl) (by kernel_rfl) (fun _ _ _ h => h) (Or.inl ⟨by rfl, ?_⟩) (by assumption) ?_
                            rotate_left
                            · (intro w hSw; go_simp; (try with_reducible rfl))
                            simp only [Act.put, List.setIfInBounds_toArray, List.set_cons_zero, List.set_cons_succ]
                            refine wpAnyH_ready (rs := [9]) (by kernel_rfl) (by simp) ?_
                            refine AllReadyH.cons rfl (fun K hK => ?_) AllReadyH.nil
                            go_simp
                            refine (HSYN.out _ hBD).mono ?_
                            rintro e w7 ⟨rfl, hb7⟩
                            exact And.intro rfl (SymsRes.no HNO.out (below_step HB8.out (below_step HM1.out.bl (below_step hBD hb7))))
                          | some y =>
                            have HST3 : Aside0 (foldO (symStepR b ⟨m0, m1, m2, m3, m4, m5, m6, m7, m8, m9⟩ nums) ⟨[], [-1], 1, false⟩ (CS.take (i + 1)) = some ⟨sl ++ [y], sa ++ [(sl.length : Int)], (lo + 1), false⟩) := ⟨by have h := HST2.out; rw [hsr] at h; exact h⟩
                            have HSYY : Aside0 (∀ W, Below w6.heap.size w6 W → Calls Try.prog 73 #[.pointer (some ⟨g, 0, none⟩), .slice AE E.length (c7 - p), .agg #[.int .u32 m0, .int .u32 m1, .int .u32 m2, .int .u32 m3, .int .u32 m4, .int .u32 m5, .int .u32 m6, .int .u32 m7, .int .u32 m8, .int .u32 m9], .slice An nums.length cn] W fun en w' => en = .returned (.agg #[.string y.f0, .int .u32 y.f1, .int .u32 y.f2, .int .u8 y.f3, .int .u8 y.f4, .bool y.f5, .int .i64 y.f6]) ∧ Below W.heap.size W w') := ⟨fun W hW => (HSYC.out W hW).mono (fun en w' hh => ⟨by have h1 := hh.1; unfold SymR at h1; rw [hsr] at h1; exact h1, hh.2⟩)⟩
                            clear hsr HSYC HST2
                            have hBD := (Below.refl w6.heap.size w6).drew
                            refine wp_region_held_drew (S := fun W => W.heap[r]? = some (.cells #[.int .u32 m0, .int .u32 m1, .int .u32 m2, .int .u32 m3, .int .u32 m4, .int .u32 m5, .int .u32 m6, .int .u32 m7, .int .u32 m8, .int .u32 m9] 47 (0, 0))) (by kernel_rfl) ?_ (fun hHeld => ?_)
                            · exact blk_below HN6.out hBD
                            refine wpAnyH_take (i := 0) (v := ?_) rfl (by kernel_rfl) (by kernel_rfl) (by kernel_rfl) (fun _ _ _ h => h) (Or.inl ⟨by rfl, ?_⟩) (by assumption) ?_
                            rotate_left
                            · (intro w hSw; go_simp; (try with_reducible rfl))
                            simp only [Act.put, List.setIfInBounds_toArray, List.set_cons_zero, List.set_cons_succ]
                            refine wpAnyH_take (i := 1) (v := ?_) rfl (by kernel_rfl) (by kernel_rfl) (by kernel_rfl) (fun _ _ _ h => h) (Or.inl ⟨by rfl, ?_⟩) (by assumption) ?_
                            rotate_left
                            · (intro w hSw; go_simp; (try with_reducible rfl))
                            simp only [Act.put, List.setIfInBounds_toArray, List.set_cons_zero, List.set_cons_succ]
                            refine wpAnyH_take (i := 2) (v := ?_) rfl (by kernel_rfl) (by kernel_rfl) (by kernel_rfl) (fun _ _ _ h => h) (Or.inl ⟨by rfl, ?_⟩) (by assumption) ?_
                            rotate_left
                            · (intro w hSw; go_simp; (try with_reducible rfl))
                            simp only [Act.put, List.setIfInBounds_toArray, List.set_cons_zero, List.set_cons_succ]
                            refine wpAnyH_take (i := 3) (v := ?_) rfl (by kernel_rfl) (by kernel_rfl) (by kernel_rfl) (fun _ _ _ h => h) (Or.inl ⟨by rfl, ?_⟩) (by assumption) ?_
                            rotate_left
                            · (intro w hSw; go_simp; (try with_reducible rfl))
                            simp only [Act.put, List.setIfInBounds_toArray, List.set_cons_zero, List.set_cons_succ]
                            refine wpAnyH_take (i := 4) (v := ?_) rfl (by kernel_rfl) (by kernel_rfl) (by kernel_rfl) (fun _ _ _ h => h) (Or.inl ⟨by rfl, ?_⟩) (by assumption) ?_
                            rotate_left
                            · (intro w hSw; go_simp; (try with_reducible rfl))
                            simp only [Act.put, List.setIfInBounds_toArray, List.set_cons_zero, List.set_cons_succ]
                            refine wpAnyH_take (i := 5) (v := .int .i64 ((p : Int) + 16)) rfl (by kernel_rfl) (by kernel_rfl) (by kernel_rfl) (fun _ _ _ h => h) (Or.inl ⟨by rfl, ?_⟩) (by assumption) ?_
                            · (intro w hSw; go_simp; (try with_reducible rfl))
                            simp only [Act.put, List.setIfInBounds_toArray, List.set_cons_zero, List.set_cons_succ]
                            refine wpAnyH_take (i := 6) (v := ?_) rfl (by kernel_rfl) (by kernel_rfl) (by kernel_rfl) (fun _ _ _ h => h) (Or.inl ⟨by rfl, ?_⟩) (by assumption) ?_
                            rotate_left
                            · (intro w hSw; go_simp; (try with_reducible rfl))
                            simp only [Act.put, List.setIfInBounds_toArray, List.set_cons_zero, List.set_cons_succ]
                            refine wpAnyH_take (i := 7) (v := ?_) rfl (by kernel_rfl) (by kernel_rfl) (by kernel_rfl) (fun _ _ _ h => h) (Or.inl ⟨by rfl, ?_⟩) (by assumption) ?_
                            rotate_left
                            · (intro w hSw; replace hSw := HSC.out w hSw; go_simp; (try with_reducible rfl))
                            simp only [Act.put, List.setIfInBounds_toArray, List.set_cons_zero, List.set_cons_succ]
                            refine wpAnyH_take (i := 8) (v := ?_) rfl (by kernel_rfl) (by kernel_rfl) (by kernel_rfl) (fun _ _ _ h => h) (Or.inl ⟨by rfl, ?_⟩) (by assumption) ?_
                            rotate_left
                            · (intro w hSw; go_simp; (try with_reducible rfl))
                            simp only [Act.put, List.setIfInBounds_toArray, List.set_cons_zero, List.set_cons_succ]
                            refine wpAnyH_ready (rs := [9]) (by kernel_rfl) (by simp) ?_
                            refine AllReadyH.cons rfl (fun K hK => ?_) AllReadyH.nil
                            go_simp
                            refine (HSYY.out _ hBD).mono ?_
                            rintro e w7 ⟨rfl, hb7⟩
                            have hb67 := below_step hBD hb7
                            refine hK.out _ _ (blk_below HN6.out hb67) (fun hHeld2 => ?_)
                            clear hK K hHeld
                            try simp only [Act.put, List.setIfInBounds_toArray, List.set_cons_zero, List.set_cons_succ]
                            refine wpAnyH_ready (rs := [10]) (by kernel_rfl) (by simp) ?_
                            refine AllReadyH.cons rfl (fun K hK => ?_) AllReadyH.nil
                            go_simp
                            refine hK.out _ _ (blk_below HN6.out (below_alloc hb67 _)) (fun hHeld3 => ?_)
                            clear hK K
                            try simp only [Act.put, List.setIfInBounds_toArray, List.set_cons_zero, List.set_cons_succ]
                            have HG7 := Aside0.mk (HM1.out.below hb67)
                            refine wpAnyH_ready (rs := [11]) (by kernel_rfl) (by simp) ?_
                            refine AllReadyH.cons rfl (fun K hK => ?_) AllReadyH.nil
                            refine ev_one_step (W := w7) k94 (by rfl) (.tmp 100) (.tmp 110) 23 94 _ 40 rfl Try.underlying23 info94 rfl (by decide) (by decide) (.slice A4 sl.length c4) sl y [.string y.f0, .int .u32 y.f1, .int .u32 y.f2, .int .u8 y.f3, .int .u8 y.f4, .bool y.f5, .int .i64 y.f6] S rfl rfl (k94_mkM _ _ _ _) HG7.out.r (by have := HSL.out; have := HI2.out; have := HCM.out; omega) ?_
                            intro L3 A13 c13 w13 hL3 hr3 hg3
                            have HM := Aside0.mk (HG7.out.set1 (T := fun _ => False) (fun k hk => hk.elim) (Kd.R_mono hr3 (fun k hk => ⟨hk.1.elim Or.inl (fun h => Or.inr (Or.inr h)), hk.2⟩)) hg3)
                            refine hK.out _ _ (HM.out.2.blk (blk_below HN6.out hb67) HNS.out) (fun hHeld4 => ?_)
                            clear hK K hr3 hg3
                            try simp only [Act.put, List.setIfInBounds_toArray, List.set_cons_zero, List.set_cons_succ]
                            refine wpAnyH_take (i := 12) (v := ?_) rfl (by kernel_rfl) (by kernel_rfl) (by kernel_rfl) (fun _ _ _ h => h) (Or.inl ⟨by rfl, ?_⟩) (by assumption) ?_
                            rotate_left
                            · (intro w hSw; go_simp; (try with_reducible rfl))
                            simp only [Act.put, List.setIfInBounds_toArray, List.set_cons_zero, List.set_cons_succ]
                            refine wpAnyH_done (by kernel_rfl) ?_ _
                            clear hHeld2 hHeld3 hHeld4 hBD hb7 hb67
                            go_wp2_with fail
                            go_roundg gq
                            case measure => omega
                            case rel => exact ⟨i + 1, L3, L1, (lo + 1), false, by first | rfl | (simp; done) | (simp [d0, hb0, hwl]; done), by first | rfl | (simp; done) | (simp [d0, hb0, hwl]; done), by rw [HPN.out]; first | rfl | (simp; done) | (simp [hw16]; done), ⟨by have := HK.out; omega⟩, ⟨HI2.out⟩, ⟨by rw [hL1.out, hL3.out]; exact HST3.out⟩, ⟨by rw [hL1.out, List.length_append, HSA.out]; rfl⟩, ⟨by rw [hL3.out, List.length_append]; have := HSL.out; simp; omega⟩, ⟨by have := HLO.out; omega⟩, ⟨⟨_, _, HM.out.1⟩⟩⟩
                  · have dB : decide (B ≤ 2) = false := decide_eq_false cB
                    have dB2 : (B ≤ 2) = False := eq_false cB
                    have HNO : Aside0 (symsR b rows nums = none) := ⟨by
                      rw [HIS2.out]
                      have h := HST.out
                      rw [show symStepR b ⟨m0, m1, m2, m3, m4, m5, m6, m7, m8, m9⟩ nums ⟨sl, sa, lo, so⟩ E = none from by unfold symStepR; rw [← HBE.out]; exact if_neg (fun h => cB h.1)] at h
                      rw [foldO_dead h]; rfl⟩
                    clear cB
                    go_wp2_with fail
                    refine (want_no 5 _).mono ?_
                    rintro e w' ⟨rfl, rfl⟩
                    exact And.intro rfl (SymsRes.no HNO.out (below_step HB8.out HG2.out.bl))
              · have hci := HCN.out i ci HI.out
                have HFE : Aside0 (foldO (symStepR b ⟨m0, m1, m2, m3, m4, m5, m6, m7, m8, m9⟩ nums) ⟨[], [-1], 1, false⟩ CS = some ⟨sl, sa, lo, so⟩) := ⟨by have h := HF.out; rw [hci, List.take_length] at h; exact h⟩
                obtain ⟨S, S2, hg⟩ := HG.out
                have HG2 := Aside0.mk hg
                have hpl := HPL.out
                generalize 16 * (i + 1) = p at *
                have p1 : ((p : Int) < (LB.length : Int)) = False := eq_false (by omega)
                have q7 : wr.cell? ⟨q, 7, none⟩ = some (.int .u32 y7) := (blk_cell (blk_below HQ8.out hg.bl) 7).trans rfl
                clear hg hci ci HG hpl
                by_cases cl : y7 = lo
                · have d7 : (y7 == lo) = true := by simpa using cl
                  have HOK : Aside0 (symsR b rows nums = some (sl, sa, (k : Int))) := ⟨by rw [HIS2.out, HFE.out]; exact if_pos cl⟩
                  clear cl
                  go_wp2_with fail
                  refine (want_yes 5 _).mono ?_
                  rintro e w' ⟨rfl, rfl⟩
                  go_wp2_with fail
                  go_ret3
                  exact SymsRes.ok HOK.out (HG2.out.base HB8.out)
                · have d7 : (y7 == lo) = false := by simpa using cl
                  have HNO : Aside0 (symsR b rows nums = none) := ⟨by rw [HIS2.out, HFE.out]; exact if_neg cl⟩
                  clear cl
                  go_wp2_with fail
                  refine (want_no 5 _).mono ?_
                  rintro e w' ⟨rfl, rfl⟩
                  exact And.intro rfl (SymsRes.no HNO.out (below_step HB8.out HG2.out.bl))
          · have hd : decide (LB.take 16 = List.replicate 16 0) = false := decide_eq_false cz
            rw [hd] at HZC
            have HNO : Aside0 (symsR b rows nums = none) := ⟨by rw [HIS.out, if_neg (fun h => cz h.2)]⟩
            clear HIS
            go_wp2_with fail
            refine HZC.out.mono ?_
            rintro e w8 ⟨rfl, hb8⟩
            go_wp2_with fail
            refine (want_no 5 _).mono ?_
            rintro e w' ⟨rfl, rfl⟩
            exact And.intro rfl (SymsRes.no HNO.out (below_step HB7.out hb8))
        · have cm2 : ¬ ((LB.length : Int) % 16 = 0) := by omega
          have HNO : Aside0 (symsR b rows nums = none) := ⟨by rw [HIS.out, if_neg (fun h => cm h.1)]⟩
          clear HIS
          go_wp2_with fail
          refine (want_no 5 _).mono ?_
          rintro e w' ⟨rfl, rfl⟩
          exact And.intro rfl (SymsRes.no HNO.out HB7.out)
end Go.Proofs.Ytockojajbnnbpaa.E
namespace Go.Proofs.Ytockojajbnnbpaa.E
open Go.RowKit Go.Proofs.Ytockojajbnnbpaa.Q Go.Proofs.YtockojajbnnbpaaW.PrintWords Go.Proofs.YtockojajbnnbpaaW.PrintLast Go.Proofs.YtockojajbnnbpaaW.PrintMore
set_option linter.unusedVariables false
set_option linter.unusedSimpArgs false
theorem gw_cut2 (L : List Int) (p k : Nat) (h : p + 12 ≤ L.length) (hk : k + 4 ≤ 12) : gw ((L.take (p + 12)).drop p) k 4 = gw L (p + k) 4 := by
  unfold gw
  congr 1
  rw [List.drop_drop, List.drop_take, List.take_take, show min 4 (p + 12 - (p + k)) = 4 by omega]
theorem chunk12_at (L : List Int) (i : Nat) (h : 12 * i < L.length) (hm : L.length % 12 = 0) : (chunks L 12)[i]? = some ((L.take (12 * i + 12)).drop (12 * i)) := by
  unfold chunks
  rw [List.getElem?_map, List.getElem?_range (by omega)]
  show some ((L.drop (12 * i)).take 12) = some _
  congr 1
  rw [List.drop_take, show 12 * i + 12 - 12 * i = 12 by omega]
theorem chunk12_n (L : List Int) (i : Nat) (hm : L.length % 12 = 0) (h : ¬ 12 * i < L.length) (hi : i ≤ (chunks L 12).length) : i = (chunks L 12).length := by
  unfold chunks at *
  rw [List.length_map, List.length_range] at *
  omega
theorem chunk12_lt (L : List Int) (i : Nat) (hm : L.length % 12 = 0) (h : 12 * i < L.length) : i < (chunks L 12).length := by
  unfold chunks at *
  rw [List.length_map, List.length_range] at *
  omega
theorem chunk12_max (L : List Int) (hl : L.length ≤ 65536) : (chunks L 12).length ≤ 5462 := by
  unfold chunks at *
  rw [List.length_map, List.length_range] at *
  omega
def SortC : Prop := ∀ (n : Nat) (l : List S59) (v : Value) (S : Nat → Prop) (w : World), n ≤ 65536 → Kd.R k59 59 w 0 S v l → (∀ x ∈ l, 0 ≤ x.f0 ∧ x.f0 < n) → l.length ≤ 1099511627776 →
  Calls Try.prog 75 #[v, .func (.func 76) #[] #[]] w fun e w' => e = .returned (.tuple #[]) ∧ Kd.R k59 59 w' 0 S v (byS n l) ∧ Fr S w w'
def RelsRes (b : List Int) (rows : List S47) (secs : List S40) (nums as_ : List Int) (row : Int) (w0 : World) (e : Ending) (w' : World) : Prop :=
  match relsR b rows secs nums as_ row with
  | none => e = wrongE 5 ∧ Below w0.heap.size w0 w'
  | some l => ∃ (v : Value) (S : Nat → Prop), e = .returned v ∧ Kd.R k59 59 w' 0 S v (byS secs.length l) ∧ Below w0.heap.size w0 w' ∧ ∀ k, S k → w0.heap.size ≤ k ∧ k < w'.heap.size
theorem RelsRes.no {b : List Int} {rows : List S47} {secs : List S40} {nums as_ : List Int} {row : Int} {w0 w' : World} (h : relsR b rows secs nums as_ row = none) (hb : Below w0.heap.size w0 w') : RelsRes b rows secs nums as_ row w0 (wrongE 5) w' := by unfold RelsRes; rw [h]; exact ⟨rfl, hb⟩
theorem RelsRes.ok {b : List Int} {rows : List S47} {secs : List S40} {nums as_ : List Int} {row : Int} {w0 w' : World} {l : List S59} {v : Value} {S : Nat → Prop} (h : relsR b rows secs nums as_ row = some l) (hr : Kd.R k59 59 w' 0 S v (byS secs.length l)) (hb : Below w0.heap.size w0 w') (hq : ∀ k, S k → w0.heap.size ≤ k ∧ k < w'.heap.size) : RelsRes b rows secs nums as_ row w0 (.returned v) w' := by unfold RelsRes; rw [h]; exact ⟨v, S, rfl, hr, hb, hq⟩
end Go.Proofs.Ytockojajbnnbpaa.E
namespace Go.Proofs.Ytockojajbnnbpaa.E
open Go.RowKit Go.Proofs.Ytockojajbnnbpaa.Q Go.Proofs.YtockojajbnnbpaaW.PrintWords Go.Proofs.YtockojajbnnbpaaW.PrintLast Go.Proofs.YtockojajbnnbpaaW.PrintMore
set_option linter.unusedVariables false
set_option linter.unusedSimpArgs false
set_option maxRecDepth 100000 in
set_option maxHeartbeats 4000000 in
theorem rpart3 {g : Nat} {b : List Int} (A : Option Addr) (c : Nat) (vr : Value) (hl : b.length < 140737488355328) (x : S47) (h0 : 0 ≤ x.f4) (h1 : 0 ≤ x.f5) (h2 : x.f4 + x.f5 ≤ b.length) (w : World) (e1 : w.heap[g]? = some (.cells #[.slice A b.length c, vr] 69 (0, 0))) (e2 : Kd.C (Kd.int .u8) w A b.length b) (e3 : b.length ≤ c) :
    Calls Try.prog 67 #[.pointer (some ⟨g, 0, none⟩), .agg #[.int .u32 x.f0, .int .u32 x.f1, .int .u32 x.f2, .int .u32 x.f3, .int .u32 x.f4, .int .u32 x.f5, .int .u32 x.f6, .int .u32 x.f7, .int .u32 x.f8, .int .u32 x.f9]] w fun e w' => ∃ A2 c2, e = .returned (.slice A2 (partB b x).length c2) ∧ (∀ W, Kd.C (Kd.int .u8) W A b.length b → Kd.C (Kd.int .u8) W A2 (partB b x).length (partB b x)) ∧ (partB b x).length ≤ c2 ∧ Below w.heap.size w w' := by
  have hu47 := Try.underlying47
  obtain ⟨i0, hi, hiz⟩ := Option.map_eq_some_iff.1 info5
  obtain ⟨x0, x1, x2, x3, x4, x5, x6, x7, x8, x9⟩ := x
  simp only at h0 h1 h2
  have hpl := partB_len b ⟨x0, x1, x2, x3, x4, x5, x6, x7, x8, x9⟩ h0 h1 h2
  have hpe := partB_eq b ⟨x0, x1, x2, x3, x4, x5, x6, x7, x8, x9⟩ h0 h1
  simp only at hpl hpe
  have hal := below_alloc (Below.refl w.heap.size w) (.cells #[.int .u32 x0, .int .u32 x1, .int .u32 x2, .int .u32 x3, .int .u32 x4, .int .u32 x5, .int .u32 x6, .int .u32 x7, .int .u32 x8, .int .u32 x9] 47)
  have HBK := Aside0.mk (heap_alloc_new w (.cells #[.int .u32 x0, .int .u32 x1, .int .u32 x2, .int .u32 x3, .int .u32 x4, .int .u32 x5, .int .u32 x6, .int .u32 x7, .int .u32 x8, .int .u32 x9] 47))
  have E1 := Aside0.mk (blk_below e1 hal)
  have E2 := Aside0.mk (Kd.C_below e2 hal)
  have HAL := Aside0.mk hal
  have E3 := Aside0.mk e3
  have hw : wrap64 (x4 + x5) = x4 + x5 := by unfold wrap64; omega
  have hcut := cut_three 27 5 Try.underlying27 hi (by simp only [Prod.mk.injEq] at hiz; exact hiz.2.1) A b.length c x4 (x4 + x5) h0 (by omega) (by omega)
  have hn : (x4 + x5).toNat - x4.toNat = (partB b ⟨x0, x1, x2, x3, x4, x5, x6, x7, x8, x9⟩).length := by omega
  obtain ⟨A', hA'⟩ : ∃ A' : Option Addr, A' = (if (x4 + x5).toNat = x4.toNat then A else A.map (·.add (x4.toNat * 1))) := ⟨_, rfl⟩
  rw [← hA', hn] at hcut
  have hCm : ∀ W, Kd.C (Kd.int .u8) W A b.length b → Kd.C (Kd.int .u8) W A' (partB b ⟨x0, x1, x2, x3, x4, x5, x6, x7, x8, x9⟩).length (partB b ⟨x0, x1, x2, x3, x4, x5, x6, x7, x8, x9⟩) := by
    intro W hC
    by_cases c0 : (x4 + x5).toNat = x4.toNat
    · have h0' : (partB b ⟨x0, x1, x2, x3, x4, x5, x6, x7, x8, x9⟩).length = 0 := by omega
      rw [List.eq_nil_of_length_eq_zero h0']
      exact ⟨rfl, by decide, fun h => absurd h (by decide)⟩
    · have hm := Kd.C_mid (k := Kd.int .u8) (c := c) (lo := x4.toNat) (hi := (x4 + x5).toNat) hC (by omega) (by omega) e3
      rw [hpe, if_neg (by omega)] at hm
      rw [hA', if_neg c0]
      exact hm
  have HCM := Aside0.mk hCm
  have hw4 : wrap64 x4 = x4 := by unfold wrap64; omega
  have hw5 : wrap64 x5 = x5 := by unfold wrap64; omega
  generalize partB b ⟨x0, x1, x2, x3, x4, x5, x6, x7, x8, x9⟩ = PB at *
  clear e1 e2 e3 hal hpl hpe hl hn hA' hCm h0 h1 h2
  go_enter Try.func67, Try.ntmps67
  go_wp2
  generalize (w.alloc (.cells #[.int .u32 x0, .int .u32 x1, .int .u32 x2, .int .u32 x3, .int .u32 x4, .int .u32 x5, .int .u32 x6, .int .u32 x7, .int .u32 x8, .int .u32 x9] 47)) = w1 at *
  have hsz : Aside0 (w.heap.size = w.heap.size) := ⟨rfl⟩
  obtain ⟨p, hp⟩ : ∃ p, p = w.heap.size := ⟨_, rfl⟩
  rw [← hp] at HBK ⊢
  have d4 : w1.cell? ⟨p, 4, none⟩ = some (.int .u32 x4) := (blk_cell HBK.out 4).trans rfl
  have d5 : w1.cell? ⟨p, 5, none⟩ = some (.int .u32 x5) := (blk_cell HBK.out 5).trans rfl
  clear hp hsz
  go_quiet (fail)
  have hb2 := pw_below_drewN (Below.refl w1.heap.size w1) nq
  replace E1 := Aside0.mk (blk_below E1.out hb2)
  replace E2 := Aside0.mk (Kd.C_below E2.out hb2)
  have HAL2 := Aside0.mk (pw_below_drewN HAL.out nq)
  clear d4 d5 hb2 HAL HBK
  generalize w1.drewN nq = w2 at *
  have hc0 : w2.cell? ⟨g, 0, none⟩ = some (.slice A b.length c) := (blk_cell E1.out 0).trans rfl
  go_wp2
  go_ret
  exact ⟨A', PB.length, rfl, HCM.out, Nat.le_refl _, HAL2.out⟩
theorem relRow_other {b : List Int} {secs : List S40} {nums as_ : List Int} {row : Int} {s : List S59} {x : S47} (h : x.f1 ≠ 4) : relRow b secs nums as_ row s x = some s := if_pos h
theorem relRow_is {b : List Int} {secs : List S40} {nums as_ : List Int} {row : Int} {s : List S59} {x : S47} (h : x.f1 = 4) : relRow b secs nums as_ row s x = if x.f6 = row then (nums[x.f7.toNat]?).bind fun n => if 0 ≤ n ∧ (partB b x).length % 12 = 0 ∧ (rd_T40 secs n).f1 = 1 then foldO (relR (rd_T40 secs n) n as_) s (chunks (partB b x) 12) else none else none := if_neg (fun hh => hh h)
theorem relR_is {o : S40} {n : Int} {as_ : List Int} {s : List S59} {L : List Int} {p : Nat} (h : p + 12 ≤ L.length) : relR o n as_ s ((L.take (p + 12)).drop p) = if gw L p 4 < o.f4 then (as_[(gw L (p + 4) 4 / 256).toNat]?).bind fun m => if -1 ≤ m then some (s ++ [⟨n, gw L p 4, gw L (p + 4) 4 % 256, m, IntKind.i32.wrap (gw L (p + 8) 4)⟩]) else none else none := by
  unfold relR
  rw [gw_cut2 L p 0 h (by decide), gw_cut2 L p 4 h (by decide), gw_cut2 L p 8 h (by decide)]
  rfl
set_option maxRecDepth 100000 in
set_option maxHeartbeats 32000000 in
theorem rrelocs_calls (hso : SortC) {g : Nat} {b : List Int} {rows : List S47} (hb : AllBytes b) (hl : b.length ≤ 65536) (hrl : rows.length ≤ 65536) (hin : ∀ x ∈ rows, RowRg x ∧ RowIn b.length x)
    (secs : List S40) (hsl : secs.length ≤ 65536) (hsr : ∀ x ∈ secs, 0 ≤ x.f4 ∧ x.f4 < 4294967296) (nums : List Int) (hnl : nums.length ≤ 65536) (hnm : ∀ m ∈ nums, m < secs.length) (as_ : List Int) (hal : as_.length ≤ 65536) (row : Int)
    (As : Option Addr) (cs : Nat) (Ay : Option Addr) (ny cy : Nat) (Az : Option Addr) (nz cz : Nat) (An : Option Addr) (cn : Nat) (Aa : Option Addr) (ca : Nat) (w : World) (h : Rd w g b rows)
    (hS : Kd.C k40 w As secs.length secs) (hN : Kd.C (Kd.int .i64) w An nums.length nums) (hA : Kd.C (Kd.int .i64) w Aa as_.length as_) :
    Calls Try.prog 34 #[.pointer (some ⟨g, 0, none⟩), .agg #[.slice As secs.length cs, .slice Ay ny cy, .slice Az nz cz], .slice An nums.length cn, .slice Aa as_.length ca, .int .i64 row] w fun e w' => RelsRes b rows secs nums as_ row w e w' := by
  have hu47 := Try.underlying47
  have hu26 := Try.underlying26
  have HSO := Aside0.mk hso
  have HB := Aside0.mk hb
  have HLB := Aside0.mk hl
  have HRL := Aside0.mk hrl
  have HIN := Aside0.mk hin
  have HSL := Aside0.mk hsl
  have HSRG := Aside0.mk hsr
  have HNL := Aside0.mk hnl
  have HNM := Aside0.mk hnm
  have HAL := Aside0.mk hal
  have hb1 := below_alloc (Below.refl w.heap.size w) (.cells #[.slice As secs.length cs, .slice Ay ny cy, .slice Az nz cz] 26)
  have HB1 := Aside0.mk hb1
  have HRD := Aside0.mk (h.below hb1)
  have HSS := Aside0.mk (Kd.C_below hS hb1)
  have HNN := Aside0.mk (Kd.C_below hN hb1)
  have HAA := Aside0.mk (Kd.C_below hA hb1)
  have HPB := Aside0.mk (heap_alloc_new w (.cells #[.slice As secs.length cs, .slice Ay ny cy, .slice Az nz cz] 26))
  obtain ⟨A0, c0, Ar, cr, e1, e2, e3, e4, e5⟩ := (h.below hb1).ex
  have HCR := Aside0.mk e4
  have HBR := Aside0.mk e1
  have HB0 := Aside0.mk e2
  have HB3 := Aside0.mk e3
  have hc1 : (w.alloc (.cells #[.slice As secs.length cs, .slice Ay ny cy, .slice Az nz cz] 26)).cell? ⟨g, 1, none⟩ = some (.slice Ar rows.length cr) := (blk_cell e1 1).trans rfl
  clear hb hl hrl hin hsl hsr hnl hnm hal hb1 h hS hN hA e1 e2 e3 e4 e5 hso
  go_enter Try.func34, Try.ntmps34
  go_wp2_with fail
  generalize (w.alloc (.cells #[.slice As secs.length cs, .slice Ay ny cy, .slice Az nz cz] 26)) = w1 at *
  have hpw := blk_lt HPB.out
  have HPW := Aside0.mk hpw
  clear hpw hc1
  generalize hp : w.heap.size = p at *
  replace HB1 : Aside0 (Below w.heap.size w w1) := ⟨by rw [hp]; exact HB1.out⟩
  have HG0 : Aside0 (Gr k59 59 (Kd.int .i64) 3 w1 w1 (fun _ => False) (fun _ => False) (.slice none 0 0) (.slice none 0 0) [] []) := ⟨Gr.nil _⟩
  have HF0 : Aside0 (foldO (relRow b secs nums as_ row) [] (rows.take 0) = some []) := ⟨rfl⟩
  go_loopg [11, 28] (rows.length + 1) (fun kq v11 v28 w' => ∃ (i : Nat) (l : List S59), v28 = .int .i64 (i : Int) ∧ Aside0 (i + kq = rows.length + 1) ∧ Aside0 (i ≤ rows.length) ∧ Aside0 (foldO (relRow b secs nums as_ row) [] (rows.take i) = some l) ∧ Aside0 (l.length ≤ i * 5462) ∧ Aside0 (∀ x ∈ l, 0 ≤ x.f0 ∧ x.f0 < secs.length) ∧ Aside0 (∃ S, Gr k59 59 (Kd.int .i64) 3 w1 w' S (fun _ => False) v11 (.slice none 0 0) l []))
  case atStart => exact ⟨0, [], rfl, ⟨by omega⟩, ⟨by omega⟩, HF0, ⟨Nat.zero_le _⟩, ⟨fun x hx => absurd hx (List.not_mem_nil)⟩, ⟨⟨_, HG0.out⟩⟩⟩
  case round =>
    clear HG0 HF0
    obtain ⟨i, l, rfl, HK, HI, HF, HLL, HKY, HG⟩ := hrel
    by_cases ci : i < rows.length
    · cases gk with
      | zero => exact absurd HK.out (by have := HI.out; omega)
      | succ gq =>
        obtain ⟨S, hg⟩ := HG.out
        have HI2 := Aside0.mk ci
        have p1 : ((i : Int) < (rows.length : Int)) = True := eq_true (by omega)
        have p2 : (i < rows.length) = True := eq_true ci
        have p3 : 0 ≤ (i : Int) := by omega
        have hw := w64s i (by have := HRL.out; omega)
        obtain ⟨ad, ea, x0, x1, x2, x3, x4, x5, x6, x7, x8, x9⟩ := at_T47 (Kd.C_below HCR.out hg.bl) (i : Int) (by omega) (by omega)
        cases ea
        rw [Int.toNat_natCast] at x0 x1 x2 x3 x4 x5 x6 x7 x8 x9
        have hx := rd47_get rows i ci
        have hrg := HIN.out _ (List.mem_of_getElem? hx)
        have hst := foldO_take HF.out hx
        generalize rd_T47 rows (i : Int) = x at x0 x1 x2 x3 x4 x5 x6 x7 x8 x9 hx hrg hst
        obtain ⟨y0, y1, y2, y3, y4, y5, y6, y7, y8, y9⟩ := x
        simp only at x0 x1 x2 x3 x4 x5 x6 x7 x8 x9
        have HRG := Aside0.mk hrg
        obtain ⟨A4, c4, rfl⟩ := Kd.R_slice hg.r
        have hal := below_alloc (Below.refl wr.heap.size wr) (.cells #[.int .u32 y0, .int .u32 y1, .int .u32 y2, .int .u32 y3, .int .u32 y4, .int .u32 y5, .int .u32 y6, .int .u32 y7, .int .u32 y8, .int .u32 y9] 47)
        have HG2 := Aside0.mk (hg.below hal)
        have HQB := Aside0.mk (heap_alloc_new wr (.cells #[.int .u32 y0, .int .u32 y1, .int .u32 y2, .int .u32 y3, .int .u32 y4, .int .u32 y5, .int .u32 y6, .int .u32 y7, .int .u32 y8, .int .u32 y9] 47))
        have HNS : Aside0 (¬ S wr.heap.size) := ⟨fun h => Nat.lt_irrefl _ (hg.q _ h).2⟩
        clear hg HG HI hx hrg hal ci
        by_cases ck : y1 = 4
        · subst ck
          rw [relRow_is (b := b) (secs := secs) (nums := nums) (as_ := as_) (row := row) (s := l) (x := ⟨y0, 4, y2, y3, y4, y5, y6, y7, y8, y9⟩) rfl] at hst
          have HST := Aside0.mk hst
          have hin := HRG.out
          have h4 := hin.1 y4 (by simp [fieldsL])
          have h5 := hin.1 y5 (by simp [fieldsL])
          have h6 := hin.1 y6 (by simp [fieldsL])
          have h7 := hin.1 y7 (by simp [fieldsL])
          have h45 : y4 + y5 ≤ (b.length : Int) := by
            rcases hin.2 with h | h | h
            · cases h
            · cases h
            · exact h
          have HRP := Aside0.mk (rpart3 A0 c0 _ (by have := HLB.out; omega) ⟨y0, 4, y2, y3, y4, y5, y6, y7, y8, y9⟩ h4.1 h5.1 h45 _ (blk_below HBR.out HG2.out.bl) (Kd.C_below HB0.out HG2.out.bl) HB3.out)
          have HPL : Aside0 ((partB b ⟨y0, 4, y2, y3, y4, y5, y6, y7, y8, y9⟩).length ≤ 65536) := ⟨by have := partB_len b ⟨y0, 4, y2, y3, y4, y5, y6, y7, y8, y9⟩ h4.1 h5.1 h45; have := HLB.out; simp only at *; omega⟩
          have HPY := Aside0.mk (partB_bytes HB.out ⟨y0, 4, y2, y3, y4, y5, y6, y7, y8, y9⟩)
          obtain ⟨Y7, rfl⟩ := Int.eq_ofNat_of_zero_le h7.1
          have hw6 : wrap64 y6 = y6 := by unfold wrap64; omega
          have hw7 : wrap64 (Y7 : Int) = (Y7 : Int) := by unfold wrap64; omega
          have q0 : 0 ≤ (Y7 : Int) := Int.natCast_nonneg Y7
          clear hst hin h4 h5 h6 h7 h45
          generalize partB b ⟨y0, 4, y2, y3, y4, y5, y6, (Y7 : Int), y8, y9⟩ = L at *
          simp only [Int.toNat_natCast] at HST
          go_wp2_with fail
          refine HRP.out.mono ?_
          rintro e w7 ⟨A7, c7, rfl, hC7, hc7, hb7⟩
          have HQ7 := Aside0.mk (blk_below HQB.out hb7)
          have HG7 := Aside0.mk (HG2.out.below hb7)
          have HC7 := Aside0.mk hC7
          have HL7 := Aside0.mk hc7
          have HP7 := Aside0.mk (blk_below HPB.out HG7.out.bl)
          generalize wr.heap.size = q at *
          have q6 : w7.cell? ⟨q, 6, none⟩ = some (.int .u32 y6) := (blk_cell HQ7.out 6).trans rfl
          have q7 : w7.cell? ⟨q, 7, none⟩ = some (.int .u32 (Y7 : Int)) := (blk_cell HQ7.out 7).trans rfl
          have o0 : w7.cell? ⟨p, 0, none⟩ = some (.slice As secs.length cs) := (blk_cell HP7.out 0).trans rfl
          have HBW : Aside0 (Below w.heap.size w w7) := ⟨below_step HB1.out HG7.out.bl⟩
          clear hC7 hc7 hb7 HRP HQB HQ7 HP7 x0 x1 x2 x3 x4 x5 x6 x7 x8 x9
          by_cases c6 : y6 = row
          · have d6 : (y6 == row) = true := by simpa using c6
            rw [if_pos c6] at HST
            clear c6
            by_cases cn : Y7 < nums.length
            · have d7 : decide ((Y7 : Int) < (nums.length : Int)) = true := decide_eq_true (Int.ofNat_lt.2 cn)
              have d7p : ((Y7 : Int) < (nums.length : Int)) = True := eq_true (Int.ofNat_lt.2 cn)
              have d7n : (Y7 < nums.length) = True := eq_true cn
              obtain ⟨an, ea, b0⟩ := Kd.at_int (Kd.C_below HNN.out HG7.out.bl) (Y7 : Int) q0 (Int.ofNat_lt.2 cn)
              cases ea
              rw [Int.toNat_natCast] at b0
              have hg : nums[Y7]? = some (rd nums (Y7 : Int)) := by rw [rd_at nums (Y7 : Int) q0 (by rw [Int.toNat_natCast]; exact cn)]; exact List.getElem?_eq_getElem _
              have hnm := HNM.out _ (List.mem_of_getElem? hg)
              rw [hg, Option.bind_some] at HST
              clear cn hg
              generalize rd nums (Y7 : Int) = n at *
              have hrem : Int.tmod (L.length : Int) 12 = ((L.length % 12 : Nat) : Int) := rfl
              by_cases c0n : 0 ≤ n
              · have d0 : decide (0 ≤ n) = true := decide_eq_true c0n
                have d0p : (0 ≤ n) = True := eq_true c0n
                by_cases cm : L.length % 12 = 0
                · obtain ⟨N, rfl⟩ := Int.eq_ofNat_of_zero_le c0n
                  have hNl : N < secs.length := Int.ofNat_lt.1 hnm
                  have n0 : 0 ≤ (N : Int) := c0n
                  have n1 : ((N : Int) < (secs.length : Int)) = True := eq_true hnm
                  have n2 : (N < secs.length) = True := eq_true hNl
                  obtain ⟨sd, A5, c5, ea, s0, s1, s2, s3, s4, s5, l5, g5⟩ := at_T40 (Kd.C_below HSS.out HG7.out.bl) (N : Int) c0n hnm
                  cases ea
                  rw [Int.toNat_natCast] at s1
                  clear s0 s2 s3 s4 s5 l5 g5
                  have HNI := Aside0.mk hnm
                  by_cases cf : (rd_T40 secs (N : Int)).f1 = 1
                  · have df : ((rd_T40 secs (N : Int)).f1 == 1) = true := by simpa using cf
                    have HST2 : Aside0 (foldO (relRow b secs nums as_ row) [] (rows.take (i + 1)) = foldO (relR (rd_T40 secs (N : Int)) (N : Int) as_) l (chunks L 12)) := ⟨by have h := HST.out; rw [if_pos ⟨c0n, cm, cf⟩] at h; exact h⟩
                    have HCM := Aside0.mk cm
                    clear cf HST hnm hNl
                    go_wp2_with fail
                    refine (want_yes 5 _).mono ?_
                    rintro e w' ⟨rfl, rfl⟩
                    go_wp2_with fail
                    refine (want_yes 5 _).mono ?_
                    rintro e w' ⟨rfl, rfl⟩
                    have HCA : Aside0 (∀ j, 12 * j < L.length → (chunks L 12)[j]? = some ((L.take (12 * j + 12)).drop (12 * j))) := ⟨fun j h => chunk12_at L j h HCM.out⟩
                    have HCN : Aside0 (∀ j, ¬ 12 * j < L.length → j ≤ (chunks L 12).length → j = (chunks L 12).length) := ⟨fun j h h2 => chunk12_n L j HCM.out h h2⟩
                    have HCL : Aside0 (∀ j, 12 * j < L.length → j < (chunks L 12).length) := ⟨fun j h => chunk12_lt L j HCM.out h⟩
                    have HCX := Aside0.mk (chunk12_max L HPL.out)
                    generalize chunks L 12 = CS at *
                    have HF0 : Aside0 (foldO (relR (rd_T40 secs (N : Int)) (N : Int) as_) l (CS.take 0) = some l) := ⟨rfl⟩
                    clear q6 q7 d6 d7 d7p d7n d0 d0p df s1 b0 hrem
                    go_wp2_with fail
                    go_loopg [11, 16] (CS.length + 1) (fun kq v11 v16 w' => ∃ (j : Nat) (l2 : List S59), v16 = .int .i64 ((12 * j : Nat) : Int) ∧ Aside0 (j + kq = CS.length + 1) ∧ Aside0 (j ≤ CS.length) ∧ Aside0 (foldO (relR (rd_T40 secs (N : Int)) (N : Int) as_) l (CS.take j) = some l2) ∧ Aside0 (l2.length = l.length + j) ∧ Aside0 (∀ x ∈ l2, 0 ≤ x.f0 ∧ x.f0 < secs.length) ∧ Aside0 (∃ S, Gr k59 59 (Kd.int .i64) 3 w1 w' S (fun _ => False) v11 (.slice none 0 0) l2 []))
                    case atStart => exact ⟨0, l, rfl, ⟨by omega⟩, ⟨by omega⟩, HF0, ⟨rfl⟩, HKY, ⟨⟨_, HG7.out⟩⟩⟩
                    case round =>
                      clear HF0 HG7 HG2 HBW o0 HNS S
                      obtain ⟨j, l2, rfl, JK, JI, JF, JL, JY, JG⟩ := hrel
                      by_cases cj : 12 * j < L.length
                      · cases gk with
                        | zero => exact absurd JK.out (by have := HCL.out j cj; omega)
                        | succ gj =>
                          obtain ⟨S2, hg2⟩ := JG.out
                          have JI2 := Aside0.mk (HCL.out j cj)
                          have hcs := HCA.out j cj
                          have hst := foldO_take JF.out hcs
                          have hp12 : 12 * j + 12 ≤ L.length := by have := HCM.out; omega
                          have hpn : 12 * (j + 1) = 12 * j + 12 := by omega
                          have HPN := Aside0.mk hpn
                          have ht : 12 * j ≤ 65536 := by have := HPL.out; omega
                          generalize 12 * j = t at *
                          rw [relR_is hp12] at hst
                          have r0 := gw_rg L HPY.out t 4 (by decide)
                          have r1 := gw_rg L HPY.out (t + 4) 4 (by decide)
                          have r2 := gw_rg L HPY.out (t + 8) 4 (by decide)
                          have HGT : ∀ W, Below w1.heap.size w1 W → ∀ k, t + k + 4 ≤ L.length → Calls Try.prog 74 #[.slice A7 L.length c7, .int .i64 ((t + k : Nat) : Int), .int .i64 ((4 : Nat) : Int)] W fun e w' => e = .returned (.tuple #[.int .u64 (gw L (t + k) 4), .int .i64 0]) ∧ Below W.heap.size W w' := fun W hW k hk => by
                            have h := Get_calls A7 c7 L HPY.out (by have := HPL.out; omega) ((t + k : Nat) : Int) ((4 : Nat) : Int) W (HC7.out W (Kd.C_below HB0.out hW)) HL7.out
                            rw [getV_ok L (t + k) 4 (Or.inr rfl) hk] at h
                            exact h
                          have HT0 : Aside0 (∀ W, Below w1.heap.size w1 W → Calls Try.prog 74 #[.slice A7 L.length c7, .int .i64 (t : Int), .int .i64 4] W fun e w' => e = .returned (.tuple #[.int .u64 (gw L t 4), .int .i64 0]) ∧ Below W.heap.size W w') := ⟨fun W hW => HGT W hW 0 (by omega)⟩
                          have HT4 : Aside0 (∀ W, Below w1.heap.size w1 W → Calls Try.prog 74 #[.slice A7 L.length c7, .int .i64 ((t : Int) + 4), .int .i64 4] W fun e w' => e = .returned (.tuple #[.int .u64 (gw L (t + 4) 4), .int .i64 0]) ∧ Below W.heap.size W w') := ⟨fun W hW => HGT W hW 4 (by omega)⟩
                          have HT8 : Aside0 (∀ W, Below w1.heap.size w1 W → Calls Try.prog 74 #[.slice A7 L.length c7, .int .i64 ((t : Int) + 8), .int .i64 4] W fun e w' => e = .returned (.tuple #[.int .u64 (gw L (t + 8) 4), .int .i64 0]) ∧ Below W.heap.size W w') := ⟨fun W hW => HGT W hW 8 (by omega)⟩
                          have p1 : ((t : Int) < (L.length : Int)) = True := eq_true (by omega)
                          have hw4 : wrap64 ((t : Int) + 4) = (t : Int) + 4 := by unfold wrap64; omega
                          have hw8 : wrap64 ((t : Int) + 8) = (t : Int) + 8 := by unfold wrap64; omega
                          have hw12 : wrap64 ((t : Int) + 12) = (t : Int) + 12 := by unfold wrap64; omega
                          clear HGT hcs hpn hp12 ht JG cj JI
                          generalize gw L t 4 = X0 at *
                          generalize gw L (t + 4) 4 = X1 at *
                          generalize gw L (t + 8) 4 = X2 at *
                          have R0 := Aside0.mk r0
                          have R1 := Aside0.mk r1
                          have R2 := Aside0.mk r2
                          obtain ⟨A4, c4, rfl⟩ := Kd.R_slice hg2.r
                          have HG3 := Aside0.mk hg2
                          have HST := Aside0.mk hst
                          clear hg2 r0 r1 r2 hst
                          go_wp2_with fail
                          refine (HT0.out _ HG3.out.bl).mono ?_
                          rintro e wa ⟨rfl, hba⟩
                          have HBa := Aside0.mk (below_step HG3.out.bl hba)
                          have HGa := Aside0.mk (HG3.out.below hba)
                          clear hba
                          go_wp2_with fail
                          refine (HT4.out _ HBa.out).mono ?_
                          rintro e wb ⟨rfl, hbb⟩
                          have HBb := Aside0.mk (below_step HBa.out hbb)
                          have HGb := Aside0.mk (HGa.out.below hbb)
                          clear hbb
                          go_wp2_with fail
                          refine (HT8.out _ HBb.out).mono ?_
                          rintro e wc ⟨rfl, hbc⟩
                          have HBc := Aside0.mk (below_step HBb.out hbc)
                          have HGc := Aside0.mk (HGb.out.below hbc)
                          clear hbc HBa HBb HGa HGb HG3
                          have HPc := Aside0.mk (blk_below HPB.out HBc.out)
                          have o0 : wc.cell? ⟨p, 0, none⟩ = some (.slice (some sd) secs.length cs) := (blk_cell HPc.out 0).trans rfl
                          obtain ⟨sd', A5', c5', ea, s0, s1, s2, s3, s4, s5, l5, g5⟩ := at_T40 (Kd.C_below HSS.out HBc.out) (N : Int) n0 HNI.out
                          cases ea
                          rw [Int.toNat_natCast] at s4
                          clear s0 s1 s2 s3 s5 l5 g5
                          have hO := HSRG.out (rd_T40 secs (N : Int)) (by unfold rd_T40; rw [Int.toNat_natCast, List.getD_eq_getElem?_getD, List.getElem?_eq_getElem (Int.ofNat_lt.1 HNI.out)]; exact List.getElem_mem _)
                          have HOO := Aside0.mk hO
                          clear hO
                          generalize rd_T40 secs (N : Int) = O at *
                          have m4 : O.f4 % 18446744073709551616 = O.f4 := by have := HOO.out; omega
                          have m5 : (as_.length : Int) % 18446744073709551616 = (as_.length : Int) := by have := HAL.out; omega
                          have k0 : 0 ≤ X1 / 256 := by have := R1.out; omega
                          obtain ⟨Kn, hKn⟩ := Int.eq_ofNat_of_zero_le k0
                          rw [hKn, Int.toNat_natCast] at HST
                          have k1 : 0 ≤ (Kn : Int) := Int.natCast_nonneg Kn
                          clear k0
                          by_cases c1 : X0 < O.f4
                          · have d1 : decide (X0 < O.f4) = true := decide_eq_true c1
                            have d1p : (X0 < O.f4) = True := eq_true c1
                            rw [if_pos c1] at HST
                            clear c1
                            by_cases c2 : Kn < as_.length
                            · have d2 : decide ((Kn : Int) < (as_.length : Int)) = true := decide_eq_true (Int.ofNat_lt.2 c2)
                              have d2p : ((Kn : Int) < (as_.length : Int)) = True := eq_true (Int.ofNat_lt.2 c2)
                              have d2n : (Kn < as_.length) = True := eq_true c2
                              obtain ⟨an2, ea, b0⟩ := Kd.at_int (Kd.C_below HAA.out HBc.out) (Kn : Int) k1 (Int.ofNat_lt.2 c2)
                              cases ea
                              rw [Int.toNat_natCast] at b0
                              have hg : as_[Kn]? = some (rd as_ (Kn : Int)) := by rw [rd_at as_ (Kn : Int) k1 (by rw [Int.toNat_natCast]; exact c2)]; exact List.getElem?_eq_getElem _
                              rw [hg, Option.bind_some] at HST
                              clear c2 hg
                              generalize rd as_ (Kn : Int) = m at *
                              by_cases c3 : -1 ≤ m
                              · have d3 : decide (-1 ≤ m) = true := decide_eq_true c3
                                have d3p : (-1 ≤ m) = True := eq_true c3
                                have HFF : Aside0 (foldO (relR O (N : Int) as_) l (CS.take (j + 1)) = some (l2 ++ [⟨(N : Int), X0, X1 % 256, m, wrap32 X2⟩])) := ⟨by have h := HST.out; rw [if_pos c3] at h; rw [h, IntWalk.i32_left]⟩
                                have mx0 : X0 % 4294967296 = X0 := by have := R0.out; omega
                                have mx2 : X2 % 4294967296 = X2 := by have := R2.out; omega
                                clear c3 HST
                                go_wp2_with fail
                                refine (want_yes 5 _).mono ?_
                                rintro e w' ⟨rfl, rfl⟩
                                go_wp2_with (first | ((with_reducible refine gate_builtin (b := .append) (xs := #[.tmp 131, .tmp 146]) rfl ?_); at_builtin; refine ev_one k59 rfl (.tmp 131) (.tmp 146) 24 59 _ 32 rfl Try.underlying24 info59 rfl (by decide) (by decide) (.slice A4 l2.length c4) l2 ⟨(N : Int), X0, X1 % 256, m, wrap32 X2⟩ [.int .i64 (N : Int), .int .u32 X0, .int .u8 (X1 % 256), .int .i64 m, .int .i32 (wrap32 X2)] S2 rfl rfl (k59_mkM _ _ _ _) HGc.out.r (by have := JL.out; have := JI2.out; have := HCX.out; have := HLL.out; have := HI2.out; have := HRL.out; omega) ?_; intro L3 A13 c13 w13 hL3 hr3 hg3; have HM := Aside0.mk (HGc.out.set1 (T := fun _ => False) (fun k hk => hk.elim) (Kd.R_mono hr3 (fun k hk => ⟨hk.1.elim Or.inl (fun h => Or.inr (Or.inr h)), hk.2⟩)) hg3); clear hr3 hg3))
                                go_roundg gj
                                case measure => omega
                                case rel => exact ⟨j + 1, L3, by rw [HPN.out]; first | rfl | (simp; done) | (simp [hw12]; done), ⟨by have := JK.out; omega⟩, ⟨JI2.out⟩, ⟨by rw [hL3.out]; exact HFF.out⟩, ⟨by rw [hL3.out, List.length_append, JL.out]; simp; omega⟩, ⟨fun x hx => by rw [hL3.out] at hx; rcases List.mem_append.1 hx with h | h; exact JY.out x h; rw [List.mem_singleton.1 h]; exact ⟨n0, HNI.out⟩⟩, ⟨⟨_, HM.out.1⟩⟩⟩
                              · have d3 : decide (-1 ≤ m) = false := decide_eq_false c3
                                have d3p : (-1 ≤ m) = False := eq_false c3
                                have HNO : Aside0 (relsR b rows secs nums as_ row = none) := ⟨by unfold relsR; have h := HST.out; rw [if_neg c3] at h; have h2 := HST2.out; rw [foldO_dead h] at h2; exact foldO_dead h2⟩
                                clear c3 HST
                                go_wp2_with fail
                                refine (want_no 5 _).mono ?_
                                rintro e w' ⟨rfl, rfl⟩
                                exact And.intro rfl (RelsRes.no HNO.out (below_step HB1.out HBc.out))
                            · have d2 : decide ((Kn : Int) < (as_.length : Int)) = false := decide_eq_false (fun h => c2 (Int.ofNat_lt.1 h))
                              have d2p : ((Kn : Int) < (as_.length : Int)) = False := eq_false (fun h => c2 (Int.ofNat_lt.1 h))
                              have d2n : (Kn < as_.length) = False := eq_false c2
                              have HNO : Aside0 (relsR b rows secs nums as_ row = none) := ⟨by unfold relsR; have h := HST.out; rw [List.getElem?_eq_none (Nat.le_of_not_lt c2)] at h; have h2 := HST2.out; rw [foldO_dead h] at h2; exact foldO_dead h2⟩
                              clear c2 HST
                              go_wp2_with fail
                              refine (want_no 5 _).mono ?_
                              rintro e w' ⟨rfl, rfl⟩
                              exact And.intro rfl (RelsRes.no HNO.out (below_step HB1.out HBc.out))
                          · have d1 : decide (X0 < O.f4) = false := decide_eq_false c1
                            have d1p : (X0 < O.f4) = False := eq_false c1
                            have HNO : Aside0 (relsR b rows secs nums as_ row = none) := ⟨by unfold relsR; have h := HST.out; rw [if_neg c1] at h; have h2 := HST2.out; rw [foldO_dead h] at h2; exact foldO_dead h2⟩
                            clear c1 HST
                            go_wp2_with fail
                            refine (want_no 5 _).mono ?_
                            rintro e w' ⟨rfl, rfl⟩
                            exact And.intro rfl (RelsRes.no HNO.out (below_step HB1.out HBc.out))
                      · have hcj := HCN.out j cj JI.out
                        have HFE : Aside0 (foldO (relRow b secs nums as_ row) [] (rows.take (i + 1)) = some l2) := ⟨by have h := JF.out; rw [hcj, List.take_length] at h; rw [HST2.out]; exact h⟩
                        have hpl := HPL.out
                        have HJ := Aside0.mk hcj
                        generalize 12 * j = t at *
                        have p1 : ((t : Int) < (L.length : Int)) = False := eq_false (by omega)
                        clear cj hcj hpl
                        go_wp2_with fail
                        go_roundg gq
                        case measure => omega
                        case rel => exact ⟨i + 1, l2, by first | rfl | (simp; done) | (simp [hw]; done), ⟨by have := HK.out; omega⟩, ⟨by have := HI2.out; omega⟩, HFE, ⟨by have := HLL.out; have := JL.out; have := HJ.out; have := HCX.out; omega⟩, JY, JG⟩
                  · have df : ((rd_T40 secs (N : Int)).f1 == 1) = false := by simpa using cf
                    have HNO : Aside0 (relsR b rows secs nums as_ row = none) := ⟨by unfold relsR; have h := HST.out; rw [if_neg (fun hh => cf hh.2.2)] at h; exact foldO_dead h⟩
                    clear cf HST hnm hNl
                    go_wp2_with fail
                    refine (want_yes 5 _).mono ?_
                    rintro e w' ⟨rfl, rfl⟩
                    go_wp2_with fail
                    refine (want_no 5 _).mono ?_
                    rintro e w' ⟨rfl, rfl⟩
                    exact And.intro rfl (RelsRes.no HNO.out HBW.out)
                · have HNO : Aside0 (relsR b rows secs nums as_ row = none) := ⟨by unfold relsR; have h := HST.out; rw [if_neg (fun hh => cm hh.2.1)] at h; exact foldO_dead h⟩
                  have cm2 : ((L.length : Int) % 12 == 0) = false := beq_eq_false_iff_ne.2 (by omega)
                  clear HST hnm c0n
                  go_wp2_with fail
                  refine (want_no 5 _).mono ?_
                  rintro e w' ⟨rfl, rfl⟩
                  exact And.intro rfl (RelsRes.no HNO.out HBW.out)
              · have d0 : decide (0 ≤ n) = false := decide_eq_false c0n
                have d0p : (0 ≤ n) = False := eq_false c0n
                have HNO : Aside0 (relsR b rows secs nums as_ row = none) := ⟨by unfold relsR; have h := HST.out; rw [if_neg (fun hh => c0n hh.1)] at h; exact foldO_dead h⟩
                clear HST hnm c0n
                go_wp2_with fail
                refine (want_no 5 _).mono ?_
                rintro e w' ⟨rfl, rfl⟩
                exact And.intro rfl (RelsRes.no HNO.out HBW.out)
            · have d7 : decide ((Y7 : Int) < (nums.length : Int)) = false := decide_eq_false (fun h => cn (Int.ofNat_lt.1 h))
              have d7p : ((Y7 : Int) < (nums.length : Int)) = False := eq_false (fun h => cn (Int.ofNat_lt.1 h))
              have d7n : (Y7 < nums.length) = False := eq_false cn
              have HNO : Aside0 (relsR b rows secs nums as_ row = none) := ⟨by unfold relsR; have h := HST.out; rw [List.getElem?_eq_none (Nat.le_of_not_lt cn)] at h; exact foldO_dead h⟩
              clear cn HST
              go_wp2_with fail
              refine (want_no 5 _).mono ?_
              rintro e w' ⟨rfl, rfl⟩
              exact And.intro rfl (RelsRes.no HNO.out HBW.out)
          · have d6 : (y6 == row) = false := by simpa using c6
            have HNO : Aside0 (relsR b rows secs nums as_ row = none) := ⟨by unfold relsR; have h := HST.out; rw [if_neg c6] at h; exact foldO_dead h⟩
            clear c6 HST
            go_wp2_with fail
            refine (want_no 5 _).mono ?_
            rintro e w' ⟨rfl, rfl⟩
            exact And.intro rfl (RelsRes.no HNO.out HBW.out)
        · have k4 : (y1 != 4) = true := by simpa using ck
          have HF2 : Aside0 (foldO (relRow b secs nums as_ row) [] (rows.take (i + 1)) = some l) := ⟨by rw [hst]; exact relRow_other ck⟩
          clear ck hst
          go_wp2_with fail
          go_roundg gq
          case measure => omega
          case rel => exact ⟨i + 1, l, by first | rfl | (simp; done) | (simp [hw]; done), ⟨by have := HK.out; omega⟩, ⟨by have := HI2.out; omega⟩, HF2, ⟨by have := HLL.out; omega⟩, HKY, ⟨⟨_, HG2.out⟩⟩⟩
    · obtain ⟨S, hg⟩ := HG.out
      have hi : i = rows.length := by have := HI.out; omega
      have p1 : ((i : Int) < (rows.length : Int)) = False := eq_false (by omega)
      have p2 : (i < rows.length) = False := eq_false ci
      have HZ : Aside0 (relsR b rows secs nums as_ row = some l) := ⟨by unfold relsR; have h := HF.out; rw [hi, List.take_length] at h; exact h⟩
      have HSR := Aside0.mk (HSO.out secs.length l _ S wr HSL.out hg.r HKY.out (by have := HLL.out; have := HI.out; have := HRL.out; omega))
      obtain ⟨A4, c4, rfl⟩ := Kd.R_slice hg.r
      have HG2 := Aside0.mk hg
      clear ci HG hg hi
      go_wp2_with fail
      refine HSR.out.mono ?_
      rintro e w3 ⟨rfl, hr3, hf3⟩
      have HR3 := Aside0.mk hr3
      have HF3 := Aside0.mk hf3
      clear hr3 hf3
      go_wp2_with fail
      go_ret
      have hz1 := HB1.out.size
      refine RelsRes.ok HZ.out HR3.out (HF3.out.below (below_step HB1.out HG2.out.bl) (fun k hk => Nat.le_trans hz1 (HG2.out.q k hk).1) (below_step HB1.out HG2.out.bl).size) (fun k hk => ⟨Nat.le_trans hz1 (HG2.out.q k hk).1, Nat.lt_of_lt_of_le (HG2.out.q k hk).2 HF3.out.size⟩)
end Go.Proofs.Ytockojajbnnbpaa.E
namespace Go.Proofs.Ytockojajbnnbpaa.E
open Go.RowKit Go.Proofs.Ytockojajbnnbpaa.Q Go.Proofs.YtockojajbnnbpaaW.PrintWords Go.Proofs.YtockojajbnnbpaaW.PrintLast Go.Proofs.YtockojajbnnbpaaW.PrintMore
set_option linter.unusedVariables false
set_option linter.unusedSimpArgs false
theorem foldO_inv {σ α : Type} {f : σ → α → Option σ} {P : σ → Prop} : ∀ (l : List α) (s t : σ), P s → (∀ s x t, x ∈ l → P s → f s x = some t → P t) → foldO f s l = some t → P t
  | [], s, t, h, _, he => by
    have : s = t := Option.some.inj he
    rw [← this]; exact h
  | x :: l, s, t, h, hf, he => by
    unfold foldO at he
    cases hx : f s x with
    | none => rw [hx] at he; cases he
    | some u =>
      rw [hx] at he
      exact foldO_inv l u t (hf s x u List.mem_cons_self h hx) (fun s y t hy => hf s y t (List.mem_cons_of_mem _ hy)) he
theorem foldO_len {σ α : Type} {f : σ → α → Option σ} (μ : σ → Nat) (hf : ∀ s x t, f s x = some t → μ t ≤ μ s + 1) : ∀ (l : List α) (s t : σ), foldO f s l = some t → μ t ≤ μ s + l.length
  | [], s, t, he => by
    have : s = t := Option.some.inj he
    rw [this]; exact Nat.le_refl _
  | x :: l, s, t, he => by
    unfold foldO at he
    cases hx : f s x with
    | none => rw [hx] at he; cases he
    | some u =>
      rw [hx] at he
      have h1 := hf s x u hx
      have h2 := foldO_len μ hf l u t he
      rw [List.length_cons]
      omega
def SecK (x : S40) : Prop := SecP x ∧ (0 ≤ x.f1 ∧ x.f1 < 4294967296) ∧ (0 ≤ x.f2 ∧ x.f2 < 4294967296) ∧ (0 ≤ x.f3 ∧ x.f3 < 4294967296) ∧ (0 ≤ x.f4 ∧ x.f4 < 4294967296) ∧ AllBytes x.f5 ∧ x.f5.length ≤ 65536
theorem partB_le (b : List Int) (x : S47) (hl : b.length ≤ 65536) : (partB b x).length ≤ 65536 := by
  unfold partB
  rw [List.length_take, List.length_drop]
  omega
theorem secsR_inv {b : List Int} {rows : List S47} {names : S47} (hb : AllBytes b) (hl : b.length ≤ 65536) (hr : ∀ x ∈ rows, RowRg x) {p : List S40 × List Int} (h : secsR b rows names = some p) :
    (∀ m ∈ p.2, m < p.1.length) ∧ (∀ x ∈ p.1, SecK x) ∧ p.1.length ≤ rows.length ∧ p.2.length ≤ rows.length := by
  have h1 : (∀ m ∈ p.2, m < p.1.length) ∧ (∀ x ∈ p.1, SecK x) := by
    refine foldO_inv (P := fun s : List S40 × List Int => (∀ m ∈ s.2, m < s.1.length) ∧ (∀ x ∈ s.1, SecK x)) rows ([], []) p ⟨fun m hm => absurd hm (List.not_mem_nil), fun m hm => absurd hm (List.not_mem_nil)⟩ ?_ h
    rintro s x t hx ⟨h1, h2⟩ he
    have hrx := hr x hx
    by_cases c : x.f1 ≠ 1 ∧ x.f1 ≠ 8
    · unfold secR at he
      rw [if_pos c] at he
      cases he
      refine ⟨fun m hm => ?_, h2⟩
      rcases List.mem_append.1 hm with hm | hm
      · exact h1 m hm
      · rw [List.mem_singleton.1 hm]; show (-1 : Int) < (s.1.length : Int); omega
    · rw [secR_in _ _ _ _ c] at he
      cases ht : textS b names x.f0 with
      | none => rw [ht] at he; cases he
      | some tt =>
        rw [ht, Option.bind_some] at he
        by_cases c2 : x.f3 = 0 ∧ SecP ⟨strOfNums tt, x.f1, x.f2, x.f8, x.f5, if x.f1 = 1 then partB b x else []⟩
        · rw [if_pos c2] at he
          cases he
          refine ⟨fun m hm => ?_, fun y hy => ?_⟩
          · show m < ((s.1 ++ [_]).length : Int)
            rw [List.length_append]
            rcases List.mem_append.1 hm with hm | hm
            · have := h1 m hm; simp; omega
            · rw [List.mem_singleton.1 hm]; simp; omega
          · rcases List.mem_append.1 hy with hy | hy
            · exact h2 y hy
            · rw [List.mem_singleton.1 hy]
              refine ⟨c2.2, hrx x.f1 (by simp [fieldsL]), hrx x.f2 (by simp [fieldsL]), hrx x.f8 (by simp [fieldsL]), hrx x.f5 (by simp [fieldsL]), ?_, ?_⟩
              · show AllBytes (if x.f1 = 1 then partB b x else [])
                split
                · exact partB_bytes hb x
                · exact fun z hz => absurd hz (List.not_mem_nil)
              · show (if x.f1 = 1 then partB b x else []).length ≤ 65536
                split
                · exact partB_le b x hl
                · exact Nat.zero_le _
        · rw [if_neg c2] at he; cases he
  refine ⟨h1.1, h1.2, ?_, ?_⟩
  · have := foldO_len (f := secR b names) (fun s => s.1.length) (fun s x t he => ?_) rows ([], []) p h
    · simpa using this
    · by_cases c : x.f1 ≠ 1 ∧ x.f1 ≠ 8
      · unfold secR at he; rw [if_pos c] at he; cases he; exact Nat.le_succ _
      · rw [secR_in _ _ _ _ c] at he
        cases ht : textS b names x.f0 with
        | none => rw [ht] at he; cases he
        | some tt =>
          rw [ht, Option.bind_some] at he
          by_cases c2 : x.f3 = 0 ∧ SecP ⟨strOfNums tt, x.f1, x.f2, x.f8, x.f5, if x.f1 = 1 then partB b x else []⟩
          · rw [if_pos c2] at he; cases he; simp
          · rw [if_neg c2] at he; cases he
  · have := foldO_len (f := secR b names) (fun s => s.2.length) (fun s x t he => ?_) rows ([], []) p h
    · simpa using this
    · by_cases c : x.f1 ≠ 1 ∧ x.f1 ≠ 8
      · unfold secR at he; rw [if_pos c] at he; cases he; simp
      · rw [secR_in _ _ _ _ c] at he
        cases ht : textS b names x.f0 with
        | none => rw [ht] at he; cases he
        | some tt =>
          rw [ht, Option.bind_some] at he
          by_cases c2 : x.f3 = 0 ∧ SecP ⟨strOfNums tt, x.f1, x.f2, x.f8, x.f5, if x.f1 = 1 then partB b x else []⟩
          · rw [if_pos c2] at he; cases he; simp
          · rw [if_neg c2] at he; cases he
end Go.Proofs.Ytockojajbnnbpaa.E
namespace Go.Proofs.Ytockojajbnnbpaa.E
open Go.RowKit Go.Proofs.Ytockojajbnnbpaa.Q Go.Proofs.YtockojajbnnbpaaW.PrintWords
set_option linter.unusedVariables false
set_option linter.unusedSimpArgs false
theorem str_again (s : ByteArray) : strOfNums (bytesOf s) = s := by
  obtain ⟨⟨l⟩⟩ := s
  unfold strOfNums bytesOf
  rw [List.map_map]
  have : ((fun n : Int => UInt8.ofNat n.toNat) ∘ fun b : UInt8 => (b.toNat : Int)) = id := by
    funext b
    simp
  rw [this, List.map_id]
theorem text_back {b NB t : List Int} {names : S47} {s : ByteArray} (hs : NameP s) (hp : (addS t s).2 <+: NB) (h0 : ∃ m, NB = 0 :: m) (hb : partB b names = NB) (ht : t.length < 4294967296) : textS b names (addS t s).1 = some (bytesOf s) := by
  unfold textS
  rw [hb]
  have hn : nameL (bytesOf s) := ⟨hs.1, by rw [bytesOf_length]; exact hs.2⟩
  unfold addS at hp ⊢
  by_cases c : s.size = 0
  · rw [if_pos c]
    obtain ⟨m, rfl⟩ := h0
    have e : bytesOf s = [] := List.length_eq_zero_iff.1 (by rw [bytesOf_length]; exact c)
    show (if (0 : Int) ∈ (0 :: m) ∧ nameL ((0 :: m).takeWhile (· != 0)) then some ((0 :: m).takeWhile (· != 0)) else none) = _
    have e2 : (0 :: m : List Int).takeWhile (· != 0) = [] := rfl
    rw [e] at hn
    rw [e2, e, if_pos ⟨List.mem_cons_self, hn⟩]
  · rw [if_neg c] at hp ⊢
    obtain ⟨m, hm⟩ := hp
    show (if (0 : Int) ∈ NB.drop ((t.length : Int) % 4294967296).toNat ∧ nameL ((NB.drop ((t.length : Int) % 4294967296).toNat).takeWhile (· != 0)) then some ((NB.drop ((t.length : Int) % 4294967296).toNat).takeWhile (· != 0)) else none) = _
    rw [Int.emod_eq_of_lt (by omega) (by omega), Int.toNat_natCast]
    have hd : NB.drop t.length = bytesOf s ++ (0 :: m) := by
      rw [← hm]
      show ((t ++ bytesOf s ++ [0]) ++ m).drop t.length = _
      simp only [List.append_assoc, List.singleton_append, List.drop_left]
    have ht : (NB.drop t.length).takeWhile (· != 0) = bytesOf s := by
      rw [hd, List.takeWhile_append_of_pos (fun c hc => by have := hs.1 c hc; simp; omega)]
      show bytesOf s ++ (0 :: m : List Int).takeWhile (· != 0) = _
      exact List.append_nil _
    rw [ht, if_pos ⟨by rw [hd]; exact List.mem_append_right _ List.mem_cons_self, hn⟩]
def upFrom : Nat → Nat → List Int
  | _, 0 => []
  | a, n + 1 => (a : Int) :: upFrom (a + 1) n
theorem upFrom_at : ∀ (n a i : Nat), i < n → (upFrom a n)[i]? = some ((a + i : Nat) : Int)
  | 0, _, _, h => absurd h (Nat.not_lt_zero _)
  | n + 1, a, 0, _ => rfl
  | n + 1, a, i + 1, h => by
    show (upFrom (a + 1) n)[i]? = _
    rw [upFrom_at n (a + 1) i (by omega)]
    congr 2; omega
theorem upFrom_len : ∀ (n a : Nat), (upFrom a n).length = n
  | 0, _ => rfl
  | n + 1, a => by show (upFrom (a + 1) n).length + 1 = _; rw [upFrom_len n]
def secRow (s : Wst × List Int) (x : S40) : S47 := rowOf s.1 ⟨(addS s.2 x.f0).1, x.f1, x.f2, 0, 0, x.f4, 0, 0, x.f3, 0⟩ x.f5
def secRows : Wst × List Int → List S40 → List S47
  | _, [] => []
  | s, x :: t => secRow s x :: secRows (secStep s x) t
theorem secRows_len : ∀ (l : List S40) (s : Wst × List Int), (secRows s l).length = l.length
  | [], _ => rfl
  | x :: t, s => by show (secRows (secStep s x) t).length + 1 = _; rw [secRows_len t]; rfl
theorem st1_rows : ∀ (l : List S40) (s : Wst × List Int), (l.foldl secStep s).1.rows = s.1.rows ++ secRows s l
  | [], s => (List.append_nil _).symm
  | x :: t, s => by
    rw [List.foldl_cons, st1_rows t]
    show (s.1.rows ++ [secRow s x]) ++ secRows (secStep s x) t = s.1.rows ++ (secRow s x :: secRows (secStep s x) t)
    rw [List.append_assoc]; rfl
theorem st1_ext : ∀ (l : List S40) (s : Wst × List Int), Ext s.1 (l.foldl secStep s).1
  | [], s => Ext.refl _
  | x :: t, s => (partS_ext s.1 _ x.f5).trans (st1_ext t (secStep s x))
theorem addS_pre (t : List Int) (s : ByteArray) : t <+: (addS t s).2 := by
  unfold addS
  by_cases c : s.size = 0
  · rw [if_pos c]; exact List.prefix_refl _
  · rw [if_neg c]; exact (List.prefix_append t _).trans (List.prefix_append _ _)
theorem st1_pre : ∀ (l : List S40) (s : Wst × List Int), s.2 <+: (l.foldl secStep s).2
  | [], s => List.prefix_refl _
  | x :: t, s => (addS_pre s.2 x.f0).trans (st1_pre t (secStep s x))
theorem S40_eq {x : S40} {a : ByteArray} {f : List Int} {d : Int} (h0 : a = x.f0) (h4 : d = x.f4) (h5 : f = x.f5) : (⟨a, x.f1, x.f2, x.f3, d, f⟩ : S40) = x := by
  subst h0 h4 h5; rfl
theorem secs_back {b NB : List Int} {names : S47} {F : Wst} (hL : Laid b F) (hb : partB b names = NB) (h0 : ∃ m, NB = 0 :: m) (hN : NB.length < 4294967296) : ∀ (l : List S40) (s : Wst × List Int) (acc : List S40) (nums : List Int),
    (∀ x ∈ l, SecP x ∧ 0 ≤ x.f4 ∧ x.f4 < 4294967296) → 52 ≤ s.1.b.length → Ext (l.foldl secStep s).1 F → (l.foldl secStep s).2 <+: NB →
    foldO (secR b names) (acc, nums) (secRows s l) = some (acc ++ l, nums ++ upFrom acc.length l.length)
  | [], s, acc, nums, _, _, _, _ => by show some (acc, nums) = some (acc ++ [], nums ++ []); rw [List.append_nil, List.append_nil]
  | x :: t, s, acc, nums, hx, h52, hE, hP => by
    obtain ⟨hs, h4, h5⟩ := hx x List.mem_cons_self
    have hext : Ext (partS s.1 ⟨(addS s.2 x.f0).1, x.f1, x.f2, 0, 0, x.f4, 0, 0, x.f3, 0⟩ x.f5) F := (st1_ext t (secStep s x)).trans hE
    have hpre : (addS s.2 x.f0).2 <+: NB := (st1_pre t (secStep s x)).trans hP
    have htl : s.2.length < 4294967296 := by
      have := ((addS_pre s.2 x.f0).trans hpre).length_le; omega
    have htx := text_back hs.1 hpre h0 hb htl
    have hstep : secR b names (acc, nums) (secRow s x) = some (acc ++ [x], nums ++ [(acc.length : Int)]) := by
      have hk : ¬ ((secRow s x).f1 ≠ 1 ∧ (secRow s x).f1 ≠ 8) := fun h => by
        have h1 : (secRow s x).f1 = x.f1 := rfl
        rw [h1] at h
        rcases hs.2.2.2 with ⟨h2, _⟩ | ⟨h2, _⟩
        · exact h.1 h2
        · exact h.2 h2
      rw [secR_in _ _ _ _ hk]
      have e0 : (secRow s x).f0 = (addS s.2 x.f0).1 := rfl
      rw [e0, htx, Option.bind_some]
      have e1 : (⟨strOfNums (bytesOf x.f0), (secRow s x).f1, (secRow s x).f2, (secRow s x).f8, (secRow s x).f5, if (secRow s x).f1 = 1 then partB b (secRow s x) else []⟩ : S40) = x := by
        rcases hs.2.2.2 with ⟨k1, k2⟩ | ⟨k1, k2⟩
        · have hpart := hL.part hext h52 (show x.f1 ≠ 8 by omega)
          refine S40_eq (str_again _) ?_ ?_
          · show (if x.f1 = 8 then x.f4 else (x.f5.length : Int) % 4294967296) = x.f4
            rw [if_neg (by omega), k2, Int.emod_eq_of_lt h4 h5]
          · show (if x.f1 = 1 then _ else _) = _
            rw [if_pos k1]; exact hpart
        · refine S40_eq (str_again _) ?_ ?_
          · show (if x.f1 = 8 then x.f4 else (x.f5.length : Int) % 4294967296) = x.f4
            rw [if_pos k1]
          · show (if x.f1 = 1 then _ else _) = _
            rw [if_neg (by omega), k2]
      rw [e1, if_pos ⟨rfl, hs⟩]
    show (secR b names (acc, nums) (secRow s x)).bind (fun u => foldO (secR b names) u (secRows (secStep s x) t)) = _
    rw [hstep, Option.bind_some, secs_back hL hb h0 hN t (secStep s x) _ _ (fun y hy => hx y (List.mem_cons_of_mem _ hy)) (by
      have := (partS_ext s.1 ⟨(addS s.2 x.f0).1, x.f1, x.f2, 0, 0, x.f4, 0, 0, x.f3, 0⟩ x.f5).b.length_le
      exact Nat.le_trans h52 this) hE hP]
    rw [List.append_assoc, List.append_assoc, List.length_append]
    rfl
theorem secs_skip (b : List Int) (names : S47) : ∀ (l : List S47) (acc : List S40) (nums : List Int), (∀ x ∈ l, x.f1 ≠ 1 ∧ x.f1 ≠ 8) → foldO (secR b names) (acc, nums) l = some (acc, nums ++ List.replicate l.length (-1))
  | [], acc, nums, _ => by show some (acc, nums) = some (acc, nums ++ []); rw [List.append_nil]
  | x :: t, acc, nums, h => by
    show (secR b names (acc, nums) x).bind (fun u => foldO (secR b names) u t) = _
    have : secR b names (acc, nums) x = some (acc, nums ++ [-1]) := by unfold secR; rw [if_pos (h x List.mem_cons_self)]
    rw [this, Option.bind_some, secs_skip b names t _ _ (fun y hy => h y (List.mem_cons_of_mem _ hy)), List.append_assoc]
    rfl
end Go.Proofs.Ytockojajbnnbpaa.E
namespace Go.Proofs.Ytockojajbnnbpaa.E
open Go.RowKit Go.Proofs.Ytockojajbnnbpaa.Q Go.Proofs.YtockojajbnnbpaaW.PrintWords Go.Proofs.YtockojajbnnbpaaW.PrintLast Go.Proofs.YtockojajbnnbpaaW.PrintMore
set_option linter.unusedVariables false
set_option linter.unusedSimpArgs false
def SymK (n : Nat) (y : S94) : Prop := NameP y.f0 ∧ (0 ≤ y.f1 ∧ y.f1 < 4294967296) ∧ (0 ≤ y.f2 ∧ y.f2 < 4294967296) ∧ (0 ≤ y.f3 ∧ y.f3 ≤ 2) ∧ (0 ≤ y.f4 ∧ y.f4 ≤ 3) ∧ -3 ≤ y.f6 ∧ y.f6 < n
theorem textS_name {b : List Int} (hb : AllBytes b) {x : S47} {a : Int} {t : List Int} (h : textS b x a = some t) : NameP (strOfNums t) := by
  unfold textS at h
  by_cases c : (0 : Int) ∈ (partB b x).drop a.toNat ∧ nameL (((partB b x).drop a.toNat).takeWhile (· != 0))
  · rw [if_pos c] at h
    rw [← Option.some.inj h]
    refine (nameL_is _ (fun y hy => ?_)).2 c.2
    exact partB_bytes hb x y (List.mem_of_mem_drop ((List.takeWhile_sublist _).subset hy))
  · rw [if_neg c] at h; cases h
theorem inR_rg {nums : List Int} {n : Nat} (hn : ∀ m ∈ nums, m < n) {k m : Int} (h : inR nums k = some m) : -3 ≤ m ∧ m < n := by
  unfold inR at h
  by_cases c0 : k = 0
  · rw [if_pos c0] at h; cases h; omega
  rw [if_neg c0] at h
  by_cases c1 : k = 65521
  · rw [if_pos c1] at h; cases h; omega
  rw [if_neg c1] at h
  by_cases c2 : k = 65522
  · rw [if_pos c2] at h; cases h; omega
  rw [if_neg c2] at h
  cases hg : nums[k.toNat]? with
  | none => rw [hg] at h; cases h
  | some v =>
    rw [hg, Option.bind_some] at h
    by_cases c3 : 0 ≤ v
    · rw [if_pos c3] at h; cases h
      exact ⟨by omega, hn _ (List.mem_of_getElem? hg)⟩
    · rw [if_neg c3] at h; cases h
theorem rd_rg {e : List Int} (he : AllBytes e) (i : Int) : 0 ≤ rd e i ∧ rd e i ≤ 255 := by
  unfold rd
  rw [List.getD_eq_getElem?_getD]
  cases hg : e[i.toNat]? with
  | none => exact ⟨by decide, by decide⟩
  | some v => exact he v (List.mem_of_getElem? hg)
theorem symR_rg {b : List Int} (hb : AllBytes b) {names : S47} {nums e : List Int} {n : Nat} (hn : ∀ m ∈ nums, m < n) (he : AllBytes e) {y : S94} (h : symR b names nums e = some y) (h2 : rd e 12 / 16 ≤ 2) : SymK n y ∧ y.f3 = rd e 12 / 16 := by
  unfold symR at h
  cases ht : textS b names (gw e 0 4) with
  | none => rw [ht] at h; cases h
  | some t =>
    rw [ht, Option.bind_some] at h
    cases hm : inR nums (gw e 14 2) with
    | none => rw [hm] at h; cases h
    | some m =>
      rw [hm, Option.bind_some] at h
      by_cases c : rd e 12 % 16 ≤ 3 ∧ (rd e 13 = 0 ∨ rd e 13 = 2)
      · rw [if_pos c] at h
        cases h
        have h12 := rd_rg he 12
        refine ⟨⟨textS_name hb ht, gw_rg e he 4 4 (by decide), gw_rg e he 8 4 (by decide), ⟨?_, h2⟩, ⟨?_, c.1⟩, inR_rg hn hm⟩, rfl⟩
        · show 0 ≤ rd e 12 / 16; omega
        · show 0 ≤ rd e 12 % 16; omega
      · rw [if_neg c] at h; cases h
def TstK (n : Nat) (s : Tst) : Prop := (∀ m ∈ s.as_, m < s.l.length) ∧ (∀ y ∈ s.l, SymK n y) ∧ (s.oth = false → ∀ y ∈ s.l, y.f3 = 0) ∧ ∀ i x y, 0 < i → s.l[i]? = some x → s.l[i - 1]? = some y → x.f3 = 0 → y.f3 = 0
theorem symStepR_inv {b : List Int} (hb : AllBytes b) {names : S47} {nums e : List Int} {n : Nat} (hn : ∀ m ∈ nums, m < n) (he : AllBytes e) {s t : Tst} (hs : TstK n s) (h : symStepR b names nums s e = some t) : TstK n t := by
  obtain ⟨h1, h2, h3, h4⟩ := hs
  unfold symStepR at h
  by_cases c : rd e 12 / 16 ≤ 2 ∧ (0 < rd e 12 / 16 ∨ s.oth = false)
  · rw [if_pos c] at h
    have h12 := rd_rg he 12
    by_cases c4 : rd e 12 % 16 = 4
    · rw [if_pos c4] at h
      cases h
      refine ⟨fun m hm => ?_, h2, fun ho => ?_, h4⟩
      · rcases List.mem_append.1 hm with hm | hm
        · exact h1 m hm
        · rw [List.mem_singleton.1 hm]; show (-2 : Int) < (s.l.length : Int); omega
      · have hz : ¬ 0 < rd e 12 / 16 := of_decide_eq_false ho
        exact h3 (c.2.resolve_left hz)
    · rw [if_neg c4] at h
      cases hy : symR b names nums e with
      | none => rw [hy] at h; cases h
      | some y =>
        rw [hy, Option.bind_some] at h
        cases h
        obtain ⟨k1, k2⟩ := symR_rg hb hn he hy c.1
        refine ⟨fun m hm => ?_, fun z hz => ?_, fun ho z hz => ?_, fun i x z hi hx hz hx0 => ?_⟩
        · show m < ((s.l ++ [y]).length : Int)
          rw [List.length_append]
          rcases List.mem_append.1 hm with hm | hm
          · have := h1 m hm; simp; omega
          · rw [List.mem_singleton.1 hm]; simp; omega
        · rcases List.mem_append.1 hz with hz | hz
          · exact h2 z hz
          · rw [List.mem_singleton.1 hz]; exact k1
        · have hz0 : ¬ 0 < rd e 12 / 16 := of_decide_eq_false ho
          rcases List.mem_append.1 hz with hz | hz
          · exact h3 (c.2.resolve_left hz0) z hz
          · rw [List.mem_singleton.1 hz, k2]; omega
        · have hx' : (s.l ++ [y])[i]? = some x := hx
          have hz' : (s.l ++ [y])[i - 1]? = some z := hz
          by_cases ci : i < s.l.length
          · rw [List.getElem?_append_left ci] at hx'
            rw [List.getElem?_append_left (by omega)] at hz'
            exact h4 i x z hi hx' hz' hx0
          · have hil := (List.getElem?_eq_some_iff.1 hx').1
            rw [List.length_append] at hil
            have hie : i = s.l.length := by simp at hil; omega
            subst hie
            rw [List.getElem?_append_right (Nat.le_refl _)] at hx'
            simp at hx'
            subst hx'
            rw [k2] at hx0
            rw [List.getElem?_append_left (by omega)] at hz'
            exact h3 (c.2.resolve_left (by omega)) z (List.mem_of_getElem? hz')
  · rw [if_neg c] at h; cases h
end Go.Proofs.Ytockojajbnnbpaa.E
namespace Go.Proofs.Ytockojajbnnbpaa.E
open Go.RowKit Go.Proofs.Ytockojajbnnbpaa.Q Go.Proofs.YtockojajbnnbpaaW.PrintWords
set_option linter.unusedVariables false
set_option linter.unusedSimpArgs false
def symE (a : Int) (x : S94) : List Int := le4 a ++ le4 x.f1 ++ le4 x.f2 ++ le4 (infoS x)
theorem symE_len (a : Int) (x : S94) : (symE a x).length = 16 := by simp [symE, le4]
def symEs : Yst → List S94 → List (List Int)
  | _, [] => []
  | s, x :: t => symE (addS s.own x.f0).1 x :: symEs (symStep s x) t
theorem symEs_len : ∀ (l : List S94) (s : Yst), ∀ e ∈ symEs s l, e.length = 16
  | [], _, e, h => absurd h (List.not_mem_nil)
  | x :: t, s, e, h => by
    rcases List.mem_cons.1 h with rfl | h
    · exact symE_len _ _
    · exact symEs_len t _ e h
theorem yst_b : ∀ (l : List S94) (s : Yst), (l.foldl symStep s).b = s.b ++ (symEs s l).flatten
  | [], s => (List.append_nil _).symm
  | x :: t, s => by
    rw [List.foldl_cons, yst_b t]
    show (s.b ++ symE _ x) ++ _ = s.b ++ (symE _ x :: symEs (symStep s x) t).flatten
    rw [List.flatten_cons, List.append_assoc]
theorem yst_pre : ∀ (l : List S94) (s : Yst), s.own <+: (l.foldl symStep s).own
  | [], s => List.prefix_refl _
  | x :: t, s => (addS_pre s.own x.f0).trans (yst_pre t (symStep s x))
theorem gw_first (e : List Int) (x y : List Int) (h : e = x ++ y) (n : Nat) (hn : x.length = n) : gw e 0 n = numOf x := by
  subst h hn
  exact gw_app [] x y
theorem symE_is (a : Int) (x : S94) (ha : 0 ≤ a ∧ a < 4294967296) (h1 : 0 ≤ x.f1 ∧ x.f1 < 4294967296) (h2 : 0 ≤ x.f2 ∧ x.f2 < 4294967296) (h3 : 0 ≤ x.f3 ∧ x.f3 ≤ 2) (h4 : 0 ≤ x.f4 ∧ x.f4 ≤ 3) (h6 : 0 ≤ inS x.f6 ∧ inS x.f6 < 65536) :
    gw (symE a x) 0 4 = a ∧ gw (symE a x) 4 4 = x.f1 ∧ gw (symE a x) 8 4 = x.f2 ∧ rd (symE a x) 12 = 16 * x.f3 + x.f4 ∧ rd (symE a x) 13 = (if x.f5 = true then 2 else 0) ∧ gw (symE a x) 14 2 = inS x.f6 := by
  have e : symE a x = le4 a ++ (le4 x.f1 ++ (le4 x.f2 ++ le4 (infoS x))) := by unfold symE; simp only [List.append_assoc]
  refine ⟨?_, ?_, ?_, ?_, ?_, ?_⟩
  · rw [gw_first _ (le4 a) _ e 4 rfl, numOf_le4 _ ha.1 ha.2]
  · rw [e]; exact (gw_app (le4 a) (le4 x.f1) _).trans (numOf_le4 _ h1.1 h1.2)
  · rw [e, ← List.append_assoc]; exact (gw_app (le4 a ++ le4 x.f1) (le4 x.f2) _).trans (numOf_le4 _ h2.1 h2.2)
  · rw [e]
    show infoS x % 256 = _
    unfold infoS
    split <;> omega
  · rw [e]
    show infoS x / 256 % 256 = _
    unfold infoS
    split <;> omega
  · rw [e]
    show numOf [infoS x / 65536 % 256, infoS x / 16777216 % 256] = _
    simp only [numOf]
    unfold infoS
    split <;> omega
def OrdS : Bool → List S94 → Prop
  | _, [] => True
  | oth, x :: t => (x.f3 = 0 → oth = false) ∧ OrdS (decide (0 < x.f3)) t
theorem inS_rgP {n : Nat} (hn : n ≤ 65000) {m : Int} (h : -3 ≤ m ∧ m < n) : 0 ≤ inS m ∧ inS m < 65536 := by
  unfold inS
  by_cases a : m = -1
  · rw [if_pos a]; decide
  · rw [if_neg a]
    by_cases b : m = -2
    · rw [if_pos b]; decide
    · rw [if_neg b]
      by_cases c : m = -3
      · rw [if_pos c]; decide
      · rw [if_neg c]; omega
theorem in_back {n : Nat} (hn : n ≤ 65000) {nums : List Int} (hN : ∀ i : Nat, i < n → nums[i + 1]? = some (i : Int)) {m : Int} (h : -3 ≤ m ∧ m < n) : inR nums (inS m) = some m := by
  unfold inS
  by_cases a : m = -1
  · rw [if_pos a, a]; rfl
  · rw [if_neg a]
    by_cases b : m = -2
    · rw [if_pos b, b]; rfl
    · rw [if_neg b]
      by_cases c : m = -3
      · rw [if_pos c, c]; rfl
      · rw [if_neg c]
        obtain ⟨i, rfl⟩ := Int.eq_ofNat_of_zero_le (show 0 ≤ m by omega)
        unfold inR
        rw [if_neg (by omega), if_neg (by omega), if_neg (by omega), show ((i : Int) + 1).toNat = i + 1 by omega, hN i (by omega), Option.bind_some, if_pos (by omega)]
theorem S94_eq {x : S94} {a : ByteArray} {f : Bool} (h0 : a = x.f0) (h5 : f = x.f5) {b c d e g : Int} (h1 : b = x.f1) (h2 : c = x.f2) (h3 : d = x.f3) (h4 : e = x.f4) (h6 : g = x.f6) : (⟨a, b, c, d, e, f, g⟩ : S94) = x := by
  subst h0 h1 h2 h3 h4 h5 h6; rfl
theorem addS_rgP {t NB : List Int} {s : ByteArray} (hp : (addS t s).2 <+: NB) (hN : NB.length < 4294967296) : 0 ≤ (addS t s).1 ∧ (addS t s).1 < 4294967296 := by
  unfold addS
  by_cases c : s.size = 0
  · rw [if_pos c]; exact ⟨Int.le_refl 0, show (0 : Int) < 4294967296 by decide⟩
  · rw [if_neg c]; show 0 ≤ (t.length : Int) % 4294967296 ∧ (t.length : Int) % 4294967296 < 4294967296; omega
theorem syms_back {b NB : List Int} {names : S47} {nums : List Int} {n : Nat} (hn : n ≤ 65000) (hNu : ∀ i : Nat, i < n → nums[i + 1]? = some (i : Int)) (hb : partB b names = NB) (h0 : ∃ m, NB = 0 :: m) (hN : NB.length < 4294967296) : ∀ (l : List S94) (s : Yst) (st : Tst),
    (∀ x ∈ l, SymP n x ∧ SymRg x) → OrdS st.oth l → st.loc = s.loc → (l.foldl symStep s).own <+: NB →
    ∃ o, foldO (symStepR b names nums) st (symEs s l) = some ⟨st.l ++ l, st.as_ ++ upFrom st.l.length l.length, (l.foldl symStep s).loc, o⟩
  | [], s, st, _, _, hl, _ => ⟨st.oth, by
      show some st = _
      rw [List.append_nil]
      show some st = some ⟨st.l, st.as_ ++ [], s.loc, st.oth⟩
      rw [List.append_nil, ← hl]⟩
  | x :: t, s, st, hx, hO, hl, hP => by
    obtain ⟨⟨hnm, h3, h4, h6⟩, hr1, hr2, hr3, hr4⟩ := hx x List.mem_cons_self
    have hpre : (addS s.own x.f0).2 <+: NB := (yst_pre t (symStep s x)).trans hP
    have htl : s.own.length < 4294967296 := by
      have := ((addS_pre s.own x.f0).trans hpre).length_le; omega
    have htx := text_back hnm hpre h0 hb htl
    obtain ⟨g0, g4, g8, r12, r13, g14⟩ := symE_is (addS s.own x.f0).1 x (addS_rgP hpre hN) hr1 hr2 ⟨hr3.1, h3⟩ ⟨hr4.1, h4⟩ (inS_rgP hn h6)
    have hsym : symR b names nums (symE (addS s.own x.f0).1 x) = some x := by
      unfold symR
      rw [g0, htx, Option.bind_some, g14, in_back hn hNu h6, Option.bind_some, r12, r13, g4, g8]
      rw [if_pos ⟨by omega, by split <;> simp⟩]
      refine congrArg some (S94_eq (str_again _) ?_ rfl rfl (by omega) (by omega) rfl)
      by_cases c : x.f5 = true
      · rw [if_pos c, c]; rfl
      · rw [if_neg c]
        have : x.f5 = false := by cases h : x.f5 with | false => rfl | true => exact absurd h c
        rw [this]; rfl
    have hstep : symStepR b names nums st (symE (addS s.own x.f0).1 x) = some ⟨st.l ++ [x], st.as_ ++ [(st.l.length : Int)], if x.f3 = 0 then st.loc + 1 else st.loc, decide (0 < x.f3)⟩ := by
      unfold symStepR
      rw [r12, show (16 * x.f3 + x.f4) / 16 = x.f3 by omega, show (16 * x.f3 + x.f4) % 16 = x.f4 by omega, if_pos ⟨h3, by
        by_cases c : x.f3 = 0
        · exact .inr (hO.1 c)
        · exact .inl (by omega)⟩, if_neg (by omega), hsym, Option.bind_some]
    obtain ⟨o, ih⟩ := syms_back hn hNu hb h0 hN t (symStep s x) ⟨st.l ++ [x], st.as_ ++ [(st.l.length : Int)], if x.f3 = 0 then st.loc + 1 else st.loc, decide (0 < x.f3)⟩ (fun y hy => hx y (List.mem_cons_of_mem _ hy)) hO.2 (by rw [hl]; rfl) hP
    refine ⟨o, ?_⟩
    show (symStepR b names nums st (symE (addS s.own x.f0).1 x)).bind (fun u => foldO (symStepR b names nums) u (symEs (symStep s x) t)) = _
    rw [hstep, Option.bind_some, ih]
    show some (⟨st.l ++ [x] ++ t, st.as_ ++ [(st.l.length : Int)] ++ upFrom (st.l ++ [x]).length t.length, _, o⟩ : Tst) = _
    rw [List.append_assoc, List.append_assoc, List.length_append]
    rfl
theorem ordS_of : ∀ (l : List S94) (oth : Bool) (i0 : Nat) (L : List S94), L.drop i0 = l → (∀ i, i < L.length → ∀ x, L[i]? = some x → ∀ y, 0 < i → L[i - 1]? = some y → x.f3 = 0 → y.f3 = 0) → (∀ x ∈ L, 0 ≤ x.f3) → (i0 = 0 → oth = false) → (∀ y, 0 < i0 → L[i0 - 1]? = some y → oth = decide (0 < y.f3)) → OrdS oth l
  | [], _, _, _, _, _, _, _, _ => trivial
  | x :: t, oth, i0, L, hd, hL, hp, h0, h1 => by
    have hx : L[i0]? = some x := by rw [← Nat.add_zero i0, ← List.getElem?_drop, hd]; rfl
    have hlt := (List.getElem?_eq_some_iff.1 hx).1
    refine ⟨fun h3 => ?_, ?_⟩
    · by_cases c : i0 = 0
      · exact h0 c
      · cases hy : L[i0 - 1]? with
        | none => rw [List.getElem?_eq_none_iff] at hy; omega
        | some y =>
          rw [h1 y (by omega) hy]
          have := hL i0 hlt x hx y (by omega) hy h3
          rw [this]; rfl
    · refine ordS_of t _ (i0 + 1) L ?_ hL hp (fun h => by omega) (fun y _ hy => ?_)
      · rw [← List.drop_drop, hd]; rfl
      · rw [Nat.add_sub_cancel, hx] at hy
        rw [Option.some.inj hy]
end Go.Proofs.Ytockojajbnnbpaa.E
namespace Go.Proofs.Ytockojajbnnbpaa.E
open Go.Sort
set_option linter.unusedVariables false
set_option linter.unusedSimpArgs false
section
variable {α : Type} [Inhabited α] (key : α → Int)
structure Rel (a b : Nat) (d d' : Array α) : Prop where
  size : d'.size = d.size
  out : ∀ i, i < a ∨ b ≤ i → d'[i]! = d[i]!
  inn : ∀ i, a ≤ i → i < b → ∃ j, a ≤ j ∧ j < b ∧ d'[i]! = d[j]!
  flt : ∀ k, d'.toList.filter (fun x => key x == k) = d.toList.filter (fun x => key x == k)
def Srt (a b : Nat) (d : Array α) : Prop := ∀ i j, a ≤ i → i ≤ j → j < b → key d[i]! ≤ key d[j]!
variable {key} {a b m : Nat} {d d' d2 : Array α}
theorem Rel.refl (a b : Nat) (d : Array α) : Rel key a b d d := ⟨rfl, fun _ _ => rfl, fun i h1 h2 => ⟨i, h1, h2, rfl⟩, fun _ => rfl⟩
theorem Rel.trans (h : Rel key a b d d') (k : Rel key a b d' d2) : Rel key a b d d2 :=
  ⟨k.size.trans h.size, fun i hi => (k.out i hi).trans (h.out i hi), fun i h1 h2 => by
    obtain ⟨j, hj1, hj2, e⟩ := k.inn i h1 h2
    obtain ⟨l, hl1, hl2, e2⟩ := h.inn j hj1 hj2
    exact ⟨l, hl1, hl2, e.trans e2⟩, fun x => (k.flt x).trans (h.flt x)⟩
theorem Rel.mono (h : Rel key a b d d') {a' b' : Nat} (ha : a' ≤ a) (hb : b ≤ b') : Rel key a' b' d d' :=
  ⟨h.size, fun i hi => h.out i (by omega), fun i h1 h2 => by
    by_cases c : i < a ∨ b ≤ i
    · exact ⟨i, h1, h2, h.out i c⟩
    · obtain ⟨j, hj1, hj2, e⟩ := h.inn i (by omega) (by omega)
      exact ⟨j, by omega, by omega, e⟩, h.flt⟩
theorem get_toList (d : Array α) (t : Nat) : d.toList[t]? = if t < d.size then some d[t]! else none := by
  by_cases c : t < d.size
  · rw [if_pos c, getElem!_pos d t c, Array.getElem?_toList, Array.getElem?_eq_getElem c]
  · rw [if_neg c, Array.getElem?_toList, Array.getElem?_eq_none (by omega)]
def rotIx (a m b t : Nat) : Nat := if t < a ∨ b ≤ t then t else if t < a + (b - m) then t + (m - a) else t - (b - m)
omit [Inhabited α] in
theorem filter_comm {U V : List α} (h : ∀ x ∈ U, ∀ y ∈ V, key x ≠ key y) (k : Int) : V.filter (fun x => key x == k) ++ U.filter (fun x => key x == k) = U.filter (fun x => key x == k) ++ V.filter (fun x => key x == k) := by
  by_cases c : ∃ x ∈ U, key x = k
  · obtain ⟨x, hx, rfl⟩ := c
    have : V.filter (fun y => key y == key x) = [] := List.filter_eq_nil_iff.2 (fun y hy he => h x hx y hy (by simpa using Eq.symm (by simpa using he)))
    rw [this, List.nil_append, List.append_nil]
  · have : U.filter (fun y => key y == k) = [] := List.filter_eq_nil_iff.2 (fun y hy he => c ⟨y, hy, by simpa using he⟩)
    rw [this, List.nil_append, List.append_nil]
omit [Inhabited α] in
theorem list_cut (L : List α) (a m b : Nat) (h1 : a ≤ m) (h2 : m ≤ b) : L = L.take a ++ ((L.drop a).take (m - a) ++ ((L.drop m).take (b - m) ++ L.drop b)) := by
  have e1 : (L.drop m).take (b - m) ++ L.drop b = L.drop m := by
    rw [show L.drop b = (L.drop m).drop (b - m) by rw [List.drop_drop]; congr 1; omega, List.take_append_drop]
  have e2 : (L.drop a).take (m - a) ++ L.drop m = L.drop a := by
    rw [show L.drop m = (L.drop a).drop (m - a) by rw [List.drop_drop]; congr 1; omega, List.take_append_drop]
  rw [e1, e2, List.take_append_drop]
theorem Rel.rot (h1 : a ≤ m) (h2 : m ≤ b) (hb : b ≤ d.size) (hs : d'.size = d.size) (hg : ∀ t, d'[t]! = d[rotIx a m b t]!) (hk : ∀ i j, a ≤ i → i < m → m ≤ j → j < b → key d[i]! ≠ key d[j]!) : Rel key a b d d' := by
  refine ⟨hs, fun i hi => by rw [hg]; unfold rotIx; rw [if_pos hi], fun i hi1 hi2 => ⟨rotIx a m b i, ?_, ?_, hg i⟩, fun k => ?_⟩
  · unfold rotIx; repeat' split
    all_goals omega
  · unfold rotIx; repeat' split
    all_goals omega
  · have e : d'.toList = d.toList.take a ++ ((d.toList.drop m).take (b - m) ++ ((d.toList.drop a).take (m - a) ++ d.toList.drop b)) := by
      apply List.ext_getElem?
      intro t
      rw [get_toList, hs, hg]
      simp only [List.getElem?_append, List.getElem?_take, List.getElem?_drop, List.length_take, List.length_drop, Array.length_toList, get_toList]
      unfold rotIx
      by_cases c1 : t < a
      · simp [c1, show t < min a d.size by omega]
      · by_cases c2 : b ≤ t
        · simp only [c1, c2, or_true, if_true, show ¬ t < min a d.size by omega, if_false, show ¬ (t - min a d.size) < min (b - m) (d.size - m) by omega, show ¬ (t - min a d.size - min (b - m) (d.size - m)) < min (m - a) (d.size - a) by omega]
          rw [show b + (t - min a d.size - min (b - m) (d.size - m) - min (m - a) (d.size - a)) = t by omega]
        · by_cases c3 : t < a + (b - m)
          · simp only [c1, c2, c3, or_false, if_true, show ¬ t < min a d.size by omega, if_false, show (t - min a d.size) < min (b - m) (d.size - m) by omega, show t - min a d.size < b - m by omega]
            rw [show m + (t - min a d.size) = t + (m - a) by omega, if_pos (show t < d.size by omega), if_pos (show t + (m - a) < d.size by omega)]
          · simp only [c1, c2, c3, or_false, if_true, show ¬ t < min a d.size by omega, if_false, show ¬ (t - min a d.size) < min (b - m) (d.size - m) by omega, show (t - min a d.size - min (b - m) (d.size - m)) < min (m - a) (d.size - a) by omega, show (t - min a d.size - min (b - m) (d.size - m)) < m - a by omega]
            rw [show a + (t - min a d.size - min (b - m) (d.size - m)) = t - (b - m) by omega, if_pos (show t < d.size by omega), if_pos (show t - (b - m) < d.size by omega)]
    have hU : ∀ x ∈ (d.toList.drop a).take (m - a), ∀ y ∈ (d.toList.drop m).take (b - m), key x ≠ key y := by
      intro x hx y hy
      obtain ⟨i, hi⟩ := List.mem_iff_getElem?.1 hx
      obtain ⟨j, hj⟩ := List.mem_iff_getElem?.1 hy
      rw [List.getElem?_take, List.getElem?_drop, get_toList] at hi hj
      by_cases ci : i < m - a
      · by_cases cj : j < b - m
        · rw [if_pos ci, if_pos (by omega)] at hi
          rw [if_pos cj, if_pos (by omega)] at hj
          cases hi
          cases hj
          exact hk _ _ (by omega) (by omega) (by omega) (by omega)
        · rw [if_neg cj] at hj; cases hj
      · rw [if_neg ci] at hi; cases hi
    rw [e]
    conv => rhs; rw [list_cut d.toList a m b h1 h2]
    simp only [List.filter_append]
    rw [← List.append_assoc (List.filter _ ((d.toList.drop m).take (b - m))), filter_comm hU k, List.append_assoc]
theorem Rel.swp {i : Nat} (hi : i + 1 < d.size) (hk : key d[i]! ≠ key d[i + 1]!) : Rel key i (i + 2) d (swp d i (i + 1)) := by
  refine Rel.rot (m := i + 1) (by omega) (by omega) (by omega) (swp_size _ _ _) (fun t => ?_) (fun p q h1 h2 h3 h4 => ?_)
  · rw [swp_get d (by omega) hi]
    unfold rotIx
    by_cases c1 : t = i + 1
    · subst c1; rw [if_pos rfl, if_neg (by omega), if_neg (by omega)]; congr 1; omega
    · by_cases c2 : t = i
      · subst c2; rw [if_neg (by omega), if_pos rfl, if_neg (by omega), if_pos (by omega)]; congr 1; omega
      · rw [if_neg c1, if_neg c2, if_pos (by omega)]
  · rw [show p = i by omega, show q = i + 1 by omega]; exact hk
theorem swp_comm {i j : Nat} (hi : i < d.size) (hj : j < d.size) : Go.Sort.swp d i j = Go.Sort.swp d j i := by
  apply Array.ext
  · rw [swp_size, swp_size]
  · intro t h1 h2
    rw [← getElem!_pos _ t h1, ← getElem!_pos _ t h2, swp_get d hi hj, swp_get d hj hi]
    by_cases c1 : t = j
    · by_cases c2 : t = i
      · subst c1; subst c2; rfl
      · rw [if_pos c1, if_neg c2, if_pos c1]
    · by_cases c2 : t = i
      · rw [if_neg c1, if_pos c2, if_pos c2]
      · rw [if_neg c1, if_neg c2, if_neg c2, if_neg c1]
theorem Rel.srt (h : Rel key a b d d') {p q : Nat} (hp : q ≤ a ∨ b ≤ p) (hs : Srt key p q d) : Srt key p q d' := by
  intro i j h1 h2 h3
  rw [h.out i (by omega), h.out j (by omega)]
  exact hs i j h1 h2 h3
theorem ins_rel {lt : α → α → Bool} (hlt : ∀ x y, lt x y = true → key x ≠ key y) (a : Nat) : ∀ (j : Nat) (d : Array α) (b : Nat), j < b → b ≤ d.size → Rel key a b d (insInner lt a j d)
  | 0, d, b, _, _ => by unfold insInner; exact Rel.refl _ _ _
  | j + 1, d, b, hj, hb => by
    unfold insInner
    by_cases c : (decide (j + 1 > a) && lt d[j + 1]! d[j]!) = true
    · rw [if_pos c]
      rw [Bool.and_eq_true, decide_eq_true_iff] at c
      have h1 : Rel key a b d (Go.Sort.swp d (j + 1) j) := by
        rw [swp_comm (by omega) (by omega)]
        exact (Rel.swp (by omega) (fun e => hlt _ _ c.2 e.symm)).mono (by omega) (by omega)
      exact h1.trans (ins_rel hlt a j _ b (by omega) (by rw [swp_size]; exact hb))
    · rw [if_neg c]; exact Rel.refl _ _ _
theorem insOuter_rel {lt : α → α → Bool} (hlt : ∀ x y, lt x y = true → key x ≠ key y) (a b : Nat) : ∀ (n i : Nat) (d : Array α), b - i = n → b ≤ d.size → Rel key a b d (insOuter lt a b i d)
  | 0, i, d, hn, hb => by rw [insOuter_stop _ _ _ _ _ (by omega)]; exact Rel.refl _ _ _
  | n + 1, i, d, hn, hb => by
    rw [insOuter_go _ _ _ _ _ (by omega)]
    have h1 := ins_rel (key := key) hlt a i d b (by omega) hb
    exact h1.trans (insOuter_rel hlt a b n (i + 1) _ (by omega) (by rw [h1.size]; exact hb))
theorem insertion_rel {cf : α → α → Int} (hcf : ∀ x y, cf x y < 0 → key x ≠ key y) (hab : a ≤ b) (hb : b ≤ d.size) : Rel key a b d (insertionSort (Go.Proofs.ltOf cf) d a b) :=
  insOuter_rel (fun x y h => hcf x y (by unfold Go.Proofs.ltOf at h; exact of_decide_eq_true h)) a b _ _ d rfl hb
theorem insertion_srt {cf : α → α → Int} (hcf : ∀ x y, cf x y = key x - key y) (hab : a ≤ b) (hb : b ≤ d.size) : Srt key a b (insertionSort (Go.Proofs.ltOf cf) d a b) := by
  have hS : SWO (Go.Proofs.ltOf cf) := by
    refine ⟨fun x => ?_, fun x y z => ?_, fun x y z => ?_⟩ <;> simp only [Go.Proofs.ltOf, hcf, decide_eq_true_eq, decide_eq_false_iff_not] <;> omega
  have h := (insertionSort_holds (lt := Go.Proofs.ltOf cf) hS d a b hab hb).2
  intro i j h1 h2 h3
  by_cases c : i = j
  · rw [c]; exact Int.le_refl _
  · have := h i j h1 (by omega) h3
    simp only [Go.Proofs.ltOf, hcf, decide_eq_false_iff_not] at this
    omega
structure ShR (key : α → Int) (a k : Nat) (d dk : Array α) : Prop where
  rel : Rel key a (k + 1) d dk
  at_ : dk[k]! = d[a]!
  sh : ∀ t, a ≤ t → t < k → dk[t]! = d[t + 1]!
theorem ShR.start (a : Nat) (d : Array α) : ShR key a a d d := ⟨Rel.refl _ _ _, rfl, fun t h1 h2 => by omega⟩
theorem ShR.step {k : Nat} {dk : Array α} (h : ShR key a k d dk) (hak : a ≤ k) (hk : k + 1 < d.size) (hne : key d[k + 1]! ≠ key d[a]!) : ShR key a (k + 1) d (swp dk k (k + 1)) := by
  have hs := h.rel.size
  have e1 : dk[k + 1]! = d[k + 1]! := h.rel.out _ (by omega)
  refine ⟨(h.rel.mono (Nat.le_refl _) (by omega)).trans ((Rel.swp (by omega) (by rw [h.at_, e1]; exact fun e => hne e.symm)).mono hak (by omega)), ?_, fun t h1 h2 => ?_⟩
  · rw [swp_get _ (by omega) (by omega), if_pos rfl, h.at_]
  · rw [swp_get _ (by omega) (by omega), if_neg (by omega)]
    by_cases c : t = k
    · rw [if_pos c, e1, c]
    · rw [if_neg c]; exact h.sh t h1 (by omega)
theorem ShR.fin {i : Nat} {dk : Array α} (h : ShR key a (i - 1) d dk) (hai : a < i) (hib : i ≤ b) (hs : Srt key (a + 1) b d) (h1 : i = a + 1 ∨ key d[i - 1]! < key d[a]!) (h2 : i = b ∨ key d[a]! ≤ key d[i]!) : Rel key a b d dk ∧ Srt key a b dk := by
  have g1 : ∀ t, a < t → t < i → key d[t]! < key d[a]! := fun t ht1 ht2 => by
    have := hs t (i - 1) (by omega) (by omega) (by omega); omega
  have g2 : ∀ t, i ≤ t → t < b → key d[a]! ≤ key d[t]! := fun t ht1 ht2 => by
    have := hs i t (by omega) ht1 ht2; omega
  refine ⟨h.rel.mono (Nat.le_refl _) (by omega), fun p q hp hq hqb => ?_⟩
  have val : ∀ t, a ≤ t → t < b → dk[t]! = if t < i - 1 then d[t + 1]! else if t = i - 1 then d[a]! else d[t]! := fun t ht1 ht2 => by
    by_cases c1 : t < i - 1
    · rw [if_pos c1]; exact h.sh t ht1 c1
    · rw [if_neg c1]
      by_cases c2 : t = i - 1
      · rw [if_pos c2, c2]; exact h.at_
      · rw [if_neg c2]; exact h.rel.out t (by omega)
  rw [val p hp (by omega), val q (by omega) hqb]
  by_cases c1 : p < i - 1
  · rw [if_pos c1]
    by_cases c2 : q < i - 1
    · rw [if_pos c2]; exact hs _ _ (by omega) (by omega) (by omega)
    · rw [if_neg c2]
      by_cases c3 : q = i - 1
      · rw [if_pos c3]; have := g1 (p + 1) (by omega) (by omega); omega
      · rw [if_neg c3]; exact hs _ _ (by omega) (by omega) (by omega)
  · rw [if_neg c1, if_neg (show ¬ q < i - 1 by omega)]
    by_cases c2 : p = i - 1
    · rw [if_pos c2]
      by_cases c3 : q = i - 1
      · rw [if_pos c3]; exact Int.le_refl _
      · rw [if_neg c3]; exact g2 _ (by omega) hqb
    · rw [if_neg c2, if_neg (show ¬ q = i - 1 by omega)]; exact hs _ _ (by omega) (by omega) (by omega)
structure ShL (key : α → Int) (m k : Nat) (d dk : Array α) : Prop where
  rel : Rel key k (m + 1) d dk
  at_ : dk[k]! = d[m]!
  sh : ∀ t, k < t → t ≤ m → dk[t]! = d[t - 1]!
theorem ShL.start (m : Nat) (d : Array α) : ShL key m m d d := ⟨Rel.refl _ _ _, rfl, fun t h1 h2 => by omega⟩
theorem ShL.step {k : Nat} {dk : Array α} (h : ShL key m (k + 1) d dk) (hkm : k + 1 ≤ m) (hm : m < d.size) (hne : key d[k]! ≠ key d[m]!) : ShL key m k d (swp dk (k + 1) k) := by
  have hs := h.rel.size
  have e1 : dk[k]! = d[k]! := h.rel.out _ (by omega)
  rw [swp_comm (by omega) (by omega)]
  refine ⟨(h.rel.mono (by omega) (Nat.le_refl _)).trans ((Rel.swp (by omega) (by rw [h.at_, e1]; exact hne)).mono (Nat.le_refl _) (by omega)), ?_, fun t h1 h2 => ?_⟩
  · rw [swp_get _ (by omega) (by omega), if_neg (by omega), if_pos rfl, h.at_]
  · rw [swp_get _ (by omega) (by omega)]
    by_cases c : t = k + 1
    · rw [if_pos c, e1]; congr 1; omega
    · rw [if_neg c, if_neg (by omega)]; exact h.sh t (by omega) h2
theorem ShL.fin {i : Nat} {dk : Array α} (h : ShL key m i d dk) (hai : a ≤ i) (him : i ≤ m) (hs : Srt key a m d) (h1 : i = a ∨ key d[i - 1]! ≤ key d[m]!) (h2 : i = m ∨ key d[m]! < key d[i]!) : Rel key a (m + 1) d dk ∧ Srt key a (m + 1) dk := by
  have g1 : ∀ t, a ≤ t → t < i → key d[t]! ≤ key d[m]! := fun t ht1 ht2 => by
    have := hs t (i - 1) (by omega) (by omega) (by omega); omega
  have g2 : ∀ t, i ≤ t → t < m → key d[m]! < key d[t]! := fun t ht1 ht2 => by
    have := hs i t (by omega) ht1 ht2; omega
  refine ⟨h.rel.mono hai (Nat.le_refl _), fun p q hp hq hqb => ?_⟩
  have val : ∀ t, t < m + 1 → dk[t]! = if t < i then d[t]! else if t = i then d[m]! else d[t - 1]! := fun t ht2 => by
    by_cases c1 : t < i
    · rw [if_pos c1]; exact h.rel.out t (by omega)
    · rw [if_neg c1]
      by_cases c2 : t = i
      · rw [if_pos c2, c2]; exact h.at_
      · rw [if_neg c2]; exact h.sh t (by omega) (by omega)
  rw [val p (by omega), val q hqb]
  by_cases c1 : p < i
  · rw [if_pos c1]
    by_cases c2 : q < i
    · rw [if_pos c2]; exact hs _ _ (by omega) (by omega) (by omega)
    · rw [if_neg c2]
      by_cases c3 : q = i
      · rw [if_pos c3]; exact g1 p hp c1
      · rw [if_neg c3]; exact hs _ _ (by omega) (by omega) (by omega)
  · rw [if_neg c1, if_neg (show ¬ q < i by omega)]
    by_cases c2 : p = i
    · rw [if_pos c2]
      by_cases c3 : q = i
      · rw [if_pos c3]; exact Int.le_refl _
      · rw [if_neg c3]; have := g2 (q - 1) (by omega) (by omega); omega
    · rw [if_neg c2, if_neg (show ¬ q = i by omega)]; exact hs _ _ (by omega) (by omega) (by omega)
structure Cut (key : α → Int) (a m b mid s e : Nat) (d : Array α) : Prop where
  hs : a ≤ s ∧ s ≤ m ∧ s ≤ mid ∧ m ≤ e ∧ mid ≤ e ∧ e ≤ b ∧ e + s = mid + m
  h1 : s < m → m < e → key d[e - 1]! < key d[s]!
  h2 : a < s → e < b → key d[s - 1]! ≤ key d[e]!
section
variable {mid s e : Nat} {d1 d3 : Array α}
theorem Cut.rel (h : Cut key a m b mid s e d) (hb : b ≤ d.size) (ha : Srt key a m d) (hm : Srt key m b d) (hz : d1.size = d.size) (hg : ∀ t, d1[t]! = d[rotIx s m e t]!) : Rel key s e d d1 := by
  obtain ⟨k1, k2, k3, k4, k5, k6, k7⟩ := h.hs
  refine Rel.rot (m := m) k2 k4 (by omega) hz hg (fun i j h1 h2 h3 h4 => ?_)
  have := h.h1 (by omega) (by omega)
  have := ha s i k1 h1 h2
  have := hm j (e - 1) h3 (by omega) (by omega)
  omega
theorem Cut.ix (h : Cut key a m b mid s e d) (hg : ∀ t, d1[t]! = d[rotIx s m e t]!) (t : Nat) : (t < s → d1[t]! = d[t]!) ∧ (s ≤ t → t < mid → d1[t]! = d[t + (m - s)]!) ∧ (mid ≤ t → t < e → d1[t]! = d[t - (e - m)]!) ∧ (e ≤ t → d1[t]! = d[t]!) := by
  obtain ⟨k1, k2, k3, k4, k5, k6, k7⟩ := h.hs
  refine ⟨fun c => ?_, fun c c2 => ?_, fun c c2 => ?_, fun c => ?_⟩ <;> rw [hg] <;> unfold rotIx
  · rw [if_pos (by omega)]
  · rw [if_neg (by omega), if_pos (by omega)]
  · rw [if_neg (by omega), if_neg (by omega)]
  · rw [if_pos (by omega)]
theorem Cut.srt (h : Cut key a m b mid s e d) (ha : Srt key a m d) (hm : Srt key m b d) (hg : ∀ t, d1[t]! = d[rotIx s m e t]!) : Srt key a s d1 ∧ Srt key s mid d1 ∧ Srt key mid e d1 ∧ Srt key e b d1 ∧ ∀ i j, a ≤ i → i < mid → mid ≤ j → j < b → key d1[i]! ≤ key d1[j]! := by
  have hi := h.ix hg
  obtain ⟨k1, k2, k3, k4, k5, k6, k7⟩ := h.hs
  refine ⟨fun i j h1 h2 h3 => ?_, fun i j h1 h2 h3 => ?_, fun i j h1 h2 h3 => ?_, fun i j h1 h2 h3 => ?_, fun i j h1 h2 h3 h4 => ?_⟩
  · rw [(hi i).1 (by omega), (hi j).1 h3]; exact ha _ _ h1 h2 (by omega)
  · rw [(hi i).2.1 h1 (by omega), (hi j).2.1 (by omega) h3]; exact hm _ _ (by omega) (by omega) (by omega)
  · rw [(hi i).2.2.1 h1 (by omega), (hi j).2.2.1 (by omega) h3]; exact ha _ _ (by omega) (by omega) (by omega)
  · rw [(hi i).2.2.2 h1, (hi j).2.2.2 (by omega)]; exact hm _ _ (by omega) (by omega) (by omega)
  · by_cases c1 : i < s
    · rw [(hi i).1 c1]
      by_cases c2 : j < e
      · rw [(hi j).2.2.1 h3 c2]; exact ha _ _ h1 (by omega) (by omega)
      · rw [(hi j).2.2.2 (by omega)]
        have q1 := ha i (s - 1) h1 (by omega) (by omega)
        have q2 := hm e j (by omega) (by omega) h4
        have q3 := h.h2 (by omega) (by omega)
        omega
    · rw [(hi i).2.1 (by omega) h2]
      by_cases c2 : j < e
      · rw [(hi j).2.2.1 h3 c2]
        have q1 := hm (i + (m - s)) (e - 1) (by omega) (by omega) (by omega)
        have q2 := ha s (j - (e - m)) (by omega) (by omega) (by omega)
        have q3 := h.h1 (by omega) (by omega)
        omega
      · rw [(hi j).2.2.2 (by omega)]; exact hm _ _ (by omega) (by omega) (by omega)
theorem merged (h1 : Rel key a b d d1) (hm : a ≤ mid ∧ mid ≤ b) (hx : ∀ i j, a ≤ i → i < mid → mid ≤ j → j < b → key d1[i]! ≤ key d1[j]!) (h2 : Rel key a mid d1 d2) (s2 : Srt key a mid d2) (h3 : Rel key mid b d2 d3) (s3 : Srt key mid b d3) : Rel key a b d d3 ∧ Srt key a b d3 := by
  refine ⟨(h1.trans (h2.mono (Nat.le_refl _) hm.2)).trans (h3.mono hm.1 (Nat.le_refl _)), fun i j q1 q2 q3 => ?_⟩
  by_cases c1 : j < mid
  · rw [h3.out i (by omega), h3.out j (by omega)]; exact s2 i j q1 q2 c1
  · by_cases c2 : i < mid
    · obtain ⟨j', p1, p2, e1⟩ := h3.inn j (by omega) q3
      obtain ⟨i', p3, p4, e2⟩ := h2.inn i q1 c2
      rw [h3.out i (by omega), e1, e2, h2.out j' (by omega)]
      exact hx _ _ p3 p4 p1 p2
    · exact s3 i j (by omega) q2 q3
end
inductive Done (key : α → Int) (s : Nat) (d : Array α) : Nat → Prop
  | zero : Done key s d 0
  | snoc {a : Nat} : Done key s d a → Srt key a (a + s) d → Done key s d (a + s)
inductive Ch (key : α → Int) (s n : Nat) (d : Array α) : Nat → Prop
  | last {a : Nat} : n ≤ a + s → Srt key a n d → Ch key s n d a
  | cons {a : Nat} : a + s ≤ n → Srt key a (a + s) d → Ch key s n d (a + s) → Ch key s n d a
theorem Done.ch {s n : Nat} (h : Done key s d a) (hn : a ≤ n) (k : Ch key s n d a) : Ch key s n d 0 := by
  induction h with
  | zero => exact k
  | snoc h1 h2 ih => exact ih (by omega) (.cons hn h2 k)
theorem Done.rel {s p q : Nat} (h : Done key s d a) (hr : Rel key p q d d') (hp : a ≤ p) : Done key s d' a := by
  induction h with
  | zero => exact .zero
  | snoc h1 h2 ih => exact .snoc (ih (by omega)) (hr.srt (by omega) h2)
theorem Ch.rel {s n p q : Nat} (h : Ch key s n d a) (hr : Rel key p q d d') (hp : q ≤ a) : Ch key s n d' a := by
  induction h with
  | last h1 h2 => exact .last h1 (hr.srt (by omega) h2)
  | cons h1 h2 h3 ih => exact .cons h1 (hr.srt (by omega) h2) (ih (by omega))
theorem Ch.two {s n : Nat} (h : Ch key s n d a) (hs : 0 < s) (hn : a + s ≤ n) : Srt key a (a + s) d ∧ Ch key s n d (a + s) := by
  cases h with
  | last h1 h2 => 
    have : n = a + s := by omega
    rw [this] at h2
    exact ⟨h2, .last (by omega) (fun i j h1 h2 h3 => by omega)⟩
  | cons h1 h2 h3 => exact ⟨h2, h3⟩
theorem Ch.one {s n : Nat} (h : Ch key s n d a) (hn : n ≤ a + s) : Srt key a n d := by
  cases h with
  | last h1 h2 => exact h2
  | cons h1 h2 h3 =>
    have : a + s = n := by omega
    rw [this] at h2; exact h2
omit [Inhabited α] in
theorem split_at (c : Int) : ∀ (l : List α), l.Pairwise (fun x y => key x ≤ key y) → l = l.filter (fun x => decide (key x < c)) ++ l.filter (fun x => !decide (key x < c))
  | [], _ => rfl
  | x :: t, hp => by
    have hp2 := List.pairwise_cons.1 hp
    by_cases h : key x < c
    · rw [List.filter_cons_of_pos (by simpa using h), List.filter_cons_of_neg (by simpa using h), List.cons_append, ← split_at c t hp2.2]
    · have e1 : (x :: t).filter (fun x => decide (key x < c)) = [] := List.filter_eq_nil_iff.2 (fun y hy => by
        rcases List.mem_cons.1 hy with rfl | hy
        · simpa using h
        · have := hp2.1 y hy; simp; omega)
      have e2 : (x :: t).filter (fun x => !decide (key x < c)) = x :: t := List.filter_eq_self.2 (fun y hy => by
        rcases List.mem_cons.1 hy with rfl | hy
        · simpa using h
        · have := hp2.1 y hy; simp; omega)
      rw [e1, e2, List.nil_append]
omit [Inhabited α] in
theorem byKey : ∀ (n : Nat) (l : List α), l.Pairwise (fun x y => key x ≤ key y) → (∀ x ∈ l, 0 ≤ key x ∧ key x < n) → l = (List.range n).flatMap fun (i : Nat) => l.filter fun x => key x == (i : Int)
  | 0, l, _, hr => by
    cases l with
    | nil => rfl
    | cons x t => have := hr x List.mem_cons_self; omega
  | n + 1, l, hp, hr => by
    have h1 := split_at (key := key) (n : Int) l hp
    have h2 := byKey n (l.filter fun x => decide (key x < (n : Int))) (hp.filter _) (fun x hx => by
      have := List.mem_filter.1 hx
      have h3 := hr x this.1
      have h4 := of_decide_eq_true this.2
      omega)
    rw [List.range_succ, List.flatMap_append]
    conv => lhs; rw [h1, h2]
    congr 1
    · have : ∀ (f g : Nat → List α) (r : List Nat), (∀ i ∈ r, f i = g i) → r.flatMap f = r.flatMap g := fun f g r h => by
        induction r with
        | nil => rfl
        | cons x t ih => rw [List.flatMap_cons, List.flatMap_cons, h x List.mem_cons_self, ih (fun i hi => h i (List.mem_cons_of_mem _ hi))]
      refine this _ _ _ (fun i hi => ?_)
      have hi2 := List.mem_range.1 hi
      rw [List.filter_filter]
      congr 1
      funext x
      by_cases c : key x = (i : Int)
      · simp [c]; omega
      · simp [c]
    · simp only [List.flatMap_cons, List.flatMap_nil, List.append_nil]
      refine List.filter_congr (fun x hx => ?_)
      have h3 := hr x hx
      by_cases c : key x = (n : Int)
      · simp [c]
      · have h4 : key x < (n : Int) := by omega
        simp [c, h4]
theorem Srt.pairwise {n : Nat} (h : Srt key 0 n d) (hn : n = d.size) : d.toList.Pairwise (fun x y => key x ≤ key y) := by
  rw [List.pairwise_iff_getElem]
  intro i j hi hj hij
  have := h i j (Nat.zero_le _) (by omega) (by rw [hn]; simpa using hj)
  rw [Array.getElem_toList, Array.getElem_toList, ← getElem!_pos d i (by simpa using hi), ← getElem!_pos d j (by simpa using hj)]
  exact this
theorem sorted_is {n : Nat} (N : Nat) (hr : Rel key a b d d') (h : Srt key 0 n d') (hn : n = d.size) (hk : ∀ x ∈ d.toList, 0 ≤ key x ∧ key x < N) : d'.toList = (List.range N).flatMap fun (i : Nat) => d.toList.filter fun x => key x == (i : Int) := by
  have hm : ∀ x ∈ d'.toList, x ∈ d.toList := fun x hx => by
    have : x ∈ d'.toList.filter (fun y => key y == key x) := List.mem_filter.2 ⟨hx, by simp⟩
    rw [hr.flt] at this
    exact (List.mem_filter.1 this).1
  rw [byKey (key := key) N d'.toList (h.pairwise (by rw [hr.size]; exact hn)) (fun x hx => hk x (hm x hx))]
  congr 1
  funext i
  exact hr.flt _
end
end Go.Proofs.Ytockojajbnnbpaa.E
namespace Go.Proofs.Ytockojajbnnbpaa.E
open Go.RowKit Go.Proofs.Ytockojajbnnbpaa.Q Go.Proofs.YtockojajbnnbpaaW.PrintWords
set_option linter.unusedVariables false
set_option linter.unusedSimpArgs false
theorem relB_flat (l : List S59) (i : Int) : relB l i = ((l.filter fun r => r.f0 == i).map relW).flatten := by
  induction l with
  | nil => rfl
  | cons x t ih =>
    unfold relB at *
    rw [List.flatMap_cons, ih]
    by_cases c : x.f0 = i
    · rw [if_pos c, List.filter_cons_of_pos (by simpa using c)]; rfl
    · rw [if_neg c, List.filter_cons_of_neg (by simpa using c)]; rfl
structure RelG (secs : List S40) (m : Nat) (r : S59) : Prop where
  s : 0 ≤ r.f0 ∧ r.f0 < secs.length
  k : (rd_T40 secs r.f0).f1 = 1
  a : 0 ≤ r.f1 ∧ r.f1 < (rd_T40 secs r.f0).f4
  b : r.f1 < 4294967296
  t : 0 ≤ r.f2 ∧ r.f2 ≤ 255
  y : -1 ≤ r.f3 ∧ r.f3 < m
  d : -2147483648 ≤ r.f4 ∧ r.f4 ≤ 2147483647
theorem relW_is (r : S59) (h1 : 0 ≤ r.f1 ∧ r.f1 < 4294967296) (h2 : 0 ≤ r.f2 ∧ r.f2 ≤ 255) (h3 : -1 ≤ r.f3 ∧ r.f3 < 16777215) :
    gw (relW r) 0 4 = r.f1 ∧ gw (relW r) 4 4 = 256 * (r.f3 + 1) + r.f2 ∧ gw (relW r) 8 4 = r.f4 % 4294967296 := by
  have e : relW r = le4 r.f1 ++ (le4 (256 * (r.f3 + 1) + r.f2) ++ le4 (r.f4 % 4294967296)) := by unfold relW; simp only [List.append_assoc]
  refine ⟨?_, ?_, ?_⟩
  · rw [gw_first _ (le4 r.f1) _ e 4 rfl, numOf_le4 _ h1.1 h1.2]
  · rw [e]; exact (gw_app (le4 r.f1) (le4 _) _).trans (numOf_le4 _ (by omega) (by omega))
  · rw [e, ← List.append_assoc]
    have := gw_app (le4 r.f1 ++ le4 (256 * (r.f3 + 1) + r.f2)) (le4 (r.f4 % 4294967296)) []
    rw [List.append_nil] at this
    exact this.trans (numOf_le4 _ (by omega) (by omega))
theorem i32_back (n : Int) (h : -2147483648 ≤ n ∧ n ≤ 2147483647) : IntKind.i32.wrap (n % 4294967296) = n := by
  rw [IntKind.wrap_i32]; omega
theorem rel_list {secs : List S40} {m : Nat} {as_ : List Int} (hm : m ≤ 65536) (ha : ∀ j : Int, -1 ≤ j → j < m → as_[(j + 1).toNat]? = some j) (n : Int) : ∀ (l s : List S59), (∀ r ∈ l, RelG secs m r ∧ r.f0 = n) → foldO (relR (rd_T40 secs n) n as_) s (l.map relW) = some (s ++ l)
  | [], s, _ => by show some s = some (s ++ []); rw [List.append_nil]
  | r :: t, s, h => by
    obtain ⟨g, hn⟩ := h r List.mem_cons_self
    obtain ⟨w0, w4, w8⟩ := relW_is r ⟨g.a.1, g.b⟩ g.t ⟨g.y.1, by have := g.y.2; omega⟩
    have hstep : relR (rd_T40 secs n) n as_ s (relW r) = some (s ++ [r]) := by
      unfold relR
      have h2 := g.t
      rw [w0, w4, w8, if_pos (by rw [← hn]; exact g.a.2), show (256 * (r.f3 + 1) + r.f2) / 256 = r.f3 + 1 by omega, ha r.f3 g.y.1 g.y.2, Option.bind_some, if_pos g.y.1, show (256 * (r.f3 + 1) + r.f2) % 256 = r.f2 by omega, i32_back _ g.d, ← hn]
    show (relR (rd_T40 secs n) n as_ s (relW r)).bind (fun u => foldO (relR (rd_T40 secs n) n as_) u (t.map relW)) = _
    rw [hstep, Option.bind_some, rel_list hm ha n t _ (fun y hy => h y (List.mem_cons_of_mem _ hy)), List.append_assoc]
    rfl
def relSt (l : List S59) (at_ : Int) (s0 : Wst) (n : Nat) : Wst := (List.range n).foldl (relStep l at_) s0
theorem relSt_succ (l : List S59) (at_ : Int) (s0 : Wst) (n : Nat) : relSt l at_ s0 (n + 1) = relStep l at_ (relSt l at_ s0 n) n := by
  unfold relSt
  rw [List.range_succ, List.foldl_append]; rfl
def relRws (l : List S59) (at_ : Int) (s0 : Wst) : Nat → List S47
  | 0 => []
  | n + 1 => relRws l at_ s0 n ++ (if relB l n = [] then [] else [rowOf (relSt l at_ s0 n) ⟨0, 4, 0, 0, 0, 0, at_, (n : Int) + 1, 4, 12⟩ (relB l n)])
theorem relSt_rows (l : List S59) (at_ : Int) (s0 : Wst) : ∀ n, (relSt l at_ s0 n).rows = s0.rows ++ relRws l at_ s0 n
  | 0 => (List.append_nil _).symm
  | n + 1 => by
    rw [relSt_succ]
    unfold relStep relRws
    by_cases c : relB l (n : Int) = []
    · rw [if_pos c, if_pos c, List.append_nil]; exact relSt_rows l at_ s0 n
    · rw [if_neg c, if_neg c, partS_rows, relSt_rows l at_ s0 n, List.append_assoc]
theorem relStep_ext (l : List S59) (at_ : Int) (s : Wst) (i : Nat) : Ext s (relStep l at_ s i) := by
  unfold relStep
  by_cases c : relB l (i : Int) = []
  · rw [if_pos c]; exact Ext.refl _
  · rw [if_neg c]; exact partS_ext _ _ _
theorem relSt_ext (l : List S59) (at_ : Int) (s0 : Wst) : ∀ n, Ext s0 (relSt l at_ s0 n)
  | 0 => Ext.refl _
  | n + 1 => by rw [relSt_succ]; exact (relSt_ext l at_ s0 n).trans (relStep_ext _ _ _ _)
theorem relRws_kind (l : List S59) (at_ : Int) (s0 : Wst) : ∀ n, ∀ x ∈ relRws l at_ s0 n, x.f1 = 4
  | 0, x, h => absurd h (List.not_mem_nil)
  | n + 1, x, h => by
    unfold relRws at h
    rcases List.mem_append.1 h with h | h
    · exact relRws_kind l at_ s0 n x h
    · by_cases c : relB l (n : Int) = []
      · rw [if_pos c] at h; exact absurd h (List.not_mem_nil)
      · rw [if_neg c] at h; rw [List.mem_singleton.1 h]; rfl
theorem rels_back {b : List Int} {F : Wst} {secs : List S40} {nums as_ : List Int} {m : Nat} (hL : Laid b F) (hm : m ≤ 65536) (ha : ∀ j : Int, -1 ≤ j → j < m → as_[(j + 1).toNat]? = some j) (hN : ∀ i : Nat, i < secs.length → nums[i + 1]? = some (i : Int)) (l : List S59) (at_ : Int) (s0 : Wst) (h52 : 52 ≤ s0.b.length) (hl : ∀ r ∈ l, RelG secs m r) :
    ∀ n, n ≤ secs.length → Ext (relSt l at_ s0 n) F → foldO (relRow b secs nums as_ at_) [] (relRws l at_ s0 n) = some ((List.range n).flatMap fun (i : Nat) => l.filter fun r => r.f0 == (i : Int))
  | 0, _, _ => rfl
  | n + 1, hn, hE => by
    rw [relSt_succ] at hE
    have ih := rels_back hL hm ha hN l at_ s0 h52 hl n (by omega) ((relStep_ext _ _ _ _).trans hE)
    unfold relRws
    rw [foldO_app, ih, Option.bind_some, List.range_succ, List.flatMap_append]
    simp only [List.flatMap_cons, List.flatMap_nil, List.append_nil]
    generalize (List.range n).flatMap (fun (i : Nat) => l.filter fun r => r.f0 == (i : Int)) = acc
    by_cases c : relB l (n : Int) = []
    · rw [if_pos c]
      have : (l.filter fun r => r.f0 == (n : Int)) = [] := by
        have h := relB_len2 l (n : Int)
        rw [c] at h
        exact List.length_eq_zero_iff.1 (by simp at h; omega)
      rw [this, List.append_nil]
      rfl
    · rw [if_neg c]
      have hpart : partB b (rowOf (relSt l at_ s0 n) ⟨0, 4, 0, 0, 0, 0, at_, (n : Int) + 1, 4, 12⟩ (relB l n)) = relB l n := by
        unfold relStep at hE
        rw [if_neg c] at hE
        exact hL.part hE (Nat.le_trans h52 (relSt_ext l at_ s0 n).b.length_le) (show (4 : Int) ≠ 8 by decide)
      have hfl : ∀ r ∈ l.filter (fun r => r.f0 == (n : Int)), RelG secs m r ∧ r.f0 = (n : Int) := fun r hr => by
        have := List.mem_filter.1 hr
        exact ⟨hl r this.1, by simpa using this.2⟩
      have hk : (rd_T40 secs (n : Int)).f1 = 1 := by
        cases hc : l.filter (fun r => r.f0 == (n : Int)) with
        | nil => exact absurd (by rw [relB_flat, hc]; rfl) c
        | cons r t =>
          have := hfl r (by rw [hc]; exact List.mem_cons_self)
          rw [← this.2]; exact this.1.k
      have hstep : relRow b secs nums as_ at_ acc (rowOf (relSt l at_ s0 n) ⟨0, 4, 0, 0, 0, 0, at_, (n : Int) + 1, 4, 12⟩ (relB l n)) = some (acc ++ l.filter fun r => r.f0 == (n : Int)) := by
        have k1 : (rowOf (relSt l at_ s0 n) ⟨0, 4, 0, 0, 0, 0, at_, (n : Int) + 1, 4, 12⟩ (relB l n)).f1 = 4 := rfl
        have k6 : (rowOf (relSt l at_ s0 n) ⟨0, 4, 0, 0, 0, 0, at_, (n : Int) + 1, 4, 12⟩ (relB l n)).f6 = at_ := rfl
        have k7 : (rowOf (relSt l at_ s0 n) ⟨0, 4, 0, 0, 0, 0, at_, (n : Int) + 1, 4, 12⟩ (relB l n)).f7 = (n : Int) + 1 := rfl
        generalize rowOf (relSt l at_ s0 n) ⟨0, 4, 0, 0, 0, 0, at_, (n : Int) + 1, 4, 12⟩ (relB l n) = R at *
        unfold relRow
        rw [hpart, if_neg (fun h => h k1), if_pos k6, k7]
        rw [show ((n : Int) + 1).toNat = n + 1 by omega, hN n (by omega), Option.bind_some, if_pos ⟨by omega, by rw [relB_len2]; omega, hk⟩, relB_flat, chunks_flat 12 (by decide) _ (fun e he => by
          obtain ⟨r, _, rfl⟩ := List.mem_map.1 he
          exact relW_len r)]
        exact rel_list hm ha (n : Int) _ acc hfl
      show (relRow b secs nums as_ at_ acc _).bind (fun u => some u) = _
      rw [hstep]; rfl
theorem rels_skip (b : List Int) (secs : List S40) (nums as_ : List Int) (row : Int) : ∀ (l : List S47) (s : List S59), (∀ x ∈ l, x.f1 ≠ 4) → foldO (relRow b secs nums as_ row) s l = some s
  | [], s, _ => rfl
  | x :: t, s, h => by
    show (relRow b secs nums as_ row s x).bind (fun u => foldO (relRow b secs nums as_ row) u t) = _
    have : relRow b secs nums as_ row s x = some s := by unfold relRow; rw [if_pos (h x List.mem_cons_self)]
    rw [this, Option.bind_some]
    exact rels_skip b secs nums as_ row t s (fun y hy => h y (List.mem_cons_of_mem _ hy))
end Go.Proofs.Ytockojajbnnbpaa.E
namespace Go.Proofs.Ytockojajbnnbpaa.E
open Go.RowKit Go.Proofs.Ytockojajbnnbpaa.Q Go.Proofs.YtockojajbnnbpaaW.PrintWords
set_option linter.unusedVariables false
set_option linter.unusedSimpArgs false
def u32P (n : Int) : Prop := 0 ≤ n ∧ n < 4294967296
structure RowG (x : S47) : Prop where
  k0 : u32P x.f0
  k1 : u32P x.f1
  k2 : u32P x.f2
  k3 : u32P x.f3
  k4 : u32P x.f4
  k5 : u32P x.f5
  k6 : u32P x.f6
  k7 : u32P x.f7
  k8 : u32P x.f8
  k9 : u32P x.f9
theorem u32_num {n : Int} (h : u32P n) : numOf (le4 n) = n := numOf_le4 n h.1 h.2
theorem rowWords_is {x : S47} (h : RowG x) : (⟨gw (rowWords x) 0 4, gw (rowWords x) 4 4, gw (rowWords x) 8 4, gw (rowWords x) 12 4, gw (rowWords x) 16 4, gw (rowWords x) 20 4, gw (rowWords x) 24 4, gw (rowWords x) 28 4, gw (rowWords x) 32 4, gw (rowWords x) 36 4⟩ : S47) = x := by
  have e0 : gw (rowWords x) 0 4 = x.f0 := u32_num h.k0
  have e1 : gw (rowWords x) 4 4 = x.f1 := u32_num h.k1
  have e2 : gw (rowWords x) 8 4 = x.f2 := u32_num h.k2
  have e3 : gw (rowWords x) 12 4 = x.f3 := u32_num h.k3
  have e4 : gw (rowWords x) 16 4 = x.f4 := u32_num h.k4
  have e5 : gw (rowWords x) 20 4 = x.f5 := u32_num h.k5
  have e6 : gw (rowWords x) 24 4 = x.f6 := u32_num h.k6
  have e7 : gw (rowWords x) 28 4 = x.f7 := u32_num h.k7
  have e8 : gw (rowWords x) 32 4 = x.f8 := u32_num h.k8
  have e9 : gw (rowWords x) 36 4 = x.f9 := u32_num h.k9
  rw [e0, e1, e2, e3, e4, e5, e6, e7, e8, e9]
theorem rowAt_of {b : List Int} {k : Nat} {x : S47} (h : (b.drop k).take 40 = rowWords x) (hx : RowG x) : rowAt b k = x := by
  unfold rowAt
  rw [show gw b k 4 = gw b (k + 0) 4 from rfl, gw_sub b k 40 0 4 _ h (by omega), gw_sub b k 40 4 4 _ h (by omega), gw_sub b k 40 8 4 _ h (by omega), gw_sub b k 40 12 4 _ h (by omega), gw_sub b k 40 16 4 _ h (by omega), gw_sub b k 40 20 4 _ h (by omega), gw_sub b k 40 24 4 _ h (by omega), gw_sub b k 40 28 4 _ h (by omega), gw_sub b k 40 32 4 _ h (by omega), gw_sub b k 40 36 4 _ h (by omega)]
  exact rowWords_is hx
theorem rowsOf_is {b : List Int} {t : Nat} {rows : List S47} (h : ∀ i x, rows[i]? = some x → (b.drop (t + 40 * i)).take 40 = rowWords x) (hx : ∀ x ∈ rows, RowG x) : rowsOf b t rows.length = rows := by
  unfold rowsOf
  apply List.ext_getElem?
  intro i
  rw [List.getElem?_map]
  by_cases c : i < rows.length
  · rw [List.getElem?_range c, List.getElem?_eq_getElem c]
    exact congrArg some (rowAt_of (h i _ (List.getElem?_eq_getElem c)) (hx _ (List.getElem_mem c)))
  · rw [List.getElem?_eq_none (by simpa using c), List.getElem?_eq_none (by omega)]; rfl
theorem putS_parts (o : Ob) : putS o = headS (st5 o).b.length (st5 o).rows.length ++ ((st5 o).b.drop 52 ++ (st5 o).rows.flatMap rowWords) := by
  unfold putS; rw [List.append_assoc]
theorem put_laid {o : Ob} (h1 : 52 ≤ (st5 o).b.length) (h2 : (st5 o).b.length ≤ 200000) : Laid (putS o) (st5 o) := by
  refine ⟨fun off k h52 hk => ?_, by omega⟩
  obtain ⟨j, rfl⟩ : ∃ j, off = 52 + j := ⟨off - 52, by omega⟩
  have hd : ((st5 o).b.drop 52).length = (st5 o).b.length - 52 := List.length_drop
  rw [putS_parts, ← List.drop_drop, List.drop_left' (headS_len _ _), List.drop_append_of_le_length (by omega), List.take_append_of_le_length (by rw [List.length_drop]; omega), List.drop_drop]
theorem put_rows {o : Ob} (h1 : 52 ≤ (st5 o).b.length) (i : Nat) (x : S47) (hx : (st5 o).rows[i]? = some x) : ((putS o).drop ((st5 o).b.length + 40 * i)).take 40 = rowWords x := by
  have e : putS o = (headS (st5 o).b.length (st5 o).rows.length ++ (st5 o).b.drop 52) ++ ((st5 o).rows.map rowWords).flatten := by
    unfold putS; rfl
  have hl : (headS ((st5 o).b.length : Int) ((st5 o).rows.length : Int) ++ (st5 o).b.drop 52).length = (st5 o).b.length := by
    rw [List.length_append, headS_len, List.length_drop]; omega
  rw [e, ← List.drop_drop, List.drop_left' hl]
  exact flat_at 40 _ i _ (fun y hy => by obtain ⟨r, _, rfl⟩ := List.mem_map.1 hy; exact rowWords_len r) (by rw [List.getElem?_map, hx]; rfl)
theorem put_header {o : Ob} (h1 : 4 ≤ (st5 o).rows.length) (h2 : (st5 o).rows.length ≤ 200) (h0 : ((st5 o).rows[0]?).map (·.f1) = some 0) {x : S47} (hx : (st5 o).rows[(st5 o).rows.length - 1]? = some x) (h3 : x.f1 = 3) : headerS (putS o) (st5 o).rows = some x := by
  obtain ⟨m, hm⟩ := putS_tab o
  have t1 : (putS o).take 32 = magic := by rw [hm]; exact List.take_left' rfl
  have t2 : ((putS o).drop 36).take 12 = sizes := by
    have : putS o = (magic ++ le4 (st5 o).b.length) ++ (sizes ++ (le2 (st5 o).rows.length ++ m)) := by rw [hm]; simp only [List.append_assoc]
    rw [this, List.drop_left' (by simp [magic, le4])]
    exact List.take_left' rfl
  have t3 : gw (putS o) 50 2 = (((st5 o).rows.length - 1 : Nat) : Int) := by
    have : putS o = (magic ++ (le4 (st5 o).b.length ++ (sizes ++ le2 (st5 o).rows.length))) ++ (le2 (((st5 o).rows.length : Int) - 1) ++ (((st5 o).b.drop 52) ++ (st5 o).rows.flatMap rowWords)) := by
      unfold putS headS
      simp only [List.append_assoc]
    rw [this]
    have h50 : (50 : Nat) = (magic ++ (le4 ((st5 o).b.length : Int) ++ (sizes ++ le2 ((st5 o).rows.length : Int)))).length := by simp [magic, le4, sizes, le2]
    rw [h50, show (2 : Nat) = (le2 (((st5 o).rows.length : Int) - 1)).length from rfl, gw_app, numOf_le2 _ (by omega) (by omega)]
    omega
  unfold headerS
  rw [if_pos ⟨t1, t2, h0⟩, t3]
  unfold rowS
  rw [Int.toNat_natCast, hx, Option.bind_some, if_pos h3]
theorem rowOf_in {s F : Wst} {r : S47} {x : List Int} (h : Ext (partS s r x) F) {n : Nat} (hn : F.b.length ≤ n) (h2 : F.b.length < 4294967296) : RowIn n (rowOf s r x) := by
  obtain ⟨_, h1⟩ := part_at h
  by_cases c : r.f1 = 8
  · exact .inr (.inl c)
  · refine .inr (.inr ?_)
    show (s.b.length : Int) % 4294967296 + (if r.f1 = 8 then r.f5 else (x.length : Int) % 4294967296) ≤ n
    rw [if_neg c]
    omega
theorem rowOf_g {s : Wst} {r : S47} {x : List Int} (h0 : u32P r.f0) (h1 : u32P r.f1) (h2 : u32P r.f2) (h3 : u32P r.f3) (h5 : u32P r.f5) (h6 : u32P r.f6) (h7 : u32P r.f7) (h8 : u32P r.f8) (h9 : u32P r.f9) : RowG (rowOf s r x) := by
  refine ⟨h0, h1, h2, h3, ?_, ?_, h6, h7, h8, h9⟩
  · show 0 ≤ (s.b.length : Int) % 4294967296 ∧ (s.b.length : Int) % 4294967296 < 4294967296; omega
  · show u32P (if r.f1 = 8 then r.f5 else (x.length : Int) % 4294967296)
    by_cases c : r.f1 = 8
    · rw [if_pos c]; exact h5
    · rw [if_neg c]; show 0 ≤ (x.length : Int) % 4294967296 ∧ (x.length : Int) % 4294967296 < 4294967296; omega
end Go.Proofs.Ytockojajbnnbpaa.E
namespace Go.Proofs.Ytockojajbnnbpaa.E
open Go.RowKit Go.Proofs.Ytockojajbnnbpaa.Q Go.Proofs.YtockojajbnnbpaaW.PrintWords Go.Proofs.YtockojajbnnbpaaW.PrintLast Go.Proofs.YtockojajbnnbpaaW.PrintMore
set_option linter.unusedVariables false
set_option linter.unusedSimpArgs false
theorem chunks_bytes {L : List Int} (h : AllBytes L) (m : Nat) : ∀ e ∈ chunks L m, AllBytes e := by
  intro e he
  unfold chunks at he
  obtain ⟨i, _, rfl⟩ := List.mem_map.1 he
  exact fun y hy => h y (List.mem_of_mem_drop (List.mem_of_mem_take hy))
theorem symStepR_len {b : List Int} {names : S47} {nums : List Int} (s : Tst) (e : List Int) (t : Tst) (h : symStepR b names nums s e = some t) : t.as_.length ≤ s.as_.length + 1 ∧ t.l.length ≤ s.l.length + 1 := by
  unfold symStepR at h
  by_cases c : rd e 12 / 16 ≤ 2 ∧ (0 < rd e 12 / 16 ∨ s.oth = false)
  · rw [if_pos c] at h
    by_cases c4 : rd e 12 % 16 = 4
    · rw [if_pos c4] at h; cases h; exact ⟨by simp, by simp⟩
    · rw [if_neg c4] at h
      cases hy : symR b names nums e with
      | none => rw [hy] at h; cases h
      | some y => rw [hy, Option.bind_some] at h; cases h; exact ⟨by simp, by simp⟩
  · rw [if_neg c] at h; cases h
theorem symsR_inv {b : List Int} (hb : AllBytes b) (hl : b.length ≤ 65536) {rows : List S47} {nums : List Int} {n : Nat} (hn : ∀ m ∈ nums, m < n) {p : List S94 × List Int × Int} (h : symsR b rows nums = some p) :
    (∀ m ∈ p.2.1, m < p.1.length) ∧ (∀ y ∈ p.1, SymK n y) ∧ (∀ i x y, 0 < i → p.1[i]? = some x → p.1[i - 1]? = some y → x.f3 = 0 → y.f3 = 0) ∧ p.1.length ≤ 4096 ∧ p.2.1.length ≤ 4097 := by
  cases hf : rows.findIdx? (fun x => x.f1 == 2) with
  | none =>
    rw [symsR_none hf] at h
    cases h
    exact ⟨fun m hm => by rw [List.mem_singleton.1 hm]; decide, fun y hy => absurd hy (List.not_mem_nil), fun i x y hi hx => by simp at hx, by decide, by decide⟩
  | some k =>
    by_cases c2 : ∃ y ∈ rows.drop (k + 1), y.f1 = 2
    · rw [symsR_two hf c2] at h; cases h
    · cases hr : rowS rows (rd_T47 rows (k : Int)).f6 3 with
      | none => rw [symsR_row hf hr] at h; cases h
      | some nm =>
        rw [symsR_is hf c2 hr] at h
        by_cases c3 : (partB b (rd_T47 rows (k : Int))).length % 16 = 0 ∧ (partB b (rd_T47 rows (k : Int))).take 16 = List.replicate 16 0
        · rw [if_pos c3] at h
          have hpb := partB_bytes hb (rd_T47 rows (k : Int))
          have hpl := partB_le b (rd_T47 rows (k : Int)) hl
          generalize partB b (rd_T47 rows (k : Int)) = L at *
          cases hfo : foldO (symStepR b nm nums) ⟨[], [-1], 1, false⟩ ((chunks L 16).drop 1) with
          | none => rw [hfo] at h; cases h
          | some s =>
            rw [hfo, Option.bind_some] at h
            by_cases c4 : (rd_T47 rows (k : Int)).f7 = s.loc
            · rw [if_pos c4] at h
              cases h
              have hk : TstK n s := foldO_inv (P := TstK n) _ _ _ ⟨fun m hm => by rw [List.mem_singleton.1 hm]; decide, fun y hy => absurd hy (List.not_mem_nil), fun _ y hy => absurd hy (List.not_mem_nil), fun i x y hi hx => by simp at hx⟩ (fun u e t he hu hst => symStepR_inv hb hn (chunks_bytes hpb 16 e (List.mem_of_mem_drop he)) hu hst) hfo
              have l1 := foldO_len (f := symStepR b nm nums) (fun s => s.as_.length) (fun s e t he => (symStepR_len s e t he).1) _ _ _ hfo
              have l2 := foldO_len (f := symStepR b nm nums) (fun s => s.l.length) (fun s e t he => (symStepR_len s e t he).2) _ _ _ hfo
              have hm := chunk_max L hpl
              refine ⟨hk.1, hk.2.1, hk.2.2.2, ?_, ?_⟩
              · have : s.l.length ≤ 0 + ((chunks L 16).drop 1).length := l2
                show s.l.length ≤ 4096
                omega
              · have : s.as_.length ≤ 1 + ((chunks L 16).drop 1).length := l1
                show s.as_.length ≤ 4097
                omega
            · rw [if_neg c4] at h; cases h
        · rw [if_neg c3] at h; cases h
end Go.Proofs.Ytockojajbnnbpaa.E
namespace Go.Proofs.Ytockojajbnnbpaa.E
open Go.RowKit Go.Proofs.Ytockojajbnnbpaa.Q Go.Proofs.YtockojajbnnbpaaW.PrintWords
set_option linter.unusedVariables false
set_option linter.unusedSimpArgs false
theorem uP (n : Int) (h : decide (0 ≤ n ∧ n < 4294967296) = true) : u32P n := by unfold u32P; exact of_decide_eq_true h
def symRow (o : Ob) : S47 := rowOf (st1 o).1 ⟨0, 2, 0, 0, 0, 0, atS o + 1, (yst o).loc, 4, 16⟩ (yst o).b
def strRow (o : Ob) : S47 := rowOf (st2 o) ⟨0, 3, 0, 0, 0, 0, 0, 0, 1, 0⟩ (yst o).own
def nameRow (o : Ob) : S47 := rowOf (st4 o) ⟨0, 3, 0, 0, 0, 0, 0, 0, 1, 0⟩ (st1 o).2
def s00 : Wst × List Int := (⟨List.replicate 52 0, [z47]⟩, [0])
theorem all_rows (o : Ob) : (st5 o).rows = (z47 :: secRows s00 o.secs) ++ (symRow o :: strRow o :: (relRws o.rels (atS o) (st3 o) o.secs.length ++ [nameRow o])) := by
  have e1 : (st1 o).1.rows = [z47] ++ secRows s00 o.secs := st1_rows o.secs s00
  have e2 : (st2 o).rows = (st1 o).1.rows ++ [symRow o] := rfl
  have e3 : (st3 o).rows = (st2 o).rows ++ [strRow o] := rfl
  have e4 : (st4 o).rows = (st3 o).rows ++ relRws o.rels (atS o) (st3 o) o.secs.length := relSt_rows o.rels (atS o) (st3 o) o.secs.length
  have e5 : (st5 o).rows = (st4 o).rows ++ [nameRow o] := rfl
  rw [e5, e4, e3, e2, e1]
  simp only [List.append_assoc, List.cons_append, List.nil_append]
theorem ext5 (o : Ob) : Ext (st4 o) (st5 o) := partS_ext _ _ _
theorem ext4 (o : Ob) : Ext (st3 o) (st4 o) := relSt_ext o.rels (atS o) (st3 o) o.secs.length
theorem ext3 (o : Ob) : Ext (st2 o) (st3 o) := partS_ext _ _ _
theorem ext2 (o : Ob) : Ext (st1 o).1 (st2 o) := partS_ext _ _ _
theorem b1_len (o : Ob) : 52 ≤ (st1 o).1.b.length := (st1_ext o.secs s00).b.length_le
theorem atS_is (o : Ob) : atS o = ((o.secs.length + 1 : Nat) : Int) := by
  unfold atS
  have e1 : (st1 o).1.rows = [z47] ++ secRows s00 o.secs := st1_rows o.secs s00
  rw [e1, List.length_append, secRows_len, List.length_singleton, Nat.add_comm]
theorem loc_rg (l : List S94) : ∀ s : Yst, s.loc ≤ (l.foldl symStep s).loc ∧ (l.foldl symStep s).loc ≤ s.loc + l.length := by
  induction l with
  | nil => intro s; exact ⟨Int.le_refl _, by simp⟩
  | cons x t ih =>
    intro s
    have h := ih (symStep s x)
    have e : (symStep s x).loc = if x.f3 = 0 then s.loc + 1 else s.loc := rfl
    rw [e] at h
    rw [List.foldl_cons, List.length_cons]
    split at h <;> omega
theorem secRows_mem {F : Wst} (n : Nat) (hn : F.b.length ≤ n) (h2 : F.b.length < 4294967296) (NB : List Int) (hN : NB.length < 4294967296) : ∀ (l : List S40) (s : Wst × List Int), (∀ x ∈ l, SecP x ∧ SecRg x) → Ext (l.foldl secStep s).1 F → (l.foldl secStep s).2 <+: NB → ∀ y ∈ secRows s l, RowG y ∧ RowIn n y ∧ (y.f1 = 1 ∨ y.f1 = 8)
  | [], _, _, _, _, y, hy => absurd hy (List.not_mem_nil)
  | x :: t, s, hx, hE, hP, y, hy => by
    rcases List.mem_cons.1 hy with rfl | hy
    · obtain ⟨hs, hr⟩ := hx x List.mem_cons_self
      have hext : Ext (partS s.1 ⟨(addS s.2 x.f0).1, x.f1, x.f2, 0, 0, x.f4, 0, 0, x.f3, 0⟩ x.f5) F := (st1_ext t (secStep s x)).trans hE
      have hpre : (addS s.2 x.f0).2 <+: NB := (st1_pre t (secStep s x)).trans hP
      refine ⟨rowOf_g (addS_rgP hpre hN) hr.2.1 hr.2.2.1 (uP _ rfl) hr.2.2.2.2.1 (uP _ rfl) (uP _ rfl) hr.2.2.2.1 (uP _ rfl), rowOf_in hext hn h2, ?_⟩
      rcases hs.2.2.2 with ⟨k, _⟩ | ⟨k, _⟩
      · exact .inl k
      · exact .inr k
    · exact secRows_mem n hn h2 NB hN t (secStep s x) (fun z hz => hx z (List.mem_cons_of_mem _ hz)) hE hP y hy
theorem relRws_mem {F : Wst} (n : Nat) (hn : F.b.length ≤ n) (h2 : F.b.length < 4294967296) (l : List S59) (at_ : Int) (ha : u32P at_) (s0 : Wst) : ∀ k, k < 4294967295 → Ext (relSt l at_ s0 k) F → ∀ y ∈ relRws l at_ s0 k, RowG y ∧ RowIn n y
  | 0, _, _, y, hy => absurd hy (List.not_mem_nil)
  | k + 1, hk, hE, y, hy => by
    rw [relSt_succ] at hE
    unfold relRws at hy
    rcases List.mem_append.1 hy with hy | hy
    · exact relRws_mem n hn h2 l at_ ha s0 k (by omega) ((relStep_ext _ _ _ _).trans hE) y hy
    · by_cases c : relB l (k : Int) = []
      · rw [if_pos c] at hy; exact absurd hy (List.not_mem_nil)
      · rw [if_neg c] at hy
        rw [List.mem_singleton.1 hy]
        unfold relStep at hE
        rw [if_neg c] at hE
        exact ⟨rowOf_g (uP _ rfl) (uP _ rfl) (uP _ rfl) (uP _ rfl) (uP _ rfl) ha ⟨show 0 ≤ (k : Int) + 1 by omega, show (k : Int) + 1 < 4294967296 by omega⟩ (uP _ rfl) (uP _ rfl), rowOf_in hE hn h2⟩
def Rel32 (o : Ob) : Prop := ∀ r ∈ o.rels, -2147483648 ≤ r.f4 ∧ r.f4 ≤ 2147483647
theorem put_tab {o : Ob} (hm : MayP o) (hg : ObRg o) (hl : (putS o).length ≤ 65536) : tabS (putS o) = .ok (st5 o).rows := by
  obtain ⟨h1, h2, h3, h4, h5⟩ := put_len hm hg
  have ha : tabAt (putS o) = (st5 o).b.length := by unfold tabAt; rw [put_tabAt h2]; rfl
  have hn : tabN (putS o) = (st5 o).rows.length := by unfold tabN; rw [put_tabN h4]; rfl
  have e1 : (st5 o).b.length ≤ (putS o).length := by omega
  have e2 : (st5 o).b.length < 4294967296 := by omega
  have hsl := hm.1.1
  have hNB : (st1 o).2.length < 4294967296 := by
    have := (part_at (Ext.refl (st5 o) : Ext (partS (st4 o) ⟨0, 3, 0, 0, 0, 0, 0, 0, 1, 0⟩ (st1 o).2) (st5 o))).2
    omega
  have hE3 : Ext (st3 o) (st5 o) := (ext4 o).trans (ext5 o)
  have hE2 : Ext (st2 o) (st5 o) := (ext3 o).trans hE3
  have hE1 : Ext (st1 o).1 (st5 o) := (ext2 o).trans hE2
  have hlr := loc_rg o.syms ⟨List.replicate 16 0, [0], 1⟩
  have hyl := hm.1.2.1
  have hall : ∀ x ∈ (st5 o).rows, RowG x ∧ RowIn (putS o).length x := by
    intro x hx
    rw [all_rows] at hx
    have z : u32P 0 := uP _ rfl
    rcases List.mem_append.1 hx with hx | hx
    · rcases List.mem_cons.1 hx with rfl | hx
      · exact ⟨⟨z, z, z, z, z, z, z, z, z, z⟩, .inl rfl⟩
      · have := secRows_mem (F := st5 o) _ e1 e2 (st1 o).2 hNB o.secs s00 (fun y hy => ⟨hm.2.1 y hy, hg.secs y hy⟩) hE1 (List.prefix_refl _) x hx
        exact ⟨this.1, this.2.1⟩
    · rcases List.mem_cons.1 hx with rfl | hx
      · refine ⟨rowOf_g z (uP _ rfl) z z z ?_ ?_ (uP _ rfl) (uP _ rfl), rowOf_in hE2 e1 e2⟩
        · show 0 ≤ atS o + 1 ∧ atS o + 1 < 4294967296
          rw [atS_is]; omega
        · show 0 ≤ (yst o).loc ∧ (yst o).loc < 4294967296
          have e : yst o = o.syms.foldl symStep ⟨List.replicate 16 0, [0], 1⟩ := rfl
          rw [← e] at hlr
          have e3 : (⟨List.replicate 16 0, [0], 1⟩ : Yst).loc = 1 := rfl
          rw [e3] at hlr
          omega
      · rcases List.mem_cons.1 hx with rfl | hx
        · exact ⟨rowOf_g z (uP _ rfl) z z z z z (uP _ rfl) z, rowOf_in hE3 e1 e2⟩
        · rcases List.mem_append.1 hx with hx | hx
          · exact relRws_mem _ e1 e2 o.rels (atS o) (by rw [atS_is]; exact ⟨by omega, by omega⟩) (st3 o) o.secs.length (by omega) (ext5 o) x hx
          · rw [List.mem_singleton.1 hx]
            exact ⟨rowOf_g z (uP _ rfl) z z z z z (uP _ rfl) z, rowOf_in (Ext.refl (st5 o)) e1 e2⟩
  have hro : rowsOf (putS o) (st5 o).b.length (st5 o).rows.length = (st5 o).rows := rowsOf_is (fun i x hx => put_rows h1 i x hx) (fun x hx => (hall x hx).1)
  unfold tabS
  rw [if_neg (by omega), if_neg (by omega), ha, hn, if_neg (by omega), hro, if_pos (fun x hx => (hall x hx).2)]
theorem rels_sorted {o : Ob} (hm : MayP o) : byS o.secs.length o.rels = o.rels := by
  haveI : Inhabited S59 := ⟨z59⟩
  have hadj : ∀ i, i + 1 < o.rels.length → ∀ x y, o.rels[i + 1]? = some x → o.rels[i]? = some y → y.f0 ≤ x.f0 := fun i hi x y hx hy => (hm.2.2.2 (i + 1) hi x hx).2.2.2.2.1 y (by omega) (by rw [Nat.add_sub_cancel]; exact hy)
  have hp : o.rels.Pairwise (fun x y => x.f0 ≤ y.f0) := by
    rw [List.pairwise_iff_getElem]
    intro i j hi hj hij
    obtain ⟨d, rfl⟩ : ∃ d, j = i + 1 + d := ⟨j - (i + 1), by omega⟩
    induction d with
    | zero => exact hadj i hj _ _ (List.getElem?_eq_getElem hj) (List.getElem?_eq_getElem hi)
    | succ d ih =>
      have h1 := ih (by omega) (by omega)
      have h2 := hadj (i + 1 + d) hj _ _ (List.getElem?_eq_getElem hj) (List.getElem?_eq_getElem (by omega))
      exact Int.le_trans h1 h2
  exact (byKey (key := fun r : S59 => r.f0) o.secs.length o.rels hp (fun x hx => by
    obtain ⟨i, hi⟩ := List.mem_iff_getElem?.1 hx
    have := hm.2.2.2 i (List.getElem?_eq_some_iff.1 hi).1 x hi
    exact ⟨this.1, this.2.1⟩)).symm
theorem put_read {o : Ob} (hm : MayP o) (hg : ObRg o) (h32 : Rel32 o) (hl : (putS o).length ≤ 65536) : readS (putS o) = .ok o := by
  obtain ⟨h1, h2, h3, h4, h5⟩ := put_len hm hg
  have hL := put_laid h1 h2
  have htab := put_tab hm hg hl
  have hsl := hm.1.1
  have hyl := hm.1.2.1
  have hE3 : Ext (st3 o) (st5 o) := (ext4 o).trans (ext5 o)
  have hE2 : Ext (st2 o) (st5 o) := (ext3 o).trans hE3
  have hE1 : Ext (st1 o).1 (st5 o) := (ext2 o).trans hE2
  have b1 := b1_len o
  have b2 : 52 ≤ (st2 o).b.length := Nat.le_trans b1 (ext2 o).b.length_le
  have b3 : 52 ≤ (st3 o).b.length := Nat.le_trans b2 (ext3 o).b.length_le
  have b4 : 52 ≤ (st4 o).b.length := Nat.le_trans b3 (ext4 o).b.length_le
  have hlen : (st5 o).rows.length = (o.secs.length + 1) + (2 + (relRws o.rels (atS o) (st3 o) o.secs.length).length + 1) := by
    rw [all_rows]; simp only [List.length_append, List.length_cons, secRows_len, List.length_nil]; omega
  -- the header
  have hh : headerS (putS o) (st5 o).rows = some (nameRow o) := by
    refine put_header h3 h4 (by rw [all_rows]; rfl) ?_ rfl
    have e5 : (st5 o).rows = (st4 o).rows ++ [nameRow o] := rfl
    rw [e5, List.length_append, List.length_singleton, Nat.add_sub_cancel, List.getElem?_append_right (Nat.le_refl _), Nat.sub_self]
    rfl
  have hnb : partB (putS o) (nameRow o) = (st1 o).2 := hL.part (Ext.refl (st5 o)) b4 (show (3 : Int) ≠ 8 by decide)
  have hN : (st1 o).2.length < 4294967296 := by
    have := (part_at (Ext.refl (st5 o) : Ext (partS (st4 o) ⟨0, 3, 0, 0, 0, 0, 0, 0, 1, 0⟩ (st1 o).2) (st5 o))).2
    omega
  have hN0 : ∃ m, (st1 o).2 = 0 :: m := by
    obtain ⟨m, hm⟩ := st1_pre o.secs s00
    exact ⟨m, hm.symm⟩
  -- the sections
  obtain ⟨R, hR⟩ : ∃ R, R = symRow o :: strRow o :: (relRws o.rels (atS o) (st3 o) o.secs.length ++ [nameRow o]) := ⟨_, rfl⟩
  have hrows : (st5 o).rows = (z47 :: secRows s00 o.secs) ++ R := by rw [hR]; exact all_rows o
  have hRk : ∀ x ∈ R, x.f1 ≠ 1 ∧ x.f1 ≠ 8 := by
    intro x hx
    rw [hR] at hx
    rcases List.mem_cons.1 hx with rfl | hx
    · exact ⟨show (2 : Int) ≠ 1 by decide, show (2 : Int) ≠ 8 by decide⟩
    · rcases List.mem_cons.1 hx with rfl | hx
      · exact ⟨show (3 : Int) ≠ 1 by decide, show (3 : Int) ≠ 8 by decide⟩
      · rcases List.mem_append.1 hx with hx | hx
        · have := relRws_kind _ _ _ _ x hx; omega
        · rw [List.mem_singleton.1 hx]; exact ⟨show (3 : Int) ≠ 1 by decide, show (3 : Int) ≠ 8 by decide⟩
  have hsec : secsR (putS o) (st5 o).rows (nameRow o) = some (o.secs, ([-1] ++ upFrom 0 o.secs.length) ++ List.replicate R.length (-1)) := by
    unfold secsR
    rw [hrows, foldO_app]
    have hz : foldO (secR (putS o) (nameRow o)) ([], []) (z47 :: secRows s00 o.secs) = foldO (secR (putS o) (nameRow o)) ([], [-1]) (secRows s00 o.secs) := by
      show (secR (putS o) (nameRow o) ([], []) z47).bind (fun u => foldO (secR (putS o) (nameRow o)) u (secRows s00 o.secs)) = _
      have : secR (putS o) (nameRow o) ([], []) z47 = some ([], [-1]) := by unfold secR; rw [if_pos ⟨by decide, by decide⟩]; rfl
      rw [this, Option.bind_some]
    rw [hz, secs_back hL hnb hN0 hN o.secs s00 [] [-1] (fun x hx => ⟨hm.2.1 x hx, (hg.secs x hx).2.2.2.2.1⟩) (by decide) hE1 (List.prefix_refl _), Option.bind_some, secs_skip _ _ R _ _ hRk]
    rfl
  obtain ⟨nums, hnums⟩ : ∃ nums, nums = ([-1] ++ upFrom 0 o.secs.length) ++ List.replicate R.length (-1) := ⟨_, rfl⟩
  have hNu : ∀ i : Nat, i < o.secs.length → nums[i + 1]? = some (i : Int) := by
    intro i hi
    rw [hnums, List.getElem?_append_left (by rw [List.length_append, upFrom_len, List.length_singleton]; omega)]
    show (upFrom 0 o.secs.length)[i]? = _
    rw [upFrom_at _ _ _ hi, Nat.zero_add]
  -- the symbols
  have hatn : atS o = ((o.secs.length + 1 : Nat) : Int) := atS_is o
  have hsr : ∀ y ∈ z47 :: secRows s00 o.secs, y.f1 ≠ 2 ∧ y.f1 ≠ 4 := by
    intro y hy
    rcases List.mem_cons.1 hy with rfl | hy
    · exact ⟨by decide, by decide⟩
    · have := secRows_mem (F := st5 o) (putS o).length (by omega) (by omega) (st1 o).2 hN o.secs s00 (fun y hy => ⟨hm.2.1 y hy, hg.secs y hy⟩) hE1 (List.prefix_refl _) y hy
      omega
  have hfi : (st5 o).rows.findIdx? (fun x => x.f1 == 2) = some (o.secs.length + 1) := by
    rw [hrows, hR, List.findIdx?_append, List.findIdx?_eq_none_iff.2 (fun y hy => by simpa using (hsr y hy).1)]
    have : (symRow o :: strRow o :: (relRws o.rels (atS o) (st3 o) o.secs.length ++ [nameRow o])).findIdx? (fun x => x.f1 == 2) = some 0 := by
      rw [List.findIdx?_cons]; rfl
    rw [this]
    simp [secRows_len]
  have hrd : rd_T47 (st5 o).rows ((o.secs.length + 1 : Nat) : Int) = symRow o := by
    unfold rd_T47
    rw [Int.toNat_natCast, List.getD_eq_getElem?_getD, hrows, List.getElem?_append_right (by simp [secRows_len]), List.length_cons, secRows_len, Nat.sub_self, hR]
    rfl
  have hno2 : ¬ ∃ y ∈ (st5 o).rows.drop (o.secs.length + 1 + 1), y.f1 = 2 := by
    rintro ⟨y, hy, h⟩
    have : (st5 o).rows.drop (o.secs.length + 1 + 1) = strRow o :: (relRws o.rels (atS o) (st3 o) o.secs.length ++ [nameRow o]) := by
      rw [hrows, ← List.drop_drop, List.drop_left' (by simp [secRows_len]), hR]
      rfl
    rw [this] at hy
    rcases List.mem_cons.1 hy with rfl | hy
    · exact absurd h (show ¬ (3 : Int) = 2 by decide)
    · rcases List.mem_append.1 hy with hy | hy
      · have := relRws_kind _ _ _ _ y hy; omega
      · rw [List.mem_singleton.1 hy] at h; exact absurd h (show ¬ (3 : Int) = 2 by decide)
  have hlink : rowS (st5 o).rows (symRow o).f6 3 = some (strRow o) := by
    unfold rowS
    have h6 : (symRow o).f6 = ((o.secs.length + 1 + 1 : Nat) : Int) := by
      show atS o + 1 = _
      rw [hatn]; omega
    rw [h6, Int.toNat_natCast, hrows, List.getElem?_append_right (by simp [secRows_len]), List.length_cons, secRows_len, hR, show o.secs.length + 1 + 1 - (o.secs.length + 1) = 1 by omega]
    show (some (strRow o)).bind _ = _
    rw [Option.bind_some, if_pos (show (strRow o).f1 = 3 from rfl)]
  have hyb : partB (putS o) (symRow o) = (yst o).b := hL.part hE2 b1 (show (2 : Int) ≠ 8 by decide)
  have hob : partB (putS o) (strRow o) = (yst o).own := hL.part hE3 b2 (show (3 : Int) ≠ 8 by decide)
  have hyf : (yst o).b = (List.replicate 16 0 :: symEs ⟨List.replicate 16 0, [0], 1⟩ o.syms).flatten := by
    rw [List.flatten_cons]; exact yst_b o.syms ⟨List.replicate 16 0, [0], 1⟩
  have hel : ∀ e ∈ List.replicate 16 0 :: symEs ⟨List.replicate 16 0, [0], 1⟩ o.syms, e.length = 16 := by
    intro e he
    rcases List.mem_cons.1 he with rfl | he
    · rfl
    · exact symEs_len _ _ e he
  have hO0 : ∃ m, (yst o).own = 0 :: m := by
    obtain ⟨m, hm⟩ := yst_pre o.syms ⟨List.replicate 16 0, [0], 1⟩
    exact ⟨m, hm.symm⟩
  have hON : (yst o).own.length < 4294967296 := by
    have := (part_at (hE3 : Ext (partS (st2 o) ⟨0, 3, 0, 0, 0, 0, 0, 0, 1, 0⟩ (yst o).own) (st5 o))).2
    omega
  have hsymP : ∀ x ∈ o.syms, SymP o.secs.length x ∧ SymRg x := fun x hx => by
    obtain ⟨i, hi⟩ := List.mem_iff_getElem?.1 hx
    exact ⟨(hm.2.2.1 i (List.getElem?_eq_some_iff.1 hi).1 x hi).1, (hg.syms x hx).1⟩
  have hord : OrdS false o.syms := ordS_of o.syms false 0 o.syms rfl (fun i hi x hx y h0 hy h3 => (hm.2.2.1 i hi x hx).2 y h0 hy h3) (fun x hx => (hg.syms x hx).1.2.2.1.1) (fun _ => rfl) (fun y h0 => absurd h0 (by decide))
  obtain ⟨ot, hsy⟩ := syms_back (n := o.secs.length) (by omega) hNu hob hO0 hON o.syms ⟨List.replicate 16 0, [0], 1⟩ ⟨[], [-1], 1, false⟩ hsymP hord rfl (List.prefix_refl _)
  have hsym : symsR (putS o) (st5 o).rows nums = some (o.syms, [-1] ++ upFrom 0 o.syms.length, ((o.secs.length + 1 : Nat) : Int)) := by
    rw [symsR_is hfi hno2 (by rw [hrd]; exact hlink), hrd, hyb, if_pos ⟨by rw [hyf, flat_len 16 _ hel]; omega, by rw [hyf, List.flatten_cons]; exact List.take_left' rfl⟩, hyf, chunks_flat 16 (by decide) _ hel]
    show (foldO _ _ (symEs ⟨List.replicate 16 0, [0], 1⟩ o.syms)).bind _ = _
    rw [hsy, Option.bind_some]
    exact if_pos rfl
  have has : ∀ j : Int, -1 ≤ j → j < o.syms.length → ([-1] ++ upFrom 0 o.syms.length)[(j + 1).toNat]? = some j := by
    intro j h0 hj
    by_cases c : j = -1
    · rw [c]; rfl
    · obtain ⟨i, rfl⟩ := Int.eq_ofNat_of_zero_le (show 0 ≤ j by omega)
      rw [show ((i : Int) + 1).toNat = i + 1 by omega]
      show (upFrom 0 o.syms.length)[i]? = _
      rw [upFrom_at _ _ _ (by omega), Nat.zero_add]
  -- the relocations
  have hrelG : ∀ r ∈ o.rels, RelG o.secs o.syms.length r := fun r hr => by
    obtain ⟨i, hi⟩ := List.mem_iff_getElem?.1 hr
    obtain ⟨k0, k1, k2, k3, _, k5, k6⟩ := hm.2.2.2 i (List.getElem?_eq_some_iff.1 hi).1 r hi
    obtain ⟨q1, q2, q3⟩ := hg.rels r hr
    exact ⟨⟨k0, k1⟩, k5, ⟨q1.1, k6⟩, q1.2, q2, ⟨k2, k3⟩, h32 r hr⟩
  have hrel : relsR (putS o) (st5 o).rows o.secs nums ([-1] ++ upFrom 0 o.syms.length) ((o.secs.length + 1 : Nat) : Int) = some o.rels := by
    unfold relsR
    rw [hrows, foldO_app, rels_skip _ _ _ _ _ _ _ (fun x hx => (hsr x hx).2), Option.bind_some, hR]
    show foldO _ [] ([symRow o, strRow o] ++ (relRws o.rels (atS o) (st3 o) o.secs.length ++ [nameRow o])) = _
    rw [foldO_app, rels_skip _ _ _ _ _ [symRow o, strRow o] _ (fun x hx => by
      rcases List.mem_cons.1 hx with rfl | hx
      · exact show (2 : Int) ≠ 4 by decide
      · rw [List.mem_singleton.1 hx]; exact show (3 : Int) ≠ 4 by decide), Option.bind_some, foldO_app, ← hatn, rels_back hL (by omega) has hNu o.rels (atS o) (st3 o) b3 hrelG o.secs.length (Nat.le_refl _) (ext5 o), Option.bind_some, rels_skip _ _ _ _ _ [nameRow o] _ (fun x hx => by rw [List.mem_singleton.1 hx]; exact show (3 : Int) ≠ 4 by decide)]
    exact congrArg some (rels_sorted hm)
  have hbody : bodyS (putS o) (st5 o).rows = some o := by
    unfold bodyS
    rw [hh, Option.bind_some, hsec, Option.bind_some]
    show (symsR (putS o) (st5 o).rows (([-1] ++ upFrom 0 o.secs.length) ++ List.replicate R.length (-1))).bind _ = _
    rw [← hnums, hsym, Option.bind_some]
    show (relsR (putS o) (st5 o).rows o.secs nums ([-1] ++ upFrom 0 o.syms.length) ((o.secs.length + 1 : Nat) : Int)).bind (fun l => some (⟨o.secs, o.syms, byS o.secs.length l⟩ : Ob)) = _
    rw [hrel, Option.bind_some, rels_sorted hm]
  unfold readS
  rw [htab]
  show (match bodyS (putS o) (st5 o).rows with | none => _ | some o => _) = _
  rw [hbody]
  exact if_pos hm.1
end Go.Proofs.Ytockojajbnnbpaa.E
namespace Go.Proofs.Ytockojajbnnbpaa.E
open Go.RowKit Go.Proofs.Ytockojajbnnbpaa.Q Go.Proofs.YtockojajbnnbpaaW.PrintWords
set_option linter.unusedVariables false
set_option linter.unusedSimpArgs false
def one : Ob := ⟨[⟨⟨#[116]⟩, 1, 6, 4, 4, [1, 2, 3, 4]⟩], [⟨⟨#[102]⟩, 0, 0, 1, 2, false, 0⟩], [⟨0, 0, 1, 0, -1⟩]⟩
def bad : Ob := ⟨[z40], [], []⟩
set_option maxRecDepth 100000 in
theorem one_read : readS (putS one) = .ok one := by kernel_rfl
set_option maxRecDepth 100000 in
theorem one_len : 52 < (putS one).length ∧ (putS one).length ≤ 65536 := by
  have h : decide (52 < (putS one).length ∧ (putS one).length ≤ 65536) = true := by kernel_rfl
  exact of_decide_eq_true h
theorem one_may : MayP one := by
  refine ⟨by decide, fun s hs => ?_, fun i hi x hx => ?_, fun i hi x hx => ?_⟩
  · have hs : s = ⟨⟨#[116]⟩, 1, 6, 4, 4, [1, 2, 3, 4]⟩ := by simpa [one] using hs
    rw [hs]; decide
  · have hi : i = 0 := by simp [one] at hi; exact hi
    subst hi
    have hx : x = ⟨⟨#[102]⟩, 0, 0, 1, 2, false, 0⟩ := by simpa [one, eq_comm] using hx
    rw [hx]
    exact ⟨⟨by decide, by decide⟩, fun y h0 => absurd h0 (by decide)⟩
  · have hi : i = 0 := by simp [one] at hi; exact hi
    subst hi
    have hx : x = ⟨0, 0, 1, 0, -1⟩ := by simpa [one, eq_comm] using hx
    rw [hx]
    exact ⟨by decide, by decide, by decide, by decide, fun y h0 => absurd h0 (by decide), by decide, by decide⟩
theorem bad_not : ¬ MayP bad := fun h => by
  have := h.2.1 z40 (by simp [bad])
  exact absurd this (by decide)
theorem one_rg : ObRg one := by
  refine ⟨fun s hs => ?_, fun s hs => ?_, fun s hs => ?_, by decide, by decide, by decide⟩
  · have hs : s = ⟨⟨#[116]⟩, 1, 6, 4, 4, [1, 2, 3, 4]⟩ := by simpa [one] using hs
    rw [hs]
    refine ⟨by decide, by decide, by decide, by decide, by decide, fun x hx => ?_, by decide⟩
    simp at hx; omega
  · have hs : s = ⟨⟨#[102]⟩, 0, 0, 1, 2, false, 0⟩ := by simpa [one] using hs
    rw [hs]; exact ⟨⟨by decide, by decide, by decide, by decide⟩, by decide⟩
  · have hs : s = ⟨0, 0, 1, 0, -1⟩ := by simpa [one] using hs
    rw [hs]; decide
theorem bad_rg : ObRg bad := by
  refine ⟨fun s hs => ?_, fun s hs => (by simp [bad] at hs), fun s hs => (by simp [bad] at hs), by decide, by decide, by decide⟩
  have hs : s = z40 := by simpa [bad] using hs
  rw [hs]
  exact ⟨by decide, by decide, by decide, by decide, by decide, fun x hx => (by simp [z40] at hx), by decide⟩
set_option maxRecDepth 100000 in
theorem one_bytes : AllBytes (putS one) := by
  have h : (putS one).all (fun x => decide (0 ≤ x ∧ x ≤ 255)) = true := by kernel_rfl
  intro x hx
  have := List.all_eq_true.1 h x hx
  exact of_decide_eq_true this
theorem nil_read : readS [] = .error 4 := by kernel_rfl
set_option maxRecDepth 100000 in
theorem one_head : (putS one).getD 0 0 = 127 := by kernel_rfl
end Go.Proofs.Ytockojajbnnbpaa.E
namespace Go.Proofs.Ytockojajbnnbpaa.E
open Go.RowKit Go.Proofs.Ytockojajbnnbpaa.Q Go.Proofs.YtockojajbnnbpaaW.PrintWords Go.Proofs.YtockojajbnnbpaaW.PrintLast Go.Proofs.YtockojajbnnbpaaW.PrintMore
set_option linter.unusedVariables false
set_option linter.unusedSimpArgs false
theorem str_inj {x y : List Int} (hx : AllBytes x) (hy : AllBytes y) : strOfNums x = strOfNums y ↔ x = y :=
  ⟨fun h => by rw [← str_back x hx, ← str_back y hy, h], fun h => by rw [h]⟩
theorem sbeq (a b : ByteArray) : (a.toList == b.toList) = true ↔ a = b := by
  rw [beq_iff_eq, Lib.toList_data, Lib.toList_data]
  exact ⟨fun h => by cases a; cases b; exact congrArg ByteArray.mk (Array.toList_inj.1 h), fun h => by rw [h]⟩
set_option maxHeartbeats 2000000 in
theorem beq_calls (A B : Option Addr) (c d : Nat) (x y : List Int) (hx : AllBytes x) (hy : AllBytes y) (w : World) (h1 : Kd.C (Kd.int .u8) w A x.length x) (h2 : Kd.C (Kd.int .u8) w B y.length y) :
    Calls Try.prog 57 #[.slice A x.length c, .slice B y.length d] w fun e w' => ∃ r, e = .returned (.bool r) ∧ (r = true ↔ x = y) ∧ w' = w := by
  have hs1 := Kd.C_string (c := c) Try.underlying27 (by kernel_rfl : Try.prog.underlying 5 = some (.int .u8)) Try.underlying9 h1
  have hs2 := Kd.C_string (c := d) Try.underlying27 (by kernel_rfl : Try.prog.underlying 5 = some (.int .u8)) Try.underlying9 h2
  have HI := Aside0.mk (str_inj hx hy)
  clear h1 h2 hx hy
  generalize strOfNums x = sx at *
  generalize strOfNums y = sy at *
  go_enter Try.func57, Try.ntmps57
  go_wp2_with fail
  go_ret
  exact ⟨_, rfl, (sbeq sx sy).trans HI.out, rfl⟩
def secV (x : S40) (A : Option Addr) (c : Nat) : Value := .agg #[.string x.f0, .int .u32 x.f1, .int .u32 x.f2, .int .u32 x.f3, .int .u32 x.f4, .slice A x.f5.length c]
set_option maxHeartbeats 8000000 in
theorem sec_calls (A B : Option Addr) (c d : Nat) (x y : S40) (hx : AllBytes x.f5) (hy : AllBytes y.f5) (w : World) (h1 : Kd.C (Kd.int .u8) w A x.f5.length x.f5) (h2 : Kd.C (Kd.int .u8) w B y.f5.length y.f5) :
    Calls Try.prog 56 #[secV x A c, secV y B d] w fun e w' => ∃ r, e = .returned (.bool r) ∧ (r = true ↔ x = y) ∧ Below w.heap.size w w' := by
  obtain ⟨x0, x1, x2, x3, x4, x5⟩ := x
  obtain ⟨y0, y1, y2, y3, y4, y5⟩ := y
  dsimp only [secV] at *
  have hu40 := Try.underlying40
  have hb := below_alloc (below_alloc (Below.refl w.heap.size w) (.cells #[.string x0, .int .u32 x1, .int .u32 x2, .int .u32 x3, .int .u32 x4, .slice A x5.length c] 40)) (.cells #[.string y0, .int .u32 y1, .int .u32 y2, .int .u32 y3, .int .u32 y4, .slice B y5.length d] 40)
  have HB := Aside0.mk hb
  have HC := Aside0.mk (beq_calls A B c d x5 y5 hx hy _ (Kd.C_below h1 hb) (Kd.C_below h2 hb))
  clear hb h1 h2 hx hy
  by_cases c0 : x0 = y0
  rotate_left
  · have e0 : (x0.toList == y0.toList) = false := by cases h : (x0.toList == y0.toList) with | false => rfl | true => exact absurd ((sbeq _ _).1 h) c0
    have HN : Aside0 (¬ (S40.mk x0 x1 x2 x3 x4 x5 = S40.mk y0 y1 y2 y3 y4 y5)) := ⟨fun h => absurd (congrArg S40.f0 h) c0⟩
    clear c0
    go_enter Try.func56, Try.ntmps56
    go_wp2_with fail
    go_ret
    exact ⟨false, rfl, ⟨(fun h => nomatch h), fun h => absurd h HN.out⟩, HB.out⟩
  have e0 : (x0.toList == y0.toList) = true := (sbeq _ _).2 c0
  have C0 := Aside0.mk c0
  clear c0
  by_cases c1 : x1 = y1
  rotate_left
  · have e1 : (x1 == y1) = false := beq_eq_false_iff_ne.2 c1
    have HN : Aside0 (¬ (S40.mk x0 x1 x2 x3 x4 x5 = S40.mk y0 y1 y2 y3 y4 y5)) := ⟨fun h => absurd (congrArg S40.f1 h) c1⟩
    clear c1
    go_enter Try.func56, Try.ntmps56
    go_wp2_with fail
    go_ret
    exact ⟨false, rfl, ⟨(fun h => nomatch h), fun h => absurd h HN.out⟩, HB.out⟩
  have e1 : (x1 == y1) = true := beq_iff_eq.2 c1
  have C1 := Aside0.mk c1
  clear c1
  by_cases c2 : x2 = y2
  rotate_left
  · have e2 : (x2 == y2) = false := beq_eq_false_iff_ne.2 c2
    have HN : Aside0 (¬ (S40.mk x0 x1 x2 x3 x4 x5 = S40.mk y0 y1 y2 y3 y4 y5)) := ⟨fun h => absurd (congrArg S40.f2 h) c2⟩
    clear c2
    go_enter Try.func56, Try.ntmps56
    go_wp2_with fail
    go_ret
    exact ⟨false, rfl, ⟨(fun h => nomatch h), fun h => absurd h HN.out⟩, HB.out⟩
  have e2 : (x2 == y2) = true := beq_iff_eq.2 c2
  have C2 := Aside0.mk c2
  clear c2
  by_cases c3 : x3 = y3
  rotate_left
  · have e3 : (x3 == y3) = false := beq_eq_false_iff_ne.2 c3
    have HN : Aside0 (¬ (S40.mk x0 x1 x2 x3 x4 x5 = S40.mk y0 y1 y2 y3 y4 y5)) := ⟨fun h => absurd (congrArg S40.f3 h) c3⟩
    clear c3
    go_enter Try.func56, Try.ntmps56
    go_wp2_with fail
    go_ret
    exact ⟨false, rfl, ⟨(fun h => nomatch h), fun h => absurd h HN.out⟩, HB.out⟩
  have e3 : (x3 == y3) = true := beq_iff_eq.2 c3
  have C3 := Aside0.mk c3
  clear c3
  by_cases c4 : x4 = y4
  rotate_left
  · have e4 : (x4 == y4) = false := beq_eq_false_iff_ne.2 c4
    have HN : Aside0 (¬ (S40.mk x0 x1 x2 x3 x4 x5 = S40.mk y0 y1 y2 y3 y4 y5)) := ⟨fun h => absurd (congrArg S40.f4 h) c4⟩
    clear c4
    go_enter Try.func56, Try.ntmps56
    go_wp2_with fail
    go_ret
    exact ⟨false, rfl, ⟨(fun h => nomatch h), fun h => absurd h HN.out⟩, HB.out⟩
  have e4 : (x4 == y4) = true := beq_iff_eq.2 c4
  have C4 := Aside0.mk c4
  clear c4
  go_enter Try.func56, Try.ntmps56
  go_wp2_with fail
  refine HC.out.mono ?_
  rintro _ w' ⟨r, rfl, hr, rfl⟩
  have HR : Aside0 (r = true ↔ S40.mk x0 x1 x2 x3 x4 x5 = S40.mk y0 y1 y2 y3 y4 y5) := ⟨hr.trans ⟨fun h => by rw [C0.out, C1.out, C2.out, C3.out, C4.out, h], fun h => congrArg S40.f5 h⟩⟩
  clear hr
  go_wp2_with fail
  go_ret
  exact ⟨r, rfl, HR.out, HB.out⟩
end Go.Proofs.Ytockojajbnnbpaa.E
namespace Go.Proofs.Ytockojajbnnbpaa.E
open Go.RowKit Go.Proofs.Ytockojajbnnbpaa.Q Go.Proofs.YtockojajbnnbpaaW.PrintWords Go.Proofs.YtockojajbnnbpaaW.PrintLast Go.Proofs.YtockojajbnnbpaaW.PrintMore
set_option linter.unusedVariables false
set_option linter.unusedSimpArgs false
theorem take_next {α : Type} {xs ys : List α} {i : Nat} {d : α} (h : xs.take i = ys.take i) (h1 : i < xs.length) (h2 : i < ys.length) (he : xs.getD i d = ys.getD i d) : xs.take (i + 1) = ys.take (i + 1) := by
  rw [List.getD_eq_getElem?_getD, List.getD_eq_getElem?_getD, List.getElem?_eq_getElem h1, List.getElem?_eq_getElem h2] at he
  rw [List.take_add_one, List.take_add_one, h, List.getElem?_eq_getElem h1, List.getElem?_eq_getElem h2]
  have he : xs[i] = ys[i] := he
  rw [he]
set_option maxRecDepth 100000 in
set_option maxHeartbeats 16000000 in
theorem eqf_calls (A B : Option Addr) (c d : Nat) (xs ys : List S40) (hx : ∀ x ∈ xs, AllBytes x.f5) (hy : ∀ y ∈ ys, AllBytes y.f5) (w : World) (h1 : Kd.C k40 w A xs.length xs) (h2 : Kd.C k40 w B ys.length ys) (hl : xs.length < 4611686018427387904) :
    Calls Try.prog 55 #[.slice A xs.length c, .slice B ys.length d, .func (.func 56) #[] #[]] w fun e w' => ∃ r, e = .returned (.bool r) ∧ (r = true ↔ xs = ys) ∧ Below w.heap.size w w' := by
  have hu40 := Try.underlying40
  by_cases hne : xs.length = ys.length
  rotate_left
  · have e0 : ((xs.length : Int) != (ys.length : Int)) = true := bne_iff_ne.2 (by omega)
    have HN : Aside0 (¬ xs = ys) := ⟨fun h => hne (by rw [h])⟩
    clear hne h1 h2
    go_enter Try.func55, Try.ntmps55
    go_wp2_with fail
    go_ret
    exact ⟨false, rfl, ⟨(fun h => nomatch h), fun h => absurd h HN.out⟩, Below.refl _ _⟩
  obtain ⟨n, hn1, hn2⟩ : ∃ n, n = xs.length ∧ n = ys.length := ⟨_, rfl, hne⟩
  have H1 := Aside0.mk h1
  have H2 := Aside0.mk h2
  have HX := Aside0.mk hx
  have HY := Aside0.mk hy
  have HNX := Aside0.mk hn1
  have HNY := Aside0.mk hn2
  rw [← hn1, ← hn2]
  have hln : n < 4611686018427387904 := by omega
  clear h1 h2 hx hy hn1 hn2 hne hl
  go_enter Try.func55, Try.ntmps55
  go_wp2_with fail
  go_loopg [17] n (fun g v wr => ∃ (i : Nat), v = .int .i64 i ∧ i ≤ n ∧ n - i ≤ g ∧ Aside0 (Below w.heap.size w wr) ∧ Aside0 (xs.take i = ys.take i))
  case atStart => exact ⟨0, rfl, Nat.zero_le _, Nat.le_refl _, ⟨Below.refl _ _⟩, ⟨rfl⟩⟩
  case round =>
    obtain ⟨i, rfl, hi, hg, HB, HT⟩ := hrel
    by_cases hlt : i < n
    · have hltz : (i : Int) < (n : Int) := by omega
      obtain ⟨ad, A5, c5, rfl, x0, x1, x2, x3, x4, x5, l5, g5⟩ := at_T40 (Kd.C_below H1.out HB.out) (i : Int) (by omega) (by have := HNX.out; omega)
      have hmx := HX.out _ (rd40_mem xs i (by have := HNX.out; omega))
      obtain ⟨x, hxe⟩ : ∃ x, x = rd_T40 xs (i : Int) := ⟨_, rfl⟩
      rw [← hxe] at x0 x1 x2 x3 x4 x5 l5 g5 hmx
      have hb0 := below_alloc (Below.refl wr.heap.size wr) (.cells #[.string x.f0, .int .u32 x.f1, .int .u32 x.f2, .int .u32 x.f3, .int .u32 x.f4, .slice A5 x.f5.length c5] 40)
      obtain ⟨ae, B5, d5, rfl, y0, y1, y2, y3, y4, y5, m5, k5⟩ := at_T40 (Kd.C_below (Kd.C_below H2.out HB.out) hb0) (i : Int) (by omega) (by have := HNY.out; omega)
      simp only [Int.toNat_natCast] at x0 x1 x2 x3 x4 x5 y0 y1 y2 y3 y4 y5
      have hmy := HY.out _ (rd40_mem ys i (by have := HNY.out; omega))
      obtain ⟨y, hye⟩ : ∃ y, y = rd_T40 ys (i : Int) := ⟨_, rfl⟩
      rw [← hye] at y0 y1 y2 y3 y4 y5 m5 k5 hmy
      have HXE := Aside0.mk hxe
      have HYE := Aside0.mk hye
      have hb1 := below_alloc (below_alloc (Below.refl wr.heap.size wr) (.cells #[.string x.f0, .int .u32 x.f1, .int .u32 x.f2, .int .u32 x.f3, .int .u32 x.f4, .slice A5 x.f5.length c5] 40)) (.cells #[.string y.f0, .int .u32 y.f1, .int .u32 y.f2, .int .u32 y.f3, .int .u32 y.f4, .slice B5 y.f5.length d5] 40)
      have HC := Aside0.mk (sec_calls A5 B5 c5 d5 x y hmx hmy _ (Kd.C_below g5 hb1) (Kd.C_below k5 (below_alloc (Below.refl _ _) _)))
      have HB1 := Aside0.mk hb1
      clear hxe hye hb1 hb0 hmx hmy g5 k5 l5 m5
      unfold secV at HC
      go_wp2_with fail
      refine HC.out.mono ?_
      rintro _ w' ⟨r, rfl, hr, hb2⟩
      have HB2 : Aside0 (Below w.heap.size w w') := ⟨below_step HB.out (below_step HB1.out hb2)⟩
      have HR := Aside0.mk hr
      clear hr hb2 HC HB1
      cases r with
      | false =>
        have HN : Aside0 (¬ xs = ys) := ⟨fun h => by
          have := HXE.out
          rw [h, ← HYE.out] at this
          have := HR.out.2 this
          cases this⟩
        go_wp2_with fail
        go_ret
        exact ⟨false, rfl, ⟨(fun h => nomatch h), fun h => absurd h HN.out⟩, HB2.out⟩
      | true =>
        have HT2 : Aside0 (xs.take (i + 1) = ys.take (i + 1)) := ⟨take_next (d := z40) HT.out (by have := HNX.out; omega) (by have := HNY.out; omega) (by
          have h1 : xs.getD i z40 = x := by rw [HXE.out]; rfl
          have h2 : ys.getD i z40 = y := by rw [HYE.out]; rfl
          rw [h1, h2]; exact HR.out.1 rfl)⟩
        clear HT HR HXE HYE HB
        go_wp2_with fail
        go_roundg (n - (i + 1))
        case measure => omega
        case rel => exact ⟨i + 1, by go_num, by omega, Nat.le_refl _, HB2, HT2⟩
    · have hltz : ¬ (i : Int) < (n : Int) := by omega
      have HF : Aside0 (xs = ys) := ⟨by
        have h1 := HT.out
        rw [List.take_of_length_le (by have := HNX.out; omega), List.take_of_length_le (by have := HNY.out; omega)] at h1
        exact h1⟩
      clear HT
      go_wp2_with fail
      go_ret
      exact .inr ⟨rfl, HF.out, HB.out⟩
end Go.Proofs.Ytockojajbnnbpaa.E
namespace Go.Proofs.Ytockojajbnnbpaa.E
open Go.RowKit Go.Proofs.Ytockojajbnnbpaa.Q Go.Proofs.YtockojajbnnbpaaW.PrintWords Go.Proofs.YtockojajbnnbpaaW.PrintLast Go.Proofs.YtockojajbnnbpaaW.PrintMore
set_option linter.unusedVariables false
set_option linter.unusedSimpArgs false
theorem sym_ne (x y : S94) : (!((x.f0.toList) == (y.f0.toList)) || (!((x.f1) == (y.f1)) || (!((x.f2) == (y.f2)) || (!((x.f3) == (y.f3)) || (!((x.f4) == (y.f4)) || (!((x.f5) == (y.f5)) || (!((x.f6) == (y.f6))))))))) = true ↔ ¬ x = y := by
  obtain ⟨x0, x1, x2, x3, x4, x5, x6⟩ := x
  obtain ⟨y0, y1, y2, y3, y4, y5, y6⟩ := y
  rw [S94.mk.injEq, ← sbeq x0 y0]
  simp only [Bool.or_eq_true, Bool.not_eq_true', beq_iff_eq, beq_eq_false_iff_ne]
  by_cases h0 : x0.toList = y0.toList <;> by_cases h1 : x1 = y1 <;> by_cases h2 : x2 = y2 <;> by_cases h3 : x3 = y3 <;> by_cases h4 : x4 = y4 <;> by_cases h5 : x5 = y5 <;> by_cases h6 : x6 = y6 <;> simp [h0, h1, h2, h3, h4, h5, h6]
theorem rel_ne (x y : S59) : (!((x.f0) == (y.f0)) || (!((x.f1) == (y.f1)) || (!((x.f2) == (y.f2)) || (!((x.f3) == (y.f3)) || (!((x.f4) == (y.f4))))))) = true ↔ ¬ x = y := by
  obtain ⟨x0, x1, x2, x3, x4⟩ := x
  obtain ⟨y0, y1, y2, y3, y4⟩ := y
  rw [S59.mk.injEq]
  by_cases h0 : x0 = y0 <;> by_cases h1 : x1 = y1 <;> by_cases h2 : x2 = y2 <;> by_cases h3 : x3 = y3 <;> by_cases h4 : x4 = y4 <;> simp [h0, h1, h2, h3, h4]
theorem wrap64_next (i n : Nat) (h : i < n) (hn : n < 4611686018427387904) : wrap64 ((i : Int) + 1) = ((i + 1 : Nat) : Int) := by
  rw [Int.natCast_add]; unfold wrap64; omega
theorem syms_loop (xs ys : List S94) (h : xs.length = ys.length) (hl : xs.length < 4611686018427387904) : ∀ (k i : Nat), i ≤ xs.length → xs.length - i < k → xs.take i = ys.take i → ∃ r, api_Symbol.l0 k xs ys (xs.length : Int) (i : Int) = some r ∧ (r = true ↔ xs = ys)
  | 0, i, _, hk, _ => by omega
  | k + 1, i, hi, hk, ht => by
    unfold api_Symbol.l0
    by_cases c : i < xs.length
    · rw [if_pos (by omega), if_pos (by omega), if_pos (by omega), if_pos (by omega)]
      by_cases e : rd_T94 xs (i : Int) = rd_T94 ys (i : Int)
      · rw [if_neg (fun hh => (sym_ne _ _).1 hh e), wrap64_next i _ c hl]
        exact syms_loop xs ys h hl k (i + 1) c (by omega) (take_next (d := z94) ht c (by omega) e)
      · rw [if_pos ((sym_ne _ _).2 e)]
        exact ⟨false, rfl, ⟨(fun h => nomatch h), fun hh => absurd (by rw [hh]) e⟩⟩
    · rw [if_neg (by omega)]
      refine ⟨true, rfl, ⟨fun _ => ?_, fun _ => rfl⟩⟩
      rw [List.take_of_length_le (by omega), List.take_of_length_le (by omega)] at ht
      exact ht
theorem rels_loop (xs ys : List S59) (h : xs.length = ys.length) (hl : xs.length < 4611686018427387904) : ∀ (k i : Nat), i ≤ xs.length → xs.length - i < k → xs.take i = ys.take i → ∃ r, api_Reloc_59.l0 k xs ys (xs.length : Int) (i : Int) = some r ∧ (r = true ↔ xs = ys)
  | 0, i, _, hk, _ => by omega
  | k + 1, i, hi, hk, ht => by
    unfold api_Reloc_59.l0
    by_cases c : i < xs.length
    · rw [if_pos (by omega), if_pos (by omega), if_pos (by omega), if_pos (by omega)]
      by_cases e : rd_T59 xs (i : Int) = rd_T59 ys (i : Int)
      · rw [if_neg (fun hh => (rel_ne _ _).1 hh e), wrap64_next i _ c hl]
        exact rels_loop xs ys h hl k (i + 1) c (by omega) (take_next (d := z59) ht c (by omega) e)
      · rw [if_pos ((rel_ne _ _).2 e)]
        exact ⟨false, rfl, ⟨(fun h => nomatch h), fun hh => absurd (by rw [hh]) e⟩⟩
    · rw [if_neg (by omega)]
      refine ⟨true, rfl, ⟨fun _ => ?_, fun _ => rfl⟩⟩
      rw [List.take_of_length_le (by omega), List.take_of_length_le (by omega)] at ht
      exact ht
theorem bytes_loop (xs ys : List Int) (h : xs.length = ys.length) (hl : xs.length < 4611686018427387904) : ∀ (k i : Nat), i ≤ xs.length → xs.length - i < k → xs.take i = ys.take i → ∃ r, bulwarkref00_Same.l0 k xs ys (i : Int) = some r ∧ (r = true ↔ xs = ys)
  | 0, i, _, hk, _ => by omega
  | k + 1, i, hi, hk, ht => by
    unfold bulwarkref00_Same.l0
    by_cases c : i < xs.length
    · rw [if_pos (by omega), if_pos (by omega), if_pos (by omega)]
      by_cases e : rd xs (i : Int) = rd ys (i : Int)
      · rw [if_pos e, wrap64_next i _ c hl]
        exact bytes_loop xs ys h hl k (i + 1) c (by omega) (take_next (d := 0) ht c (by omega) e)
      · rw [if_neg e]
        exact ⟨false, rfl, ⟨(fun h => nomatch h), fun hh => absurd (by rw [hh]) e⟩⟩
    · rw [if_neg (by omega)]
      refine ⟨true, rfl, ⟨fun _ => ?_, fun _ => rfl⟩⟩
      rw [List.take_of_length_le (by omega), List.take_of_length_le (by omega)] at ht
      exact ht
def BoolR (P : Prop) (w : World) (e : Ending) (w' : World) : Prop := ∃ r, e = .returned (.bool r) ∧ (r = true ↔ P) ∧ Below w.heap.size w w'
section
variable (A B : Option Addr) (c d : Nat) (w : World)
theorem syms_calls (xs ys : List S94) (h1 : Kd.C k94 w A xs.length xs) (h2 : Kd.C k94 w B ys.length ys) (hc : xs.length ≤ c) (hd : ys.length ≤ d) (hl : xs.length < 4611686018427387904) : Calls Try.prog 58 #[.slice A xs.length c, .slice B ys.length d] w (BoolR (xs = ys) w) := by
  have : ∃ r, api_Symbol.f (xs.length + 1) xs ys = some r ∧ (r = true ↔ xs = ys) := by
    unfold api_Symbol.f
    by_cases h : xs.length = ys.length
    · rw [if_pos (by omega)]; exact syms_loop xs ys h hl _ 0 (Nat.zero_le _) (by omega) rfl
    · rw [if_neg (by omega)]; exact ⟨false, rfl, ⟨(fun h => nomatch h), fun hh => absurd (by rw [hh]) h⟩⟩
  obtain ⟨r, hr, hi⟩ := this
  exact (api_Symbol.calls _ A c xs B d ys r w h1 hc h2 hd hr).mono fun e w' ⟨he, hb⟩ => ⟨r, he, hi, hb.below⟩
theorem rels_calls (xs ys : List S59) (h1 : Kd.C k59 w A xs.length xs) (h2 : Kd.C k59 w B ys.length ys) (hc : xs.length ≤ c) (hd : ys.length ≤ d) (hl : xs.length < 4611686018427387904) : Calls Try.prog 59 #[.slice A xs.length c, .slice B ys.length d] w (BoolR (xs = ys) w) := by
  have : ∃ r, api_Reloc_59.f (xs.length + 1) xs ys = some r ∧ (r = true ↔ xs = ys) := by
    unfold api_Reloc_59.f
    by_cases h : xs.length = ys.length
    · rw [if_pos (by omega)]; exact rels_loop xs ys h hl _ 0 (Nat.zero_le _) (by omega) rfl
    · rw [if_neg (by omega)]; exact ⟨false, rfl, ⟨(fun h => nomatch h), fun hh => absurd (by rw [hh]) h⟩⟩
  obtain ⟨r, hr, hi⟩ := this
  exact (api_Reloc_59.calls _ A c xs B d ys r w h1 hc h2 hd hr).mono fun e w' ⟨he, hb⟩ => ⟨r, he, hi, hb.below⟩
theorem same_calls (xs ys : List Int) (h1 : Kd.C (Kd.int .u8) w A xs.length xs) (h2 : Kd.C (Kd.int .u8) w B ys.length ys) (hc : xs.length ≤ c) (hd : ys.length ≤ d) (hl : xs.length < 4611686018427387904) : Calls Try.prog 15 #[.slice A xs.length c, .slice B ys.length d] w (BoolR (xs = ys) w) := by
  have : ∃ r, bulwarkref00_Same.f (xs.length + 1) xs ys = some r ∧ (r = true ↔ xs = ys) := by
    unfold bulwarkref00_Same.f
    by_cases h : xs.length = ys.length
    · rw [if_pos (by omega)]; exact bytes_loop xs ys h hl _ 0 (Nat.zero_le _) (by omega) rfl
    · rw [if_neg (by omega)]; exact ⟨false, rfl, ⟨(fun h => nomatch h), fun hh => absurd (by rw [hh]) h⟩⟩
  obtain ⟨r, hr, hi⟩ := this
  exact (bulwarkref00_Same.calls _ A c xs B d ys r w h1 hc h2 hd hr).mono fun e w' ⟨he, hb⟩ => ⟨r, he, hi, hb.below⟩
end
end Go.Proofs.Ytockojajbnnbpaa.E
namespace Go.Proofs.Ytockojajbnnbpaa.E
open Go.RowKit Go.Proofs.Ytockojajbnnbpaa.Q Go.Proofs.YtockojajbnnbpaaW.PrintWords Go.Proofs.YtockojajbnnbpaaW.PrintLast Go.Proofs.YtockojajbnnbpaaW.PrintMore
set_option linter.unusedVariables false
set_option linter.unusedSimpArgs false
set_option maxRecDepth 100000 in
set_option maxHeartbeats 4000000 in
theorem rec_idle (p q : Addr) (w : World) :
    CallsD Try.prog 29 #[.pointer (some p), .pointer (some q)] .returning w fun e u' w' => e = .returned (.tuple #[]) ∧ u' = .returning ∧ w' = w := by
  refine callsD_of_wpS Try.func29 rfl fun c₀ cs hu => ?_
  apply wpS_seq
  apply wpS_region
  simp [wpOpsS, go_sem, recoverD, hu, Try.ntmps29, Exit.thenS]
  apply wpS_seq
  apply wpS_region
  simp [wpOpsS, go_sem, Exit.thenS]
  refine wpS_cond (t := false) (by simp [Act.eval, Array.replicate]) ?_
  simp only [Bool.false_eq_true, if_false]
  refine wpS_of_wp (wp_skip ?_)
  cases c₀
  simp_all [bodyPostS, results, Try.results29]
theorem ta1 (v : Value) (W : World) : (Instr.typeAssert (.iface 66 v) 20 66 true).run Try.prog W = .ok (.tuple #[v, .bool true]) W := by
  have hu66 := Try.underlying66
  have hu20 := Try.underlying20
  simp [go_sem, Instr.typeAssert]
set_option maxRecDepth 100000 in
set_option maxHeartbeats 4000000 in
theorem rec_catch (p q : Nat) (e0 : Int) (z0 z1 z2 z3 : Value) (w : World) (hp : w.heap[p]? = some (.cells #[z0, z1, z2] 26 (0, 0))) (hq : w.heap[q]? = some (.cells #[z3] 28 (0, 0))) (hpq : ¬ p = q) :
    CallsD Try.prog 29 #[.pointer (some ⟨p, 0, none⟩), .pointer (some ⟨q, 0, none⟩)] (.panicking [{ v := .iface 66 (.agg #[.int .i64 e0]), recovered := false }]) w fun e u' w' =>
      e = .returned (.tuple #[]) ∧ u' = .panicking [{ v := .iface 66 (.agg #[.int .i64 e0]), recovered := true }] ∧ Fr (fun k => k = p ∨ k = q) w w' ∧ w'.heap[p]? = some (.cells #[.slice none 0 0, .slice none 0 0, .slice none 0 0] 26 (0, 0)) ∧ w'.heap[q]? = some (.cells #[.int .i64 e0] 28 (0, 0)) := by
  have hu66 := Try.underlying66
  have hu26 := Try.underlying26
  have hta : ∀ W : World, (Instr.typeAssert (.iface 66 (.agg #[.int .i64 e0])) 20 66 true).run Try.prog W = .ok (.tuple #[.agg #[.int .i64 e0], .bool true]) W := fun W => ta1 _ W
  refine callsD_of_wpS Try.func29 rfl fun c₀ cs hu => ?_
  apply wpS_seq
  apply wpS_region
  simp [wpOpsS, go_sem, recoverD, hu, Try.ntmps29, Exit.thenS]
  apply wpS_seq
  apply wpS_region
  simp [wpOpsS, go_sem, Exit.thenS]
  refine wpS_cond (t := true) (by simp [Act.eval, Array.replicate]) ?_
  simp only [if_true]
  refine wpS_of_wp ?_
  simp only [Array.replicate_succ, Array.replicate_zero, List.push_toArray, List.append_toArray, List.nil_append, List.cons_append, List.setIfInBounds_toArray, List.set_cons_zero, List.set_cons_succ]
  go_wp2_with fail
  have hal := below_alloc (Below.refl w.heap.size w) (.cells #[.int .i64 e0] 66)
  have hp1 := blk_below hp hal
  have hq1 := blk_below hq hal
  have hr1 := heap_alloc_new w (.cells #[.int .i64 e0] 66)
  have hpr : ¬ p = w.heap.size := Nat.ne_of_lt (blk_lt hp)
  have hqr : ¬ q = w.heap.size := Nat.ne_of_lt (blk_lt hq)
  have hrp : ¬ w.heap.size = p := fun h => hpr h.symm
  have hrq : ¬ w.heap.size = q := fun h => hqr h.symm
  have hqp : ¬ q = p := fun h => hpq h.symm
  have HW : Fr (fun k => k = p ∨ k = q) w (w.alloc (.cells #[.int .i64 e0] 66)) := Fr.of_below hal
  generalize (w.alloc (.cells #[.int .i64 e0] 66)) = w1 at *
  generalize w.heap.size = r at *
  have r0 : w1.cell? ⟨r, 0, none⟩ = some (.int .i64 e0) := (blk_cell hr1 0).trans rfl
  have p0 : w1.cell? ⟨p, 0, none⟩ = some z0 := (blk_cell hp1 0).trans rfl
  have p1 : w1.cell? ⟨p, 1, none⟩ = some z1 := (blk_cell hp1 1).trans rfl
  have p2 : w1.cell? ⟨p, 2, none⟩ = some z2 := (blk_cell hp1 2).trans rfl
  have f0 := blk_frozen hp1 0
  have f1 := blk_frozen hp1 1
  have f2 := blk_frozen hp1 2
  have q0 : w1.cell? ⟨q, 0, none⟩ = some z3 := (blk_cell hq1 0).trans rfl
  have g0 := blk_frozen hq1 0
  have HP1 := Aside0.mk hp1
  have HQ1 := Aside0.mk hq1
  have HWW := Aside0.mk HW
  clear hp hq hp1 hq1 hr1 hal HW
  go_region_held2 (fun W => W.cell? ⟨r, 0, none⟩ = some (.int .i64 e0)) (first | exact r0 | go_keep) (fail)
  have HF := (((((HWW.out.setCell (p := ⟨p, 0, none⟩) (Or.inl rfl) (.slice none 0 0)).setCell (p := ⟨p, 1, none⟩) (Or.inl rfl) (.slice none 0 0)).setCell (p := ⟨p, 2, none⟩) (Or.inl rfl) (.slice none 0 0)).setCell (p := ⟨q, 0, none⟩) (Or.inr rfl) (.int .i64 e0)).drew)
  have b1 : (w1.setCell ⟨p, 0, none⟩ (.slice none 0 0)).heap[p]? = some (.cells #[.slice none 0 0, z1, z2] 26 (0, 0)) := blk_put HP1.out 0 _ rfl
  have b2 : ((w1.setCell ⟨p, 0, none⟩ (.slice none 0 0)).setCell ⟨p, 1, none⟩ (.slice none 0 0)).heap[p]? = some (.cells #[.slice none 0 0, .slice none 0 0, z2] 26 (0, 0)) := blk_put b1 1 _ rfl
  have b3 : (((w1.setCell ⟨p, 0, none⟩ (.slice none 0 0)).setCell ⟨p, 1, none⟩ (.slice none 0 0)).setCell ⟨p, 2, none⟩ (.slice none 0 0)).heap[p]? = some (.cells #[.slice none 0 0, .slice none 0 0, .slice none 0 0] 26 (0, 0)) := blk_put b2 2 _ rfl
  have b4 := blk_far b3 (p := ⟨q, 0, none⟩) hpq (.int .i64 e0)
  have e3 := blk_far (blk_far (blk_far HQ1.out (p := ⟨p, 0, none⟩) hqp (.slice none 0 0)) (p := ⟨p, 1, none⟩) hqp (.slice none 0 0)) (p := ⟨p, 2, none⟩) hqp (.slice none 0 0)
  have e4 : ((((w1.setCell ⟨p, 0, none⟩ (.slice none 0 0)).setCell ⟨p, 1, none⟩ (.slice none 0 0)).setCell ⟨p, 2, none⟩ (.slice none 0 0)).setCell ⟨q, 0, none⟩ (.int .i64 e0)).heap[q]? = some (.cells #[.int .i64 e0] 28 (0, 0)) := blk_put e3 0 _ rfl
  clear hta
  show bodyPostS Try.prog Try.f29 c₀ cs _ Exit.normal _ _ _
  unfold bodyPostS
  exact ⟨rfl, _, rfl, _, results_none rfl _ _ _, rfl, rfl, HF, b4, e4⟩
end Go.Proofs.Ytockojajbnnbpaa.E
namespace Go.Proofs.Ytockojajbnnbpaa.E
open Go.RowKit Go.Proofs.Ytockojajbnnbpaa.Q Go.Proofs.YtockojajbnnbpaaW.PrintWords Go.Proofs.YtockojajbnnbpaaW.PrintLast Go.Proofs.YtockojajbnnbpaaW.PrintMore
set_option linter.unusedVariables false
set_option linter.unusedSimpArgs false
def ReadRes (b : List Int) (w0 : World) (e : Ending) (w' : World) : Prop :=
  match readS b with
  | .error er => e = .returned (.tuple #[.agg #[.slice none 0 0, .slice none 0 0, .slice none 0 0], .int .i64 er]) ∧ Below w0.heap.size w0 w'
  | .ok o => ∃ (S0 S1 S2 : Nat → Prop) (v0 v1 v2 : Value), e = .returned (.tuple #[.agg #[v0, v1, v2], .int .i64 0]) ∧ Below w0.heap.size w0 w' ∧ Kd.R k40 40 w' 0 S0 v0 o.secs ∧ Kd.R k94 94 w' 0 S1 v1 o.syms ∧ Kd.R k59 59 w' 0 S2 v2 o.rels ∧
      (∀ k, S0 k ∨ S1 k ∨ S2 k → w0.heap.size ≤ k ∧ k < w'.heap.size) ∧ (∀ k, S0 k → ¬ S1 k ∧ ¬ S2 k) ∧ (∀ k, S1 k → ¬ S2 k)
theorem Rw_new (w : World) (A : Option Addr) (c : Nat) (b : List Int) : Rw w (w.alloc (.cells #[.slice A b.length c, .slice none 0 0] 69)) (fun k => k = w.heap.size) w.heap.size A c b (.slice none 0 0) [] :=
  ⟨below_alloc (Below.refl _ _) _, heap_alloc_new _ _, Kd.R_nil _ _ _ _ _, rfl, fun k hk => ⟨Nat.le_of_eq hk.symm, by rw [hk, alloc_size]; omega⟩⟩
set_option maxRecDepth 100000 in
set_option maxHeartbeats 32000000 in
theorem Read_tab (A : Option Addr) (c : Nat) (b : List Int) (hb : AllBytes b) (hl : b.length < 140737488355328) (er : Int) (hr : tabS b = .error er) (w : World) (h : Kd.C (Kd.int .u8) w A b.length b) (hc : b.length ≤ c) :
    Calls Try.prog 11 #[.slice A b.length c] w fun e w' => ReadRes b w e w' := by
  have hmf : ∀ (fn : Fn) (first cap : Array Value) (w : World), (Instr.makeFunc fn first cap).run Try.prog w = .ok (.func fn first cap) w := fun _ _ _ _ => rfl
  have hu26 := Try.underlying26
  have HRS : Aside0 (readS b = .error er) := ⟨by unfold readS; rw [hr]⟩
  have hz1 := alloc_size w (.cells #[.slice none 0 0, .slice none 0 0, .slice none 0 0] 26)
  have hz2 := alloc_size (w.alloc (.cells #[.slice none 0 0, .slice none 0 0, .slice none 0 0] 26)) (.cells #[.int .i64 0] 28)
  have hb0 : Below w.heap.size w ((w.alloc (.cells #[.slice none 0 0, .slice none 0 0, .slice none 0 0] 26)).alloc (.cells #[.int .i64 0] 28)) := below_alloc (below_alloc (Below.refl _ _) _) _
  have X1 : ((w.alloc (.cells #[.slice none 0 0, .slice none 0 0, .slice none 0 0] 26)).alloc (.cells #[.int .i64 0] 28)).heap[w.heap.size]? = some (.cells #[.slice none 0 0, .slice none 0 0, .slice none 0 0] 26 (0, 0)) := blk_below (heap_alloc_new w _) (below_alloc (Below.refl _ _) _)
  have X2 : ((w.alloc (.cells #[.slice none 0 0, .slice none 0 0, .slice none 0 0] 26)).alloc (.cells #[.int .i64 0] 28)).heap[w.heap.size + 1]? = some (.cells #[.int .i64 0] 28 (0, 0)) := by rw [← hz1]; exact heap_alloc_new _ _
  have hT := table_calls hb hl _ _ (Rw_new ((w.alloc (.cells #[.slice none 0 0, .slice none 0 0, .slice none 0 0] 26)).alloc (.cells #[.int .i64 0] 28)) A c b) (Kd.C_below h hb0) hc
  rw [hz2, hz1] at hT
  have HT : Aside0 (Calls Try.prog 30 #[.pointer (some ⟨w.heap.size + 1 + 1, 0, none⟩)] (((w.alloc (.cells #[.slice none 0 0, .slice none 0 0, .slice none 0 0] 26)).alloc (.cells #[.int .i64 0] 28)).alloc (.cells #[.slice A b.length c, .slice none 0 0] 69)) fun e w' => e = wrongE er ∧ Below ((w.alloc (.cells #[.slice none 0 0, .slice none 0 0, .slice none 0 0] 26)).alloc (.cells #[.int .i64 0] 28)).heap.size ((w.alloc (.cells #[.slice none 0 0, .slice none 0 0, .slice none 0 0] 26)).alloc (.cells #[.int .i64 0] 28)) w') := ⟨hT.mono (fun e w' hh => by unfold TabR at hh; rw [hr] at hh; exact hh)⟩
  have H0 := Aside0.mk X1
  have H1 := Aside0.mk X2
  have HB := Aside0.mk hb0
  clear X1 X2 hb0 hT hz1 hz2 hr h hc
  go_enter_defers Try.func11, Try.ntmps11
  go_wp2_with fail
  refine HT.out.mono ?_
  rintro e w4 ⟨rfl, hb4⟩
  have HC := rec_catch w.heap.size (w.heap.size + 1) er _ _ _ _ w4 (blk_below H0.out hb4) (blk_below H1.out hb4) (by omega)
  refine leaves_cons (f := 29) (args := #[.pointer (some ⟨w.heap.size, 0, none⟩), .pointer (some ⟨w.heap.size + 1, 0, none⟩)]) (by simp) (by simp [go_sem]) ?_
  refine HC.mono ?_
  rintro e u' w5 ⟨rfl, rfl, hf, k0, k1⟩
  have hbw := below_step HB.out hb4
  have hbz := hf.below hbw (fun i hi => by omega) hbw.size
  have z0 : w5.cell? ⟨w.heap.size, 0, none⟩ = some (.slice none 0 0) := (blk_cell k0 0).trans rfl
  have z1 : w5.cell? ⟨w.heap.size, 1, none⟩ = some (.slice none 0 0) := (blk_cell k0 1).trans rfl
  have z2 : w5.cell? ⟨w.heap.size, 2, none⟩ = some (.slice none 0 0) := (blk_cell k0 2).trans rfl
  have z3 : w5.cell? ⟨w.heap.size + 1, 0, none⟩ = some (.int .i64 er) := (blk_cell k1 0).trans rfl
  have hfin : ReadRes b w (.returned (.tuple #[.agg #[.slice none 0 0, .slice none 0 0, .slice none 0 0], .int .i64 er])) w5 := by unfold ReadRes; rw [HRS.out]; exact ⟨rfl, hbz⟩
  clear hbw hbz hf k0 k1 hb4 HC HRS HT H0 H1 HB
  simp [Leaves, settle, results, Try.results11, go_sem, z0, z1, z2, z3]
  exact hfin
theorem tabS_ok {b : List Int} (hb : AllBytes b) {rows : List S47} (h : tabS b = .ok rows) : b.length ≤ 65536 ∧ 52 ≤ b.length ∧ rows.length ≤ 1638 ∧ ∀ x ∈ rows, RowRg x ∧ RowIn b.length x := by
  unfold tabS at h
  by_cases c1 : 65536 < b.length
  · rw [if_pos c1] at h; cases h
  rw [if_neg c1] at h
  by_cases c2 : b.length < 52
  · rw [if_pos c2] at h; cases h
  rw [if_neg c2] at h
  by_cases c3 : b.length < tabAt b + 40 * tabN b
  · rw [if_pos c3] at h; cases h
  rw [if_neg c3] at h
  by_cases c4 : ∀ x ∈ rowsOf b (tabAt b) (tabN b), RowIn b.length x
  · rw [if_pos c4] at h
    cases h
    refine ⟨by omega, by omega, by rw [rowsOf_len]; omega, fun x hx => ⟨?_, c4 x hx⟩⟩
    unfold rowsOf at hx
    obtain ⟨i, _, rfl⟩ := List.mem_map.1 hx
    intro y hy
    have hg := fun k => gw_rg b hb k 4 (by decide)
    simp only [fieldsL, rowAt, List.mem_cons, List.not_mem_nil, or_false] at hy
    rcases hy with rfl | rfl | rfl | rfl | rfl | rfl | rfl | rfl | rfl | rfl <;> exact hg _
  · rw [if_neg c4] at h; cases h
end Go.Proofs.Ytockojajbnnbpaa.E
namespace Go.Proofs.Ytockojajbnnbpaa.E
open Go.RowKit Go.Proofs.Ytockojajbnnbpaa.Q Go.Proofs.YtockojajbnnbpaaW.PrintWords Go.Proofs.YtockojajbnnbpaaW.PrintLast Go.Proofs.YtockojajbnnbpaaW.PrintMore
set_option linter.unusedVariables false
set_option linter.unusedSimpArgs false
def RelK (secs : List S40) (n : Nat) (r : S59) : Prop := (0 ≤ r.f0 ∧ r.f0 < secs.length) ∧ (rd_T40 secs r.f0).f1 = 1 ∧ (0 ≤ r.f1 ∧ r.f1 < (rd_T40 secs r.f0).f4) ∧ (0 ≤ r.f2 ∧ r.f2 ≤ 255) ∧ (-1 ≤ r.f3 ∧ r.f3 < n) ∧ (-2147483648 ≤ r.f4 ∧ r.f4 ≤ 2147483647)
theorem relR_inv {o : S40} {n : Int} {as_ : List Int} {s t : List S59} {e : List Int} (he : AllBytes e) (h : relR o n as_ s e = some t) :
    ∃ r, t = s ++ [r] ∧ r.f0 = n ∧ (0 ≤ r.f1 ∧ r.f1 < o.f4) ∧ (0 ≤ r.f2 ∧ r.f2 ≤ 255) ∧ (-1 ≤ r.f3 ∧ r.f3 ∈ as_) ∧ (-2147483648 ≤ r.f4 ∧ r.f4 ≤ 2147483647) := by
  unfold relR at h
  by_cases c : gw e 0 4 < o.f4
  · rw [if_pos c] at h
    cases hm : as_[(gw e 4 4 / 256).toNat]? with
    | none => rw [hm] at h; cases h
    | some m =>
      rw [hm, Option.bind_some] at h
      by_cases c2 : -1 ≤ m
      · rw [if_pos c2] at h
        refine ⟨_, (Option.some.inj h).symm, rfl, ⟨(gw_rg e he 0 4 (by decide)).1, c⟩, ⟨Int.emod_nonneg _ (by decide), ?_⟩, ⟨c2, List.mem_of_getElem? hm⟩, ?_⟩
        · have := Int.emod_lt_of_pos (gw e 4 4) (show (0 : Int) < 256 by decide)
          show gw e 4 4 % 256 ≤ 255
          omega
        · show -2147483648 ≤ IntKind.i32.wrap (gw e 8 4) ∧ IntKind.i32.wrap (gw e 8 4) ≤ 2147483647
          rw [IntKind.wrap_i32]
          omega
      · rw [if_neg c2] at h; cases h
  · rw [if_neg c] at h; cases h
theorem relRow_inv {b : List Int} (hb : AllBytes b) (hl : b.length ≤ 65536) {secs : List S40} {nums as_ : List Int} {row : Int} {n : Nat} (hnm : ∀ m ∈ nums, m < secs.length) (has : ∀ m ∈ as_, m < n) {s t : List S59} {x : S47} (hs : ∀ r ∈ s, RelK secs n r) (h : relRow b secs nums as_ row s x = some t) :
    (∀ r ∈ t, RelK secs n r) ∧ t.length ≤ s.length + 5462 := by
  unfold relRow at h
  by_cases c1 : x.f1 ≠ 4
  · rw [if_pos c1] at h; cases h; exact ⟨hs, Nat.le_add_right _ _⟩
  rw [if_neg c1] at h
  by_cases c2 : x.f6 = row
  · rw [if_pos c2] at h
    cases hm : nums[x.f7.toNat]? with
    | none => rw [hm] at h; cases h
    | some m =>
      rw [hm, Option.bind_some] at h
      by_cases c3 : 0 ≤ m ∧ (partB b x).length % 12 = 0 ∧ (rd_T40 secs m).f1 = 1
      · rw [if_pos c3] at h
        have hcb := chunks_bytes (partB_bytes hb x) 12
        refine ⟨foldO_inv (P := fun s => ∀ r ∈ s, RelK secs n r) _ _ _ hs (fun u e v he hu hv => ?_) h, ?_⟩
        · obtain ⟨r, rfl, h0, h1, h2, h3, h4⟩ := relR_inv (hcb e he) hv
          intro r' hr'
          rcases List.mem_append.1 hr' with hr' | hr'
          · exact hu r' hr'
          · rw [List.mem_singleton.1 hr']
            refine ⟨⟨by rw [h0]; exact c3.1, by rw [h0]; exact hnm _ (List.mem_of_getElem? hm)⟩, by rw [h0]; exact c3.2.2, ⟨h1.1, by rw [h0]; exact h1.2⟩, h2, ⟨h3.1, has _ h3.2⟩, h4⟩
        · have := foldO_len (f := relR (rd_T40 secs m) m as_) (fun s => s.length) (fun s e t he => ?_) _ _ _ h
          · have hc := chunk12_max (partB b x) (partB_le b x hl)
            have this : t.length ≤ s.length + (chunks (partB b x) 12).length := this
            omega
          · unfold relR at he
            by_cases c : gw e 0 4 < (rd_T40 secs m).f4
            · rw [if_pos c] at he
              cases hm : as_[(gw e 4 4 / 256).toNat]? with
              | none => rw [hm] at he; cases he
              | some m =>
                rw [hm, Option.bind_some] at he
                by_cases c2 : -1 ≤ m
                · rw [if_pos c2] at he; cases he; simp
                · rw [if_neg c2] at he; cases he
            · rw [if_neg c] at he; cases he
      · rw [if_neg c3] at h; cases h
  · rw [if_neg c2] at h; cases h
theorem relsR_inv {b : List Int} (hb : AllBytes b) (hl : b.length ≤ 65536) {rows : List S47} {secs : List S40} {nums as_ : List Int} {row : Int} {n : Nat} (hnm : ∀ m ∈ nums, m < secs.length) (has : ∀ m ∈ as_, m < n) {l : List S59} (h : relsR b rows secs nums as_ row = some l) :
    (∀ r ∈ l, RelK secs n r) ∧ l.length ≤ rows.length * 5462 := by
  have h1 : ∀ r ∈ l, RelK secs n r := foldO_inv (P := fun s => ∀ r ∈ s, RelK secs n r) _ _ _ (fun r hr => absurd hr (List.not_mem_nil)) (fun u e v he hu hv => (relRow_inv hb hl hnm has hu hv).1) h
  refine ⟨h1, ?_⟩
  have h2 : ∀ (rows : List S47) (s t : List S59), (∀ r ∈ s, RelK secs n r) → foldO (relRow b secs nums as_ row) s rows = some t → t.length ≤ s.length + rows.length * 5462 := by
    intro rows
    induction rows with
    | nil =>
      intro s t hs he
      have : s = t := Option.some.inj he
      rw [this]; exact Nat.le_add_right _ _
    | cons x r ih =>
      intro s t hs he
      unfold foldO at he
      cases hx : relRow b secs nums as_ row s x with
      | none => rw [hx] at he; cases he
      | some u =>
        rw [hx] at he
        have q1 := relRow_inv hb hl hnm has hs hx
        have q2 := ih u t q1.1 he
        rw [List.length_cons, Nat.add_mul, Nat.one_mul]
        omega
  have := h2 rows [] l (fun r hr => absurd hr (List.not_mem_nil)) h
  simpa using this
theorem byS_mem {n : Nat} {l : List S59} {r : S59} (h : r ∈ byS n l) : r ∈ l := by
  unfold byS at h
  obtain ⟨i, _, hi⟩ := List.mem_flatMap.1 h
  exact (List.mem_filter.1 hi).1
theorem byS_len (n : Nat) (l : List S59) : (byS n l).length ≤ n * l.length := by
  unfold byS
  induction n with
  | zero => exact Nat.zero_le _
  | succ n ih =>
    rw [List.range_succ, List.flatMap_append, List.length_append, Nat.add_mul, Nat.one_mul]
    have : ((List.flatMap (fun (i : Nat) => List.filter (fun r => r.f0 == (i : Int)) l) [n])).length ≤ l.length := by
      simp only [List.flatMap_cons, List.flatMap_nil, List.append_nil]
      exact List.length_filter_le _ _
    omega
end Go.Proofs.Ytockojajbnnbpaa.E
namespace Go.Proofs.Ytockojajbnnbpaa.E
open Go.RowKit Go.Proofs.Ytockojajbnnbpaa.Q Go.Proofs.YtockojajbnnbpaaW.PrintWords Go.Proofs.YtockojajbnnbpaaW.PrintLast Go.Proofs.YtockojajbnnbpaaW.PrintMore
set_option linter.unusedVariables false
set_option linter.unusedSimpArgs false
structure Stg (w W : World) (b : List Int) (rows : List S47) (v0 v1 v2 : Value) : Prop where
  rw : ∃ S A c vr, Rw w W S (w.heap.size + 1 + 1) A c b vr rows ∧ (∀ k, S k → w.heap.size + 1 + 1 ≤ k) ∧ Kd.C (Kd.int .u8) w A b.length b ∧ b.length ≤ c
  p : W.heap[w.heap.size]? = some (.cells #[v0, v1, v2] 26 (0, 0))
  q : W.heap[w.heap.size + 1]? = some (.cells #[.int .i64 0] 28 (0, 0))
section
variable {w W W1 : World} {b : List Int} {rows : List S47} {v0 v1 v2 : Value}
theorem Stg.bl (h : Stg w W b rows v0 v1 v2) : Below w.heap.size w W := by obtain ⟨S, A, c, vr, h1, _⟩ := h.rw; exact h1.bl
theorem Stg.rd (h : Stg w W b rows v0 v1 v2) : Rd W (w.heap.size + 1 + 1) b rows := by obtain ⟨S, A, c, vr, h1, _, h3, h4⟩ := h.rw; exact h1.rd h3 h4
theorem Stg.lt (h : Stg w W b rows v0 v1 v2) : w.heap.size + 1 + 1 + 1 ≤ W.heap.size := by obtain ⟨S, A, c, vr, h1, _⟩ := h.rw; exact blk_lt h1.blk
theorem Stg.below (h : Stg w W b rows v0 v1 v2) (k : Below W.heap.size W W1) : Stg w W1 b rows v0 v1 v2 := by
  obtain ⟨S, A, c, vr, h1, h2⟩ := h.rw
  exact ⟨⟨S, A, c, vr, h1.below k, h2⟩, blk_below h.p k, blk_below h.q k⟩
theorem Stg.set (h : Stg w W b rows v0 v1 v2) (i : Nat) (u : Value) (u0 u1 u2 : Value) (he : (#[v0, v1, v2] : Array Value).setIfInBounds i u = #[u0, u1, u2]) : Stg w (W.setCell ⟨w.heap.size, i, none⟩ u) b rows u0 u1 u2 := by
  obtain ⟨S, A, c, vr, h1, h2, h3⟩ := h.rw
  refine ⟨⟨S, A, c, vr, h1.far (fun hk => ?_) (Nat.le_refl _) u, h2, h3⟩, ?_, blk_far h.q (by simp) u⟩
  · have := h2 _ hk
    have : w.heap.size + 1 + 1 ≤ w.heap.size := this
    omega
  · rw [blk_set h.p i u, he]
theorem Stg.setq (h : Stg w W b rows v0 v1 v2) : Stg w (W.setCell ⟨w.heap.size + 1, 0, none⟩ (.int .i64 0)) b rows v0 v1 v2 := by
  obtain ⟨S, A, c, vr, h1, h2, h3⟩ := h.rw
  refine ⟨⟨S, A, c, vr, h1.far (fun hk => ?_) (Nat.le_succ _) _, h2, h3⟩, blk_far h.p (by simp) _, (blk_set h.q 0 _).trans rfl⟩
  have := h2 _ hk
  have : w.heap.size + 1 + 1 ≤ w.heap.size + 1 := this
  omega
theorem Stg.at_ (h : Stg w W b rows v0 v1 v2) : W.cell? ⟨w.heap.size, 0, none⟩ = some v0 ∧ W.cell? ⟨w.heap.size, 1, none⟩ = some v1 ∧ W.cell? ⟨w.heap.size, 2, none⟩ = some v2 ∧ W.cell? ⟨w.heap.size + 1, 0, none⟩ = some (.int .i64 0) ∧ W.frozen? ⟨w.heap.size, 0, none⟩ = false ∧ W.frozen? ⟨w.heap.size, 1, none⟩ = false ∧ W.frozen? ⟨w.heap.size, 2, none⟩ = false ∧ W.frozen? ⟨w.heap.size + 1, 0, none⟩ = false :=
  ⟨(blk_cell h.p 0).trans rfl, (blk_cell h.p 1).trans rfl, (blk_cell h.p 2).trans rfl, (blk_cell h.q 0).trans rfl, blk_frozen h.p 0, blk_frozen h.p 1, blk_frozen h.p 2, blk_frozen h.q 0⟩
structure Ro {α : Type} (d : Kd α) (e : Nat) (W : World) (lo hi : Nat) (v : Value) (xs : List α) : Prop where
  r : ∃ S, Kd.R d e W 0 S v xs ∧ ∀ k, S k → lo ≤ k ∧ k < hi
variable {α : Type} {d : Kd α} {e lo hi : Nat} {v : Value} {xs : List α}
theorem Ro.below (h : Ro d e W lo hi v xs) (k : Below W.heap.size W W1) : Ro d e W1 lo hi v xs := by
  obtain ⟨S, h1, h2⟩ := h.r
  exact ⟨S, Kd.R_below h1 k, h2⟩
theorem Ro.far (h : Ro d e W lo hi v xs) {p : Addr} (hp : p.block < lo) (u : Value) : Ro d e (W.setCell p u) lo hi v xs := by
  obtain ⟨S, h1, h2⟩ := h.r
  exact ⟨S, Kd.R_far h1 (fun k hk e => by have := (h2 k hk).1; omega) u, h2⟩
theorem Ro.reads {A : Option Addr} {n c : Nat} (h : Ro d e W lo hi (.slice A n c) xs) : n = xs.length ∧ n ≤ c ∧ Kd.C d W A xs.length xs := by
  obtain ⟨S, h1, _⟩ := h.r
  exact Kd.R_reads' h1
end
theorem Stg.dies {w W : World} {b : List Int} {rows : List S47} {v0 v1 v2 : Value} (h : Stg w W b rows v0 v1 v2) (er : Int) : CallsD Try.prog 29 #[.pointer (some ⟨w.heap.size, 0, none⟩), .pointer (some ⟨w.heap.size + 1, 0, none⟩)] (.panicking [{ v := .iface 66 (.agg #[.int .i64 er]), recovered := false }]) W fun e u' w' =>
      e = .returned (.tuple #[]) ∧ u' = .panicking [{ v := .iface 66 (.agg #[.int .i64 er]), recovered := true }] ∧ Below w.heap.size w w' ∧ w'.cell? ⟨w.heap.size, 0, none⟩ = some (.slice none 0 0) ∧ w'.cell? ⟨w.heap.size, 1, none⟩ = some (.slice none 0 0) ∧ w'.cell? ⟨w.heap.size, 2, none⟩ = some (.slice none 0 0) ∧ w'.cell? ⟨w.heap.size + 1, 0, none⟩ = some (.int .i64 er) := by
  refine (rec_catch w.heap.size (w.heap.size + 1) er _ _ _ _ W h.p h.q (by omega)).mono ?_
  rintro e u' w' ⟨rfl, rfl, hf, k0, k1⟩
  exact ⟨rfl, rfl, hf.below h.bl (fun i hi => by omega) h.bl.size, (blk_cell k0 0).trans rfl, (blk_cell k0 1).trans rfl, (blk_cell k0 2).trans rfl, (blk_cell k1 0).trans rfl⟩
theorem ReadRes.no {b : List Int} {w W : World} {er : Int} (h : readS b = .error er) (hb : Below w.heap.size w W) : ReadRes b w (.returned (.tuple #[.agg #[.slice none 0 0, .slice none 0 0, .slice none 0 0], .int .i64 er])) W := by unfold ReadRes; rw [h]; exact ⟨rfl, hb⟩
end Go.Proofs.Ytockojajbnnbpaa.E
namespace Go.Proofs.Ytockojajbnnbpaa.E
open Go.RowKit Go.Proofs.Ytockojajbnnbpaa.Q Go.Proofs.YtockojajbnnbpaaW.PrintWords Go.Proofs.YtockojajbnnbpaaW.PrintLast Go.Proofs.YtockojajbnnbpaaW.PrintMore
set_option linter.unusedVariables false
set_option linter.unusedSimpArgs false
theorem Ob_eq (o p : Ob) : o = p ↔ o.secs = p.secs ∧ o.syms = p.syms ∧ o.rels = p.rels := by
  cases o; cases p; rw [Ob.mk.injEq]
structure ObS (o : Ob) : Prop where
  b : ∀ x ∈ o.secs, AllBytes x.f5
  l5 : ∀ x ∈ o.secs, x.f5.length < 4611686018427387904
  n0 : o.secs.length < 4611686018427387904
  n1 : o.syms.length < 4611686018427387904
  n2 : o.rels.length < 4611686018427387904
set_option maxHeartbeats 8000000 in
theorem esame_calls {w : World} {A0 A1 A2 B0 B1 B2 : Option Addr} {c0 c1 c2 d0 d1 d2 : Nat} {o p : Ob} (ho : ObS o) (hp : ObS p) (h : ObC w A0 A1 A2 c0 c1 c2 o) (k : ObC w B0 B1 B2 d0 d1 d2 p) :
    Calls Try.prog 20 #[obV A0 A1 A2 c0 c1 c2 o, obV B0 B1 B2 d0 d1 d2 p] w (BoolR (o = p) w) := by
  have hu26 := Try.underlying26
  have hz1 := alloc_size w (.cells #[.slice A0 o.secs.length c0, .slice A1 o.syms.length c1, .slice A2 o.rels.length c2] 26)
  have hb0 := below_alloc (below_alloc (Below.refl w.heap.size w) (.cells #[.slice A0 o.secs.length c0, .slice A1 o.syms.length c1, .slice A2 o.rels.length c2] 26)) (.cells #[.slice B0 p.secs.length d0, .slice B1 p.syms.length d1, .slice B2 p.rels.length d2] 26)
  have X1 : ((w.alloc (.cells #[.slice A0 o.secs.length c0, .slice A1 o.syms.length c1, .slice A2 o.rels.length c2] 26)).alloc (.cells #[.slice B0 p.secs.length d0, .slice B1 p.syms.length d1, .slice B2 p.rels.length d2] 26)).heap[w.heap.size]? = some (.cells #[.slice A0 o.secs.length c0, .slice A1 o.syms.length c1, .slice A2 o.rels.length c2] 26 (0, 0)) := blk_below (heap_alloc_new w _) (below_alloc (Below.refl _ _) _)
  have X2 : ((w.alloc (.cells #[.slice A0 o.secs.length c0, .slice A1 o.syms.length c1, .slice A2 o.rels.length c2] 26)).alloc (.cells #[.slice B0 p.secs.length d0, .slice B1 p.syms.length d1, .slice B2 p.rels.length d2] 26)).heap[w.heap.size + 1]? = some (.cells #[.slice B0 p.secs.length d0, .slice B1 p.syms.length d1, .slice B2 p.rels.length d2] 26 (0, 0)) := by rw [← hz1]; exact heap_alloc_new _ _
  have HC := Aside0.mk (eqf_calls A0 B0 c0 d0 o.secs p.secs ho.b hp.b _ (h.below hb0).r0 (k.below hb0).r0 ho.n0)
  have HB := Aside0.mk hb0
  have H1 := Aside0.mk X1
  have H2 := Aside0.mk X2
  have HO := Aside0.mk ho
  have HP := Aside0.mk hp
  have HH := Aside0.mk h
  have HK := Aside0.mk k
  unfold obV
  clear hz1 hb0 X1 X2 ho hp h k
  go_enter Try.func20, Try.ntmps20
  go_wp2_with fail
  refine HC.out.mono ?_
  rintro _ w1 ⟨r, rfl, hr, hb⟩
  have HB1 := Aside0.mk (below_step HB.out hb)
  have X1 := blk_below H1.out hb
  have X2 := blk_below H2.out hb
  have y1 : w1.cell? ⟨w.heap.size, 1, none⟩ = some (.slice A1 o.syms.length c1) := (blk_cell X1 1).trans rfl
  have z1 : w1.cell? ⟨w.heap.size + 1, 1, none⟩ = some (.slice B1 p.syms.length d1) := (blk_cell X2 1).trans rfl
  have H1' := Aside0.mk X1
  have H2' := Aside0.mk X2
  have HR := Aside0.mk hr
  clear hr hb X1 X2 HC HB H1 H2
  cases r with
  | false =>
    have HN : Aside0 (¬ o = p) := ⟨fun h => by have := HR.out.2 (by rw [h]); cases this⟩
    go_wp2_with fail
    go_ret
    exact ⟨false, rfl, ⟨(fun h => nomatch h), fun h => absurd h HN.out⟩, HB1.out⟩
  | true =>
    have HC := Aside0.mk (syms_calls A1 B1 c1 d1 w1 o.syms p.syms (HH.out.below HB1.out).r1 (HK.out.below HB1.out).r1 HH.out.l1 HK.out.l1 HO.out.n1)
    go_wp2_with fail
    refine HC.out.mono ?_
    rintro _ w2 ⟨r, rfl, hr, hb⟩
    have HB2 := Aside0.mk (below_step HB1.out hb)
    have X1 := blk_below H1'.out hb
    have X2 := blk_below H2'.out hb
    have y2 : w2.cell? ⟨w.heap.size, 2, none⟩ = some (.slice A2 o.rels.length c2) := (blk_cell X1 2).trans rfl
    have z2 : w2.cell? ⟨w.heap.size + 1, 2, none⟩ = some (.slice B2 p.rels.length d2) := (blk_cell X2 2).trans rfl
    have HR2 := Aside0.mk hr
    clear hr hb X1 X2 HC y1 z1
    cases r with
    | false =>
      have HN : Aside0 (¬ o = p) := ⟨fun h => by have := HR2.out.2 (by rw [h]); cases this⟩
      go_wp2_with fail
      go_ret
      exact ⟨false, rfl, ⟨(fun h => nomatch h), fun h => absurd h HN.out⟩, HB2.out⟩
    | true =>
      have HC := Aside0.mk (rels_calls A2 B2 c2 d2 w2 o.rels p.rels (HH.out.below HB2.out).r2 (HK.out.below HB2.out).r2 HH.out.l2 HK.out.l2 HO.out.n2)
      go_wp2_with fail
      refine HC.out.mono ?_
      rintro _ w3 ⟨r, rfl, hr, hb⟩
      have HF : Aside0 (r = true ↔ o = p) := ⟨by rw [Ob_eq]; exact ⟨fun h => ⟨(by simpa using HR.out), (by simpa using HR2.out), hr.1 h⟩, fun h => hr.2 h.2.2⟩⟩
      have HB3 := Aside0.mk (below_step HB2.out hb)
      clear hr hb HR HR2 HC
      go_wp2_with fail
      go_ret
      exact ⟨r, rfl, HF.out, HB3.out⟩
end Go.Proofs.Ytockojajbnnbpaa.E
namespace Go.Proofs.Ytockojajbnnbpaa.E
open Go.RowKit Go.Proofs.Ytockojajbnnbpaa.Q Go.Proofs.YtockojajbnnbpaaW.PrintWords Go.Proofs.YtockojajbnnbpaaW.PrintLast Go.Proofs.YtockojajbnnbpaaW.PrintMore
set_option linter.unusedVariables false
set_option linter.unusedSimpArgs false
theorem twoA (w : World) (a b : Obj) : ((w.alloc a).alloc b).drew.heap[w.heap.size]? = some a := blk_below (heap_alloc_new w a) (below_alloc (Below.refl _ _) b).drew
theorem twoB (w : World) (a b : Obj) : ((w.alloc a).alloc b).drew.heap[w.heap.size + 1]? = some b := by rw [← alloc_size w a]; exact heap_alloc_new (w.alloc a) b
theorem twoC (w : World) (a b : Obj) : Below w.heap.size w ((w.alloc a).alloc b).drew := (below_alloc (below_alloc (Below.refl _ _) a) b).drew
theorem below_dn {B : Nat} {w w1 : World} {n : Nat} (h : Below B w w1) : Below B w (w1.drewN n) := ⟨h.os, h.tape, h.output, h.size, h.block⟩
theorem lift1 {w : World} {p : Addr} {v : Value} (a : Obj) (h : w.cell? p = some v) : (w.alloc a).drew.cell? p = some v := (World.cell?_of_block ((below_alloc (Below.refl _ _) a).block _ (World.block_lt_of_cell? _ _ h))).trans h
theorem lift2 {w : World} {p : Addr} {v : Value} (a b : Obj) (h : w.cell? p = some v) : ((w.alloc a).alloc b).drew.cell? p = some v := (World.cell?_of_block ((below_alloc (below_alloc (Below.refl _ _) a) b).block _ (World.block_lt_of_cell? _ _ h))).trans h
attribute [local go_sem high] eqA94 eqA59
set_option maxRecDepth 100000 in
set_option maxHeartbeats 32000000 in
theorem rsame_calls {w : World} {A0 A1 A2 B0 B1 B2 : Option Addr} {c0 c1 c2 d0 d1 d2 : Nat} {o p : Ob} (ho : ObS o) (hp : ObS p) (h : ObC w A0 A1 A2 c0 c1 c2 o) (k : ObC w B0 B1 B2 d0 d1 d2 p) :
    Calls Try.prog 16 #[obV A0 A1 A2 c0 c1 c2 o, obV B0 B1 B2 d0 d1 d2 p] w (BoolR (o = p) w) := by
  have mixed : Try.prog.follows .mixedOrders = true := by kernel_rfl
  have hu26 := Try.underlying26
  have hu40 := Try.underlying40
  have hu94 := Try.underlying94
  have hu59 := Try.underlying59
  obtain ⟨n0, hn0⟩ : ∃ n, n = o.secs.length := ⟨_, rfl⟩
  obtain ⟨n1, hn1⟩ : ∃ n, n = o.syms.length := ⟨_, rfl⟩
  obtain ⟨n2, hn2⟩ : ∃ n, n = o.rels.length := ⟨_, rfl⟩
  obtain ⟨m0, hm0⟩ : ∃ n, n = p.secs.length := ⟨_, rfl⟩
  obtain ⟨m1, hm1⟩ : ∃ n, n = p.syms.length := ⟨_, rfl⟩
  obtain ⟨m2, hm2⟩ : ∃ n, n = p.rels.length := ⟨_, rfl⟩
  unfold obV
  rw [← hn0, ← hn1, ← hn2, ← hm0, ← hm1, ← hm2]
  have l0 : n0 < 4611686018427387904 := by rw [hn0]; exact ho.n0
  have l1 : n1 < 4611686018427387904 := by rw [hn1]; exact ho.n1
  have l2 : n2 < 4611686018427387904 := by rw [hn2]; exact ho.n2
  have hz1 := alloc_size w (.cells #[.slice A0 n0 c0, .slice A1 n1 c1, .slice A2 n2 c2] 26)
  have hz2 := alloc_size (w.alloc (.cells #[.slice A0 n0 c0, .slice A1 n1 c1, .slice A2 n2 c2] 26)) (.cells #[.slice B0 m0 d0, .slice B1 m1 d1, .slice B2 m2 d2] 26)
  have hb0 := below_alloc (below_alloc (Below.refl w.heap.size w) (.cells #[.slice A0 n0 c0, .slice A1 n1 c1, .slice A2 n2 c2] 26)) (.cells #[.slice B0 m0 d0, .slice B1 m1 d1, .slice B2 m2 d2] 26)
  have X1 : ((w.alloc (.cells #[.slice A0 n0 c0, .slice A1 n1 c1, .slice A2 n2 c2] 26)).alloc (.cells #[.slice B0 m0 d0, .slice B1 m1 d1, .slice B2 m2 d2] 26)).heap[w.heap.size]? = some (.cells #[.slice A0 n0 c0, .slice A1 n1 c1, .slice A2 n2 c2] 26 (0, 0)) := blk_below (heap_alloc_new w _) (below_alloc (Below.refl _ _) _)
  have X2 : ((w.alloc (.cells #[.slice A0 n0 c0, .slice A1 n1 c1, .slice A2 n2 c2] 26)).alloc (.cells #[.slice B0 m0 d0, .slice B1 m1 d1, .slice B2 m2 d2] 26)).heap[w.heap.size + 1]? = some (.cells #[.slice B0 m0 d0, .slice B1 m1 d1, .slice B2 m2 d2] 26 (0, 0)) := by rw [← hz1]; exact heap_alloc_new _ _
  have HB := Aside0.mk hb0
  have H1 := Aside0.mk X1
  have H2 := Aside0.mk X2
  have HO := Aside0.mk ho
  have HP := Aside0.mk hp
  have HH := Aside0.mk (h.below hb0)
  have HK := Aside0.mk (k.below hb0)
  have HN0 := Aside0.mk hn0
  have HN1 := Aside0.mk hn1
  have HN2 := Aside0.mk hn2
  have HM0 := Aside0.mk hm0
  have HM1 := Aside0.mk hm1
  have HM2 := Aside0.mk hm2
  clear hz1 hz2 hb0 X1 X2 ho hp h k hn0 hn1 hn2 hm0 hm1 hm2
  by_cases c0 : n0 = m0
  rotate_left
  · have e0 : ((n0 : Int) != (m0 : Int)) = true := bne_iff_ne.2 (by omega)
    have HN : Aside0 (¬ o = p) := ⟨fun h => by have := HN0.out; rw [h, ← HM0.out] at this; exact absurd this c0⟩
    clear c0
    go_enter Try.func16, Try.ntmps16
    go_wp2_with fail
    go_ret
    exact ⟨false, rfl, ⟨(fun h => nomatch h), fun h => absurd h HN.out⟩, HB.out⟩
  have e0 : ((n0 : Int) != (m0 : Int)) = false := bne_eq_false_iff_eq.2 (by omega)
  have C0 := Aside0.mk c0
  clear c0
  by_cases c1 : n1 = m1
  rotate_left
  · have e1 : ((n1 : Int) != (m1 : Int)) = true := bne_iff_ne.2 (by omega)
    have HN : Aside0 (¬ o = p) := ⟨fun h => by have := HN1.out; rw [h, ← HM1.out] at this; exact absurd this c1⟩
    clear c1
    go_enter Try.func16, Try.ntmps16
    go_wp2_with fail
    go_ret
    exact ⟨false, rfl, ⟨(fun h => nomatch h), fun h => absurd h HN.out⟩, HB.out⟩
  have e1 : ((n1 : Int) != (m1 : Int)) = false := bne_eq_false_iff_eq.2 (by omega)
  have C1 := Aside0.mk c1
  clear c1
  by_cases c2 : n2 = m2
  rotate_left
  · have e2 : ((n2 : Int) != (m2 : Int)) = true := bne_iff_ne.2 (by omega)
    have HN : Aside0 (¬ o = p) := ⟨fun h => by have := HN2.out; rw [h, ← HM2.out] at this; exact absurd this c2⟩
    clear c2
    go_enter Try.func16, Try.ntmps16
    go_wp2_with fail
    go_ret
    exact ⟨false, rfl, ⟨(fun h => nomatch h), fun h => absurd h HN.out⟩, HB.out⟩
  have e2 : ((n2 : Int) != (m2 : Int)) = false := bne_eq_false_iff_eq.2 (by omega)
  have C2 := Aside0.mk c2
  clear c2
  have HZ : Aside0 (Below ((w.alloc (.cells #[.slice A0 n0 c0, .slice A1 n1 c1, .slice A2 n2 c2] 26)).alloc (.cells #[.slice B0 m0 d0, .slice B1 m1 d1, .slice B2 m2 d2] 26)).heap.size ((w.alloc (.cells #[.slice A0 n0 c0, .slice A1 n1 c1, .slice A2 n2 c2] 26)).alloc (.cells #[.slice B0 m0 d0, .slice B1 m1 d1, .slice B2 m2 d2] 26)) ((w.alloc (.cells #[.slice A0 n0 c0, .slice A1 n1 c1, .slice A2 n2 c2] 26)).alloc (.cells #[.slice B0 m0 d0, .slice B1 m1 d1, .slice B2 m2 d2] 26))) := ⟨Below.refl _ _⟩
  generalize hw2 : ((w.alloc (.cells #[.slice A0 n0 c0, .slice A1 n1 c1, .slice A2 n2 c2] 26)).alloc (.cells #[.slice B0 m0 d0, .slice B1 m1 d1, .slice B2 m2 d2] 26)) = w2 at *
  have HW2 := Aside0.mk hw2
  have y0 : w2.cell? ⟨w.heap.size, 0, none⟩ = some (.slice A0 n0 c0) := (blk_cell (H1.out) 0).trans rfl
  have z0 : w2.cell? ⟨w.heap.size + 1, 0, none⟩ = some (.slice B0 m0 d0) := (blk_cell (H2.out) 0).trans rfl
  have y1 : w2.cell? ⟨w.heap.size, 1, none⟩ = some (.slice A1 n1 c1) := (blk_cell (H1.out) 1).trans rfl
  have z1 : w2.cell? ⟨w.heap.size + 1, 1, none⟩ = some (.slice B1 m1 d1) := (blk_cell (H2.out) 1).trans rfl
  have y2 : w2.cell? ⟨w.heap.size, 2, none⟩ = some (.slice A2 n2 c2) := (blk_cell (H1.out) 2).trans rfl
  have z2 : w2.cell? ⟨w.heap.size + 1, 2, none⟩ = some (.slice B2 m2 d2) := (blk_cell (H2.out) 2).trans rfl
  go_enter Try.func16, Try.ntmps16
  go_wp2_with fail
  clear hw2 y0 y1 y2 z0 z1 z2
  go_loopg [5] n0 (fun g v wr => ∃ (i : Nat), v = .int .i64 i ∧ i ≤ n0 ∧ n0 - i ≤ g ∧ Aside0 (Below w2.heap.size w2 wr) ∧ Aside0 (o.secs.take i = p.secs.take i))
  case atStart => exact ⟨0, rfl, Nat.zero_le _, Nat.le_refl _, HZ, ⟨rfl⟩⟩
  case round =>
    obtain ⟨i, rfl, hi, hg, HBr, HT⟩ := hrel
    have y0 : wr.cell? ⟨w.heap.size, 0, none⟩ = some (.slice A0 n0 c0) := (blk_cell (blk_below H1.out HBr.out) 0).trans rfl
    have z0 : wr.cell? ⟨w.heap.size + 1, 0, none⟩ = some (.slice B0 m0 d0) := (blk_cell (blk_below H2.out HBr.out) 0).trans rfl
    have y1 : wr.cell? ⟨w.heap.size, 1, none⟩ = some (.slice A1 n1 c1) := (blk_cell (blk_below H1.out HBr.out) 1).trans rfl
    have z1 : wr.cell? ⟨w.heap.size + 1, 1, none⟩ = some (.slice B1 m1 d1) := (blk_cell (blk_below H2.out HBr.out) 1).trans rfl
    have y2 : wr.cell? ⟨w.heap.size, 2, none⟩ = some (.slice A2 n2 c2) := (blk_cell (blk_below H1.out HBr.out) 2).trans rfl
    have z2 : wr.cell? ⟨w.heap.size + 1, 2, none⟩ = some (.slice B2 m2 d2) := (blk_cell (blk_below H2.out HBr.out) 2).trans rfl
    by_cases hlt : i < n0
    · have hltz : (i : Int) < (n0 : Int) := by omega
      have hltm : (i : Int) < (m0 : Int) := by have := C0.out; omega
      obtain ⟨ad, A5, c5, rfl, x0, x1, x2, x3, x4, x5, l5, g5⟩ := at_T40 (Kd.C_below HH.out.r0 HBr.out) (i : Int) (by omega) (by have := HN0.out; omega)
      have hmx := HO.out.b _ (rd40_mem o.secs i (by have := HN0.out; omega))
      obtain ⟨x, hxe⟩ : ∃ x, x = rd_T40 o.secs (i : Int) := ⟨_, rfl⟩
      rw [← hxe] at x0 x1 x2 x3 x4 x5 l5 g5 hmx
      obtain ⟨ae, B5, d5, rfl, u0, u1, u2, u3, u4, u5, m5, k5⟩ := at_T40 (Kd.C_below HK.out.r0 HBr.out) (i : Int) (by omega) (by have := HM0.out; omega)
      simp only [Int.toNat_natCast] at x0 x1 x2 x3 x4 x5 u0 u1 u2 u3 u4 u5
      have hmy := HP.out.b _ (rd40_mem p.secs i (by have := HM0.out; have := C0.out; omega))
      obtain ⟨y, hye⟩ : ∃ y, y = rd_T40 p.secs (i : Int) := ⟨_, rfl⟩
      rw [← hye] at u0 u1 u2 u3 u4 u5 m5 k5 hmy
      have HXE := Aside0.mk hxe
      have HYE := Aside0.mk hye
      have HG := Aside0.mk (And.intro g5 (And.intro k5 (And.intro l5 (And.intro m5 (And.intro hmx hmy)))))
      have HL5 : Aside0 (x.f5.length < 4611686018427387904) := ⟨by have := g5.2.1; have := HO.out.l5 _ (rd40_mem o.secs i (by have := HN0.out; omega)); rw [hxe]; exact this⟩
      clear hxe hye hmx hmy g5 k5 l5 m5
      have y0b := fun a b : Obj => lift2 a b y0
      have y0a := fun a : Obj => lift1 a y0
      have z0b := fun a b : Obj => lift2 a b z0
      have z0a := fun a : Obj => lift1 a z0
      have x0b := fun a b : Obj => lift2 a b x0
      have x0a := fun a : Obj => lift1 a x0
      have x1b := fun a b : Obj => lift2 a b x1
      have x1a := fun a : Obj => lift1 a x1
      have x2b := fun a b : Obj => lift2 a b x2
      have x2a := fun a : Obj => lift1 a x2
      have x3b := fun a b : Obj => lift2 a b x3
      have x3a := fun a : Obj => lift1 a x3
      have x4b := fun a b : Obj => lift2 a b x4
      have x4a := fun a : Obj => lift1 a x4
      have x5b := fun a b : Obj => lift2 a b x5
      have x5a := fun a : Obj => lift1 a x5
      have u0b := fun a b : Obj => lift2 a b u0
      have u0a := fun a : Obj => lift1 a u0
      have u1b := fun a b : Obj => lift2 a b u1
      have u1a := fun a : Obj => lift1 a u1
      have u2b := fun a b : Obj => lift2 a b u2
      have u2a := fun a : Obj => lift1 a u2
      have u3b := fun a b : Obj => lift2 a b u3
      have u3a := fun a : Obj => lift1 a u3
      have u4b := fun a b : Obj => lift2 a b u4
      have u4a := fun a : Obj => lift1 a u4
      have u5b := fun a b : Obj => lift2 a b u5
      have u5a := fun a : Obj => lift1 a u5
      go_upto_region 6 with fail
      go_cut [6, 7] from 42 to 51 (fun v6 v7 wx => ∃ g6 g7 : Nat, v6 = .pointer (some ⟨g6, 0, none⟩) ∧ v7 = .pointer (some ⟨g7, 0, none⟩) ∧ Aside0 (Below wr.heap.size wr wx ∧ wx.heap[g6]? = some (.cells #[.string x.f0, .int .u32 x.f1, .int .u32 x.f2, .int .u32 x.f3, .int .u32 x.f4, .slice A5 x.f5.length c5] 40 (0, 0)) ∧ wx.heap[g7]? = some (.cells #[.string y.f0, .int .u32 y.f1, .int .u32 y.f2, .int .u32 y.f3, .int .u32 y.f4, .slice B5 y.f5.length d5] 40 (0, 0))))
      case first =>
        go_big_region_o
        all_goals (go_wp2_with fail; go_meet)
        case rel => exact ⟨_, _, rfl, rfl, ⟨twoC _ _ _, twoA _ _ _, twoB _ _ _⟩⟩
        case rel => exact ⟨_, _, rfl, rfl, ⟨twoC _ _ _, twoB _ _ _, twoA _ _ _⟩⟩
      case rest =>
        obtain ⟨g6, g7, rfl, rfl, HX⟩ := hcut
        clear y0 y0a y0b
        clear z0 z0a z0b
        clear x0 x0a x0b
        clear x1 x1a x1b
        clear x2 x2a x2b
        clear x3 x3a x3b
        clear x4 x4a x4b
        clear x5 x5a x5b
        clear u0 u0a u0b
        clear u1 u1a u1b
        clear u2 u2a u2b
        clear u3 u3a u3b
        clear u4 u4a u4b
        clear u5 u5a u5b
        obtain ⟨xf0, xf1, xf2, xf3, xf4, xf5⟩ := x
        obtain ⟨yf0, yf1, yf2, yf3, yf4, yf5⟩ := y
        dsimp only at *
        have x0 : wc.cell? ⟨g6, 0, none⟩ = some (.string xf0) := (blk_cell HX.out.2.1 0).trans rfl
        have u0 : wc.cell? ⟨g7, 0, none⟩ = some (.string yf0) := (blk_cell HX.out.2.2 0).trans rfl
        have x1 : wc.cell? ⟨g6, 1, none⟩ = some (.int .u32 xf1) := (blk_cell HX.out.2.1 1).trans rfl
        have u1 : wc.cell? ⟨g7, 1, none⟩ = some (.int .u32 yf1) := (blk_cell HX.out.2.2 1).trans rfl
        have x2 : wc.cell? ⟨g6, 2, none⟩ = some (.int .u32 xf2) := (blk_cell HX.out.2.1 2).trans rfl
        have u2 : wc.cell? ⟨g7, 2, none⟩ = some (.int .u32 yf2) := (blk_cell HX.out.2.2 2).trans rfl
        have x3 : wc.cell? ⟨g6, 3, none⟩ = some (.int .u32 xf3) := (blk_cell HX.out.2.1 3).trans rfl
        have u3 : wc.cell? ⟨g7, 3, none⟩ = some (.int .u32 yf3) := (blk_cell HX.out.2.2 3).trans rfl
        have x4 : wc.cell? ⟨g6, 4, none⟩ = some (.int .u32 xf4) := (blk_cell HX.out.2.1 4).trans rfl
        have u4 : wc.cell? ⟨g7, 4, none⟩ = some (.int .u32 yf4) := (blk_cell HX.out.2.2 4).trans rfl
        have x5 : wc.cell? ⟨g6, 5, none⟩ = some (.slice A5 xf5.length c5) := (blk_cell HX.out.2.1 5).trans rfl
        have u5 : wc.cell? ⟨g7, 5, none⟩ = some (.slice B5 yf5.length d5) := (blk_cell HX.out.2.2 5).trans rfl
        by_cases c0 : xf0 = yf0
        rotate_left
        · have e : (xf0.toList == yf0.toList) = false := by cases h : (xf0.toList == yf0.toList) with | false => rfl | true => exact absurd ((sbeq _ _).1 h) c0
          have HN : Aside0 (¬ o = p) := ⟨fun h => by have := HXE.out; rw [h, ← HYE.out] at this; exact absurd (congrArg S40.f0 this) c0⟩
          clear c0
          go_wp2_with fail
          go_ret
          exact ⟨false, rfl, ⟨(fun h => nomatch h), fun h => absurd h HN.out⟩, below_step HB.out (below_step HBr.out HX.out.1)⟩
        have e10 : (xf0.toList == yf0.toList) = true := (sbeq _ _).2 c0
        have K0 := Aside0.mk c0
        clear c0
        by_cases c1 : xf1 = yf1
        rotate_left
        · have e : (xf1 == yf1) = false := beq_eq_false_iff_ne.2 c1
          have HN : Aside0 (¬ o = p) := ⟨fun h => by have := HXE.out; rw [h, ← HYE.out] at this; exact absurd (congrArg S40.f1 this) c1⟩
          clear c1
          have e' : (xf1 != yf1) = true := by rw [bne, e]; rfl
          go_wp2_with fail
          go_ret
          exact ⟨false, rfl, ⟨(fun h => nomatch h), fun h => absurd h HN.out⟩, below_step HB.out (below_step HBr.out HX.out.1)⟩
        have e11 : (xf1 == yf1) = true := beq_iff_eq.2 c1
        have e21 : (xf1 != yf1) = false := by rw [bne, e11]; rfl
        have K1 := Aside0.mk c1
        clear c1
        by_cases c2 : xf2 = yf2
        rotate_left
        · have e : (xf2 == yf2) = false := beq_eq_false_iff_ne.2 c2
          have HN : Aside0 (¬ o = p) := ⟨fun h => by have := HXE.out; rw [h, ← HYE.out] at this; exact absurd (congrArg S40.f2 this) c2⟩
          clear c2
          have e' : (xf2 != yf2) = true := by rw [bne, e]; rfl
          go_wp2_with fail
          go_ret
          exact ⟨false, rfl, ⟨(fun h => nomatch h), fun h => absurd h HN.out⟩, below_step HB.out (below_step HBr.out HX.out.1)⟩
        have e12 : (xf2 == yf2) = true := beq_iff_eq.2 c2
        have e22 : (xf2 != yf2) = false := by rw [bne, e12]; rfl
        have K2 := Aside0.mk c2
        clear c2
        by_cases c3 : xf3 = yf3
        rotate_left
        · have e : (xf3 == yf3) = false := beq_eq_false_iff_ne.2 c3
          have HN : Aside0 (¬ o = p) := ⟨fun h => by have := HXE.out; rw [h, ← HYE.out] at this; exact absurd (congrArg S40.f3 this) c3⟩
          clear c3
          have e' : (xf3 != yf3) = true := by rw [bne, e]; rfl
          go_wp2_with fail
          go_ret
          exact ⟨false, rfl, ⟨(fun h => nomatch h), fun h => absurd h HN.out⟩, below_step HB.out (below_step HBr.out HX.out.1)⟩
        have e13 : (xf3 == yf3) = true := beq_iff_eq.2 c3
        have e23 : (xf3 != yf3) = false := by rw [bne, e13]; rfl
        have K3 := Aside0.mk c3
        clear c3
        by_cases c4 : xf4 = yf4
        rotate_left
        · have e : (xf4 == yf4) = false := beq_eq_false_iff_ne.2 c4
          have HN : Aside0 (¬ o = p) := ⟨fun h => by have := HXE.out; rw [h, ← HYE.out] at this; exact absurd (congrArg S40.f4 this) c4⟩
          clear c4
          have e' : (xf4 != yf4) = true := by rw [bne, e]; rfl
          go_wp2_with fail
          go_ret
          exact ⟨false, rfl, ⟨(fun h => nomatch h), fun h => absurd h HN.out⟩, below_step HB.out (below_step HBr.out HX.out.1)⟩
        have e14 : (xf4 == yf4) = true := beq_iff_eq.2 c4
        have e24 : (xf4 != yf4) = false := by rw [bne, e14]; rfl
        have K4 := Aside0.mk c4
        clear c4
        have HQ := Aside0.mk (same_calls A5 B5 c5 d5 wc xf5 yf5 (Kd.C_below HG.out.1 HX.out.1) (Kd.C_below HG.out.2.1 HX.out.1) HG.out.2.2.1 HG.out.2.2.2.1 (by have := HL5.out; omega))
        go_wp2_with fail
        refine HQ.out.mono ?_
        rintro _ w' ⟨r, rfl, hr, hb⟩
        have HB2 := Aside0.mk (below_step HBr.out (below_step HX.out.1 hb))
        have HR : Aside0 (r = true ↔ rd_T40 o.secs (i : Int) = rd_T40 p.secs (i : Int)) := ⟨by rw [← HXE.out, ← HYE.out]; exact hr.trans ⟨fun h => by rw [K0.out, K1.out, K2.out, K3.out, K4.out, h], fun h => congrArg S40.f5 h⟩⟩
        clear hr hb HQ
        cases r with
        | false =>
          have HN : Aside0 (¬ o = p) := ⟨fun h => by have := HR.out.2 (by rw [h]); cases this⟩
          go_wp2_with fail
          go_ret
          exact ⟨false, rfl, ⟨(fun h => nomatch h), fun h => absurd h HN.out⟩, below_step HB.out HB2.out⟩
        | true =>
          have HT2 : Aside0 (o.secs.take (i + 1) = p.secs.take (i + 1)) := ⟨take_next (d := z40) HT.out (by have := HN0.out; omega) (by have := HM0.out; have := C0.out; omega) (HR.out.1 rfl)⟩
          go_wp2_with fail
          go_roundg (n0 - (i + 1))
          case measure => omega
          case rel => exact ⟨i + 1, by go_num, by omega, Nat.le_refl _, HB2, HT2⟩
    · have hltz : ¬ (i : Int) < (n0 : Int) := by omega
      have HF : Aside0 (o.secs = p.secs) := ⟨by
        have h1 := HT.out
        rw [List.take_of_length_le (by have := HN0.out; omega), List.take_of_length_le (by have := HM0.out; have := C0.out; omega)] at h1
        exact h1⟩
      clear HT
      go_wp2_with fail
      clear y0 y1 y2 z0 z1 z2
      have HBq := HBr
      clear HBr HZ
      go_loopg [8] n1 (fun g v wr => ∃ (i : Nat), v = .int .i64 i ∧ i ≤ n1 ∧ n1 - i ≤ g ∧ Aside0 (Below w2.heap.size w2 wr) ∧ Aside0 (o.syms.take i = p.syms.take i))
      case atStart => exact ⟨0, rfl, Nat.zero_le _, Nat.le_refl _, HBq, ⟨rfl⟩⟩
      case round =>
        clear HBq
        obtain ⟨i, rfl, hi, hg, HBr, HT⟩ := hrel
        have y0 : wr.cell? ⟨w.heap.size, 0, none⟩ = some (.slice A0 n0 c0) := (blk_cell (blk_below H1.out HBr.out) 0).trans rfl
        have z0 : wr.cell? ⟨w.heap.size + 1, 0, none⟩ = some (.slice B0 m0 d0) := (blk_cell (blk_below H2.out HBr.out) 0).trans rfl
        have y1 : wr.cell? ⟨w.heap.size, 1, none⟩ = some (.slice A1 n1 c1) := (blk_cell (blk_below H1.out HBr.out) 1).trans rfl
        have z1 : wr.cell? ⟨w.heap.size + 1, 1, none⟩ = some (.slice B1 m1 d1) := (blk_cell (blk_below H2.out HBr.out) 1).trans rfl
        have y2 : wr.cell? ⟨w.heap.size, 2, none⟩ = some (.slice A2 n2 c2) := (blk_cell (blk_below H1.out HBr.out) 2).trans rfl
        have z2 : wr.cell? ⟨w.heap.size + 1, 2, none⟩ = some (.slice B2 m2 d2) := (blk_cell (blk_below H2.out HBr.out) 2).trans rfl
        by_cases hlt : i < n1
        · have hltz : (i : Int) < (n1 : Int) := by omega
          have hltm : (i : Int) < (m1 : Int) := by have := C1.out; omega
          obtain ⟨ad, rfl, x0, x1, x2, x3, x4, x5, x6⟩ := at_T94 (Kd.C_below HH.out.r1 HBr.out) (i : Int) (by omega) (by have := HN1.out; omega)
          obtain ⟨ae, rfl, u0, u1, u2, u3, u4, u5, u6⟩ := at_T94 (Kd.C_below HK.out.r1 HBr.out) (i : Int) (by omega) (by have := HM1.out; omega)
          simp only [Int.toNat_natCast] at x0  x1  x2  x3  x4  x5  x6 u0  u1  u2  u3  u4  u5  u6
          obtain ⟨x, hxe⟩ : ∃ x, x = rd_T94 o.syms (i : Int) := ⟨_, rfl⟩
          obtain ⟨y, hye⟩ : ∃ y, y = rd_T94 p.syms (i : Int) := ⟨_, rfl⟩
          rw [← hxe] at x0  x1  x2  x3  x4  x5  x6
          rw [← hye] at u0  u1  u2  u3  u4  u5  u6
          have HXE := Aside0.mk hxe
          have HYE := Aside0.mk hye
          clear hxe hye
          by_cases c : x = y
          rotate_left
          · have e := (sym_ne x y).2 c
            have HN : Aside0 (¬ o = p) := ⟨fun h => by have := HXE.out; rw [h, ← HYE.out] at this; exact absurd this c⟩
            clear c
            go_wp2_with fail
            repeat (go_quiet (fail); try go_wp2_with fail)
            go_ret
            exact ⟨false, rfl, ⟨(fun h => nomatch h), fun h => absurd h HN.out⟩, by repeat (first | exact below_step HB.out HBr.out | apply below_dn)⟩
          have e : _ = false := Bool.eq_false_iff.2 (fun hh => (sym_ne x y).1 hh c)
          have HT2 : Aside0 (o.syms.take (i + 1) = p.syms.take (i + 1)) := ⟨take_next (d := z94) HT.out (by have := HN1.out; omega) (by have := HM1.out; have := C1.out; omega) (by have h1 := HXE.out; rw [c, HYE.out] at h1; exact h1.symm)⟩
          clear c HT HXE HYE
          go_wp2_with fail
          repeat (go_quiet (fail); try go_wp2_with fail)
          go_roundg (n1 - (i + 1))
          case measure => omega
          case rel => exact ⟨i + 1, by go_num, by omega, Nat.le_refl _, ⟨by repeat (first | exact HBr.out | apply below_dn)⟩, HT2⟩
        · have hltz : ¬ (i : Int) < (n1 : Int) := by omega
          have HF8 : Aside0 (o.syms = p.syms) := ⟨by
            have h1 := HT.out
            rw [List.take_of_length_le (by have := HN1.out; omega), List.take_of_length_le (by have := HM1.out; have := C1.out; omega)] at h1
            exact h1⟩
          clear HT
          go_wp2_with fail
          clear y0 y1 y2 z0 z1 z2
          have HBs := HBr
          clear HBr
          go_loopg [9] n2 (fun g v wr => ∃ (i : Nat), v = .int .i64 i ∧ i ≤ n2 ∧ n2 - i ≤ g ∧ Aside0 (Below w2.heap.size w2 wr) ∧ Aside0 (o.rels.take i = p.rels.take i))
          case atStart => exact ⟨0, rfl, Nat.zero_le _, Nat.le_refl _, HBs, ⟨rfl⟩⟩
          case round =>
            clear HBs
            obtain ⟨i, rfl, hi, hg, HBr, HT⟩ := hrel
            have y0 : wr.cell? ⟨w.heap.size, 0, none⟩ = some (.slice A0 n0 c0) := (blk_cell (blk_below H1.out HBr.out) 0).trans rfl
            have z0 : wr.cell? ⟨w.heap.size + 1, 0, none⟩ = some (.slice B0 m0 d0) := (blk_cell (blk_below H2.out HBr.out) 0).trans rfl
            have y1 : wr.cell? ⟨w.heap.size, 1, none⟩ = some (.slice A1 n1 c1) := (blk_cell (blk_below H1.out HBr.out) 1).trans rfl
            have z1 : wr.cell? ⟨w.heap.size + 1, 1, none⟩ = some (.slice B1 m1 d1) := (blk_cell (blk_below H2.out HBr.out) 1).trans rfl
            have y2 : wr.cell? ⟨w.heap.size, 2, none⟩ = some (.slice A2 n2 c2) := (blk_cell (blk_below H1.out HBr.out) 2).trans rfl
            have z2 : wr.cell? ⟨w.heap.size + 1, 2, none⟩ = some (.slice B2 m2 d2) := (blk_cell (blk_below H2.out HBr.out) 2).trans rfl
            by_cases hlt : i < n2
            · have hltz : (i : Int) < (n2 : Int) := by omega
              have hltm : (i : Int) < (m2 : Int) := by have := C2.out; omega
              obtain ⟨ad, rfl, x0, x1, x2, x3, x4⟩ := at_T59 (Kd.C_below HH.out.r2 HBr.out) (i : Int) (by omega) (by have := HN2.out; omega)
              obtain ⟨ae, rfl, u0, u1, u2, u3, u4⟩ := at_T59 (Kd.C_below HK.out.r2 HBr.out) (i : Int) (by omega) (by have := HM2.out; omega)
              simp only [Int.toNat_natCast] at x0  x1  x2  x3  x4 u0  u1  u2  u3  u4
              obtain ⟨x, hxe⟩ : ∃ x, x = rd_T59 o.rels (i : Int) := ⟨_, rfl⟩
              obtain ⟨y, hye⟩ : ∃ y, y = rd_T59 p.rels (i : Int) := ⟨_, rfl⟩
              rw [← hxe] at x0  x1  x2  x3  x4
              rw [← hye] at u0  u1  u2  u3  u4
              have HXE := Aside0.mk hxe
              have HYE := Aside0.mk hye
              clear hxe hye
              by_cases c : x = y
              rotate_left
              · have e := (rel_ne x y).2 c
                have HN : Aside0 (¬ o = p) := ⟨fun h => by have := HXE.out; rw [h, ← HYE.out] at this; exact absurd this c⟩
                clear c
                go_wp2_with fail
                repeat (go_quiet (fail); try go_wp2_with fail)
                go_ret
                exact ⟨false, rfl, ⟨(fun h => nomatch h), fun h => absurd h HN.out⟩, by repeat (first | exact below_step HB.out HBr.out | apply below_dn)⟩
              have e : _ = false := Bool.eq_false_iff.2 (fun hh => (rel_ne x y).1 hh c)
              have HT2 : Aside0 (o.rels.take (i + 1) = p.rels.take (i + 1)) := ⟨take_next (d := z59) HT.out (by have := HN2.out; omega) (by have := HM2.out; have := C2.out; omega) (by have h1 := HXE.out; rw [c, HYE.out] at h1; exact h1.symm)⟩
              clear c HT HXE HYE
              go_wp2_with fail
              repeat (go_quiet (fail); try go_wp2_with fail)
              go_roundg (n2 - (i + 1))
              case measure => omega
              case rel => exact ⟨i + 1, by go_num, by omega, Nat.le_refl _, ⟨by repeat (first | exact HBr.out | apply below_dn)⟩, HT2⟩
            · have hltz : ¬ (i : Int) < (n2 : Int) := by omega
              have HF9 : Aside0 (o.rels = p.rels) := ⟨by
                have h1 := HT.out
                rw [List.take_of_length_le (by have := HN2.out; omega), List.take_of_length_le (by have := HM2.out; have := C2.out; omega)] at h1
                exact h1⟩
              clear HT
              go_wp2_with fail
              have HEQ : Aside0 (o = p) := ⟨(Ob_eq o p).2 ⟨HF.out, HF8.out, HF9.out⟩⟩
              go_ret
              exact ⟨true, rfl, ⟨fun _ => HEQ.out, fun _ => rfl⟩, below_step HB.out HBr.out⟩
end Go.Proofs.Ytockojajbnnbpaa.E
namespace Go.Proofs.Ytockojajbnnbpaa.E
open Go.RowKit Go.Proofs.Ytockojajbnnbpaa.Q Go.Proofs.YtockojajbnnbpaaW.PrintWords Go.Proofs.YtockojajbnnbpaaW.PrintLast Go.Proofs.YtockojajbnnbpaaW.PrintMore
set_option linter.unusedVariables false
set_option linter.unusedSimpArgs false
theorem SymRg_of {n : Nat} {x : S94} (h : SymK n x) : SymRg x ∧ x.f0.size < 9223372036854775808 := by
  obtain ⟨h0, h1, h2, h3, h4, _⟩ := h
  have := h0.2
  exact ⟨⟨h1, h2, ⟨h3.1, by omega⟩, ⟨h4.1, by omega⟩⟩, by omega⟩
theorem SecRg_of {x : S40} (h : SecK x) : SecRg x := by
  obtain ⟨h0, h1, h2, h3, h4, h5, h6⟩ := h
  have := h0.1.2
  exact ⟨by omega, h1, h2, h3, h4, h5, by omega⟩
theorem rd40_in {secs : List S40} {i : Int} (h0 : 0 ≤ i) (h1 : i < secs.length) : rd_T40 secs i ∈ secs := by
  have hi : i.toNat < secs.length := by omega
  unfold rd_T40
  rw [List.getD_eq_getElem?_getD, List.getElem?_eq_getElem hi]
  exact List.getElem_mem hi
theorem ObRg_read {secs : List S40} {syms : List S94} {rels : List S59} (h1 : ∀ x ∈ secs, SecK x) (h2 : ∀ y ∈ syms, SymK secs.length y) (h3 : ∀ r ∈ rels, RelK secs syms.length r) (n1 : secs.length ≤ 65536) (n2 : syms.length ≤ 65536) (n3 : rels.length ≤ 20000000) : ObRg ⟨secs, syms, byS secs.length rels⟩ := by
  refine ⟨fun x hx => SecRg_of (h1 x hx), fun x hx => SymRg_of (h2 x hx), fun r hr => ?_, by show secs.length < _; omega, by show syms.length < _; omega, ?_⟩
  · obtain ⟨k0, k1, k2, k3, k4, k5⟩ := h3 r (byS_mem hr)
    have := (h1 _ (rd40_in k0.1 k0.2)).2.2.2.2.1.2
    exact ⟨⟨k2.1, by omega⟩, k3, ⟨by omega, by omega⟩⟩
  · show (byS secs.length rels).length < 9223372036854775808
    have := byS_len secs.length rels
    have := Nat.mul_le_mul n1 n3
    omega
end Go.Proofs.Ytockojajbnnbpaa.E
