/- Joined texts (S34, S11, V1, L3, OpenE): what the law needs of them. Lean checks them. -/
import Derived.Test.YtockojajbnnbpaaJ0
import Derived.Test.YtockojajbnnbpaaJ1
import Derived.Test.YtockojajbnnbpaaJ2
import Derived.Test.YtockojajbnnbpaaJ3
import Derived.Test.YtockojajbnnbpaaJ4
import Derived.StillTailTactics
import Derived.Deep.CutRange
import Derived.Deep.RegionWith
import Derived.Deep.RegionHeld3
import Derived.Lib.SmallJoins
import Derived.Carry
import Derived.KernelRfl
import Derived.ChangeArms
import Derived.Deep.Slices
namespace Go.Proofs.Ytockojajbnnbpaa.E
open Go.RowKit Go.Proofs.Ytockojajbnnbpaa.Q Go.Proofs.YtockojajbnnbpaaW.PrintWords Go.Proofs.YtockojajbnnbpaaW.PrintLast Go.Proofs.YtockojajbnnbpaaW.PrintMore
set_option linter.unusedVariables false
set_option linter.unusedSimpArgs false
theorem readS_none {b : List Int} {rows : List S47} (h : tabS b = .ok rows) (h2 : bodyS b rows = none) : readS b = .error 5 := by unfold readS; rw [h]; show (match bodyS b rows with | none => _ | some o => _) = _; rw [h2]
theorem headerS_mem {b : List Int} {rows : List S47} {x : S47} (h : headerS b rows = some x) : x ∈ rows ∧ x.f1 = 3 := by
  unfold headerS at h
  by_cases c : b.take 32 = magic ∧ (b.drop 36).take 12 = sizes ∧ (rows[0]?).map (·.f1) = some 0
  · rw [if_pos c] at h; exact rowS_mem h
  · rw [if_neg c] at h; cases h
set_option maxRecDepth 100000 in
set_option maxHeartbeats 32000000 in
theorem Read_rows (A : Option Addr) (c : Nat) (b : List Int) (hb : AllBytes b) (rows : List S47) (hr : tabS b = .ok rows) (w : World) (h : Kd.C (Kd.int .u8) w A b.length b) (hc : b.length ≤ c) :
    Calls Try.prog 11 #[.slice A b.length c] w fun e w' => ReadRes b w e w' := by
  have hmf : ∀ (fn : Fn) (first cap : Array Value) (w : World), (Instr.makeFunc fn first cap).run Try.prog w = .ok (.func fn first cap) w := fun _ _ _ _ => rfl
  have hu26 := Try.underlying26
  have hu47 := Try.underlying47
  obtain ⟨hl, h52, hrl, hin⟩ := tabS_ok hb hr
  have hz1 := alloc_size w (.cells #[.slice none 0 0, .slice none 0 0, .slice none 0 0] 26)
  have hz2 := alloc_size (w.alloc (.cells #[.slice none 0 0, .slice none 0 0, .slice none 0 0] 26)) (.cells #[.int .i64 0] 28)
  have hb0 : Below w.heap.size w ((w.alloc (.cells #[.slice none 0 0, .slice none 0 0, .slice none 0 0] 26)).alloc (.cells #[.int .i64 0] 28)) := below_alloc (below_alloc (Below.refl _ _) _) _
  have X1 : ((w.alloc (.cells #[.slice none 0 0, .slice none 0 0, .slice none 0 0] 26)).alloc (.cells #[.int .i64 0] 28)).heap[w.heap.size]? = some (.cells #[.slice none 0 0, .slice none 0 0, .slice none 0 0] 26 (0, 0)) := blk_below (heap_alloc_new w _) (below_alloc (Below.refl _ _) _)
  have X2 : ((w.alloc (.cells #[.slice none 0 0, .slice none 0 0, .slice none 0 0] 26)).alloc (.cells #[.int .i64 0] 28)).heap[w.heap.size + 1]? = some (.cells #[.int .i64 0] 28 (0, 0)) := by rw [← hz1]; exact heap_alloc_new _ _
  have hT := table_calls hb (by omega) _ _ (Rw_new ((w.alloc (.cells #[.slice none 0 0, .slice none 0 0, .slice none 0 0] 26)).alloc (.cells #[.int .i64 0] 28)) A c b) (Kd.C_below h hb0) hc
  rw [hz2, hz1] at hT
  have HT : Aside0 (Calls Try.prog 30 #[.pointer (some ⟨w.heap.size + 1 + 1, 0, none⟩)] (((w.alloc (.cells #[.slice none 0 0, .slice none 0 0, .slice none 0 0] 26)).alloc (.cells #[.int .i64 0] 28)).alloc (.cells #[.slice A b.length c, .slice none 0 0] 69)) fun e w' => e = .returned (.tuple #[]) ∧ Stg w w' b rows (.slice none 0 0) (.slice none 0 0) (.slice none 0 0)) := ⟨hT.mono (fun e w' hh => by
    unfold TabR at hh; rw [hr] at hh
    obtain ⟨he, hrd, hbl, S, vr, hw, _⟩ := hh
    have hz : w.heap.size + 1 + 1 = ((w.alloc (.cells #[.slice none 0 0, .slice none 0 0, .slice none 0 0] 26)).alloc (.cells #[.int .i64 0] 28)).heap.size := by rw [hz2, hz1]
    refine ⟨he, ⟨⟨S, A, c, vr, ⟨below_step hb0 hbl, hw.blk, hw.rr, hw.own, fun k hk => ⟨?_, (hw.q k hk).2⟩⟩, fun k hk => ?_, h, hc⟩, blk_below X1 hbl, blk_below X2 hbl⟩⟩
    · have := (hw.q k hk).1; rw [hz2, hz1] at this; omega
    · have := (hw.q k hk).1; rw [hz2, hz1] at this; exact this)⟩
  have HBB := Aside0.mk hb
  have HL := Aside0.mk hl
  have H52 := Aside0.mk h52
  have HRL := Aside0.mk hrl
  have HIN := Aside0.mk hin
  have HTB := Aside0.mk hr
  clear X1 X2 hb0 hT hz1 hz2 hr h hc hb hl h52 hrl hin
  go_enter_defers Try.func11, Try.ntmps11
  go_wp2_with fail
  refine HT.out.mono ?_
  rintro e w4 ⟨rfl, hs4⟩
  have HS4 := Aside0.mk hs4
  clear hs4 HT
  cases hh : headerS b rows with
  | none =>
    have HRS : Aside0 (readS b = .error 5) := ⟨readS_none HTB.out (by unfold bodyS; rw [hh]; rfl)⟩
    have HD := Aside0.mk (header_no HBB.out (by have := HL.out; omega) H52.out (by have := HRL.out; omega) hh w4 HS4.out.rd)
    clear hh
    go_wp2_with fail
    refine HD.out.mono ?_
    rintro e w5 ⟨rfl, hb5⟩
    refine leaves_cons (f := 29) (args := #[.pointer (some ⟨w.heap.size, 0, none⟩), .pointer (some ⟨w.heap.size + 1, 0, none⟩)]) (by simp) (by simp [go_sem]) ?_
    refine (Stg.dies (HS4.out.below hb5) 5).mono ?_
    rintro e u' wz ⟨rfl, rfl, hbz, z0, z1, z2, z3⟩
    have hfin := ReadRes.no HRS.out hbz
    clear hbz HRS
    simp [Leaves, settle, results, Try.results11, go_sem, z0, z1, z2, z3]
    exact hfin
  | some nm =>
    have HD := Aside0.mk (header_ok HBB.out (by have := HL.out; omega) H52.out (by have := HRL.out; omega) nm hh w4 HS4.out.rd)
    have hmm := headerS_mem hh
    have HNB : Aside0 (0 ≤ nm.f4 ∧ 0 ≤ nm.f5 ∧ nm.f4 + nm.f5 ≤ (b.length : Int)) := ⟨by
      have hi := HIN.out _ hmm.1
      have h4 := hi.1 nm.f4 (by simp [fieldsL])
      have h5 := hi.1 nm.f5 (by simp [fieldsL])
      rcases hi.2 with h | h | h
      · rw [hmm.2] at h; cases h
      · rw [hmm.2] at h; cases h
      · exact ⟨h4.1, h5.1, h⟩⟩
    have HHD := Aside0.mk hh
    clear hh hmm
    go_wp2_with fail
    refine HD.out.mono ?_
    rintro e w5 ⟨rfl, hb5⟩
    have hal := below_alloc (Below.refl w5.heap.size w5) (.cells #[.int .u32 nm.f0, .int .u32 nm.f1, .int .u32 nm.f2, .int .u32 nm.f3, .int .u32 nm.f4, .int .u32 nm.f5, .int .u32 nm.f6, .int .u32 nm.f7, .int .u32 nm.f8, .int .u32 nm.f9] 47)
    have HS6 := Aside0.mk ((HS4.out.below hb5).below hal)
    clear hb5 hal HD HS4
    have HSC := Aside0.mk (sections_calls HBB.out HL.out (by have := HRL.out; omega) HIN.out nm HNB.out.1 HNB.out.2.1 HNB.out.2.2 _ HS6.out.rd)
    cases hs : secsR b rows nm with
    | none =>
      have HRS : Aside0 (readS b = .error 5) := ⟨readS_none HTB.out (by unfold bodyS; rw [HHD.out]; show (secsR b rows nm).bind _ = none; rw [hs]; rfl)⟩
      have HD := Aside0.mk (HSC.out.mono (fun e w' hh => show e = wrongE 5 ∧ Below _ _ w' by unfold SecsRes at hh; rw [hs] at hh; exact hh))
      clear hs HSC
      go_wp2_with fail
      refine HD.out.mono ?_
      rintro e w7 ⟨rfl, hb7⟩
      refine leaves_cons (f := 29) (args := #[.pointer (some ⟨w.heap.size, 0, none⟩), .pointer (some ⟨w.heap.size + 1, 0, none⟩)]) (by simp) (by simp [go_sem]) ?_
      refine (Stg.dies (HS6.out.below hb7) 5).mono ?_
      rintro e u' wz ⟨rfl, rfl, hbz, z0, z1, z2, z3⟩
      have hfin := ReadRes.no HRS.out hbz
      clear hbz HRS
      simp [Leaves, settle, results, Try.results11, go_sem, z0, z1, z2, z3]
      exact hfin
    | some ps =>
      have HD := Aside0.mk (HSC.out.mono (fun e w' hh => show ∃ S S2 v v2, e = .returned (.tuple #[v, v2]) ∧ Gr k40 40 (Kd.int .i64) 3 _ w' S S2 v v2 ps.1 ps.2 by unfold SecsRes at hh; rw [hs] at hh; exact hh))
      have HSI := Aside0.mk (secsR_inv HBB.out HL.out (fun x hx => (HIN.out x hx).1) hs)
      have HSQ := Aside0.mk hs
      clear hs HSC
      go_wp2_with fail
      refine HD.out.mono ?_
      rintro e w7 ⟨S, S2, v, v2, rfl, hg⟩
      obtain ⟨A7, c7, rfl⟩ := Kd.R_slice hg.r
      obtain ⟨B7, d7, rfl⟩ := Kd.R_slice hg.r2
      have hlt6 := HS6.out.lt
      have hs7 := HS6.out.below hg.bl
      obtain ⟨p0, p1, p2, p3, f0, f1, f2, f3⟩ := hs7.at_
      have HR0 : Aside0 (Ro k40 40 w7 (w.heap.size + 1 + 1 + 1) w7.heap.size (.slice A7 ps.1.length c7) ps.1) := ⟨⟨S, hg.r, fun k hk => ⟨Nat.le_trans hlt6 (hg.q k hk).1, (hg.q k hk).2⟩⟩⟩
      have HN0 : Aside0 (Ro (Kd.int .i64) 3 w7 (w.heap.size + 1 + 1 + 1) w7.heap.size (.slice B7 ps.2.length d7) ps.2) := ⟨⟨S2, hg.r2, fun k hk => ⟨Nat.le_trans hlt6 (hg.q2 k hk).1, (hg.q2 k hk).2⟩⟩⟩
      have HS8 : Aside0 (Stg w (w7.setCell ⟨w.heap.size, 0, none⟩ (.slice A7 ps.1.length c7)) b rows (.slice A7 ps.1.length c7) (.slice none 0 0) (.slice none 0 0)) := ⟨hs7.set 0 _ _ _ _ rfl⟩
      have HR1 := Aside0.mk (HR0.out.far (p := ⟨w.heap.size, 0, none⟩) (show w.heap.size < w.heap.size + 1 + 1 + 1 by omega) (.slice A7 ps.1.length c7))
      have HN1 := Aside0.mk (HN0.out.far (p := ⟨w.heap.size, 0, none⟩) (show w.heap.size < w.heap.size + 1 + 1 + 1 by omega) (.slice A7 ps.1.length c7))
      have HZ1 : Aside0 (w7.heap.size = (w7.setCell ⟨w.heap.size, 0, none⟩ (.slice A7 ps.1.length c7)).heap.size) := ⟨by simp [World.setCell]⟩
      have HLT := Aside0.mk (hs7.lt)
      clear hg hs7 hlt6 HR0 HN0 HS6 HD p1 p2 p3 f1 f2 f3
      have HYC := Aside0.mk (rsymbols_calls HBB.out HL.out (by have := HRL.out; omega) HIN.out ps.2 (by have := HSI.out.2.2.2; have := HRL.out; omega) B7 d7 _ HS8.out.rd (HN1.out.reads).2.2)
      cases hy : symsR b rows ps.2 with
      | none =>
        have HRS : Aside0 (readS b = .error 5) := ⟨readS_none HTB.out (by unfold bodyS; rw [HHD.out]; show (secsR b rows nm).bind _ = none; rw [HSQ.out]; show (symsR b rows ps.2).bind _ = none; rw [hy]; rfl)⟩
        have HD := Aside0.mk (HYC.out.mono (fun e w' hh => show e = wrongE 5 ∧ Below _ _ w' by unfold SymsRes at hh; rw [hy] at hh; exact hh))
        clear hy HYC
        go_wp2_with fail
        refine HD.out.mono ?_
        rintro e w9 ⟨rfl, hb9⟩
        refine leaves_cons (f := 29) (args := #[.pointer (some ⟨w.heap.size, 0, none⟩), .pointer (some ⟨w.heap.size + 1, 0, none⟩)]) (by simp) (by simp [go_sem]) ?_
        refine (Stg.dies (HS8.out.below hb9) 5).mono ?_
        rintro e u' wz ⟨rfl, rfl, hbz, z0, z1, z2, z3⟩
        have hfin := ReadRes.no HRS.out hbz
        clear hbz HRS
        simp [Leaves, settle, results, Try.results11, go_sem, z0, z1, z2, z3]
        exact hfin
      | some qs =>
        have HD := Aside0.mk (HYC.out.mono (fun e w' hh => show ∃ S S2 v v2, e = .returned (.tuple #[v, v2, .int .i64 qs.2.2]) ∧ Gr k94 94 (Kd.int .i64) 3 _ w' S S2 v v2 qs.1 qs.2.1 by unfold SymsRes at hh; rw [hy] at hh; exact hh))
        have HYI := Aside0.mk (symsR_inv HBB.out HL.out HSI.out.1 hy)
        have HYQ := Aside0.mk hy
        clear hy HYC
        go_wp2_with fail
        refine HD.out.mono ?_
        rintro e w9 ⟨T, T2, u, u2, rfl, hg⟩
        obtain ⟨A9, c9, rfl⟩ := Kd.R_slice hg.r
        obtain ⟨B9, d9, rfl⟩ := Kd.R_slice hg.r2
        have hlt8 : w7.heap.size ≤ w9.heap.size := by have := hg.bl.size; rw [← HZ1.out] at this; exact this
        have hs9 := HS8.out.below hg.bl
        obtain ⟨p0', p1, p2, p3, f0', f1, f2, f3⟩ := hs9.at_
        have HR2 := Aside0.mk ((HR1.out.below hg.bl).far (p := ⟨w.heap.size, 1, none⟩) (show w.heap.size < w.heap.size + 1 + 1 + 1 by omega) (.slice A9 qs.1.length c9))
        have HN2 := Aside0.mk ((HN1.out.below hg.bl).far (p := ⟨w.heap.size, 1, none⟩) (show w.heap.size < w.heap.size + 1 + 1 + 1 by omega) (.slice A9 qs.1.length c9))
        have hlt7 := HLT.out
        have HY2 : Aside0 (Ro k94 94 (w9.setCell ⟨w.heap.size, 1, none⟩ (.slice A9 qs.1.length c9)) w7.heap.size w9.heap.size (.slice A9 qs.1.length c9) qs.1) := ⟨(Ro.mk ⟨T, hg.r, fun k hk => ⟨by rw [HZ1.out]; exact (hg.q k hk).1, (hg.q k hk).2⟩⟩ : Ro k94 94 w9 w7.heap.size w9.heap.size _ _).far (show w.heap.size < w7.heap.size by omega) _⟩
        have HM2 : Aside0 (Ro (Kd.int .i64) 3 (w9.setCell ⟨w.heap.size, 1, none⟩ (.slice A9 qs.1.length c9)) w7.heap.size w9.heap.size (.slice B9 qs.2.1.length d9) qs.2.1) := ⟨(Ro.mk ⟨T2, hg.r2, fun k hk => ⟨by rw [HZ1.out]; exact (hg.q2 k hk).1, (hg.q2 k hk).2⟩⟩ : Ro (Kd.int .i64) 3 w9 w7.heap.size w9.heap.size _ _).far (show w.heap.size < w7.heap.size by omega) _⟩
        have HS10 : Aside0 (Stg w (w9.setCell ⟨w.heap.size, 1, none⟩ (.slice A9 qs.1.length c9)) b rows (.slice A7 ps.1.length c7) (.slice A9 qs.1.length c9) (.slice none 0 0)) := ⟨hs9.set 1 _ _ _ _ rfl⟩
        have HZ2 : Aside0 (w9.heap.size = (w9.setCell ⟨w.heap.size, 1, none⟩ (.slice A9 qs.1.length c9)).heap.size) := ⟨by simp [World.setCell]⟩
        have HLT2 := Aside0.mk hlt8
        clear hg hs9 hlt8 hlt7 HR1 HN1 HS8 HD HZ1 p0' p2 p3 f0' f2 f3
        have HEC := Aside0.mk (rrelocs_calls sort_holds HBB.out HL.out (by have := HRL.out; omega) HIN.out ps.1 (by have := HSI.out.2.2.1; have := HRL.out; omega) (fun x hx => (HSI.out.2.1 x hx).2.2.2.2.1) ps.2 (by have := HSI.out.2.2.2; have := HRL.out; omega) HSI.out.1 qs.2.1 (by have := HYI.out.2.2.2.2; omega) qs.2.2 A7 c7 A9 qs.1.length c9 none 0 0 B7 d7 B9 d9 _ HS10.out.rd HR2.out.reads.2.2 HN2.out.reads.2.2 HM2.out.reads.2.2)
        obtain ⟨q0, q1, q2, q3, g0, g1, g2, g3⟩ := HS10.out.at_
        have HQC := Aside0.mk (And.intro q0 (And.intro q1 q2))
        clear q3 g0 g1 g2 g3 HQC
        cases hq : relsR b rows ps.1 ps.2 qs.2.1 qs.2.2 with
        | none =>
          have HRS : Aside0 (readS b = .error 5) := ⟨readS_none HTB.out (by unfold bodyS; rw [HHD.out]; show (secsR b rows nm).bind _ = none; rw [HSQ.out]; show (symsR b rows ps.2).bind _ = none; rw [HYQ.out]; show (relsR b rows ps.1 ps.2 qs.2.1 qs.2.2).bind _ = none; rw [hq]; rfl)⟩
          have HD := Aside0.mk (HEC.out.mono (fun e w' hh => show e = wrongE 5 ∧ Below _ _ w' by unfold RelsRes at hh; rw [hq] at hh; exact hh))
          clear hq HEC
          go_wp2_with fail
          refine HD.out.mono ?_
          rintro e w11 ⟨rfl, hb11⟩
          refine leaves_cons (f := 29) (args := #[.pointer (some ⟨w.heap.size, 0, none⟩), .pointer (some ⟨w.heap.size + 1, 0, none⟩)]) (by simp) (by simp [go_sem]) ?_
          refine (Stg.dies (HS10.out.below hb11) 5).mono ?_
          rintro e u' wz ⟨rfl, rfl, hbz, z0, z1, z2, z3⟩
          have hfin := ReadRes.no HRS.out hbz
          clear hbz HRS
          simp [Leaves, settle, results, Try.results11, go_sem, z0, z1, z2, z3]
          exact hfin
        | some rs =>
          have HD := Aside0.mk (HEC.out.mono (fun e w' hh => show ∃ (v : Value) (S : Nat → Prop), e = .returned v ∧ Kd.R k59 59 w' 0 S v (byS ps.1.length rs) ∧ Below _ _ w' ∧ ∀ k, S k → _ ≤ k ∧ k < w'.heap.size by unfold RelsRes at hh; rw [hq] at hh; exact hh))
          have HEI := Aside0.mk (relsR_inv (n := qs.1.length) HBB.out HL.out HSI.out.1 HYI.out.1 hq)
          have HEQ := Aside0.mk hq
          clear hq HEC
          go_wp2_with fail
          refine HD.out.mono ?_
          rintro e w11 ⟨u, T, rfl, hg, hgb, hgq⟩
          obtain ⟨A11, c11, rfl⟩ := Kd.R_slice hg
          have hs11 := HS10.out.below hgb
          obtain ⟨q0', q1', p2, p3, f0', f1', f2, f3⟩ := hs11.at_
          have HR3 := Aside0.mk ((HR2.out.below hgb).far (p := ⟨w.heap.size, 2, none⟩) (show w.heap.size < w.heap.size + 1 + 1 + 1 by omega) (.slice A11 (byS ps.1.length rs).length c11))
          have hlt7 := HLT.out
          have hlt8 := HLT2.out
          have HY3 := Aside0.mk ((HY2.out.below hgb).far (p := ⟨w.heap.size, 2, none⟩) (show w.heap.size < w7.heap.size by omega) (.slice A11 (byS ps.1.length rs).length c11))
          have HE3 : Aside0 (Ro k59 59 (w11.setCell ⟨w.heap.size, 2, none⟩ (.slice A11 (byS ps.1.length rs).length c11)) w9.heap.size w11.heap.size (.slice A11 (byS ps.1.length rs).length c11) (byS ps.1.length rs)) := ⟨(Ro.mk ⟨T, hg, fun k hk => ⟨by rw [HZ2.out]; exact (hgq k hk).1, (hgq k hk).2⟩⟩ : Ro k59 59 w11 w9.heap.size w11.heap.size _ _).far (show w.heap.size < w9.heap.size by omega) _⟩
          have HS12 : Aside0 (Stg w (w11.setCell ⟨w.heap.size, 2, none⟩ (.slice A11 (byS ps.1.length rs).length c11)) b rows (.slice A7 ps.1.length c7) (.slice A9 qs.1.length c9) (.slice A11 (byS ps.1.length rs).length c11)) := ⟨hs11.set 2 _ _ _ _ rfl⟩
          have HLT3 : Aside0 (w9.heap.size ≤ (w11.setCell ⟨w.heap.size, 2, none⟩ (.slice A11 (byS ps.1.length rs).length c11)).heap.size) := ⟨by have := hgb.size; rw [← HZ2.out] at this; simpa [World.setCell] using this⟩
          have HRG := Aside0.mk (ObRg_read HSI.out.2.1 HYI.out.2.1 HEI.out.1 (by have := HSI.out.2.2.1; have := HRL.out; omega) (by have := HYI.out.2.2.2.1; omega) (by have := HEI.out.2; have := HRL.out; omega))
          have HLC := Aside0.mk (limits_calls HRG.out (w11.setCell ⟨w.heap.size, 2, none⟩ (.slice A11 (byS ps.1.length rs).length c11)) (A0 := A7) (A1 := A9) (A2 := A11) (c0 := c7) (c1 := c9) (c2 := c11) ⟨HR3.out.reads.2.2, HY3.out.reads.2.2, HE3.out.reads.2.2, HR3.out.reads.2.1, HY3.out.reads.2.1, HE3.out.reads.2.1⟩)
          clear hg hs11 hlt7 hlt8 HR2 HN2 HY2 HM2 HS10 HD HZ2 q0' q1' f0' f1' p3 f3 hgb hgq q0 q1 q2
          obtain ⟨q0, q1, q2, _⟩ := HS12.out.at_
          go_wp2_with fail
          refine HLC.out.mono ?_
          rintro e w13 ⟨r, rfl, hri, hb13⟩
          have HBD : Aside0 (bodyS b rows = some ⟨ps.1, qs.1, byS ps.1.length rs⟩) := ⟨by unfold bodyS; rw [HHD.out]; show (secsR b rows nm).bind _ = _; rw [HSQ.out]; show (symsR b rows ps.2).bind _ = _; rw [HYQ.out]; show (relsR b rows ps.1 ps.2 qs.2.1 qs.2.2).bind _ = _; rw [HEQ.out]; rfl⟩
          cases r with
          | false =>
            have HRS : Aside0 (readS b = .error 3) := ⟨by unfold readS; rw [HTB.out]; show (match bodyS b rows with | none => _ | some o => _) = _; rw [HBD.out]; exact if_neg (fun h => by have := hri.2 h; cases this)⟩
            have hs13 := HS12.out.below hb13
            have HS13 := Aside0.mk hs13
            clear hri hs13 HBD q0 q1 q2 p0 p1 p2 f0 f1 f2
            go_wp2_with fail
            refine (want_no 3 _).mono ?_
            rintro e w14 ⟨rfl, rfl⟩
            refine leaves_cons (f := 29) (args := #[.pointer (some ⟨w.heap.size, 0, none⟩), .pointer (some ⟨w.heap.size + 1, 0, none⟩)]) (by simp) (by simp [go_sem]) ?_
            refine (Stg.dies (HS13.out) 3).mono ?_
            rintro e u' wz ⟨rfl, rfl, hbz, z0, z1, z2, z3⟩
            have hfin := ReadRes.no HRS.out hbz
            clear hbz HRS
            simp [Leaves, settle, results, Try.results11, go_sem, z0, z1, z2, z3]
            exact hfin
          | true =>
            have HRS : Aside0 (readS b = .ok ⟨ps.1, qs.1, byS ps.1.length rs⟩) := ⟨by unfold readS; rw [HTB.out]; show (match bodyS b rows with | none => _ | some o => _) = _; rw [HBD.out]; exact if_pos (hri.1 rfl)⟩
            have HS13 := Aside0.mk (HS12.out.below hb13)
            have HR4 := Aside0.mk (HR3.out.below hb13)
            have HY4 := Aside0.mk (HY3.out.below hb13)
            have HE4 := Aside0.mk (HE3.out.below hb13)
            have HZ4 := hb13.size
            have HLT4 : Aside0 (w11.heap.size ≤ w13.heap.size) := ⟨by simpa [World.setCell] using HZ4⟩
            clear hri HBD q0 q1 q2 p0 p1 p2 f0 f1 f2 hb13 HS12 HR3 HY3 HE3 HLC HZ4
            go_wp2_with fail
            refine (want_yes 3 _).mono ?_
            rintro e w14 ⟨rfl, rfl⟩
            obtain ⟨q0, q1, q2, q3, f0, f1, f2, f3⟩ := HS13.out.at_
            go_wp2_with fail
            have HSF : Aside0 (Stg w ((((w13.setCell ⟨w.heap.size, 0, none⟩ (.slice A7 ps.1.length c7)).setCell ⟨w.heap.size, 1, none⟩ (.slice A9 qs.1.length c9)).setCell ⟨w.heap.size, 2, none⟩ (.slice A11 (byS ps.1.length rs).length c11)).setCell ⟨w.heap.size + 1, 0, none⟩ (.int .i64 0)) b rows (.slice A7 ps.1.length c7) (.slice A9 qs.1.length c9) (.slice A11 (byS ps.1.length rs).length c11)) := ⟨(((HS13.out.set 0 _ _ _ _ rfl).set 1 _ _ _ _ rfl).set 2 _ _ _ _ rfl).setq⟩
            have hlt7 := HLT.out
            have hlt8 := HLT2.out
            have HRF : Aside0 (Ro k40 40 ((((w13.setCell ⟨w.heap.size, 0, none⟩ (.slice A7 ps.1.length c7)).setCell ⟨w.heap.size, 1, none⟩ (.slice A9 qs.1.length c9)).setCell ⟨w.heap.size, 2, none⟩ (.slice A11 (byS ps.1.length rs).length c11)).setCell ⟨w.heap.size + 1, 0, none⟩ (.int .i64 0)) _ _ _ _) := ⟨(((HR4.out.far (p := ⟨w.heap.size, 0, none⟩) (show w.heap.size < w.heap.size + 1 + 1 + 1 by omega) _).far (p := ⟨w.heap.size, 1, none⟩) (show w.heap.size < w.heap.size + 1 + 1 + 1 by omega) _).far (p := ⟨w.heap.size, 2, none⟩) (show w.heap.size < w.heap.size + 1 + 1 + 1 by omega) _).far (p := ⟨w.heap.size + 1, 0, none⟩) (show w.heap.size + 1 < w.heap.size + 1 + 1 + 1 by omega) _⟩
            have HYF : Aside0 (Ro k94 94 ((((w13.setCell ⟨w.heap.size, 0, none⟩ (.slice A7 ps.1.length c7)).setCell ⟨w.heap.size, 1, none⟩ (.slice A9 qs.1.length c9)).setCell ⟨w.heap.size, 2, none⟩ (.slice A11 (byS ps.1.length rs).length c11)).setCell ⟨w.heap.size + 1, 0, none⟩ (.int .i64 0)) _ _ _ _) := ⟨(((HY4.out.far (p := ⟨w.heap.size, 0, none⟩) (show w.heap.size < w7.heap.size by omega) _).far (p := ⟨w.heap.size, 1, none⟩) (show w.heap.size < w7.heap.size by omega) _).far (p := ⟨w.heap.size, 2, none⟩) (show w.heap.size < w7.heap.size by omega) _).far (p := ⟨w.heap.size + 1, 0, none⟩) (show w.heap.size + 1 < w7.heap.size by omega) _⟩
            have HEF : Aside0 (Ro k59 59 ((((w13.setCell ⟨w.heap.size, 0, none⟩ (.slice A7 ps.1.length c7)).setCell ⟨w.heap.size, 1, none⟩ (.slice A9 qs.1.length c9)).setCell ⟨w.heap.size, 2, none⟩ (.slice A11 (byS ps.1.length rs).length c11)).setCell ⟨w.heap.size + 1, 0, none⟩ (.int .i64 0)) _ _ _ _) := ⟨(((HE4.out.far (p := ⟨w.heap.size, 0, none⟩) (show w.heap.size < w9.heap.size by omega) _).far (p := ⟨w.heap.size, 1, none⟩) (show w.heap.size < w9.heap.size by omega) _).far (p := ⟨w.heap.size, 2, none⟩) (show w.heap.size < w9.heap.size by omega) _).far (p := ⟨w.heap.size + 1, 0, none⟩) (show w.heap.size + 1 < w9.heap.size by omega) _⟩
            have HZF : Aside0 (w11.heap.size ≤ ((((w13.setCell ⟨w.heap.size, 0, none⟩ (.slice A7 ps.1.length c7)).setCell ⟨w.heap.size, 1, none⟩ (.slice A9 qs.1.length c9)).setCell ⟨w.heap.size, 2, none⟩ (.slice A11 (byS ps.1.length rs).length c11)).setCell ⟨w.heap.size + 1, 0, none⟩ (.int .i64 0)).heap.size) := ⟨by simpa [World.setCell] using HLT4.out⟩
            have HLT5 : Aside0 (w9.heap.size ≤ w11.heap.size) := ⟨by have := HLT3.out; simpa [World.setCell] using this⟩
            generalize ((((w13.setCell ⟨w.heap.size, 0, none⟩ (.slice A7 ps.1.length c7)).setCell ⟨w.heap.size, 1, none⟩ (.slice A9 qs.1.length c9)).setCell ⟨w.heap.size, 2, none⟩ (.slice A11 (byS ps.1.length rs).length c11)).setCell ⟨w.heap.size + 1, 0, none⟩ (.int .i64 0)) = wf at *
            obtain ⟨z0, z1, z2, z3, _⟩ := HSF.out.at_
            refine leaves_cons (f := 29) (args := #[.pointer (some ⟨w.heap.size, 0, none⟩), .pointer (some ⟨w.heap.size + 1, 0, none⟩)]) (by simp) (by simp [go_sem]) ?_
            refine (rec_idle _ _ _).mono ?_
            rintro e u' wz ⟨rfl, rfl, rfl⟩
            have hfin : ReadRes b w (.returned (.tuple #[.agg #[.slice A7 ps.1.length c7, .slice A9 qs.1.length c9, .slice A11 (byS ps.1.length rs).length c11], .int .i64 0])) wz := by
              obtain ⟨T0, t0, t1⟩ := HRF.out.r
              obtain ⟨T1, u0, u1⟩ := HYF.out.r
              obtain ⟨T2, v0, v1⟩ := HEF.out.r
              have k1 := HZF.out
              have k2 := HLT5.out
              unfold ReadRes
              rw [HRS.out]
              refine ⟨T0, T1, T2, _, _, _, rfl, HSF.out.bl, t0, u0, v0, fun k hk => ?_, fun k hk => ⟨fun hk2 => ?_, fun hk2 => ?_⟩, fun k hk hk2 => ?_⟩
              · rcases hk with hk | hk | hk
                · have := t1 k hk; omega
                · have := u1 k hk; omega
                · have := v1 k hk; omega
              · have := t1 k hk; have := u1 k hk2; omega
              · have := t1 k hk; have := v1 k hk2; omega
              · have := u1 k hk; have := v1 k hk2; omega
            clear HRF HYF HEF HSF HRS HZF HS13 HR4 HY4 HE4 q0 q1 q2 q3 f0 f1 f2 f3
            simp [Leaves, settle, results, Try.results11, go_sem, z0, z1, z2, z3]
            exact hfin
theorem Read_calls (A : Option Addr) (c : Nat) (b : List Int) (hb : AllBytes b) (hl : b.length < 140737488355328) (w : World) (h : Kd.C (Kd.int .u8) w A b.length b) (hc : b.length ≤ c) :
    Calls Try.prog 11 #[.slice A b.length c] w fun e w' => ReadRes b w e w' := by
  cases hr : tabS b with
  | error er => exact Read_tab A c b hb hl er hr w h hc
  | ok rows => exact Read_rows A c b hb rows hr w h hc
end Go.Proofs.Ytockojajbnnbpaa.E
namespace Go.Proofs.Ytockojajbnnbpaa.E
open Go.RowKit Go.Proofs.Ytockojajbnnbpaa.Q Go.Proofs.YtockojajbnnbpaaW.PrintWords Go.Proofs.YtockojajbnnbpaaW.PrintLast Go.Proofs.YtockojajbnnbpaaW.PrintMore
set_option linter.unusedVariables false
set_option linter.unusedSimpArgs false
theorem cntE2_is (n : Nat) (h0 : 1 ≤ n) (h1 : n < 65536) : bits .or .u32 ((n : Int) % 4294967296) (((n : Int) - 1) % 4294967296 * 65536 % 4294967296) = (n : Int) + 65536 * ((n : Int) - 1) := by
  rw [show ((n : Int) - 1) % 4294967296 * 65536 % 4294967296 = 65536 * ((n : Int) - 1) by omega, show (n : Int) % 4294967296 = n by omega]
  exact or_lo 16 _ _ (by omega) (by omega) (by omega) (by omega) (by omega) (by omega)
theorem info5s : (Try.prog.info? 5).map (·.size) = some 1 := by kernel_rfl
theorem relE2_is (y2 y3 : Int) (a0 : 0 ≤ y2) (a1 : y2 ≤ 255) (b0 : -1 ≤ y3) (b1 : y3 < 512) : bits .or .u32 (wrap64 (y3 + 1) % 4294967296 * 256 % 4294967296) (y2 % 4294967296) = 256 * (y3 + 1) + y2 := by
  have h := relE_is y2 y3 a0 a1 b0 b1
  rw [u32w, u32w] at h
  exact h
theorem keepA6 {W W2 : World} {p : Nat} {v0 v1 v2 v3 v4 v5 : Value} (hb : p < W.heap.size → W2.heap[p]? = W.heap[p]?) (h : W.cell? ⟨p, 0, none⟩ = some v0 ∧ W.cell? ⟨p, 1, none⟩ = some v1 ∧ W.cell? ⟨p, 2, none⟩ = some v2 ∧ W.cell? ⟨p, 3, none⟩ = some v3 ∧ W.cell? ⟨p, 4, none⟩ = some v4 ∧ W.cell? ⟨p, 5, none⟩ = some v5) :
    W2.cell? ⟨p, 0, none⟩ = some v0 ∧ W2.cell? ⟨p, 1, none⟩ = some v1 ∧ W2.cell? ⟨p, 2, none⟩ = some v2 ∧ W2.cell? ⟨p, 3, none⟩ = some v3 ∧ W2.cell? ⟨p, 4, none⟩ = some v4 ∧ W2.cell? ⟨p, 5, none⟩ = some v5 := by
  obtain ⟨h0, h1, h2, h3, h4, h5⟩ := h
  have hc : ∀ i u, W.cell? ⟨p, i, none⟩ = some u → W2.cell? ⟨p, i, none⟩ = some u := fun i u hu => (World.cell?_of_block (a := ⟨p, i, none⟩) (hb (World.block_lt_of_cell? _ _ h0))).trans hu
  exact ⟨hc _ _ h0, hc _ _ h1, hc _ _ h2, hc _ _ h3, hc _ _ h4, hc _ _ h5⟩
theorem Mst.of_pst {w0 wa W : World} {p0 : Nat} {A0 A1 A2 : Option Addr} {c0 c1 c2 : Nat} {o : Ob} {S1 S2 S3 : Nat → Prop} {gw gn go : Nat} {s : Wst} {names own : List Int} (h : Mst w0 p0 A0 A1 A2 c0 c1 c2 o wa) (p : Pst wa W S1 S2 S3 gw gn go s names own) : Mst w0 p0 A0 A1 A2 c0 c1 c2 o W := h.below p.t.b
set_option maxRecDepth 100000 in
set_option maxHeartbeats 32000000 in
theorem Put_calls {A0 A1 A2 : Option Addr} {c0 c1 c2 : Nat} {o : Ob} (hg : ObRg o) (w : World) (h : ObC w A0 A1 A2 c0 c1 c2 o) :
    Calls Try.prog 9 #[obV A0 A1 A2 c0 c1 c2 o] w fun e w' => ∃ v L er, e = .returned (.tuple #[v, .int .i64 er]) ∧ (MayP o → L = putS o ∧ er = 0) ∧ (¬ MayP o → L = [] ∧ er = 2) ∧ Kd.R (Kd.int .u8) 5 w' w.heap.size (fun _ => True) v L ∧ Below w.heap.size w w' := by
  have hu26 := Try.underlying26
  have hu40 := Try.underlying40
  have hu59 := Try.underlying59
  have hu47 := Try.underlying47
  have hu50 := Try.underlying50
  have hu53 := Try.underlying53
  have HG := Aside0.mk hg
  have HM := Aside0.mk (Mst.init w h)
  clear h hg
  unfold obV
  go_enter Try.func9, Try.ntmps9
  go_wp2_with fail
  generalize (w.alloc (.cells #[.slice A0 o.secs.length c0, .slice A1 o.syms.length c1, .slice A2 o.rels.length c2] 26)) = wb at *
  obtain ⟨p0, hp0⟩ : ∃ p, p = w.heap.size := ⟨_, rfl⟩
  rw [← hp0] at HM ⊢
  clear hp0
  refine (may_calls HG.out _ HM.out.c).mono ?_
  rintro e wa ⟨r, rfl, hr, hb⟩
  replace HM := Aside0.mk (HM.out.below hb)
  have HR := Aside0.mk hr
  clear hb hr
  cases r with
  | false =>
    have HNO : Aside0 (¬ MayP o) := ⟨fun h => absurd (HR.out.2 h) (by decide)⟩
    clear HR
    go_wp2
    go_ret2
    exact ⟨_, [], 2, rfl, fun h => absurd h HNO.out, fun _ => ⟨rfl, rfl⟩, Kd.R_nil _ _ _ _ _, HM.out.b⟩
  | true =>
    have HMAY := Aside0.mk (HR.out.1 rfl)
    clear HR
    have k0 := HM.out.k0
    have HA := Aside0.mk HM
    go_wp2_with (first | ((with_reducible refine gate_dst (N := 26) rfl ?_); refine ev_make rfl (N := 26) rfl _ _ rfl 52 rfl rfl (by decide) ?_; intro L0 A7 c7 w1 hL0 hr0 hb0; have HL0 := hL0; have HI0 := Aside0.mk (Pst.init hb0 hr0); clear hL0 hr0 hb0) | ((with_reducible refine gate_dst (N := 36) rfl ?_); refine ev_box rfl (N := 36) rfl (cs := #[.slice (some ⟨w1.heap.size + 4, 0, none⟩) 1 1]) (t := 53) ?hr ?_; (case hr => first | (go_simp; done) | (go_simp; rfl)); intro gy w2 hgy hw2; obtain ⟨S1, S2, S3, hI⟩ := HI0.out; have hgy2 : gy = w1.heap.size + 5 := (by rw [hgy]; simp); have hI2 : Pst wa w2 S1 S2 S3 (w1.heap.size + 1) (w1.heap.size + 1 + 1 + 1) gy ⟨L0, [z47]⟩ [0] [0] := (by rw [hw2, hgy2]; exact hI); have k0' := (HM.out.of_pst hI2).k0; have HI := Aside0.mk hI2; clear HI0 hI hI2 hgy hw2 hgy2))
    clear k0 k0' HA
    generalize w1.heap.size + 1 + 1 + 1 = gn at *
    generalize w1.heap.size + 1 = gw at *
    have HF0 : Aside0 (∃ S1 S2 S3, Pst wa w2 S1 S2 S3 gw gn gy ((o.secs.take 0).foldl secStep (⟨L0, [z47]⟩, [0])).1 ((o.secs.take 0).foldl secStep (⟨L0, [z47]⟩, [0])).2 [0]) := ⟨⟨S1, S2, S3, HI.out⟩⟩
    have hl0 : L0.length = 52 := by rw [HL0.out]; simp
    have HL52 := Aside0.mk hl0
    clear HI hl0
    go_loopg [40] (o.secs.length + 1) (fun kq v40 w' => ∃ (i : Nat), v40 = .int .i64 (i : Int) ∧ Aside0 (i + kq = o.secs.length + 1) ∧ Aside0 (i ≤ o.secs.length) ∧ Aside0 (∃ S1 S2 S3, Pst wa w' S1 S2 S3 gw gn gy ((o.secs.take i).foldl secStep (⟨L0, [z47]⟩, [0])).1 ((o.secs.take i).foldl secStep (⟨L0, [z47]⟩, [0])).2 [0]))
    case atStart => exact ⟨0, rfl, ⟨by omega⟩, ⟨by omega⟩, HF0⟩
    case round =>
      clear HF0
      obtain ⟨i, rfl, HK, HI, HP⟩ := hrel
      by_cases ci : i < o.secs.length
      · cases gk with
        | zero => exact absurd HK.out (by have := HI.out; omega)
        | succ gk =>
          obtain ⟨S1, S2, S3, hp⟩ := HP.out
          have hm := HM.out.of_pst hp
          obtain ⟨ad, A5, c5, ea, x0, x1, x2, x3, x4, x5, l5, g5⟩ := at_T40 HM.out.c.r0 (i : Int) (by omega) (by omega)
          cases ea
          rw [Int.toNat_natCast] at x0 x1 x2 x3 x4 x5
          replace x0 := (hp.t.b.cell (World.block_lt_of_cell? wa _ x0)).trans x0
          replace x1 := (hp.t.b.cell (World.block_lt_of_cell? wa _ x1)).trans x1
          replace x2 := (hp.t.b.cell (World.block_lt_of_cell? wa _ x2)).trans x2
          replace x3 := (hp.t.b.cell (World.block_lt_of_cell? wa _ x3)).trans x3
          replace x4 := (hp.t.b.cell (World.block_lt_of_cell? wa _ x4)).trans x4
          replace x5 := (hp.t.b.cell (World.block_lt_of_cell? wa _ x5)).trans x5
          have hmem := rd40_mem o.secs i ci
          have hst := secStep_at o.secs i ci (⟨L0, [z47]⟩, [0])
          have hsl := st1_len (o.secs.take i) (⟨L0, [z47]⟩, [0]) (fun x hx => by
            have hx2 := HMAY.out.2.1 x (List.mem_of_mem_take hx)
            have hx3 := HG.out.secs x (List.mem_of_mem_take hx)
            refine ⟨?_, hx2.1.2⟩
            rcases hx2.2.2.2 with h1 | h1
            · have := hx3.2.2.2.2.1.2; omega
            · rw [h1.2]; simp)
          have hsx := HMAY.out.2.1 _ hmem
          have hrx := HG.out.secs _ hmem
          have hi64 := HMAY.out.1.1
          rw [List.length_take, Nat.min_eq_left (by omega)] at hsl
          generalize rd_T40 o.secs (i : Int) = x at x0 x1 x2 x3 x4 x5 l5 g5 hst hsx hrx hmem
          generalize (o.secs.take i).foldl secStep (⟨L0, [z47]⟩, [0]) = F at *
          have hl0 := HL52.out
          have hbd : Aside0 (F.1.b.length ≤ 300000000000 ∧ F.1.rows.length ≤ 65 ∧ 0 < F.2.length ∧ F.2.length ≤ 5000 ∧ x.f0.size ≤ 64 ∧ x.f5.length < 4294967296) := ⟨by
            simp only [List.length_singleton] at hsl
            have h6 := hsx.1.2
            have h7 : x.f5.length < 4294967296 := by
              rcases hsx.2.2.2 with h1 | h1
              · have := hrx.2.2.2.2.1.2; omega
              · rw [h1.2]; simp
            omega⟩
          have HST := Aside0.mk hst
          have HI2 := Aside0.mk ci
          have HPP := Aside0.mk hp
          have G5 := Aside0.mk g5
          have p1 : ((i : Int) < (o.secs.length : Int)) = True := eq_true (by omega)
          have p2 : (i < o.secs.length) = True := eq_true ci
          have p3 : 0 ≤ (i : Int) := by omega
          have hw := w64s i (by omega)
          have hsz := hp.t.b.size
          have NP1 : ¬ S1 wr.heap.size := fun h => Nat.lt_irrefl _ (hp.t.q1 _ h).2
          have NP2 : ¬ S2 wr.heap.size := fun h => Nat.lt_irrefl _ (hp.t.q2 _ h).2
          clear hst ci hp hm g5 l5 hmem hsl hsx hrx hi64 hl0 HP HI
          obtain ⟨y0, y1, y2, y3, y4, y5⟩ := x
          simp only at x0 x1 x2 x3 x4 x5
          go_wp2
          have HB := Aside0.mk (heap_alloc_new wr (.cells #[.string y0, .int .u32 y1, .int .u32 y2, .int .u32 y3, .int .u32 y4, .slice A5 y5.length c5] 40))
          have hal := below_alloc (Below.refl wr.heap.size wr) (.cells #[.string y0, .int .u32 y1, .int .u32 y2, .int .u32 y3, .int .u32 y4, .slice A5 y5.length c5] 40)
          have hpd := HPP.out.below (below_drew hal)
          clear x0 x1 x2 x3 x4 x5 hal HPP hsz
          generalize (wr.alloc (.cells #[.string y0, .int .u32 y1, .int .u32 y2, .int .u32 y3, .int .u32 y4, .slice A5 y5.length c5] 40)) = w3 at *
          generalize wr.heap.size = p at *
          have hs : w3.cell? ⟨p, 0, none⟩ = some (.string y0) ∧ w3.cell? ⟨p, 1, none⟩ = some (.int .u32 y1) ∧ w3.cell? ⟨p, 2, none⟩ = some (.int .u32 y2) ∧ w3.cell? ⟨p, 3, none⟩ = some (.int .u32 y3) ∧ w3.cell? ⟨p, 4, none⟩ = some (.int .u32 y4) ∧ w3.cell? ⟨p, 5, none⟩ = some (.slice A5 y5.length c5) :=
            ⟨(blk_cell HB.out 0).trans rfl, (blk_cell HB.out 1).trans rfl, (blk_cell HB.out 2).trans rfl, (blk_cell HB.out 3).trans rfl, (blk_cell HB.out 4).trans rfl, (blk_cell HB.out 5).trans rfl⟩
          clear HB
          go_region_held3 (fun w' => w'.cell? ⟨p, 0, none⟩ = some (.string y0) ∧ w'.cell? ⟨p, 1, none⟩ = some (.int .u32 y1) ∧ w'.cell? ⟨p, 2, none⟩ = some (.int .u32 y2) ∧ w'.cell? ⟨p, 3, none⟩ = some (.int .u32 y3) ∧ w'.cell? ⟨p, 4, none⟩ = some (.int .u32 y4) ∧ w'.cell? ⟨p, 5, none⟩ = some (.slice A5 y5.length c5)) (first | with_reducible assumption | (with_reducible refine keepA6 keepD ?_; with_reducible assumption) | (with_reducible refine keepA6 (keepA _) ?_; with_reducible assumption) | (with_reducible exact keepA6 (keepF (by with_reducible assumption) (by with_reducible assumption)) (by with_reducible assumption))) (first | (go_at_call 24; ((with_reducible refine (addN_ps y0 (by with_reducible assumption) hbd.out.2.2.1 (by have := hbd.out; omega)).mono ?_)); rintro e w' ⟨rfl, S2', hy', hf'⟩; have hC := Kd.C_below G5.out hy'.t.b) | (go_at_call 23; ((with_reducible refine (part_pr (addS F.2 y0).1 y1 y2 0 0 y4 0 0 y3 0 y5 (by with_reducible assumption) (by with_reducible assumption) (by have := hbd.out; omega) (by have := hbd.out; omega)).mono ?_)); rintro e w' ⟨rfl, S1', hyw, hf'⟩))
          have HE := Aside0.mk hyw
          go_wp2
          go_roundg gk
          case measure => omega
          case rel => exact ⟨i + 1, (by first | exact congrArg (Value.int .i64) hw | (simp; done)), ⟨by have := HK.out; omega⟩, ⟨HI2.out⟩, ⟨_, _, _, by rw [HST.out]; exact HE.out⟩⟩
      · have hi : i = o.secs.length := by have := HI.out; omega
        subst hi
        rw [List.take_length] at HP
        have HP1 : Aside0 (∃ S1 S2 S3, Pst wa wr S1 S2 S3 gw gn gy (st1 o).1 (st1 o).2 [0]) := ⟨by rw [HL0.out] at HP; exact HP.out⟩
        have HS1 : Aside0 ((st1 o).1.b.length ≤ 300000000000 ∧ (st1 o).1.rows.length = 1 + o.secs.length ∧ 0 < (st1 o).2.length ∧ (st1 o).2.length ≤ 5000) := ⟨by
          have hsl := st1_len o.secs (⟨List.replicate 52 0, [z47]⟩, [0]) (fun x hx => by
            have hx2 := HMAY.out.2.1 x hx
            have hx3 := HG.out.secs x hx
            refine ⟨?_, hx2.1.2⟩
            rcases hx2.2.2.2 with h1 | h1
            · have := hx3.2.2.2.2.1.2; omega
            · rw [h1.2]; simp)
          have hi64 := HMAY.out.1.1
          simp only [List.length_singleton, List.length_replicate] at hsl
          unfold st1
          omega⟩
        obtain ⟨S1, S2, S3, hp⟩ := HP1.out
        have hm := HM.out.of_pst hp
        have k1 := hm.k1
        have HPP := Aside0.mk hp
        clear HP HP1 hp hm HI HK ci HL52
        go_wp2_with fail
        clear k1
        refine (symbols_calls (A := A1) (c := c1) (S := S3) o.syms _ HPP.out.y (HM.out.of_pst HPP.out).c.r1 (fun hl ad e hS => by
          have h1 := C_old (by decide) HM.out.c.r1 hl ad e
          have h2 := (HPP.out.t.q3 _ hS).1
          omega) (fun x hx => by
          obtain ⟨j, hjx⟩ := List.mem_iff_getElem?.1 hx
          have hj := (List.getElem?_eq_some_iff.1 hjx).1
          have h1 := (HMAY.out.2.2.1 j hj x hjx).1
          exact ⟨(HG.out.syms x hx).1, h1.1.2, h1.2.1, h1.2.2.1, h1.2.2.2.1, by have h2 := h1.2.2.2.2; have h3 := HMAY.out.1.1; omega⟩) HMAY.out.1.2.1).mono ?_
        rintro e w4 ⟨v, Sb, S3', rfl, hRb, hTy, hTwo⟩
        have HPP2 := Aside0.mk (HPP.out.setY hTy hTwo.ow)
        have HSB : Aside0 (∀ k, Sb k → ¬ S1 k) := ⟨fun k hk h1 => by have := (hTwo.n1 k hk).1; have := (HPP.out.t.q1 k h1).2; omega⟩
        obtain ⟨Ab, cb, rfl⟩ := Kd.R_slice hRb
        obtain ⟨_, _, eb, _, hCb⟩ := Kd.R_reads hRb
        injection eb with eb1 eb2 eb3
        subst eb1
        have HCB := Aside0.mk hCb
        have HYL : Aside0 ((yst o).b.length ≤ 10000 ∧ (yst o).own.length ≤ 40000) := ⟨by
          have h1 := symB_len o.syms ⟨List.replicate 16 0, [0], 1⟩
          have h2 := symO_len o.syms (fun x hx => by
            obtain ⟨j, hjx⟩ := List.mem_iff_getElem?.1 hx
            have hj := (List.getElem?_eq_some_iff.1 hjx).1
            exact (HMAY.out.2.2.1 j hj x hjx).1.1.2) ⟨List.replicate 16 0, [0], 1⟩
          have h3 := HMAY.out.1.2.1
          unfold yst
          simp only [List.length_replicate, List.length_singleton] at h1 h2
          omega⟩
        rw [show o.syms.foldl symStep ⟨List.replicate 16 0, [0], 1⟩ = yst o from rfl] at HPP2 HCB ⊢
        clear HPP hTy hTwo hRb hCb eb2 eb3
        obtain ⟨vb, vr, hV⟩ := HPP2.out.w
        obtain ⟨Ar, cr, rfl⟩ := Kd.R_slice hV.rr
        have hc1 := hV.at1.1
        clear hV
        go_wp2_with fail
        have HAT1 : ((st1 o).1.rows.length : Int) % 4294967296 = atS o := by have := HS1.out; have := HMAY.out.1.1; unfold atS; omega
        have HAT2 : (((st1 o).1.rows.length : Int) + 1) % 4294967296 = atS o + 1 := by have := HS1.out; have := HMAY.out.1.1; unfold atS; omega
        rw [HAT1, HAT2]
        clear hc1 HAT1 HAT2
        refine (part_pr 0 2 0 0 0 0 (atS o + 1) (yst o).loc 4 16 (yst o).b HPP2.out HCB.out (by have := HS1.out; have := HYL.out; omega) (by have := HS1.out; have := HMAY.out.1.1; omega)).mono ?_
        rintro e w5 ⟨rfl, S1', hp5, hf5⟩
        have HS2 : Aside0 ((st2 o).b.length ≤ 300000020000 ∧ (st2 o).rows.length = 2 + o.secs.length) := ⟨by
          have h1 := partS_len (st1 o).1 ⟨0, 2, 0, 0, 0, 0, atS o + 1, (yst o).loc, 4, 16⟩ (yst o).b
          have := HS1.out; have := HYL.out; unfold st2; omega⟩
        change Pst wa w5 S1' S2 S3' gw gn gy (st2 o) (st1 o).2 (yst o).own at hp5
        have HP5 := Aside0.mk hp5
        obtain ⟨vy, hY⟩ := hp5.y
        obtain ⟨Ay, cy, rfl⟩ := Kd.R_slice hY.rb
        obtain ⟨_, _, eb, _, hCy⟩ := Kd.R_reads hY.rb
        injection eb with eb1 eb2 eb3
        subst eb1
        have hc0 := hY.at0.1
        have HCY := Aside0.mk hCy
        clear hp5 hf5 hY hCy eb2 eb3 HPP2 HCB HSB
        go_wp2_with fail
        clear hc0
        refine (part_pr 0 3 0 0 0 0 0 0 1 0 (yst o).own HP5.out HCY.out (by have := HS2.out; have := HYL.out; omega) (by have := HS2.out; have := HMAY.out.1.1; omega)).mono ?_
        rintro e w6 ⟨rfl, S1, hp6, hf6⟩
        have HS3 : Aside0 ((st3 o).b.length ≤ 300000070000 ∧ (st3 o).rows.length = 3 + o.secs.length) := ⟨by
          have h1 := partS_len (st2 o) ⟨0, 3, 0, 0, 0, 0, 0, 0, 1, 0⟩ (yst o).own
          have := HS2.out; have := HYL.out; unfold st3; omega⟩
        change Pst wa w6 S1 S2 S3' gw gn gy (st3 o) (st1 o).2 (yst o).own at hp6
        have HP6 : Aside0 (∃ S1 S2 S3, Pst wa w6 S1 S2 S3 gw gn gy ((List.range 0).foldl (relStep o.rels (atS o)) (st3 o)) (st1 o).2 (yst o).own) := ⟨⟨_, _, _, hp6⟩⟩
        have k0 := (HM.out.of_pst hp6).k0
        clear hp6 hf6 HP5 HCY
        go_wp2_with fail
        clear k0
        go_loopg [92] (o.secs.length + 1) (fun kq v92 w' => ∃ (i : Nat), v92 = .int .i64 (i : Int) ∧ Aside0 (i + kq = o.secs.length + 1) ∧ Aside0 (i ≤ o.secs.length) ∧ Aside0 (∃ S1 S2 S3, Pst wa w' S1 S2 S3 gw gn gy ((List.range i).foldl (relStep o.rels (atS o)) (st3 o)) (st1 o).2 (yst o).own))
        case atStart => exact ⟨0, rfl, ⟨by omega⟩, ⟨by omega⟩, HP6⟩
        case round =>
          clear HP6
          obtain ⟨i, rfl, HK, HI, HP⟩ := hrel
          by_cases ci : i < o.secs.length
          · cases gk with
            | zero => exact absurd HK.out (by have := HI.out; omega)
            | succ gq =>
              obtain ⟨S1, S2, S3, hp⟩ := HP.out
              have hfl := relF_len o.rels (atS o) (st3 o) HMAY.out.1.2.2.1 i
              have hfs := relF_snoc o.rels (atS o) (st3 o) i
              generalize (List.range i).foldl (relStep o.rels (atS o)) (st3 o) = F at *
              have HFL : Aside0 (F.b.length ≤ 400000000000 ∧ F.rows.length ≤ 1000) := ⟨by have := HS3.out; have := HMAY.out.1.1; omega⟩
              have HFS := Aside0.mk hfs
              have HI2 := Aside0.mk ci
              have p1 : ((i : Int) < (o.secs.length : Int)) = True := eq_true (by omega)
              have p2 : (i < o.secs.length) = True := eq_true ci
              have p3 : 0 ≤ (i : Int) := by omega
              have hw := w64s i (by have := HMAY.out.1.1; omega)
              have HX0 : Aside0 (∃ Sx, Xst wa (wr.alloc (.cells #[.slice none 0 0, .slice none 0 0] 50)) wr.heap.size S1 S2 S3 Sx gw gn gy wr.heap.size F (st1 o).2 (yst o).own (relB (o.rels.take 0) (i : Int))) := ⟨_, Xst.init hp⟩
              have ka2 : (wr.alloc (.cells #[.slice none 0 0, .slice none 0 0] 50)).cell? ⟨p0, 2, none⟩ = some (.slice A2 o.rels.length c2) := by
                obtain ⟨Sx, hx⟩ := HX0.out
                exact (HM.out.of_pst hx.p).k2
              clear hp hfl hfs ci HP HI
              go_wp2_with fail
              clear ka2
              generalize (wr.alloc (.cells #[.slice none 0 0, .slice none 0 0] 50)) = w7 at *
              generalize wr.heap.size = gx at *
              go_loopg [100] (o.rels.length + 1) (fun kq v100 w' => ∃ (j : Nat), v100 = .int .i64 (j : Int) ∧ Aside0 (j + kq = o.rels.length + 1) ∧ Aside0 (j ≤ o.rels.length) ∧ Aside0 (∃ Sx, Xst wa w' gx S1 S2 S3 Sx gw gn gy gx F (st1 o).2 (yst o).own (relB (o.rels.take j) (i : Int))))
              case atStart => exact ⟨0, rfl, ⟨by omega⟩, ⟨by omega⟩, HX0⟩
              case round =>
                clear HX0
                obtain ⟨j, rfl, HKJ, HJ, HX⟩ := hrel
                by_cases cj : j < o.rels.length
                · cases gk with
                  | zero => exact absurd HKJ.out (by have := HJ.out; omega)
                  | succ gk =>
                    obtain ⟨Sx, hx⟩ := HX.out
                    obtain ⟨ad, ea, x0, x1, x2, x3, x4⟩ := at_T59 HM.out.c.r2 (j : Int) (by omega) (by omega)
                    cases ea
                    rw [Int.toNat_natCast] at x0 x1 x2 x3 x4
                    replace x0 := (hx.p.t.b.cell (World.block_lt_of_cell? wa _ x0)).trans x0
                    replace x1 := (hx.p.t.b.cell (World.block_lt_of_cell? wa _ x1)).trans x1
                    replace x2 := (hx.p.t.b.cell (World.block_lt_of_cell? wa _ x2)).trans x2
                    replace x3 := (hx.p.t.b.cell (World.block_lt_of_cell? wa _ x3)).trans x3
                    replace x4 := (hx.p.t.b.cell (World.block_lt_of_cell? wa _ x4)).trans x4
                    have hq := rd59_get o.rels j cj
                    have hsn := relB_snoc o.rels j cj (i : Int) _ hq
                    have hmy := HMAY.out.2.2.2 j cj _ hq
                    have hrg := HG.out.rels _ (List.mem_of_getElem? hq)
                    have hbl := relB_len (o.rels.take j) (i : Int)
                    rw [List.length_take] at hbl
                    generalize rd_T59 o.rels (j : Int) = y at x0 x1 x2 x3 x4 hq hsn hmy hrg
                    generalize relB (o.rels.take j) (i : Int) = R at *
                    have HMY := Aside0.mk (And.intro hmy.2.2.1 (And.intro hmy.2.2.2.1 (And.intro hrg.1 hrg.2.1)))
                    have HSN := Aside0.mk hsn
                    have HJ2 := Aside0.mk cj
                    have HRL : Aside0 (R.length < 100000) := ⟨by have := HMAY.out.1.2.2.1; omega⟩
                    have q1 : ((j : Int) < (o.rels.length : Int)) = True := eq_true (by omega)
                    have q2 : (j < o.rels.length) = True := eq_true cj
                    have q3 : 0 ≤ (j : Int) := by omega
                    have hwj := w64s j (by have := HMAY.out.1.2.2.1; omega)
                    clear hq hsn hmy hrg hbl cj HJ HX
                    obtain ⟨y0, y1, y2, y3, y4⟩ := y
                    simp only at x0 x1 x2 x3 x4
                    have HXA := Aside0.mk (hx.below (below_alloc (Below.refl wr.heap.size wr) (.cells #[.int .i64 y0, .int .u32 y1, .int .u8 y2, .int .i64 y3, .int .i32 y4] 59)))
                    clear hx
                    by_cases e0 : y0 = (i : Int)
                    · subst e0
                      have HE := Aside0.mk (relE2_is y2 y3 HMY.out.2.2.2.1 HMY.out.2.2.2.2 HMY.out.1 (by have h1 : y3 < (o.syms.length : Int) := HMY.out.2.1; have h2 := HMAY.out.1.2.1; omega))
                      go_wp2_with fail
                      obtain ⟨Sx2, hxa⟩ : ∃ Sx, Xst wa (wr.alloc (.cells #[.int .i64 (i : Int), .int .u32 y1, .int .u8 y2, .int .i64 y3, .int .i32 y4] 59)) gx S1 S2 S3 Sx gw gn gy gx F (st1 o).2 (yst o).own R := ⟨_, HXA.out⟩
                      have hcall := word_xs y1 (256 * (y3 + 1) + y2) (y4 % 4294967296) y1 _ _ rfl HE.out rfl hxa HMY.out.2.2.1 (by have h1 : y3 < (o.syms.length : Int) := HMY.out.2.1; have h2 := HMAY.out.1.2.1; have h3 : -1 ≤ y3 := HMY.out.1; have h4 : 0 ≤ y2 ∧ y2 ≤ 255 := HMY.out.2.2.2; omega) (by omega) (by have := HRL.out; omega)
                      rw [show (wr.alloc (.cells #[.int .i64 (i : Int), .int .u32 y1, .int .u8 y2, .int .i64 y3, .int .i32 y4] 59)).heap.size = wr.heap.size + 1 by simp] at hcall
                      clear x0 x1 x2 x3 x4 hxa HXA
                      refine hcall.mono ?_
                      clear hcall
                      rintro e w9 ⟨rfl, Sx3, hx3⟩
                      have HX3 := Aside0.mk hx3
                      clear hx3
                      go_wp2
                      go_roundg gk
                      case measure => omega
                      case rel => exact ⟨j + 1, (by first | exact congrArg (Value.int .i64) hwj | (simp; done)), ⟨by have := HKJ.out; omega⟩, ⟨HJ2.out⟩, ⟨_, by rw [HSN.out]; first | (rw [if_pos rfl]; exact HX3.out) | (rw [if_pos trivial]; exact HX3.out)⟩⟩
                    · have f0 : (y0 == (i : Int)) = false := by simpa using e0
                      go_wp2
                      go_roundg gk
                      case measure => omega
                      case rel => exact ⟨j + 1, (by first | exact congrArg (Value.int .i64) hwj | (simp; done)), ⟨by have := HKJ.out; omega⟩, ⟨HJ2.out⟩, ⟨_, by rw [HSN.out, if_neg e0, List.append_nil]; exact HXA.out⟩⟩
                · have hj : j = o.rels.length := by have := HJ.out; omega
                  subst hj
                  rw [List.take_length] at HX
                  obtain ⟨Sx, hx⟩ := HX.out
                  have hbl := relB_len o.rels (i : Int)
                  obtain ⟨vx, vy, hV⟩ := hx.x
                  obtain ⟨Ax, cx, rfl⟩ := Kd.R_slice hV.rb
                  obtain ⟨_, _, eb, _, hCx⟩ := Kd.R_reads hV.rb
                  injection eb with eb1 eb2 eb3
                  subst eb1
                  have hc0 := hV.at0.1
                  have HXX := Aside0.mk hx.p
                  have HCX := Aside0.mk hCx
                  have HBL := Aside0.mk hbl
                  clear hx hbl hV hCx eb2 eb3 HX HJ HKJ cj
                  by_cases e1 : relB o.rels (i : Int) = []
                  · have f1 : decide ((0 : Int) < ((relB o.rels (i : Int)).length : Int)) = false := by rw [e1]; rfl
                    have f2 : (0 < (relB o.rels (i : Int)).length) = False := by rw [e1]; exact eq_false (by simp)
                    have HST : Aside0 (relStep o.rels (atS o) F i = F) := ⟨by unfold relStep; rw [if_pos e1]⟩
                    clear e1
                    go_wp2
                    go_roundg gq
                    case measure => omega
                    case rel => exact ⟨i + 1, (by first | exact congrArg (Value.int .i64) hw | (simp; done)), ⟨by have := HK.out; omega⟩, ⟨HI2.out⟩, ⟨_, _, _, by rw [HFS.out, HST.out]; exact HXX.out⟩⟩
                  · have hlen : 0 < (relB o.rels (i : Int)).length := List.length_pos_iff.2 e1
                    have f1 : decide ((0 : Int) < ((relB o.rels (i : Int)).length : Int)) = true := decide_eq_true (by omega)
                    have f2 : (0 < (relB o.rels (i : Int)).length) = True := eq_true hlen
                    have HST : Aside0 (relStep o.rels (atS o) F i = partS F ⟨0, 4, 0, 0, 0, 0, atS o, (i : Int) + 1, 4, 12⟩ (relB o.rels (i : Int))) := ⟨by unfold relStep; rw [if_neg e1]⟩
                    have hii : ((i : Int) + 1) % 4294967296 = (i : Int) + 1 := by have := HMAY.out.1.1; have := HI2.out; omega
                    clear e1 hlen
                    go_wp2_with fail
                    clear hc0
                    refine (part_pr 0 4 0 0 0 0 (atS o) ((i : Int) + 1) 4 12 (relB o.rels (i : Int)) HXX.out HCX.out (by have := HFL.out; have := HBL.out; have := HMAY.out.1.2.2.1; omega) (by have := HFL.out; omega)).mono ?_
                    rintro e w9 ⟨rfl, S1', hp9, hf9⟩
                    have HP9 := Aside0.mk hp9
                    clear hp9 hf9 HXX HCX
                    go_wp2
                    go_roundg gq
                    case measure => omega
                    case rel => exact ⟨i + 1, (by first | exact congrArg (Value.int .i64) hw | (simp; done)), ⟨by have := HK.out; omega⟩, ⟨HI2.out⟩, ⟨_, _, _, by rw [HFS.out, HST.out]; exact HP9.out⟩⟩
          · have hi : i = o.secs.length := by have := HI.out; omega
            subst hi
            have HP4 : Aside0 (∃ S1 S2 S3, Pst wa wr S1 S2 S3 gw gn gy (st4 o) (st1 o).2 (yst o).own) := HP
            have HS4 : Aside0 ((st4 o).b.length ≤ 300002000000 ∧ (st4 o).rows.length ≤ 200 ∧ 3 ≤ (st4 o).rows.length ∧ 52 ≤ (st4 o).b.length) := ⟨by
              have h1 := relF_len o.rels (atS o) (st3 o) HMAY.out.1.2.2.1 o.secs.length
              have h2 := HS3.out
              have h3 := HMAY.out.1.1
              have h4 := partS_len (st2 o) ⟨0, 3, 0, 0, 0, 0, 0, 0, 1, 0⟩ (yst o).own
              have h5 := partS_len (st1 o).1 ⟨0, 2, 0, 0, 0, 0, atS o + 1, (yst o).loc, 4, 16⟩ (yst o).b
              have h6 := (st1_len o.secs (⟨List.replicate 52 0, [z47]⟩, [0]) (fun x hx => by
                have hx2 := HMAY.out.2.1 x hx
                have hx3 := HG.out.secs x hx
                refine ⟨?_, hx2.1.2⟩
                rcases hx2.2.2.2 with h1 | h1
                · have := hx3.2.2.2.2.1.2; omega
                · rw [h1.2]; simp)).2.2.2.2
              have e2 : st2 o = partS (st1 o).1 ⟨0, 2, 0, 0, 0, 0, atS o + 1, (yst o).loc, 4, 16⟩ (yst o).b := rfl
              have e3 : st3 o = partS (st2 o) ⟨0, 3, 0, 0, 0, 0, 0, 0, 1, 0⟩ (yst o).own := rfl
              have e1 : (o.secs.foldl secStep (⟨List.replicate 52 0, [z47]⟩, [0])) = st1 o := rfl
              rw [e1] at h6
              rw [← e3] at h4
              rw [← e2] at h5
              simp only [List.length_replicate] at h6
              have e4 : (List.range o.secs.length).foldl (relStep o.rels (atS o)) (st3 o) = st4 o := rfl
              rw [e4] at h1
              omega⟩
            clear HP HK HI ci
            obtain ⟨S1, S2, S3, hp⟩ := HP4.out
            obtain ⟨vn, hN⟩ := hp.n
            obtain ⟨An, cn, rfl⟩ := Kd.R_slice hN.rb
            obtain ⟨_, _, eb, _, hCn⟩ := Kd.R_reads hN.rb
            injection eb with eb1 eb2 eb3
            subst eb1
            have hc0 := hN.at0.1
            have HPP := Aside0.mk hp
            have HCN := Aside0.mk hCn
            clear hp hN hCn eb2 eb3 HP4
            go_wp2_with fail
            clear hc0
            refine (part_pr 0 3 0 0 0 0 0 0 1 0 (st1 o).2 HPP.out HCN.out (by have := HS4.out; have := HS1.out; omega) (by have := HS4.out; omega)).mono ?_
            rintro e w10 ⟨rfl, S1', hp10, hf10⟩
            have HS5 : Aside0 ((st5 o).b.length ≤ 300002010000 ∧ (st5 o).rows.length = (st4 o).rows.length + 1 ∧ 52 ≤ (st5 o).b.length) := ⟨by
              have h1 := partS_len (st4 o) ⟨0, 3, 0, 0, 0, 0, 0, 0, 1, 0⟩ (st1 o).2
              have e : st5 o = partS (st4 o) ⟨0, 3, 0, 0, 0, 0, 0, 0, 1, 0⟩ (st1 o).2 := rfl
              rw [← e] at h1
              have := HS4.out; have := HS1.out; omega⟩
            change Pst wa w10 S1' S2 S3 gw gn gy (st5 o) (st1 o).2 (yst o).own at hp10
            obtain ⟨vb5, vr5, hV5⟩ := hp10.w
            obtain ⟨A8, c8, rfl⟩ := Kd.R_slice hV5.rb
            obtain ⟨A9, c9, rfl⟩ := Kd.R_slice hV5.rr
            have hcb := hV5.at0.1
            have hcr := hV5.at1.1
            have HWV : Aside0 (∃ S, Wv wa w10 S gw (.slice A9 (st5 o).rows.length c9) ((st5 o).b ++ ((st5 o).rows.take 0).flatMap rowWords) (st5 o).rows) := ⟨⟨S1', hp10.t.b, ⟨_, by simpa using hV5⟩, fun k hk => (hp10.t.q1 k hk).1⟩⟩
            clear hp10 hf10 hV5 HPP HCN
            go_wp2_with fail
            clear hcb hcr
            go_loopg [162] ((st5 o).rows.length + 1) (fun kq v162 w' => ∃ (i : Nat), v162 = .int .i64 (i : Int) ∧ Aside0 (i + kq = (st5 o).rows.length + 1) ∧ Aside0 (i ≤ (st5 o).rows.length) ∧ Aside0 (∃ S, Wv wa w' S gw (.slice A9 (st5 o).rows.length c9) ((st5 o).b ++ ((st5 o).rows.take i).flatMap rowWords) (st5 o).rows))
            case atStart => exact ⟨0, rfl, ⟨by omega⟩, ⟨by omega⟩, HWV⟩
            case round =>
              clear HWV
              obtain ⟨i, rfl, HK, HI, HV⟩ := hrel
              by_cases ci : i < (st5 o).rows.length
              · cases gk with
                | zero => exact absurd HK.out (by have := HI.out; omega)
                | succ gq =>
                  obtain ⟨S, hv⟩ := HV.out
                  obtain ⟨vb, hwv⟩ := hv.w
                  obtain ⟨A10, c10, eb, _, hC⟩ := Kd.R_reads hwv.rr
                  injection eb with eb1 eb2 eb3
                  subst eb1
                  subst eb3
                  obtain ⟨ad, ea, x0, x1, x2, x3, x4, x5, x6, x7, x8, x9⟩ := at_T47 hC (i : Int) (by omega) (by omega)
                  cases ea
                  rw [Int.toNat_natCast] at x0 x1 x2 x3 x4 x5 x6 x7 x8 x9
                  have hxr : (st5 o).rows[i]? = some (rd_T47 (st5 o).rows (i : Int)) := by unfold rd_T47; rw [Int.toNat_natCast, List.getD_eq_getElem?_getD, List.getElem?_eq_getElem ci]; rfl
                  have hsn : ((st5 o).rows.take (i + 1)).flatMap rowWords = ((st5 o).rows.take i).flatMap rowWords ++ rowWords (rd_T47 (st5 o).rows (i : Int)) := by
                    obtain ⟨_, e⟩ := List.getElem?_eq_some_iff.1 hxr
                    rw [List.take_succ_eq_append_getElem ci, List.flatMap_append, ← e]; simp
                  have hrr := st5_rg o HG.out HMAY.out _ (List.mem_of_getElem? hxr)
                  have hbl : ((st5 o).b ++ ((st5 o).rows.take i).flatMap rowWords).length ≤ 300003000000 := by
                    have h1 : ∀ l : List S47, (l.flatMap rowWords).length = 40 * l.length := by
                      intro l
                      induction l with
                      | nil => rfl
                      | cons a t ih => rw [List.flatMap_cons, List.length_append, ih, rowWords_eq, words_len, List.length_cons]; simp [fieldsL]; omega
                    rw [List.length_append, h1, List.length_take]
                    have := HS5.out; have := HS4.out; omega
                  generalize rd_T47 (st5 o).rows (i : Int) = r at x0 x1 x2 x3 x4 x5 x6 x7 x8 x9 hxr hsn hrr
                  generalize hBi : (st5 o).b ++ ((st5 o).rows.take i).flatMap rowWords = Bi at *
                  have HSN : Aside0 ((st5 o).b ++ ((st5 o).rows.take (i + 1)).flatMap rowWords = Bi ++ rowWords r) := ⟨by rw [hsn, ← List.append_assoc, hBi]⟩
                  have HRR := Aside0.mk hrr
                  have HBL := Aside0.mk hbl
                  have HI2 := Aside0.mk ci
                  have p1 : ((i : Int) < ((st5 o).rows.length : Int)) = True := eq_true (by omega)
                  have p2 : (i < (st5 o).rows.length) = True := eq_true ci
                  have p3 : 0 ≤ (i : Int) := by omega
                  have hw := w64s i (by have := HS5.out; have := HS4.out; omega)
                  have HVV := Aside0.mk hv
                  have HNP : Aside0 (¬ S wr.heap.size) := ⟨fun h => Nat.lt_irrefl _ (hv.lt _ h)⟩
                  clear hv hwv hC hxr hsn hrr hbl hBi ci HV HI eb2
                  obtain ⟨r0, r1, r2, r3, r4, r5, r6, r7, r8, r9⟩ := r
                  simp only at x0 x1 x2 x3 x4 x5 x6 x7 x8 x9
                  go_wp2_with fail
                  have HBK := Aside0.mk (heap_alloc_new wr (.cells #[.int .u32 r0, .int .u32 r1, .int .u32 r2, .int .u32 r3, .int .u32 r4, .int .u32 r5, .int .u32 r6, .int .u32 r7, .int .u32 r8, .int .u32 r9] 47))
                  have HVA := Aside0.mk (HVV.out.below (below_alloc (Below.refl wr.heap.size wr) (.cells #[.int .u32 r0, .int .u32 r1, .int .u32 r2, .int .u32 r3, .int .u32 r4, .int .u32 r5, .int .u32 r6, .int .u32 r7, .int .u32 r8, .int .u32 r9] 47)))
                  clear x0 x1 x2 x3 x4 x5 x6 x7 x8 x9 HVV
                  generalize (wr.alloc (.cells #[.int .u32 r0, .int .u32 r1, .int .u32 r2, .int .u32 r3, .int .u32 r4, .int .u32 r5, .int .u32 r6, .int .u32 r7, .int .u32 r8, .int .u32 r9] 47)) = w11 at *
                  generalize wr.heap.size = q at *
                  refine (fields_calls q _).mono ?_
                  rintro e w12 ⟨rfl, hb⟩
                  have HX0 : Aside0 (∃ S, Wv wa w12 S gw (.slice (some ad) (st5 o).rows.length c9) (Bi ++ ((fieldsL ⟨r0, r1, r2, r3, r4, r5, r6, r7, r8, r9⟩).take 0).flatMap le4) (st5 o).rows ∧ ¬ S q ∧ w12.heap[q]? = some (.cells #[.int .u32 r0, .int .u32 r1, .int .u32 r2, .int .u32 r3, .int .u32 r4, .int .u32 r5, .int .u32 r6, .int .u32 r7, .int .u32 r8, .int .u32 r9] 47 (0, 0))) := ⟨S, by simpa using HVA.out.below hb, HNP.out, blk_below HBK.out hb⟩
                  clear hb HVA HBK HNP
                  go_wp2_with fail
                  go_loopg [167] 11 (fun kq v167 w' => ∃ (k : Nat), v167 = .int .i64 (k : Int) ∧ Aside0 (k + kq = 11) ∧ Aside0 (k ≤ 10) ∧ Aside0 (∃ S, Wv wa w' S gw (.slice (some ad) (st5 o).rows.length c9) (Bi ++ ((fieldsL ⟨r0, r1, r2, r3, r4, r5, r6, r7, r8, r9⟩).take k).flatMap le4) (st5 o).rows ∧ ¬ S q ∧ w'.heap[q]? = some (.cells #[.int .u32 r0, .int .u32 r1, .int .u32 r2, .int .u32 r3, .int .u32 r4, .int .u32 r5, .int .u32 r6, .int .u32 r7, .int .u32 r8, .int .u32 r9] 47 (0, 0))))
                  case atStart => exact ⟨0, rfl, ⟨by omega⟩, ⟨by omega⟩, HX0⟩
                  case round =>
                    clear HX0
                    obtain ⟨k, rfl, HKJ, HJ, HX⟩ := hrel
                    by_cases ck : k < 10
                    · cases gk with
                      | zero => exact absurd HKJ.out (by have := HJ.out; omega)
                      | succ gk =>
                        obtain ⟨S, hx⟩ := HX.out
                        replace HX := Aside0.mk hx
                        clear hx
                        have hk10 : k = 0 ∨ k = 1 ∨ k = 2 ∨ k = 3 ∨ k = 4 ∨ k = 5 ∨ k = 6 ∨ k = 7 ∨ k = 8 ∨ k = 9 := by omega
                        clear ck HJ
                        rcases hk10 with rfl | rfl | rfl | rfl | rfl | rfl | rfl | rfl | rfl | rfl
                        · have hix : ∀ W, (Instr.index 62 (.agg #[.pointer (some ⟨q, 0, none⟩), .pointer (some ⟨q, 1, none⟩), .pointer (some ⟨q, 2, none⟩), .pointer (some ⟨q, 3, none⟩), .pointer (some ⟨q, 4, none⟩), .pointer (some ⟨q, 5, none⟩), .pointer (some ⟨q, 6, none⟩), .pointer (some ⟨q, 7, none⟩), .pointer (some ⟨q, 8, none⟩), .pointer (some ⟨q, 9, none⟩)]) (.int .i64 0)).run Try.prog W = .ok (.pointer (some ⟨q, 0, none⟩)) W := fun W => run_ptrs q 0 (by decide) W
                          have hcell : wr.cell? ⟨q, 0, none⟩ = some (.int .u32 r0) := (blk_cell HX.out.2.2 0).trans rfl
                          go_wp2_with fail
                          refine (word1_wv r0 _ rfl HX.out.1 (HRR.out r0 (by simp [fieldsL])) (by rw [List.length_append, words_len]; have := HBL.out; simp [fieldsL]; omega)).mono ?_
                          rintro e w12 ⟨rfl, S', hv', ho'⟩
                          have hal := below_alloc (Below.refl wr.heap.size wr) (.cells #[.int .u32 r0] 38)
                          have hql := blk_lt HX.out.2.2
                          have HE : Aside0 (∃ S, Wv wa w12 S gw (.slice (some ad) (st5 o).rows.length c9) (Bi ++ ((fieldsL ⟨r0, r1, r2, r3, r4, r5, r6, r7, r8, r9⟩).take 1).flatMap le4) (st5 o).rows ∧ ¬ S q ∧ w12.heap[q]? = some (.cells #[.int .u32 r0, .int .u32 r1, .int .u32 r2, .int .u32 r3, .int .u32 r4, .int .u32 r5, .int .u32 r6, .int .u32 r7, .int .u32 r8, .int .u32 r9] 47 (0, 0))) := ⟨S', by simpa [fieldsL] using hv', fun h => (ho'.sub q h).1.elim HX.out.2.1 (fun h2 => by have := hal.size; omega), ho'.fr.blk (blk_below HX.out.2.2 hal) HX.out.2.1⟩
                          clear hv' ho' hal hql hcell hix
                          go_wp2
                          go_roundg gk
                          case measure => omega
                          case rel => exact ⟨1, by first | rfl | (simp; done) | (simp [wrap64]; done), ⟨by have := HKJ.out; omega⟩, ⟨by omega⟩, HE⟩
                        · have hix : ∀ W, (Instr.index 62 (.agg #[.pointer (some ⟨q, 0, none⟩), .pointer (some ⟨q, 1, none⟩), .pointer (some ⟨q, 2, none⟩), .pointer (some ⟨q, 3, none⟩), .pointer (some ⟨q, 4, none⟩), .pointer (some ⟨q, 5, none⟩), .pointer (some ⟨q, 6, none⟩), .pointer (some ⟨q, 7, none⟩), .pointer (some ⟨q, 8, none⟩), .pointer (some ⟨q, 9, none⟩)]) (.int .i64 1)).run Try.prog W = .ok (.pointer (some ⟨q, 1, none⟩)) W := fun W => run_ptrs q 1 (by decide) W
                          have hcell : wr.cell? ⟨q, 1, none⟩ = some (.int .u32 r1) := (blk_cell HX.out.2.2 1).trans rfl
                          go_wp2_with fail
                          refine (word1_wv r1 _ rfl HX.out.1 (HRR.out r1 (by simp [fieldsL])) (by rw [List.length_append, words_len]; have := HBL.out; simp [fieldsL]; omega)).mono ?_
                          rintro e w12 ⟨rfl, S', hv', ho'⟩
                          have hal := below_alloc (Below.refl wr.heap.size wr) (.cells #[.int .u32 r1] 38)
                          have hql := blk_lt HX.out.2.2
                          have HE : Aside0 (∃ S, Wv wa w12 S gw (.slice (some ad) (st5 o).rows.length c9) (Bi ++ ((fieldsL ⟨r0, r1, r2, r3, r4, r5, r6, r7, r8, r9⟩).take 2).flatMap le4) (st5 o).rows ∧ ¬ S q ∧ w12.heap[q]? = some (.cells #[.int .u32 r0, .int .u32 r1, .int .u32 r2, .int .u32 r3, .int .u32 r4, .int .u32 r5, .int .u32 r6, .int .u32 r7, .int .u32 r8, .int .u32 r9] 47 (0, 0))) := ⟨S', by simpa [fieldsL] using hv', fun h => (ho'.sub q h).1.elim HX.out.2.1 (fun h2 => by have := hal.size; omega), ho'.fr.blk (blk_below HX.out.2.2 hal) HX.out.2.1⟩
                          clear hv' ho' hal hql hcell hix
                          go_wp2
                          go_roundg gk
                          case measure => omega
                          case rel => exact ⟨2, by first | rfl | (simp; done) | (simp [wrap64]; done), ⟨by have := HKJ.out; omega⟩, ⟨by omega⟩, HE⟩
                        · have hix : ∀ W, (Instr.index 62 (.agg #[.pointer (some ⟨q, 0, none⟩), .pointer (some ⟨q, 1, none⟩), .pointer (some ⟨q, 2, none⟩), .pointer (some ⟨q, 3, none⟩), .pointer (some ⟨q, 4, none⟩), .pointer (some ⟨q, 5, none⟩), .pointer (some ⟨q, 6, none⟩), .pointer (some ⟨q, 7, none⟩), .pointer (some ⟨q, 8, none⟩), .pointer (some ⟨q, 9, none⟩)]) (.int .i64 2)).run Try.prog W = .ok (.pointer (some ⟨q, 2, none⟩)) W := fun W => run_ptrs q 2 (by decide) W
                          have hcell : wr.cell? ⟨q, 2, none⟩ = some (.int .u32 r2) := (blk_cell HX.out.2.2 2).trans rfl
                          go_wp2_with fail
                          refine (word1_wv r2 _ rfl HX.out.1 (HRR.out r2 (by simp [fieldsL])) (by rw [List.length_append, words_len]; have := HBL.out; simp [fieldsL]; omega)).mono ?_
                          rintro e w12 ⟨rfl, S', hv', ho'⟩
                          have hal := below_alloc (Below.refl wr.heap.size wr) (.cells #[.int .u32 r2] 38)
                          have hql := blk_lt HX.out.2.2
                          have HE : Aside0 (∃ S, Wv wa w12 S gw (.slice (some ad) (st5 o).rows.length c9) (Bi ++ ((fieldsL ⟨r0, r1, r2, r3, r4, r5, r6, r7, r8, r9⟩).take 3).flatMap le4) (st5 o).rows ∧ ¬ S q ∧ w12.heap[q]? = some (.cells #[.int .u32 r0, .int .u32 r1, .int .u32 r2, .int .u32 r3, .int .u32 r4, .int .u32 r5, .int .u32 r6, .int .u32 r7, .int .u32 r8, .int .u32 r9] 47 (0, 0))) := ⟨S', by simpa [fieldsL] using hv', fun h => (ho'.sub q h).1.elim HX.out.2.1 (fun h2 => by have := hal.size; omega), ho'.fr.blk (blk_below HX.out.2.2 hal) HX.out.2.1⟩
                          clear hv' ho' hal hql hcell hix
                          go_wp2
                          go_roundg gk
                          case measure => omega
                          case rel => exact ⟨3, by first | rfl | (simp; done) | (simp [wrap64]; done), ⟨by have := HKJ.out; omega⟩, ⟨by omega⟩, HE⟩
                        · have hix : ∀ W, (Instr.index 62 (.agg #[.pointer (some ⟨q, 0, none⟩), .pointer (some ⟨q, 1, none⟩), .pointer (some ⟨q, 2, none⟩), .pointer (some ⟨q, 3, none⟩), .pointer (some ⟨q, 4, none⟩), .pointer (some ⟨q, 5, none⟩), .pointer (some ⟨q, 6, none⟩), .pointer (some ⟨q, 7, none⟩), .pointer (some ⟨q, 8, none⟩), .pointer (some ⟨q, 9, none⟩)]) (.int .i64 3)).run Try.prog W = .ok (.pointer (some ⟨q, 3, none⟩)) W := fun W => run_ptrs q 3 (by decide) W
                          have hcell : wr.cell? ⟨q, 3, none⟩ = some (.int .u32 r3) := (blk_cell HX.out.2.2 3).trans rfl
                          go_wp2_with fail
                          refine (word1_wv r3 _ rfl HX.out.1 (HRR.out r3 (by simp [fieldsL])) (by rw [List.length_append, words_len]; have := HBL.out; simp [fieldsL]; omega)).mono ?_
                          rintro e w12 ⟨rfl, S', hv', ho'⟩
                          have hal := below_alloc (Below.refl wr.heap.size wr) (.cells #[.int .u32 r3] 38)
                          have hql := blk_lt HX.out.2.2
                          have HE : Aside0 (∃ S, Wv wa w12 S gw (.slice (some ad) (st5 o).rows.length c9) (Bi ++ ((fieldsL ⟨r0, r1, r2, r3, r4, r5, r6, r7, r8, r9⟩).take 4).flatMap le4) (st5 o).rows ∧ ¬ S q ∧ w12.heap[q]? = some (.cells #[.int .u32 r0, .int .u32 r1, .int .u32 r2, .int .u32 r3, .int .u32 r4, .int .u32 r5, .int .u32 r6, .int .u32 r7, .int .u32 r8, .int .u32 r9] 47 (0, 0))) := ⟨S', by simpa [fieldsL] using hv', fun h => (ho'.sub q h).1.elim HX.out.2.1 (fun h2 => by have := hal.size; omega), ho'.fr.blk (blk_below HX.out.2.2 hal) HX.out.2.1⟩
                          clear hv' ho' hal hql hcell hix
                          go_wp2
                          go_roundg gk
                          case measure => omega
                          case rel => exact ⟨4, by first | rfl | (simp; done) | (simp [wrap64]; done), ⟨by have := HKJ.out; omega⟩, ⟨by omega⟩, HE⟩
                        · have hix : ∀ W, (Instr.index 62 (.agg #[.pointer (some ⟨q, 0, none⟩), .pointer (some ⟨q, 1, none⟩), .pointer (some ⟨q, 2, none⟩), .pointer (some ⟨q, 3, none⟩), .pointer (some ⟨q, 4, none⟩), .pointer (some ⟨q, 5, none⟩), .pointer (some ⟨q, 6, none⟩), .pointer (some ⟨q, 7, none⟩), .pointer (some ⟨q, 8, none⟩), .pointer (some ⟨q, 9, none⟩)]) (.int .i64 4)).run Try.prog W = .ok (.pointer (some ⟨q, 4, none⟩)) W := fun W => run_ptrs q 4 (by decide) W
                          have hcell : wr.cell? ⟨q, 4, none⟩ = some (.int .u32 r4) := (blk_cell HX.out.2.2 4).trans rfl
                          go_wp2_with fail
                          refine (word1_wv r4 _ rfl HX.out.1 (HRR.out r4 (by simp [fieldsL])) (by rw [List.length_append, words_len]; have := HBL.out; simp [fieldsL]; omega)).mono ?_
                          rintro e w12 ⟨rfl, S', hv', ho'⟩
                          have hal := below_alloc (Below.refl wr.heap.size wr) (.cells #[.int .u32 r4] 38)
                          have hql := blk_lt HX.out.2.2
                          have HE : Aside0 (∃ S, Wv wa w12 S gw (.slice (some ad) (st5 o).rows.length c9) (Bi ++ ((fieldsL ⟨r0, r1, r2, r3, r4, r5, r6, r7, r8, r9⟩).take 5).flatMap le4) (st5 o).rows ∧ ¬ S q ∧ w12.heap[q]? = some (.cells #[.int .u32 r0, .int .u32 r1, .int .u32 r2, .int .u32 r3, .int .u32 r4, .int .u32 r5, .int .u32 r6, .int .u32 r7, .int .u32 r8, .int .u32 r9] 47 (0, 0))) := ⟨S', by simpa [fieldsL] using hv', fun h => (ho'.sub q h).1.elim HX.out.2.1 (fun h2 => by have := hal.size; omega), ho'.fr.blk (blk_below HX.out.2.2 hal) HX.out.2.1⟩
                          clear hv' ho' hal hql hcell hix
                          go_wp2
                          go_roundg gk
                          case measure => omega
                          case rel => exact ⟨5, by first | rfl | (simp; done) | (simp [wrap64]; done), ⟨by have := HKJ.out; omega⟩, ⟨by omega⟩, HE⟩
                        · have hix : ∀ W, (Instr.index 62 (.agg #[.pointer (some ⟨q, 0, none⟩), .pointer (some ⟨q, 1, none⟩), .pointer (some ⟨q, 2, none⟩), .pointer (some ⟨q, 3, none⟩), .pointer (some ⟨q, 4, none⟩), .pointer (some ⟨q, 5, none⟩), .pointer (some ⟨q, 6, none⟩), .pointer (some ⟨q, 7, none⟩), .pointer (some ⟨q, 8, none⟩), .pointer (some ⟨q, 9, none⟩)]) (.int .i64 5)).run Try.prog W = .ok (.pointer (some ⟨q, 5, none⟩)) W := fun W => run_ptrs q 5 (by decide) W
                          have hcell : wr.cell? ⟨q, 5, none⟩ = some (.int .u32 r5) := (blk_cell HX.out.2.2 5).trans rfl
                          go_wp2_with fail
                          refine (word1_wv r5 _ rfl HX.out.1 (HRR.out r5 (by simp [fieldsL])) (by rw [List.length_append, words_len]; have := HBL.out; simp [fieldsL]; omega)).mono ?_
                          rintro e w12 ⟨rfl, S', hv', ho'⟩
                          have hal := below_alloc (Below.refl wr.heap.size wr) (.cells #[.int .u32 r5] 38)
                          have hql := blk_lt HX.out.2.2
                          have HE : Aside0 (∃ S, Wv wa w12 S gw (.slice (some ad) (st5 o).rows.length c9) (Bi ++ ((fieldsL ⟨r0, r1, r2, r3, r4, r5, r6, r7, r8, r9⟩).take 6).flatMap le4) (st5 o).rows ∧ ¬ S q ∧ w12.heap[q]? = some (.cells #[.int .u32 r0, .int .u32 r1, .int .u32 r2, .int .u32 r3, .int .u32 r4, .int .u32 r5, .int .u32 r6, .int .u32 r7, .int .u32 r8, .int .u32 r9] 47 (0, 0))) := ⟨S', by simpa [fieldsL] using hv', fun h => (ho'.sub q h).1.elim HX.out.2.1 (fun h2 => by have := hal.size; omega), ho'.fr.blk (blk_below HX.out.2.2 hal) HX.out.2.1⟩
                          clear hv' ho' hal hql hcell hix
                          go_wp2
                          go_roundg gk
                          case measure => omega
                          case rel => exact ⟨6, by first | rfl | (simp; done) | (simp [wrap64]; done), ⟨by have := HKJ.out; omega⟩, ⟨by omega⟩, HE⟩
                        · have hix : ∀ W, (Instr.index 62 (.agg #[.pointer (some ⟨q, 0, none⟩), .pointer (some ⟨q, 1, none⟩), .pointer (some ⟨q, 2, none⟩), .pointer (some ⟨q, 3, none⟩), .pointer (some ⟨q, 4, none⟩), .pointer (some ⟨q, 5, none⟩), .pointer (some ⟨q, 6, none⟩), .pointer (some ⟨q, 7, none⟩), .pointer (some ⟨q, 8, none⟩), .pointer (some ⟨q, 9, none⟩)]) (.int .i64 6)).run Try.prog W = .ok (.pointer (some ⟨q, 6, none⟩)) W := fun W => run_ptrs q 6 (by decide) W
                          have hcell : wr.cell? ⟨q, 6, none⟩ = some (.int .u32 r6) := (blk_cell HX.out.2.2 6).trans rfl
                          go_wp2_with fail
                          refine (word1_wv r6 _ rfl HX.out.1 (HRR.out r6 (by simp [fieldsL])) (by rw [List.length_append, words_len]; have := HBL.out; simp [fieldsL]; omega)).mono ?_
                          rintro e w12 ⟨rfl, S', hv', ho'⟩
                          have hal := below_alloc (Below.refl wr.heap.size wr) (.cells #[.int .u32 r6] 38)
                          have hql := blk_lt HX.out.2.2
                          have HE : Aside0 (∃ S, Wv wa w12 S gw (.slice (some ad) (st5 o).rows.length c9) (Bi ++ ((fieldsL ⟨r0, r1, r2, r3, r4, r5, r6, r7, r8, r9⟩).take 7).flatMap le4) (st5 o).rows ∧ ¬ S q ∧ w12.heap[q]? = some (.cells #[.int .u32 r0, .int .u32 r1, .int .u32 r2, .int .u32 r3, .int .u32 r4, .int .u32 r5, .int .u32 r6, .int .u32 r7, .int .u32 r8, .int .u32 r9] 47 (0, 0))) := ⟨S', by simpa [fieldsL] using hv', fun h => (ho'.sub q h).1.elim HX.out.2.1 (fun h2 => by have := hal.size; omega), ho'.fr.blk (blk_below HX.out.2.2 hal) HX.out.2.1⟩
                          clear hv' ho' hal hql hcell hix
                          go_wp2
                          go_roundg gk
                          case measure => omega
                          case rel => exact ⟨7, by first | rfl | (simp; done) | (simp [wrap64]; done), ⟨by have := HKJ.out; omega⟩, ⟨by omega⟩, HE⟩
                        · have hix : ∀ W, (Instr.index 62 (.agg #[.pointer (some ⟨q, 0, none⟩), .pointer (some ⟨q, 1, none⟩), .pointer (some ⟨q, 2, none⟩), .pointer (some ⟨q, 3, none⟩), .pointer (some ⟨q, 4, none⟩), .pointer (some ⟨q, 5, none⟩), .pointer (some ⟨q, 6, none⟩), .pointer (some ⟨q, 7, none⟩), .pointer (some ⟨q, 8, none⟩), .pointer (some ⟨q, 9, none⟩)]) (.int .i64 7)).run Try.prog W = .ok (.pointer (some ⟨q, 7, none⟩)) W := fun W => run_ptrs q 7 (by decide) W
                          have hcell : wr.cell? ⟨q, 7, none⟩ = some (.int .u32 r7) := (blk_cell HX.out.2.2 7).trans rfl
                          go_wp2_with fail
                          refine (word1_wv r7 _ rfl HX.out.1 (HRR.out r7 (by simp [fieldsL])) (by rw [List.length_append, words_len]; have := HBL.out; simp [fieldsL]; omega)).mono ?_
                          rintro e w12 ⟨rfl, S', hv', ho'⟩
                          have hal := below_alloc (Below.refl wr.heap.size wr) (.cells #[.int .u32 r7] 38)
                          have hql := blk_lt HX.out.2.2
                          have HE : Aside0 (∃ S, Wv wa w12 S gw (.slice (some ad) (st5 o).rows.length c9) (Bi ++ ((fieldsL ⟨r0, r1, r2, r3, r4, r5, r6, r7, r8, r9⟩).take 8).flatMap le4) (st5 o).rows ∧ ¬ S q ∧ w12.heap[q]? = some (.cells #[.int .u32 r0, .int .u32 r1, .int .u32 r2, .int .u32 r3, .int .u32 r4, .int .u32 r5, .int .u32 r6, .int .u32 r7, .int .u32 r8, .int .u32 r9] 47 (0, 0))) := ⟨S', by simpa [fieldsL] using hv', fun h => (ho'.sub q h).1.elim HX.out.2.1 (fun h2 => by have := hal.size; omega), ho'.fr.blk (blk_below HX.out.2.2 hal) HX.out.2.1⟩
                          clear hv' ho' hal hql hcell hix
                          go_wp2
                          go_roundg gk
                          case measure => omega
                          case rel => exact ⟨8, by first | rfl | (simp; done) | (simp [wrap64]; done), ⟨by have := HKJ.out; omega⟩, ⟨by omega⟩, HE⟩
                        · have hix : ∀ W, (Instr.index 62 (.agg #[.pointer (some ⟨q, 0, none⟩), .pointer (some ⟨q, 1, none⟩), .pointer (some ⟨q, 2, none⟩), .pointer (some ⟨q, 3, none⟩), .pointer (some ⟨q, 4, none⟩), .pointer (some ⟨q, 5, none⟩), .pointer (some ⟨q, 6, none⟩), .pointer (some ⟨q, 7, none⟩), .pointer (some ⟨q, 8, none⟩), .pointer (some ⟨q, 9, none⟩)]) (.int .i64 8)).run Try.prog W = .ok (.pointer (some ⟨q, 8, none⟩)) W := fun W => run_ptrs q 8 (by decide) W
                          have hcell : wr.cell? ⟨q, 8, none⟩ = some (.int .u32 r8) := (blk_cell HX.out.2.2 8).trans rfl
                          go_wp2_with fail
                          refine (word1_wv r8 _ rfl HX.out.1 (HRR.out r8 (by simp [fieldsL])) (by rw [List.length_append, words_len]; have := HBL.out; simp [fieldsL]; omega)).mono ?_
                          rintro e w12 ⟨rfl, S', hv', ho'⟩
                          have hal := below_alloc (Below.refl wr.heap.size wr) (.cells #[.int .u32 r8] 38)
                          have hql := blk_lt HX.out.2.2
                          have HE : Aside0 (∃ S, Wv wa w12 S gw (.slice (some ad) (st5 o).rows.length c9) (Bi ++ ((fieldsL ⟨r0, r1, r2, r3, r4, r5, r6, r7, r8, r9⟩).take 9).flatMap le4) (st5 o).rows ∧ ¬ S q ∧ w12.heap[q]? = some (.cells #[.int .u32 r0, .int .u32 r1, .int .u32 r2, .int .u32 r3, .int .u32 r4, .int .u32 r5, .int .u32 r6, .int .u32 r7, .int .u32 r8, .int .u32 r9] 47 (0, 0))) := ⟨S', by simpa [fieldsL] using hv', fun h => (ho'.sub q h).1.elim HX.out.2.1 (fun h2 => by have := hal.size; omega), ho'.fr.blk (blk_below HX.out.2.2 hal) HX.out.2.1⟩
                          clear hv' ho' hal hql hcell hix
                          go_wp2
                          go_roundg gk
                          case measure => omega
                          case rel => exact ⟨9, by first | rfl | (simp; done) | (simp [wrap64]; done), ⟨by have := HKJ.out; omega⟩, ⟨by omega⟩, HE⟩
                        · have hix : ∀ W, (Instr.index 62 (.agg #[.pointer (some ⟨q, 0, none⟩), .pointer (some ⟨q, 1, none⟩), .pointer (some ⟨q, 2, none⟩), .pointer (some ⟨q, 3, none⟩), .pointer (some ⟨q, 4, none⟩), .pointer (some ⟨q, 5, none⟩), .pointer (some ⟨q, 6, none⟩), .pointer (some ⟨q, 7, none⟩), .pointer (some ⟨q, 8, none⟩), .pointer (some ⟨q, 9, none⟩)]) (.int .i64 9)).run Try.prog W = .ok (.pointer (some ⟨q, 9, none⟩)) W := fun W => run_ptrs q 9 (by decide) W
                          have hcell : wr.cell? ⟨q, 9, none⟩ = some (.int .u32 r9) := (blk_cell HX.out.2.2 9).trans rfl
                          go_wp2_with fail
                          refine (word1_wv r9 _ rfl HX.out.1 (HRR.out r9 (by simp [fieldsL])) (by rw [List.length_append, words_len]; have := HBL.out; simp [fieldsL]; omega)).mono ?_
                          rintro e w12 ⟨rfl, S', hv', ho'⟩
                          have hal := below_alloc (Below.refl wr.heap.size wr) (.cells #[.int .u32 r9] 38)
                          have hql := blk_lt HX.out.2.2
                          have HE : Aside0 (∃ S, Wv wa w12 S gw (.slice (some ad) (st5 o).rows.length c9) (Bi ++ ((fieldsL ⟨r0, r1, r2, r3, r4, r5, r6, r7, r8, r9⟩).take 10).flatMap le4) (st5 o).rows ∧ ¬ S q ∧ w12.heap[q]? = some (.cells #[.int .u32 r0, .int .u32 r1, .int .u32 r2, .int .u32 r3, .int .u32 r4, .int .u32 r5, .int .u32 r6, .int .u32 r7, .int .u32 r8, .int .u32 r9] 47 (0, 0))) := ⟨S', by simpa [fieldsL] using hv', fun h => (ho'.sub q h).1.elim HX.out.2.1 (fun h2 => by have := hal.size; omega), ho'.fr.blk (blk_below HX.out.2.2 hal) HX.out.2.1⟩
                          clear hv' ho' hal hql hcell hix
                          go_wp2
                          go_roundg gk
                          case measure => omega
                          case rel => exact ⟨10, by first | rfl | (simp; done) | (simp [wrap64]; done), ⟨by have := HKJ.out; omega⟩, ⟨by omega⟩, HE⟩
                    · have hk : k = 10 := by have := HJ.out; omega
                      subst hk
                      have HE : Aside0 (∃ S, Wv wa wr S gw (.slice (some ad) (st5 o).rows.length c9) ((st5 o).b ++ ((st5 o).rows.take (i + 1)).flatMap rowWords) (st5 o).rows) := ⟨by obtain ⟨S, hx⟩ := HX.out; exact ⟨S, by rw [HSN.out, rowWords_eq]; exact hx.1⟩⟩
                      clear HX HJ HKJ ck
                      go_wp2
                      go_roundg gq
                      case measure => omega
                      case rel => exact ⟨i + 1, (by first | exact congrArg (Value.int .i64) hw | (simp; done)), ⟨by have := HK.out; omega⟩, ⟨HI2.out⟩, HE⟩
              · have hi : i = (st5 o).rows.length := by have := HI.out; omega
                subst hi
                rw [List.take_length] at HV
                obtain ⟨S, hv⟩ := HV.out
                have HVV := Aside0.mk hv
                clear hv HV HI HK ci
                have hcv := Lib.run_convert_bytes_const (P := Try.prog) wr 27 5 #[.int .u8 127, .int .u8 69, .int .u8 76, .int .u8 70, .int .u8 1, .int .u8 1, .int .u8 1, .int .u8 0, .int .u8 0, .int .u8 0, .int .u8 0, .int .u8 0, .int .u8 0, .int .u8 0, .int .u8 0, .int .u8 0, .int .u8 1, .int .u8 0, .int .u8 243, .int .u8 0, .int .u8 1, .int .u8 0, .int .u8 0, .int .u8 0, .int .u8 0, .int .u8 0, .int .u8 0, .int .u8 0, .int .u8 0, .int .u8 0, .int .u8 0, .int .u8 0] 32 32 Try.underlying27 (by kernel_rfl)
                have HTB : Aside0 (0 ≤ ((st5 o).b.length : Int) % 4294967296 ∧ ((st5 o).b.length : Int) % 4294967296 < 4294967296) := ⟨by omega⟩
                go_wp2_with fail
                clear hcv
                refine (hdr1_calls HVV.out _ HTB.out).mono ?_
                rintro e w13 ⟨rfl, Sh, hh⟩
                rw [le4_mod] at hh
                have HH := Aside0.mk hh
                obtain ⟨vb6, hV6⟩ := hh.h.w
                obtain ⟨A12, c12, rfl⟩ := Kd.R_slice hV6.rb
                have hc6 := hV6.at0.1
                have HV6 := Aside0.mk hV6
                have HML : Aside0 ((magic ++ le4 ((st5 o).b.length : Int)).length = 36) := ⟨by rw [List.length_append]; rfl⟩
                obtain ⟨vb7, hV7⟩ := hh.v.w
                have hcr7 := hV7.at1.1
                clear hh hV6 hV7 HVV
                generalize wr.heap.size = bk at *
                obtain ⟨H1, hH1⟩ : ∃ H1, H1 = magic ++ le4 ((st5 o).b.length : Int) := ⟨_, rfl⟩
                rw [← hH1] at hc6 HV6 HML HH
                have HML2 := Aside0.mk hH1
                clear hH1
                go_wp2_with (first | ((with_reducible refine gate_builtin (b := .append) (xs := #[.tmp 190, .const (.string ⟨#[0, 0, 0, 0, 52, 0, 0, 0, 0, 0, 40, 0]⟩)]) rfl ?_); at_builtin; refine ev_str rfl (.tmp 190) (.const (.string ⟨#[0, 0, 0, 0, 52, 0, 0, 0, 0, 0, 40, 0]⟩)) rfl (.slice A12 H1.length c12) H1 ⟨#[0, 0, 0, 0, 52, 0, 0, 0, 0, 0, 40, 0]⟩ Sh rfl rfl (by (have := HML.out; omega)) HV6.out.rb (by (rw [HML.out]; decide)) ?_; intro L8 A13 c13 w14 hL8 hr8 hg8; have HL8 := hL8; have HR8 := Aside0.mk hr8; have HG8 := Aside0.mk hg8; obtain ⟨hc8, hf8⟩ := HV6.out.atB hg8; obtain ⟨Sh2, hh2⟩ := HH.out.setH HV6.out hr8 hg8; have HH2 := Aside0.mk hh2; obtain ⟨vb9, hV9⟩ := hh2.v.w; have hcr9 := hV9.at1.1; clear hL8 hr8 hg8 hh2 hV9))
                have hcall := word1_wh (((st5 o).rows.length : Int) + 65536 * (((st5 o).rows.length : Int) - 1)) _ (cntE2_is (st5 o).rows.length (by have := HS5.out; omega) (by have := HS5.out; have := HS4.out; omega)) HH2.out (by have := HS5.out; have := HS4.out; omega) (by rw [HL8.out, List.length_append, HML.out, bytesOf_length]; decide)
                rw [show (w14.setCell ⟨bk + 1, 0, none⟩ (.slice A13 L8.length c13)).heap.size = w14.heap.size by simp [World.setCell]] at hcall
                refine hcall.mono ?_
                clear hcall hcr9 hcr7 hc6 HR8 HG8 HV6 HH HH2
                rintro e w15 ⟨rfl, Sh3, hh3⟩
                obtain ⟨HT, hHT⟩ : ∃ HT, HT = L8 ++ le4 (((st5 o).rows.length : Int) + 65536 * (((st5 o).rows.length : Int) - 1)) := ⟨_, rfl⟩
                obtain ⟨BT, hBT⟩ : ∃ BT, BT = (st5 o).b ++ (st5 o).rows.flatMap rowWords := ⟨_, rfl⟩
                rw [← hHT, ← hBT] at hh3
                have HHT : Aside0 (HT = headS (st5 o).b.length (st5 o).rows.length ∧ HT.length = 52) := ⟨by
                  have h1 := HS5.out
                  have h2 := HS4.out
                  have e1 : HT = headS (st5 o).b.length (st5 o).rows.length := by
                    rw [hHT, HL8.out, HML2.out, le4_two _ _ (by omega) (by omega) (by omega) (by omega), show bytesOf ⟨#[0, 0, 0, 0, 52, 0, 0, 0, 0, 0, 40, 0]⟩ = sizes from by decide]
                    simp [headS]
                  exact ⟨e1, by rw [hHT, List.length_append, HL8.out, List.length_append, HML.out, bytesOf_length, le4_len]; decide⟩⟩
                have HBT : Aside0 (52 ≤ BT.length ∧ putS o = headS (st5 o).b.length (st5 o).rows.length ++ BT.drop 52) := ⟨by
                  have h1 := HS5.out
                  refine ⟨by rw [hBT, List.length_append]; omega, ?_⟩
                  rw [hBT, List.drop_append_of_le_length (by omega)]
                  unfold putS
                  simp⟩
                obtain ⟨vb10, hV10⟩ := hh3.v.w
                obtain ⟨A14, c14, rfl⟩ := Kd.R_slice hV10.rb
                obtain ⟨vb11, hV11⟩ := hh3.h.w
                obtain ⟨A15, c15, rfl⟩ := Kd.R_slice hV11.rb
                obtain ⟨_, _, eb, _, hCh⟩ := Kd.R_reads hV11.rb
                injection eb with eb1 eb2 eb3
                subst eb1
                have hcw := hV10.at0.1
                have hch := hV11.at0.1
                have HBL := Aside0.mk hh3.v.bl
                have HQ := Aside0.mk hh3.v.q
                have hb := (Below.refl w15.heap.size w15).drew
                have HV10 := Aside0.mk (hV10.below hb)
                have HCH := Aside0.mk (Kd.C_below hCh hb)
                have HBL2 := Aside0.mk (HBL.out.drew)
                clear hh3 hV10 hV11 hCh eb2 eb3 hb HBL hHT hBT
                go_wp2
                go_still_tail 8, (by kernel_rfl)
                change wpList _ _ _ _ _ w15.drew
                clear hcw hch
                generalize w15.drew = w16 at *
                go_wp2_with (first | ((with_reducible refine gate_builtin (b := .copy) (xs := #[.tmp 211, .tmp 215]) rfl ?_); refine Kd.R_copy (0 : Int) (w0 := w16) 0 rfl (.tmp 211) (.tmp 215) 27 27 5 rfl Try.underlying27 info5s (.slice A14 BT.length c14) BT HT A15 HT.length c15 S rfl rfl HV10.out.rb HCH.out (Below.refl _ _) (Nat.zero_le _) ?_; intro w17 hr hb hg; have HR := Aside0.mk hr; have HG2 := Aside0.mk hg; obtain ⟨hc17, hf17⟩ := HV10.out.atB hg; clear hr hb hg))
                have hL : HT.take (min HT.length BT.length) ++ BT.drop (min HT.length BT.length) = putS o := by
                  have h1 := HHT.out
                  have h2 := HBT.out
                  rw [Nat.min_eq_left (by omega), List.take_length, h1.2, h2.2, ← h1.1]
                rw [hL] at HR
                have HBF : Aside0 (Below wa.heap.size wa w17) := ⟨(Fr.of_grown HG2.out (fun k e => HV10.out.rb.1 k e)).below HBL2.out HQ.out HBL2.out.size⟩
                clear hL
                go_ret2
                have hz := HM.out.b.size
                exact ⟨_, putS o, 0, rfl, fun _ => ⟨rfl, rfl⟩, fun h => absurd HMAY.out h, Rb_base HR.out (fun k hk => Nat.le_trans hz (HQ.out k hk)), below_step HM.out.b HBF.out⟩
end Go.Proofs.Ytockojajbnnbpaa.E
namespace Go.Proofs.Ytockojajbnnbpaa.E
open Go.RowKit Go.Proofs.Ytockojajbnnbpaa.Q Go.Proofs.YtockojajbnnbpaaW.PrintWords Go.Proofs.YtockojajbnnbpaaW.PrintLast Go.Proofs.YtockojajbnnbpaaW.PrintMore
set_option linter.unusedVariables false
set_option linter.unusedSimpArgs false
theorem one_calls (w : World) : Calls Try.prog 28 #[] w fun e w' => ∃ (A0 A1 A2 : Option Addr) (c0 c1 c2 : Nat), e = .returned (obV A0 A1 A2 c0 c1 c2 one) ∧ ObC w' A0 A1 A2 c0 c1 c2 one ∧ Below w.heap.size w w' := by
  refine (bulwarklaw09_one.calls one.secs one.syms one.rels w rfl).mono ?_
  rintro e w' ⟨v0, v1, v2, rfl, h0, h1, h2, hb⟩
  obtain ⟨A0, c0, rfl, l0, k0⟩ := Kd.N_reads h0
  obtain ⟨A1, c1, rfl, l1, k1⟩ := Kd.R_reads h1
  obtain ⟨A2, c2, rfl, l2, k2⟩ := Kd.R_reads h2
  exact ⟨A0, A1, A2, c0, c1, c2, rfl, ⟨k0, k1, k2, l0, l1, l2⟩, hb⟩
theorem one_s : ObS one := by
  refine ⟨fun x hx => (one_rg.secs x hx).2.2.2.2.2.1, fun x hx => ?_, by decide, by decide, by decide⟩
  have hx : x = ⟨⟨#[116]⟩, 1, 6, 4, 4, [1, 2, 3, 4]⟩ := by simpa [one] using hx
  rw [hx]; decide
theorem bad_c {W : World} {g : Nat} (hb : W.heap[g]? = some (.cells #[.string ⟨#[]⟩, .int .u32 0, .int .u32 0, .int .u32 0, .int .u32 0, .slice none 0 0] 40 (0, 0))) : ObC W (some ⟨g, 0, none⟩) none none 1 0 0 bad := by
  refine ⟨⟨rfl, by decide, fun _ => ⟨_, rfl, fun j p hj => ?_⟩⟩, ⟨rfl, by decide, fun h => absurd h (by decide)⟩, ⟨rfl, by decide, fun h => absurd h (by decide)⟩, by decide, by decide, by decide⟩
  have hj0 : j = 0 := by
    have := (List.getElem?_eq_some_iff.1 hj).1
    simp [bad] at this; exact this
  subst hj0
  obtain rfl : z40 = p := by simpa [bad] using hj
  refine ⟨_, rfl, k40_mk W z40 (A5 := none) (c5 := 0) (by decide) ⟨rfl, by decide, fun h => absurd h (by decide)⟩, fun i u hu => ?_⟩
  have ha : (⟨g, 0, none⟩ : Addr).add (0 * 6 + i) = ⟨g, i, none⟩ := by simp [Addr.add, eq_comm]
  show W.cell? ((⟨g, 0, none⟩ : Addr).add (0 * 6 + i)) = some u
  rw [ha]
  refine (blk_cell hb i).trans ?_
  rw [← Array.getElem?_toList]
  exact hu
theorem undrewV {B : Nat} {w w' : World} (h : Below B w.drew w') : Below B w w' := ⟨h.os, h.tape, h.output, h.size, h.block⟩
theorem keepV {w W w2 : World} {p : Nat} {q : Addr} {v0 v1 v2 u : Value} (k : Below W.heap.size W w2) (h : Below w.heap.size w W ∧ W.cell? ⟨p, 0, none⟩ = some v0 ∧ W.cell? ⟨p, 1, none⟩ = some v1 ∧ W.cell? ⟨p, 2, none⟩ = some v2 ∧ W.cell? q = some u) :
    Below w.heap.size w w2 ∧ w2.cell? ⟨p, 0, none⟩ = some v0 ∧ w2.cell? ⟨p, 1, none⟩ = some v1 ∧ w2.cell? ⟨p, 2, none⟩ = some v2 ∧ w2.cell? q = some u := by
  have lift : ∀ {a : Addr} {v : Value}, W.cell? a = some v → w2.cell? a = some v := fun hv => (World.cell?_of_block (k.block _ (World.block_lt_of_cell? _ _ hv))).trans hv
  exact ⟨below_step h.1 k, lift h.2.1, lift h.2.2.1, lift h.2.2.2.1, lift h.2.2.2.2⟩
theorem Read_ok {b : List Int} {o : Ob} {w : World} {A : Option Addr} {c : Nat} (hb : AllBytes b) (hl : b.length < 140737488355328) (hr : readS b = .ok o) (h : Kd.C (Kd.int .u8) w A b.length b) (hc : b.length ≤ c) :
    Calls Try.prog 11 #[.slice A b.length c] w fun e w' => ∃ (A0 A1 A2 : Option Addr) (c0 c1 c2 : Nat), e = .returned (.tuple #[obV A0 A1 A2 c0 c1 c2 o, .int .i64 0]) ∧ ObC w' A0 A1 A2 c0 c1 c2 o ∧ Below w.heap.size w w' :=
  (Read_calls A c b hb hl w h hc).mono fun e w' hh => by
    unfold ReadRes at hh
    rw [hr] at hh
    obtain ⟨S0, S1, S2, v0, v1, v2, rfl, hbl, h0, h1, h2, _⟩ := hh
    obtain ⟨A0, c0, rfl, l0, k0⟩ := Kd.R_reads h0
    obtain ⟨A1, c1, rfl, l1, k1⟩ := Kd.R_reads h1
    obtain ⟨A2, c2, rfl, l2, k2⟩ := Kd.R_reads h2
    exact ⟨A0, A1, A2, c0, c1, c2, rfl, ⟨k0, k1, k2, l0, l1, l2⟩, hbl⟩
theorem Read_no {b : List Int} {er : Int} {w : World} {A : Option Addr} {c : Nat} (hb : AllBytes b) (hl : b.length < 140737488355328) (hr : readS b = .error er) (h : Kd.C (Kd.int .u8) w A b.length b) (hc : b.length ≤ c) :
    Calls Try.prog 11 #[.slice A b.length c] w fun e w' => e = .returned (.tuple #[.agg #[.slice none 0 0, .slice none 0 0, .slice none 0 0], .int .i64 er]) ∧ Below w.heap.size w w' :=
  (Read_calls A c b hb hl w h hc).mono fun e w' hh => by unfold ReadRes at hh; rw [hr] at hh; exact hh
set_option maxRecDepth 100000 in
set_option maxHeartbeats 32000000 in
theorem lives_calls (w : World) : Calls Try.prog 10 #[] w fun e w' => e = .returned (.bool true) ∧ Below w.heap.size w w' := by
  have mixed : Try.prog.follows .mixedOrders = true := by kernel_rfl
  have hu26 := Try.underlying26
  have hu40 := Try.underlying40
  have H1 := Aside0.mk (one_calls w)
  obtain ⟨L, hL⟩ : ∃ L, L = putS one := ⟨_, rfl⟩
  have HL := Aside0.mk hL
  clear hL
  go_enter Try.func10, Try.ntmps10
  go_wp2_with fail
  refine H1.out.mono ?_
  rintro _ w1 ⟨A0, A1, A2, c0, c1, c2, rfl, ho, hb1⟩
  have HP := Aside0.mk (Put_calls one_rg w1 ho)
  have HB1 := Aside0.mk hb1
  clear ho hb1 H1
  unfold obV
  go_wp2_with fail
  refine HP.out.mono ?_
  rintro _ w2 ⟨v, L', er, rfl, hy, _, hR, hb2⟩
  obtain ⟨h1, rfl⟩ := hy one_may
  obtain ⟨A, c, rfl, hc, hC⟩ := Kd.R_reads hR
  rw [h1, ← HL.out] at hC hc
  rw [h1, ← HL.out]
  have HB2 := Aside0.mk (below_step HB1.out hb2)
  have HC2 := Aside0.mk (And.intro hC hc)
  have hb : AllBytes L := by rw [HL.out]; exact one_bytes
  have hl := one_len
  rw [← HL.out] at hl
  have HR := Aside0.mk (Read_ok (w := w2) (A := A) (c := c) hb (by omega) (by rw [HL.out]; exact one_read) hC hc)
  have HLL := Aside0.mk hl
  clear h1 hy hR hb2 hC hc hb hl HP HB1
  go_wp2_with fail
  refine HR.out.mono ?_
  rintro _ w3 ⟨B0, B1, B2, d0, d1, d2, rfl, hp, hb3⟩
  have HB3 := Aside0.mk (below_step HB2.out hb3)
  have hal := below_alloc (Below.refl w3.heap.size w3) (.cells #[.slice B0 one.secs.length d0, .slice B1 one.syms.length d1, .slice B2 one.rels.length d2] 26)
  have hN0 : Kd.C (Kd.int .u8) (w3.alloc (.cells #[.slice B0 one.secs.length d0, .slice B1 one.syms.length d1, .slice B2 one.rels.length d2] 26)) none ([] : List Int).length [] := ⟨rfl, by decide, fun h => absurd h (by decide)⟩
  have HN := Aside0.mk (Read_no (c := 0) (fun x hx => absurd hx (List.not_mem_nil)) (by decide) nil_read hN0 (Nat.le_refl _))
  have HO3 := Aside0.mk (hp.below hal)
  have HX3 : Aside0 ((w3.alloc (.cells #[.slice B0 one.secs.length d0, .slice B1 one.syms.length d1, .slice B2 one.rels.length d2] 26)).heap[w3.heap.size]? = _) := ⟨heap_alloc_new _ _⟩
  have HC3 := Aside0.mk (And.intro (Kd.C_below HC2.out.1 hb3) HC2.out.2)
  have HAL := Aside0.mk hal
  clear hp hb3 hN0 HR HB2 HC2 hal
  unfold obV
  go_wp2_with fail
  refine HN.out.mono ?_
  rintro _ w4 ⟨rfl, hb4⟩
  have HX4 := Aside0.mk (blk_below HX3.out hb4)
  have HO4 := Aside0.mk (HO3.out.below hb4)
  have HC4 := Aside0.mk (And.intro (Kd.C_below (Kd.C_below HC3.out.1 HAL.out) hb4) HC3.out.2)
  have HB4 := Aside0.mk (below_step (below_step HB3.out HAL.out) hb4)
  clear hb4 HX3 HO3 HC3 HB3 HAL HN
  go_wp2_with fail
  have HP2 := Aside0.mk (Put_calls bad_rg _ (bad_c (W := (w4.alloc (.cells #[.slice none 0 0, .slice none 0 0, .slice none 0 0] 26)).alloc (.cells #[.string ⟨#[]⟩, .int .u32 0, .int .u32 0, .int .u32 0, .int .u32 0, .slice none 0 0] 40)) (g := w4.heap.size + 1) (by rw [← alloc_size w4 (.cells #[.slice none 0 0, .slice none 0 0, .slice none 0 0] 26)]; exact heap_alloc_new _ _)))
  refine HP2.out.mono ?_
  rintro _ w5 ⟨v, L', er, rfl, _, hy, hR, hb5⟩
  obtain ⟨rfl, rfl⟩ := hy bad_not
  have hal := below_step (below_alloc (below_alloc (Below.refl w4.heap.size w4) (.cells #[.slice none 0 0, .slice none 0 0, .slice none 0 0] 26)) (.cells #[.string ⟨#[]⟩, .int .u32 0, .int .u32 0, .int .u32 0, .int .u32 0, .slice none 0 0] 40)) hb5
  have HX5 := Aside0.mk (blk_below HX4.out hal)
  have HO5 := Aside0.mk (HO4.out.below hal)
  have HC5 := Aside0.mk (And.intro (Kd.C_below HC4.out.1 hal) HC4.out.2)
  have HB5 := Aside0.mk (below_step HB4.out hal)
  clear hy hR hb5 hal HX4 HO4 HC4 HB4 HP2
  go_wp2_with fail
  have hlen : decide ((L.length : Int) > 52) = true := decide_eq_true (by have := HLL.out; omega)
  have hlen2 : ((52 : Int) < (L.length : Int)) = True := eq_true (by have := HLL.out; omega)
  have hlen3 : (52 < L.length) = True := eq_true HLL.out.1
  have hlen4 : (0 < L.length) = True := eq_true (by have := HLL.out; omega)
  have hlen5 : ((0 : Int) < (L.length : Int)) = True := eq_true (by have := HLL.out; omega)
  obtain ⟨ad, ea, ca⟩ := Kd.at_int HC5.out.1 0 (by decide) (by have := HLL.out; omega)
  subst ea
  have h127 : rd L 0 = 127 := by rw [HL.out]; exact one_head
  rw [h127] at ca
  have hs : Below w5.heap.size w5 w5 ∧ w5.cell? ⟨w3.heap.size, 0, none⟩ = some (.slice B0 one.secs.length d0) ∧ w5.cell? ⟨w3.heap.size, 1, none⟩ = some (.slice B1 one.syms.length d1) ∧ w5.cell? ⟨w3.heap.size, 2, none⟩ = some (.slice B2 one.rels.length d2) ∧ w5.cell? _ = some (.int .u8 127) :=
    ⟨Below.refl _ _, (blk_cell HX5.out 0).trans rfl, (blk_cell HX5.out 1).trans rfl, (blk_cell HX5.out 2).trans rfl, ca⟩
  clear ca h127
  go_region_held3 (fun W => Below w5.heap.size w5 W ∧ W.cell? ⟨w3.heap.size, 0, none⟩ = some (.slice B0 one.secs.length d0) ∧ W.cell? ⟨w3.heap.size, 1, none⟩ = some (.slice B1 one.syms.length d1) ∧ W.cell? ⟨w3.heap.size, 2, none⟩ = some (.slice B2 one.rels.length d2) ∧ W.cell? ad = some (.int .u8 127)) (exact keepV (by first | assumption | exact undrewV (by assumption) | exact (Below.refl _ _).drew) (by assumption)) (first | (go_at_call 28; refine (one_calls _).mono ?_; rintro _ w' ⟨E0, E1, E2, f0, f1, f2, rfl, ho, hb⟩; unfold obV) | (go_at_call 20; refine (esame_calls one_s one_s (HO5.out.below (And.left (by assumption))) (by assumption)).mono ?_; rintro _ w' ⟨r, rfl, hr, hb⟩; obtain rfl := hr.2 rfl) | (go_at_call 16; refine (rsame_calls one_s one_s (HO5.out.below (And.left (by assumption))) (by assumption)).mono ?_; rintro _ w' ⟨r, rfl, hr, hb⟩; obtain rfl := hr.2 rfl))
  rename_i hH
  have HE := Aside0.mk hH.1
  clear hH hs
  go_wp2_with fail
  go_ret
  exact ⟨rfl, below_step HB5.out HE.out⟩
end Go.Proofs.Ytockojajbnnbpaa.E
namespace Go.Proofs.Ytockojajbnnbpaa.E
open Go.RowKit Go.Proofs.Ytockojajbnnbpaa.Q Go.Proofs.YtockojajbnnbpaaW.PrintWords Go.Proofs.YtockojajbnnbpaaW.PrintLast Go.Proofs.YtockojajbnnbpaaW.PrintMore
set_option linter.unusedVariables false
set_option linter.unusedSimpArgs false
set_option maxRecDepth 100000 in
set_option maxHeartbeats 16000000 in
theorem ElfCut_calls {A0 A1 A2 : Option Addr} {c0 c1 c2 : Nat} {o : Ob} (hg : ObRg o) (n : Int) (w : World) (h : ObC w A0 A1 A2 c0 c1 c2 o) :
    Calls Try.prog 3 #[obV A0 A1 A2 c0 c1 c2 o, .int .i64 n] w fun e w' => e = .returned (.bool true) ∧ Below w.heap.size w w' := by
  have hu26 := Try.underlying26
  have hal := below_alloc (Below.refl w.heap.size w) (.cells #[.slice A0 o.secs.length c0, .slice A1 o.syms.length c1, .slice A2 o.rels.length c2] 26)
  have HAL := Aside0.mk hal
  have HP := Aside0.mk (Put_calls hg _ (h.below hal))
  have HG := Aside0.mk hg
  unfold obV at *
  clear hal h hg
  go_enter Try.func3, Try.ntmps3
  go_wp2_with fail
  refine HP.out.mono ?_
  rintro _ w1 ⟨v, L, er, rfl, hy, hn, hR, hb1⟩
  obtain ⟨A, c, rfl, hc, hC⟩ := Kd.R_reads hR
  have HB1 := Aside0.mk (below_step HAL.out hb1)
  clear hR hb1 HP
  by_cases hm : MayP o
  rotate_left
  · obtain ⟨rfl, rfl⟩ := hn hm
    clear hy hn hm hC hc
    go_wp2_with fail
    refine (lives_calls w1).mono ?_
    rintro _ w2 ⟨rfl, hb2⟩
    have HB2 := Aside0.mk (below_step HB1.out hb2)
    clear hb2
    go_wp2_with fail
    go_ret
    exact ⟨rfl, HB2.out⟩
  obtain ⟨hL, rfl⟩ := hy hm
  have hpl := put_len hm HG.out
  rw [← hL] at hpl
  have hbb : AllBytes L := by rw [hL]; exact put_bytes HG.out
  have hcut := fun k hk => put_cut (k := k) hm HG.out hk
  rw [← hL] at hcut
  have HCUT := Aside0.mk hcut
  have HBB := Aside0.mk hbb
  have HLn : Aside0 (52 ≤ L.length ∧ L.length ≤ 208000) := ⟨by omega⟩
  have HC := Aside0.mk (And.intro hC hc)
  clear hL hy hn hm hpl hcut hbb hC hc
  have q1 : ((L.length : Int) == 0) = false := by rw [beq_eq_false_iff_ne]; have := HLn.out; omega
  have q7 : ¬ L.length = 0 := by have := HLn.out; omega
  have q8 : ¬ (L.length : Int) = 0 := by have := HLn.out; omega
  have q9 : ¬ L = [] := fun h => q7 (by rw [h]; rfl)
  have q2 : IntKind.u64.wrap (L.length : Int) = (L.length : Int) := by have := HLn.out; rw [IntKind.wrap_u64]; omega
  obtain ⟨k, hk1, hk2⟩ : ∃ k : Nat, (IntKind.u64.wrap n).tmod (L.length : Int) = (k : Int) ∧ k < L.length := by
    have := HLn.out
    have h0 : 0 ≤ IntKind.u64.wrap n := by rw [IntKind.wrap_u64]; omega
    have h1 := Int.emod_nonneg (IntKind.u64.wrap n) (show (L.length : Int) ≠ 0 by omega)
    have h2 := Int.emod_lt_of_pos (IntKind.u64.wrap n) (show (0 : Int) < L.length by omega)
    rw [Int.tmod_eq_emod_of_nonneg h0]
    exact ⟨(IntKind.u64.wrap n % (L.length : Int)).toNat, by omega, by omega⟩
  have hkl := HLn.out
  have hkc := HC.out.2
  have q3 : wrap64 (k : Int) = (k : Int) := by unfold wrap64; omega
  have q4 : ((k : Int)).toNat = k := rfl
  have q5 : (k : Int) ≤ (c : Int) := by omega
  have q6 : (0 : Int) ≤ (k : Int) := by omega
  have htl : (L.take k).length = k := by rw [List.length_take]; omega
  have hrd := Read_no (b := L.take k) (er := if 65536 < k then 3 else 4) (w := w1) (A := A) (c := c) (fun x hx => HBB.out x (List.mem_of_mem_take hx)) (by omega) (HCUT.out k hk2) (Kd.C_take HC.out.1 (by omega)) (by omega)
  rw [htl] at hrd
  have HRD := Aside0.mk hrd
  clear hrd htl hkl hkc hk2 HCUT HBB HC
  by_cases hk : 65536 < k
  · have hkz : (65536 : Int) < (k : Int) := by omega
    have HRE := Aside0.mk (HRD.out.mono fun e w' hh => by rw [if_pos hk] at hh; exact hh)
    clear hk HRD
    go_wp2_with fail
    refine HRE.out.mono ?_
    rintro _ w2 ⟨rfl, hb2⟩
    have HB2 := Aside0.mk (below_step (below_step HB1.out hb2) (below_alloc (Below.refl _ _) (.cells #[.slice none 0 0, .slice none 0 0, .slice none 0 0] 26)))
    clear hb2
    go_wp2_with fail
    refine (lives_calls _).mono ?_
    rintro _ w3 ⟨rfl, hb3⟩
    have HB3 := Aside0.mk (below_step HB2.out hb3)
    clear hb3
    go_wp2_with fail
    go_ret
    exact ⟨rfl, HB3.out⟩
  · have hkz : ¬ (65536 : Int) < (k : Int) := by omega
    have HRE := Aside0.mk (HRD.out.mono fun e w' hh => by rw [if_neg hk] at hh; exact hh)
    clear hk HRD
    go_wp2_with fail
    refine HRE.out.mono ?_
    rintro _ w2 ⟨rfl, hb2⟩
    have HB2 := Aside0.mk (below_step (below_step HB1.out hb2) (below_alloc (Below.refl _ _) (.cells #[.slice none 0 0, .slice none 0 0, .slice none 0 0] 26)))
    clear hb2
    go_wp2_with fail
    refine (lives_calls _).mono ?_
    rintro _ w3 ⟨rfl, hb3⟩
    have HB3 := Aside0.mk (below_step HB2.out hb3)
    clear hb3
    go_wp2_with fail
    go_ret
    exact ⟨rfl, HB3.out⟩
theorem elfCut_walk (A0 A1 A2 : Option Addr) (c0 c1 c2 : Nat) (o : Ob) (n : Int) (w : World) (h : ObC w A0 A1 A2 c0 c1 c2 o) (hg : ObRg o) (hn : (Lit.int .i64 n).wf = true) :
    Calls Try.prog 3 #[obV A0 A1 A2 c0 c1 c2 o, .int .i64 n] w fun e w' => e = .returned (.bool true) ∧ Below w.heap.size w w' := ElfCut_calls hg n w h
end Go.Proofs.Ytockojajbnnbpaa.E
namespace Go.Proofs.Ytockojajbnnbpaa.OpenE
open Go.Joins Go.ChangeShapes Go.WideShapes Go.RowKit Go.Deep Go.Proofs.Ytockojajbnnbpaa.Q Go.Proofs.Ytockojajbnnbpaa.E Go.Proofs.YtockojajbnnbpaaW.PrintWords
set_option linter.unusedVariables false
set_option linter.unusedSimpArgs false
theorem c3 : Try.prog.cellsOf 3 = 1 := by kernel_rfl
theorem c4 : Try.prog.cellsOf 4 = 1 := by kernel_rfl
theorem c5 : Try.prog.cellsOf 5 = 1 := by kernel_rfl
theorem c9 : Try.prog.cellsOf 9 = 1 := by kernel_rfl
theorem c21 : Try.prog.cellsOf 21 = 1 := by kernel_rfl
theorem c22 : Try.prog.cellsOf 22 = 1 := by kernel_rfl
theorem c23 : Try.prog.cellsOf 23 = 1 := by kernel_rfl
theorem c24 : Try.prog.cellsOf 24 = 1 := by kernel_rfl
theorem c26 : Try.prog.cellsOf 26 = 3 := by kernel_rfl
theorem c27 : Try.prog.cellsOf 27 = 1 := by kernel_rfl
theorem c38 : Try.prog.cellsOf 38 = 1 := by kernel_rfl
theorem c40 : Try.prog.cellsOf 40 = 6 := by kernel_rfl
theorem c59 : Try.prog.cellsOf 59 = 5 := by kernel_rfl
theorem c94 : Try.prog.cellsOf 94 = 7 := by kernel_rfl
variable {H : Type} {enc : TypeId × Value → H} {w : World} {base : Nat} {spare : Nat → Bool} {held : Bool}
theorem list3 {l : List Value} (h : l.length = 3) : ∃ c0 c1 c2, l = [c0, c1, c2] := by
  match l, h with
  | [c0, c1, c2], _ => exact ⟨_, _, _, rfl⟩
theorem list5 {l : List Value} (h : l.length = 5) : ∃ c0 c1 c2 c3 c4, l = [c0, c1, c2, c3, c4] := by
  match l, h with
  | [c0, c1, c2, c3, c4], _ => exact ⟨_, _, _, _, _, rfl⟩
theorem list6 {l : List Value} (h : l.length = 6) : ∃ c0 c1 c2 c3 c4 c5, l = [c0, c1, c2, c3, c4, c5] := by
  match l, h with
  | [c0, c1, c2, c3, c4, c5], _ => exact ⟨_, _, _, _, _, _, rfl⟩
theorem list7 {l : List Value} (h : l.length = 7) : ∃ c0 c1 c2 c3 c4 c5 c6, l = [c0, c1, c2, c3, c4, c5, c6] := by
  match l, h with
  | [c0, c1, c2, c3, c4, c5, c6], _ => exact ⟨_, _, _, _, _, _, _, rfl⟩
theorem lt32 {n : Int} (h : (Lit.int .u32 n).wf = true) : 0 ≤ n ∧ n < 4294967296 := by have := Go.bounds_u32 h; omega
theorem open_bytes {fuel : Nat} {v : Value} {x : DataW H × List MemPlace} (h : DataW.trod enc Try.prog w base spare held fuel 27 [v] = some x) :
    ∃ (A : Option Addr) (c : Nat) (zs : List Int), v = .slice A zs.length c ∧ zs.length ≤ c ∧ c ≤ maxLen ∧ Kd.C (Kd.int .u8) w A zs.length zs ∧ AllBytes zs := by
  rcases open_ints Try.underlying27 Try.underlying5 (by kernel_rfl) h with ⟨hcs, _⟩ | ⟨a, l, c, zs, hcs, _, hl, hm, hz, hx, hcell, hwz⟩
  · simp at hcs
    exact ⟨none, 0, [], hcs, Nat.le_refl _, by decide, ⟨rfl, by decide, fun h => absurd h (by decide)⟩, fun x hx => absurd hx (List.not_mem_nil)⟩
  · simp at hcs
    have hz : l ≤ zs.length := by rw [hz]; split <;> omega
    have hlz : (zs.take l).length = l := by rw [List.length_take]; omega
    refine ⟨some a, c, zs.take l, by rw [hlz]; exact hcs, by omega, hm, ⟨rfl, by rw [hlz]; simp only [maxLen] at hm; omega, fun _ => ⟨a, rfl, fun j p hj => ⟨[.int .u8 p], rfl, rfl, fun i u hu => ?_⟩⟩⟩, fun n hn => ?_⟩
    · have hi : i = 0 := by have := (List.getElem?_eq_some_iff.1 hu).1; simpa using this
      subst hi
      obtain rfl : (.int .u8 p : Value) = u := by simpa using hu
      have hjl := (List.getElem?_eq_some_iff.1 hj).1
      rw [hlz] at hjl
      have := hcell j (by omega)
      have e : zs.getD j 0 = p := by
        rw [List.getElem?_take, if_pos hjl] at hj
        rw [List.getD_eq_getElem?_getD, hj]; rfl
      rw [e] at this
      have e2 : j * (Kd.int IntKind.u8).sz + 0 = j := by simp [Kd.int, Kd.scalar]
      rw [e2]; exact this
    · have := Go.bounds_u8 (hwz n (List.mem_of_mem_take hn)); omega
theorem sec_cells {fuel : Nat} {cs : List Value} {x : DataW H × List MemPlace} (hl : cs.length = 6) (h : DataW.trod enc Try.prog w base spare held fuel 40 cs = some x) :
    ∃ r : S40, k40.K w r cs ∧ SecRg r := by
  obtain ⟨v0, v1, v2, v3, v4, v5, rfl⟩ := list6 hl
  obtain ⟨xs, n, _, _, _, hlen, hg⟩ := DataW.trod_struct Try.underlying40 h
  have g0 : DataW.trod enc Try.prog w base spare held n 9 (([v0, v1, v2, v3, v4, v5].drop 0).take (Try.prog.cellsOf 9)) = xs[0]? := hg 0 _ rfl
  have g1 : DataW.trod enc Try.prog w base spare held n 38 (([v0, v1, v2, v3, v4, v5].drop 1).take (Try.prog.cellsOf 38)) = xs[1]? := hg 1 _ rfl
  have g2 : DataW.trod enc Try.prog w base spare held n 38 (([v0, v1, v2, v3, v4, v5].drop 2).take (Try.prog.cellsOf 38)) = xs[2]? := hg 2 _ rfl
  have g3 : DataW.trod enc Try.prog w base spare held n 38 (([v0, v1, v2, v3, v4, v5].drop 3).take (Try.prog.cellsOf 38)) = xs[3]? := hg 3 _ rfl
  have g4 : DataW.trod enc Try.prog w base spare held n 38 (([v0, v1, v2, v3, v4, v5].drop 4).take (Try.prog.cellsOf 38)) = xs[4]? := hg 4 _ rfl
  have g5 : DataW.trod enc Try.prog w base spare held n 27 (([v0, v1, v2, v3, v4, v5].drop 5).take (Try.prog.cellsOf 27)) = xs[5]? := hg 5 _ rfl
  simp only [c9, c38, c27, List.drop_zero, List.drop_succ_cons, List.take_succ_cons, List.take_zero] at g0 g1 g2 g3 g4 g5
  have l6 : xs.length = 6 := hlen
  rw [List.getElem?_eq_getElem (by omega)] at g0 g1 g2 g3 g4 g5
  obtain ⟨s, e0, _, w0⟩ := DataW.trod_string Try.underlying9 g0
  obtain ⟨a, e1, _, w1⟩ := DataW.trod_int Try.underlying38 g1
  obtain ⟨b, e2, _, w2⟩ := DataW.trod_int Try.underlying38 g2
  obtain ⟨c, e3, _, w3⟩ := DataW.trod_int Try.underlying38 g3
  obtain ⟨d, e4, _, w4⟩ := DataW.trod_int Try.underlying38 g4
  obtain ⟨A, k, zs, e5, l5, m5, C5, B5⟩ := open_bytes g5
  simp only [List.cons.injEq, and_true] at e0 e1 e2 e3 e4
  subst e0 e1 e2 e3 e4 e5
  simp only [maxLen] at w0 m5
  exact ⟨⟨s, a, b, c, d, zs⟩, k40_mk w ⟨s, a, b, c, d, zs⟩ l5 C5, ⟨by show s.size < _; omega, lt32 w1, lt32 w2, lt32 w3, lt32 w4, B5, by show zs.length < _; omega⟩⟩
theorem sym_cells {fuel : Nat} {cs : List Value} {x : DataW H × List MemPlace} (hl : cs.length = 7) (h : DataW.trod enc Try.prog w base spare held fuel 94 cs = some x) :
    ∃ r : S94, k94.K w r cs ∧ SymRg r ∧ r.f0.size < 9223372036854775808 := by
  obtain ⟨v0, v1, v2, v3, v4, v5, v6, rfl⟩ := list7 hl
  obtain ⟨xs, n, _, _, _, hlen, hg⟩ := DataW.trod_struct Try.underlying94 h
  have g0 : DataW.trod enc Try.prog w base spare held n 9 (([v0, v1, v2, v3, v4, v5, v6].drop 0).take (Try.prog.cellsOf 9)) = xs[0]? := hg 0 _ rfl
  have g1 : DataW.trod enc Try.prog w base spare held n 38 (([v0, v1, v2, v3, v4, v5, v6].drop 1).take (Try.prog.cellsOf 38)) = xs[1]? := hg 1 _ rfl
  have g2 : DataW.trod enc Try.prog w base spare held n 38 (([v0, v1, v2, v3, v4, v5, v6].drop 2).take (Try.prog.cellsOf 38)) = xs[2]? := hg 2 _ rfl
  have g3 : DataW.trod enc Try.prog w base spare held n 5 (([v0, v1, v2, v3, v4, v5, v6].drop 3).take (Try.prog.cellsOf 5)) = xs[3]? := hg 3 _ rfl
  have g4 : DataW.trod enc Try.prog w base spare held n 5 (([v0, v1, v2, v3, v4, v5, v6].drop 4).take (Try.prog.cellsOf 5)) = xs[4]? := hg 4 _ rfl
  have g5 : DataW.trod enc Try.prog w base spare held n 4 (([v0, v1, v2, v3, v4, v5, v6].drop 5).take (Try.prog.cellsOf 4)) = xs[5]? := hg 5 _ rfl
  have g6 : DataW.trod enc Try.prog w base spare held n 3 (([v0, v1, v2, v3, v4, v5, v6].drop 6).take (Try.prog.cellsOf 3)) = xs[6]? := hg 6 _ rfl
  simp only [c9, c38, c5, c4, c3, List.drop_zero, List.drop_succ_cons, List.take_succ_cons, List.take_zero] at g0 g1 g2 g3 g4 g5 g6
  have l7 : xs.length = 7 := hlen
  rw [List.getElem?_eq_getElem (by omega)] at g0 g1 g2 g3 g4 g5 g6
  obtain ⟨s, e0, _, w0⟩ := DataW.trod_string Try.underlying9 g0
  obtain ⟨a, e1, _, w1⟩ := DataW.trod_int Try.underlying38 g1
  obtain ⟨b, e2, _, w2⟩ := DataW.trod_int Try.underlying38 g2
  obtain ⟨c, e3, _, w3⟩ := DataW.trod_int Try.underlying5 g3
  obtain ⟨d, e4, _, w4⟩ := DataW.trod_int Try.underlying5 g4
  obtain ⟨t, e5, _⟩ := DataW.trod_bool Try.underlying4 g5
  obtain ⟨i, e6, _, w6⟩ := DataW.trod_int Try.underlying3 g6
  simp only [List.cons.injEq, and_true] at e0 e1 e2 e3 e4 e5 e6
  subst e0 e1 e2 e3 e4 e5 e6
  simp only [maxLen] at w0
  have b3 := Go.bounds_u8 w3
  have b4 := Go.bounds_u8 w4
  exact ⟨⟨s, a, b, c, d, t, i⟩, k94_mk w ⟨s, a, b, c, d, t, i⟩, ⟨lt32 w1, lt32 w2, ⟨b3.1, by show c ≤ _; omega⟩, ⟨b4.1, by show d ≤ _; omega⟩⟩, by show s.size < _; omega⟩
theorem rel_cells {fuel : Nat} {cs : List Value} {x : DataW H × List MemPlace} (hl : cs.length = 5) (h : DataW.trod enc Try.prog w base spare held fuel 59 cs = some x) :
    ∃ r : S59, k59.K w r cs ∧ (0 ≤ r.f1 ∧ r.f1 < 4294967296) ∧ (0 ≤ r.f2 ∧ r.f2 ≤ 255) ∧ (-9223372036854775808 ≤ r.f3 ∧ r.f3 ≤ 9223372036854775807) := by
  obtain ⟨v0, v1, v2, v3, v4, rfl⟩ := list5 hl
  obtain ⟨xs, n, _, _, _, hlen, hg⟩ := DataW.trod_struct Try.underlying59 h
  have g0 : DataW.trod enc Try.prog w base spare held n 3 (([v0, v1, v2, v3, v4].drop 0).take (Try.prog.cellsOf 3)) = xs[0]? := hg 0 _ rfl
  have g1 : DataW.trod enc Try.prog w base spare held n 38 (([v0, v1, v2, v3, v4].drop 1).take (Try.prog.cellsOf 38)) = xs[1]? := hg 1 _ rfl
  have g2 : DataW.trod enc Try.prog w base spare held n 5 (([v0, v1, v2, v3, v4].drop 2).take (Try.prog.cellsOf 5)) = xs[2]? := hg 2 _ rfl
  have g3 : DataW.trod enc Try.prog w base spare held n 3 (([v0, v1, v2, v3, v4].drop 3).take (Try.prog.cellsOf 3)) = xs[3]? := hg 3 _ rfl
  have g4 : DataW.trod enc Try.prog w base spare held n 21 (([v0, v1, v2, v3, v4].drop 4).take (Try.prog.cellsOf 21)) = xs[4]? := hg 4 _ rfl
  simp only [c38, c5, c3, c21, List.drop_zero, List.drop_succ_cons, List.take_succ_cons, List.take_zero] at g0 g1 g2 g3 g4
  have l5 : xs.length = 5 := hlen
  rw [List.getElem?_eq_getElem (by omega)] at g0 g1 g2 g3 g4
  obtain ⟨a, e0, _, w0⟩ := DataW.trod_int Try.underlying3 g0
  obtain ⟨b, e1, _, w1⟩ := DataW.trod_int Try.underlying38 g1
  obtain ⟨c, e2, _, w2⟩ := DataW.trod_int Try.underlying5 g2
  obtain ⟨d, e3, _, w3⟩ := DataW.trod_int Try.underlying3 g3
  obtain ⟨f, e4, _, w4⟩ := DataW.trod_int Try.underlying21 g4
  simp only [List.cons.injEq, and_true] at e0 e1 e2 e3 e4
  subst e0 e1 e2 e3 e4
  have b2 := Go.bounds_u8 w2
  have b3 := Go.bounds_i64 w3
  exact ⟨⟨a, b, c, d, f⟩, k59_mk w ⟨a, b, c, d, f⟩, lt32 w1, ⟨b2.1, by show c ≤ _; omega⟩, ⟨by show _ ≤ d; omega, by show d ≤ _; omega⟩⟩
theorem open_list {α : Type} (d : Kd α) (z : α) {t e m : Nat} (P : α → Prop) (ht : Try.prog.underlying t = some (.slice e)) (hc : Try.prog.cellsOf e = m) (hd : d.sz = m)
    (hcell : ∀ {fuel : Nat} {cs : List Value} {x : DataW H × List MemPlace}, cs.length = m → DataW.trod enc Try.prog w base spare held fuel e cs = some x → ∃ r : α, d.K w r cs ∧ P r)
    {fuel : Nat} {v : Value} {x : DataW H × List MemPlace} (h : DataW.trod enc Try.prog w base spare held fuel t [v] = some x) :
    ∃ (A : Option Addr) (c : Nat) (xs : List α), v = .slice A xs.length c ∧ xs.length ≤ c ∧ c ≤ maxLen ∧ Kd.C d w A xs.length xs ∧ ∀ x ∈ xs, P x := by
  rcases open_slice ht h with ⟨hcs, _⟩ | ⟨a, l, c, k, n, D, Pl, hcs, _, hl, hm, hmm, _, hx⟩
  · simp at hcs
    exact ⟨none, 0, [], hcs, Nat.le_refl _, by decide, ⟨rfl, Nat.zero_le _, fun h => absurd h (Nat.lt_irrefl 0)⟩, fun x hx => absurd hx (List.not_mem_nil)⟩
  · simp at hcs
    have hlm : l ≤ k := by rw [hmm]; split <;> omega
    have each : ∀ i, i < l → ∃ rc : α × List Value, d.K w rc.1 rc.2 ∧ P rc.1 ∧ rc.2.length = m ∧ ∀ j u, rc.2[j]? = some u → w.cell? (a.add (i * m + j)) = some u := by
      intro i hi
      obtain ⟨cs', h1, h2⟩ := hx i (by omega)
      rw [hc] at h1
      obtain ⟨_, hlen, hcl⟩ := World.cells?_some h1
      obtain ⟨r, hr, hp⟩ := hcell hlen h2
      refine ⟨(r, cs'), hr, hp, hlen, fun j u hu => ?_⟩
      have hj : j < m := by rw [← hlen]; exact (List.getElem?_eq_some_iff.1 hu).1
      have := hcl j hj
      rw [Deep.add_add] at this
      rw [this, hu]
    haveI : Inhabited (α × List Value) := ⟨(z, [])⟩
    obtain ⟨f, hf⟩ := choose_lt each
    have hl2 : ((List.range l).map fun i => (f i).1).length = l := by simp
    refine ⟨some a, c, (List.range l).map fun i => (f i).1, by rw [hl2]; exact hcs, by rw [hl2]; exact hl, hm, ⟨rfl, by rw [hl2]; simp only [maxLen] at hm; omega, fun _ => ⟨a, rfl, fun j q hq => ?_⟩⟩, fun x hx => ?_⟩
    · have hj : j < l := by have := (List.getElem?_eq_some_iff.1 hq).1; simpa using this
      have hq' : (f j).1 = q := by simpa [List.getElem?_map, List.getElem?_range hj] using hq
      subst hq'
      exact ⟨(f j).2, by rw [(hf j hj).2.2.1, hd], (hf j hj).1, by rw [hd]; exact (hf j hj).2.2.2⟩
    · obtain ⟨i, hi, rfl⟩ := List.mem_map.1 hx
      exact (hf i (List.mem_range.1 hi)).2.1
set_option maxRecDepth 100000 in
theorem open_object {r : Reach} {b0 : Nat} {v : Value} {d : DataW H} {p : List MemPlace} (hv : Value.okWide Try.prog w r b0 26 v) (h : DataW.Trod enc Try.prog w base spare held 26 v d p) :
    ∃ (A0 A1 A2 : Option Addr) (k0 k1 k2 : Nat) (o : Ob), v = obV A0 A1 A2 k0 k1 k2 o ∧ ObC w A0 A1 A2 k0 k1 k2 o ∧ ObRg o := by
  obtain ⟨cs, rfl, hsz⟩ := okWide_struct Try.underlying26 hv
  obtain ⟨l⟩ := cs
  rw [c26] at hsz
  obtain ⟨v0, v1, v2, rfl⟩ := list3 hsz
  obtain ⟨fuel, hf⟩ := h
  simp only [Value.cells] at hf
  obtain ⟨xs, n, _, _, _, hlen, hg⟩ := DataW.trod_struct Try.underlying26 hf
  have g0 : DataW.trod enc Try.prog w base spare held n 22 (([v0, v1, v2].drop 0).take (Try.prog.cellsOf 22)) = xs[0]? := hg 0 _ rfl
  have g1 : DataW.trod enc Try.prog w base spare held n 23 (([v0, v1, v2].drop 1).take (Try.prog.cellsOf 23)) = xs[1]? := hg 1 _ rfl
  have g2 : DataW.trod enc Try.prog w base spare held n 24 (([v0, v1, v2].drop 2).take (Try.prog.cellsOf 24)) = xs[2]? := hg 2 _ rfl
  simp only [c22, c23, c24, List.drop_zero, List.drop_succ_cons, List.take_succ_cons, List.take_zero] at g0 g1 g2
  have l3 : xs.length = 3 := hlen
  rw [List.getElem?_eq_getElem (by omega)] at g0 g1 g2
  obtain ⟨A0, k0, secs, rfl, l0, m0, C0, P0⟩ := open_list k40 z40 SecRg Try.underlying22 c40 rfl (fun hl h => sec_cells hl h) g0
  obtain ⟨A1, k1, syms, rfl, l1, m1, C1, P1⟩ := open_list k94 z94 (fun x => SymRg x ∧ x.f0.size < 9223372036854775808) Try.underlying23 c94 rfl (fun hl h => sym_cells hl h) g1
  obtain ⟨A2, k2, rels, rfl, l2, m2, C2, P2⟩ := open_list k59 z59 (fun r => (0 ≤ r.f1 ∧ r.f1 < 4294967296) ∧ (0 ≤ r.f2 ∧ r.f2 ≤ 255) ∧ (-9223372036854775808 ≤ r.f3 ∧ r.f3 ≤ 9223372036854775807)) Try.underlying24 c59 rfl (fun hl h => rel_cells hl h) g2
  simp only [maxLen] at m0 m1 m2
  exact ⟨A0, A1, A2, k0, k1, k2, ⟨secs, syms, rels⟩, rfl, ⟨C0, C1, C2, l0, l1, l2⟩, ⟨P0, P1, P2, by show secs.length < _; omega, by show syms.length < _; omega, by show rels.length < _; omega⟩⟩
end Go.Proofs.Ytockojajbnnbpaa.OpenE
