-- The memory's functions: StoreCap, Copy, by hand. Lean checks it.
import Derived.Test.YtiiemfnaegapmaaH4
namespace Go.Proofs.Ytiiemfnaegapmaa.Q
open Go.Proofs.Ytiiemfnaegapmaa.Pure Go.Proofs.Ytiiemfnaegapmaa.Z
open Go.RowKit Go.Proofs.YtiiemfnaegapmaaW.PrintWords Go.Proofs.YtiiemfnaegapmaaW.PrintLast Go.Proofs.YtiiemfnaegapmaaW.PrintMore
set_option linter.unusedVariables false
set_option linter.unusedSimpArgs false
theorem slice61_1 (g n : Nat) (k1 : IntKind) (h : n + 8 ≤ 65536) (w : World) :
    (Instr.sliceAt 61 (.pointer (some ⟨g, 1, none⟩)) (some (.int k1 (n : Int))) none none).run Try.prog w = .ok (.slice (some ⟨g, 1 + n, none⟩) (65536 - n) (65536 - n)) w := by
  unfold Instr.sliceAt Instr.sliceBounds
  rw [Sem.run_bind, run_underlying Try.underlying61]
  simp only [Result.andThen_ok, Instr.sureAddr, Sem.run_bind, Sem.run_pure]
  rw [run_bound (x := undef) (n := n) w (by omega)]
  simp only [Result.andThen_ok]
  rw [Try.sizeOf5]
  simp only [Result.andThen_ok]
  rw [if_neg (by omega), Addr.add_mid, Nat.mul_one]
/-- Behind a capability's store. -/
def stC (B : Nat → Int) (n : Nat) (a m : Int) : Nat → Int := fun j => if n ≤ j ∧ j < n + 4 then nth a (j - n) else if n + 4 ≤ j ∧ j < n + 8 then nth m (j - (n + 4)) else B j
theorem stC_is (B : Nat → Int) (n : Nat) (a m : Int) : stC B n a m = upB (upB (upB (upB (upB (upB (upB (upB B n (nth a 0)) (n + 1) (nth a 1)) (n + 2) (nth a 2)) (n + 3) (nth a 3)) (n + 4) (nth m 0)) (n + 5) (nth m 1)) (n + 6) (nth m 2)) (n + 7) (nth m 3) := by
  funext j
  unfold stC upB
  by_cases c : n ≤ j ∧ j < n + 8
  · have : j = n ∨ j = n + 1 ∨ j = n + 2 ∨ j = n + 3 ∨ j = n + 4 ∨ j = n + 5 ∨ j = n + 6 ∨ j = n + 7 := by omega
    rcases this with h | h | h | h | h | h | h | h <;> subst h <;> simp <;> omega
  · have e : ∀ k, k < 8 → j ≠ n + k := fun k hk => by omega
    rw [if_neg (e 7 (by omega)), if_neg (e 6 (by omega)), if_neg (e 5 (by omega)), if_neg (e 4 (by omega)), if_neg (e 3 (by omega)), if_neg (e 2 (by omega)), if_neg (e 1 (by omega)), if_neg (by have := e 0 (by omega); omega), if_neg (by omega), if_neg (by omega)]
theorem copy8 (W : World) (g b n : Nat) (cs : List Value) (hl : cs.length = 8) (h1 : ∀ v ∈ cs, v.oneCell' = true) (hb : ∀ j v, cs[j]? = some v → W.cell? ⟨b, j, none⟩ = some v) (ht : W.there g (1 + n) 8) (hn : n + 8 ≤ 65536) :
    (Builtin.copy_ #[36, 36] 3 #[.slice (some ⟨g, 1 + n, none⟩) (65536 - n) (65536 - n), .slice (some ⟨b, 0, none⟩) 8 8]).run Try.prog W = .ok (.int .i64 8) (W.setCells g (1 + n) cs) := by
  have hld : (loadCells ⟨b, 0, none⟩ cs.length).run Try.prog W = .ok cs.toArray W := run_loadCells_list (P := Try.prog) W ⟨b, 0, none⟩ cs (fun j v hv => by rw [Addr.add_mid, Nat.zero_add]; exact hb j v hv)
  have hst := run_storeCells_cells (P := Try.prog) g (1 + n) cs 0 W (fun j hj => by simpa using (ht j (by omega)).1) (fun j hj => by simpa using (ht j (by omega)).2) h1
  have hm : Nat.min 8 (65536 - n) = 8 := by show min 8 (65536 - n) = 8; omega
  rw [hl] at hld
  unfold Builtin.copy_
  rw [Nat.add_zero] at hst
  simp [run_underlying Try.underlying36, Builtin.lenOf, Builtin.firstCells, Try.sizeOf5, hm, hld, goInt, hst]
def updL (B : Nat → Int) (n : Nat) : List Int → (Nat → Int)
  | [] => B
  | v :: r => updL (upB B n v) (n + 1) r
theorem Mem.setL {g : Nat} {T : Nat → Bool} : ∀ (vs : List Int) (n : Nat) (w : World) (B : Nat → Int), Mem w g true B T → n + vs.length ≤ 65536 → Mem (w.setCells g (1 + n) (vs.map (Value.int .u8))) g true (updL B n vs) T
  | [], _, _, _, h, _ => h
  | v :: r, n, w, B, h, hn => by
    rw [List.length_cons] at hn
    have h2 := Mem.setL r (n + 1) _ _ (h.setB n (by omega) v) (by omega)
    exact h2
theorem Fr.setCells {S : Nat → Prop} {g : Nat} (hs : S g) : ∀ (vs : List Value) (o : Nat) (a b : World), Fr S a b → Fr S a (b.setCells g o vs)
  | [], _, _, _, h => h
  | v :: r, o, a, b, h => Fr.setCells hs r (o + 1) a _ (h.setCell (p := ⟨g, o, none⟩) hs v)
theorem updL_is (B : Nat → Int) (n : Nat) (a m : Int) : updL B n [nth a 0, nth a 1, nth a 2, nth a 3, nth m 0, nth m 1, nth m 2, nth m 3] = stC B n a m := by rw [stC_is]; rfl
set_option maxHeartbeats 8000000 in
set_option maxRecDepth 100000 in
theorem StoreCap_ok {g : Nat} {B : Nat → Int} {T : Nat → Bool} (n : Nat) (q0 : Bool) (q1 q2 q3 q4 q5 q6 : Int) (h1 : 0 ≤ q1 ∧ q1 < 4294967296) (h2 : 0 ≤ q2 ∧ q2 ≤ 255) (h3 : 0 ≤ q3 ∧ q3 ≤ 255) (h4 : 0 ≤ q4 ∧ q4 ≤ 255) (h5 : 0 ≤ q5 ∧ q5 ≤ 65535) (h6 : 0 ≤ q6 ∧ q6 ≤ 65535) (w : World) (hM : Mem w g true B T) (hd : n % 8 = 0) (hn : n + 8 ≤ 65536) :
    Calls Try.prog 9 #[.pointer (some ⟨g, 0, none⟩), .int .u32 n, .agg #[.bool q0, .int .u32 q1, .int .u8 q2, .int .u8 q3, .int .u8 q4, .int .u16 q5, .int .u16 q6]] w fun e w' => e = .returned (.int .i64 0) ∧ Mem w' g true (stC B n q1 (num2 q2 q3 q4 q5 q6)) (upT T (n / 8) q0) ∧ Fr (fun k => k = g) w w' := by
  have HM := Aside0.mk hM
  have hth : isThere (n : Int) 8 = true := by unfold isThere; exact decide_eq_true ⟨by omega, by omega⟩
  have HN := Aside0.mk hn
  have HB : Aside0 (Below w.heap.size w (w.alloc (.cells #[.bool q0, .int .u32 q1, .int .u8 q2, .int .u8 q3, .int .u8 q4, .int .u16 q5, .int .u16 q6] 30))) := ⟨(Below.refl _ _).alloc (Nat.le_refl _) _⟩
  have HM1 := Aside0.mk (HM.out.below HB.out)
  have hu30 := Try.underlying30
  have hu51 := Try.underlying51
  have hr1 : (n : Int) + 8 ≤ 65536 := by omega
  have hr2 : n / 8 < 8192 := by omega
  have hr3 : n < 65536 := by omega
  have hcap : 8 ≤ 65536 - n := by omega
  have HBC := Aside0.mk (bytes_callsE q0 q1 q2 q3 q4 q5 q6 h1 h2 h3 h4 h5 h6)
  have hsl := slice61_1 g n .u32 hn
  clear hM hd hn h1 h2 h3 h4 h5 h6
  go_enter Try.func9, Try.ntmps9
  go_wp2_with fail
  refine (none_calls HM1.out).mono ?_
  rintro e w1 ⟨rfl, rfl⟩
  go_wp2_with fail
  refine (there_calls (n : Int) 8 (by have := HN.out; omega) (by decide) _).mono ?_
  rw [hth]
  rintro e w1 ⟨rfl, rfl⟩
  clear hth
  go_wp2_with fail
  refine (HBC.out _).mono ?_
  rintro e w3 ⟨rfl, hb⟩
  have HM3 := Aside0.mk (HM1.out.below hb)
  have HB3 := Aside0.mk (below_step HB.out hb)
  have BQ := Aside0.mk (blk_below (heap_alloc_new w (.cells #[.bool q0, .int .u32 q1, .int .u8 q2, .int .u8 q3, .int .u8 q4, .int .u16 q5, .int .u16 q6] 30)) hb)
  clear hb
  go_wp2
  have HM4 := Aside0.mk (HM3.out.below ((Below.refl w3.heap.size w3).alloc (Nat.le_refl _) (.cells #[.int .u8 (nth q1 0), .int .u8 (nth q1 1), .int .u8 (nth q1 2), .int .u8 (nth q1 3), .int .u8 (nth (num2 q2 q3 q4 q5 q6) 0), .int .u8 (nth (num2 q2 q3 q4 q5 q6) 1), .int .u8 (nth (num2 q2 q3 q4 q5 q6) 2), .int .u8 (nth (num2 q2 q3 q4 q5 q6) 3)] 51)))
  have HB4 := Aside0.mk (below_step HB3.out ((Below.refl w3.heap.size w3).alloc (Nat.le_refl _) (.cells #[.int .u8 (nth q1 0), .int .u8 (nth q1 1), .int .u8 (nth q1 2), .int .u8 (nth q1 3), .int .u8 (nth (num2 q2 q3 q4 q5 q6) 0), .int .u8 (nth (num2 q2 q3 q4 q5 q6) 1), .int .u8 (nth (num2 q2 q3 q4 q5 q6) 2), .int .u8 (nth (num2 q2 q3 q4 q5 q6) 3)] 51)))
  have BA := Aside0.mk (heap_alloc_new w3 (.cells #[.int .u8 (nth q1 0), .int .u8 (nth q1 1), .int .u8 (nth q1 2), .int .u8 (nth q1 3), .int .u8 (nth (num2 q2 q3 q4 q5 q6) 0), .int .u8 (nth (num2 q2 q3 q4 q5 q6) 1), .int .u8 (nth (num2 q2 q3 q4 q5 q6) 2), .int .u8 (nth (num2 q2 q3 q4 q5 q6) 3)] 51))
  replace BQ := Aside0.mk (blk_below BQ.out ((Below.refl w3.heap.size w3).alloc (Nat.le_refl _) (.cells #[.int .u8 (nth q1 0), .int .u8 (nth q1 1), .int .u8 (nth q1 2), .int .u8 (nth q1 3), .int .u8 (nth (num2 q2 q3 q4 q5 q6) 0), .int .u8 (nth (num2 q2 q3 q4 q5 q6) 1), .int .u8 (nth (num2 q2 q3 q4 q5 q6) 2), .int .u8 (nth (num2 q2 q3 q4 q5 q6) 3)] 51)))
  generalize (w3.alloc (.cells #[.int .u8 (nth q1 0), .int .u8 (nth q1 1), .int .u8 (nth q1 2), .int .u8 (nth q1 3), .int .u8 (nth (num2 q2 q3 q4 q5 q6) 0), .int .u8 (nth (num2 q2 q3 q4 q5 q6) 1), .int .u8 (nth (num2 q2 q3 q4 q5 q6) 2), .int .u8 (nth (num2 q2 q3 q4 q5 q6) 3)] 51)) = w4 at HM4 HB4 BA BQ ⊢
  have hcp := copy8 w4.drew g w3.heap.size n [.int .u8 (nth q1 0), .int .u8 (nth q1 1), .int .u8 (nth q1 2), .int .u8 (nth q1 3), .int .u8 (nth (num2 q2 q3 q4 q5 q6) 0), .int .u8 (nth (num2 q2 q3 q4 q5 q6) 1), .int .u8 (nth (num2 q2 q3 q4 q5 q6) 2), .int .u8 (nth (num2 q2 q3 q4 q5 q6) 3)] rfl (by intro v hv; simp only [List.mem_cons, List.not_mem_nil, or_false] at hv; rcases hv with rfl | rfl | rfl | rfl | rfl | rfl | rfl | rfl <;> rfl) (fun j v hv => by rw [World.cell?_drew, blk_cell BA.out j, ← hv]; exact List.getElem?_toArray) (fun j hj => ⟨by rw [World.cell?_drew, show 1 + n + j = 1 + (n + j) by omega, HM4.out.byte (n + j) (by omega)]; rfl, HM4.out.free _⟩) (by omega)
  obtain ⟨w5, hw5⟩ : ∃ w5, w5 = w4.drew.setCells g (1 + n) [.int .u8 (nth q1 0), .int .u8 (nth q1 1), .int .u8 (nth q1 2), .int .u8 (nth q1 3), .int .u8 (nth (num2 q2 q3 q4 q5 q6) 0), .int .u8 (nth (num2 q2 q3 q4 q5 q6) 1), .int .u8 (nth (num2 q2 q3 q4 q5 q6) 2), .int .u8 (nth (num2 q2 q3 q4 q5 q6) 3)] := ⟨_, rfl⟩
  rw [← hw5] at hcp
  have HM5 : Aside0 (Mem w5 g true (stC B n q1 (num2 q2 q3 q4 q5 q6)) T) := by
    rw [hw5, ← updL_is]
    exact ⟨Mem.setL [nth q1 0, nth q1 1, nth q1 2, nth q1 3, nth (num2 q2 q3 q4 q5 q6) 0, nth (num2 q2 q3 q4 q5 q6) 1, nth (num2 q2 q3 q4 q5 q6) 2, nth (num2 q2 q3 q4 q5 q6) 3] n w4.drew B ⟨HM4.out.ex⟩ (by show n + 8 ≤ 65536; omega)⟩
  have HF5 : Aside0 (Fr (fun k => k = g) w w5) := by
    rw [hw5]
    exact ⟨Fr.setCells (S := fun k => k = g) (g := g) rfl _ _ _ _ (Fr.of_below HB4.out).drew⟩
  have HG : Aside0 (g ≠ w.heap.size) := ⟨by have := HM.out.lt; omega⟩
  have BQ5 : Aside0 (w5.heap[w.heap.size]? = some (.cells #[.bool q0, .int .u32 q1, .int .u8 q2, .int .u8 q3, .int .u8 q4, .int .u16 q5, .int .u16 q6] 30 (0, 0))) := by
    rw [hw5]
    exact ⟨(Fr.setCells (S := fun k => k = g) (g := g) rfl _ _ _ _ (Fr.refl _ w4.drew)).blk (show w4.drew.heap[w.heap.size]? = _ from BQ.out) (fun e => HG.out e.symm)⟩
  clear hw5
  go_region
  have hcq := (blk_cell BQ5.out 0).trans rfl
  have hct := HM5.out.tag (n / 8) hr2
  have hft := HM5.out.free (65537 + n / 8)
  have q1' : Int.tdiv (n : Int) 8 = (n : Int) / 8 := Int.tdiv_eq_ediv_of_nonneg (by omega)
  have q2' : IntKind.u32.wrap ((n : Int) / 8) = (n : Int) / 8 := by simp [IntKind.wrap, IntKind.bits, IntKind.signed]; omega
  have q3' : (0 : Int) ≤ (n : Int) / 8 := by omega
  have q4' : (n : Int) / 8 < 8192 := by omega
  have q5' : ((n : Int) / 8).toNat = n / 8 := by omega
  clear hcp hsl
  go_wp2
  go_region
  go_wp2
  go_ret
  exact ⟨rfl, ⟨(HM5.out.setT (n / 8) hr2 q0).ex⟩, (HF5.out.setCell rfl _).drew⟩
/-- The cells of a memory of noughts, none made. -/
def zeroCells64 : Array Value := (rng 0 73729).toArray
theorem run_zero64 (w : World) : (zeroValue 64).run Try.prog w = .ok (.agg zeroCells64) w := by
  obtain ⟨i, hi, hz, hs, _⟩ := info64
  unfold zeroValue typeInfo zeroCells64
  simp [hi, hz]
theorem wpList_alloc64 {ops : Array Oper} {rest : List Oper} {op : Oper} {a : Act} {w : World} {Q : Exit → Act → World → Prop} (hgd : op.guard = none) (ho : op.op = .alloc 64)
    (h : wpList Try.prog ops Q rest (a.put op.dst (.pointer (some ⟨w.heap.size, 0, none⟩))) (w.alloc (.cells zeroCells64 64))) : wpList Try.prog ops Q (op :: rest) a w :=
  wpList_plain hgd fun _ hK => by
    have hr := run_zero64 w
    unfold Oper.wp execOp
    rw [ho]
    show Oper.upon Try.prog op a _ Q (Sem.run Try.prog (do let x ← Instr.alloc 64 true (.tuple #[]); pure (Next.value x)) w)
    have hi : (Instr.alloc 64 true (.tuple #[])).run Try.prog w = .ok (.pointer (some ⟨w.heap.size, 0, none⟩)) (w.alloc (.cells zeroCells64 64)) := by
      unfold Instr.alloc
      rw [Sem.run_bind, hr]
      rfl
    rw [Sem.run_bind, hi]
    exact hK _ _ h
theorem Mem.one {w : World} {cs : Array Value} {B : Nat → Int} {T : Nat → Bool} (hz : cs.size = 73729) (h0 : cs[0]? = some (.bool true)) (h1 : ∀ i, i < 65536 → cs[1 + i]? = some (.int .u8 (B i))) (h2 : ∀ i, i < 8192 → cs[65537 + i]? = some (.bool (T i))) : cs.all (·.oneCell') = true := by
  rw [Array.all_eq_true]
  intro i hi
  have hs : cs[i]? = some cs[i] := Array.getElem?_eq_getElem hi
  by_cases c0 : i = 0
  · subst c0
    rw [h0] at hs
    rw [← Option.some.inj hs]; rfl
  by_cases c1 : i < 65537
  · have h := h1 (i - 1) (by omega)
    rw [show 1 + (i - 1) = i by omega, hs] at h
    rw [Option.some.inj h]; rfl
  · have h := h2 (i - 65537) (by omega)
    rw [show 65537 + (i - 65537) = i by omega, hs] at h
    rw [Option.some.inj h]; rfl
theorem size64 : (Try.prog.info? 64).map (·.size) = some 73729 := by kernel_rfl
set_option maxHeartbeats 4000000 in
theorem Copy_ok {g : Nat} {B : Nat → Int} {T : Nat → Bool} (w : World) (hM : Mem w g true B T) :
    Calls Try.prog 16 #[.pointer (some ⟨g, 0, none⟩)] w fun e w' => e = .returned (.pointer (some ⟨w.heap.size, 0, none⟩)) ∧ Mem w' w.heap.size true B T ∧ Below w.heap.size w w' := by
  have HM := Aside0.mk hM
  clear hM
  go_enter Try.func16, Try.ntmps16
  go_wp2_with fail
  refine (none_calls HM.out).mono ?_
  rintro e w1 ⟨rfl, rfl⟩
  obtain ⟨cs, hb, hz, h0, h1, h2⟩ := HM.out.ex
  have HX := Aside0.mk (And.intro hz (And.intro h0 (And.intro h1 h2)))
  have HB := Aside0.mk hb
  have HSZ : Aside0 ((Try.prog.info? 64).map (·.size) = some cs.size) := ⟨by rw [hz]; exact size64⟩
  have H1 := Aside0.mk (Mem.one (w := w) hz h0 h1 h2)
  have HO : Aside0 (zeroCells64.size = cs.size) := ⟨by rw [hz]; unfold zeroCells64; rw [List.size_toArray, rng_len]⟩
  clear hb hz h0 h1 h2
  go_wp2_with (first | (with_reducible refine wpList_load_row rfl 64 (.tmp 7) rfl g rfl 64 cs (0, 0) _ HB.out Try.underlying64 rfl HSZ.out ?_) | (with_reducible refine wpList_alloc64 rfl rfl ?_) | (with_reducible refine wpList_store_row rfl 64 (.tmp 3) (.tmp 8) rfl w.heap.size cs rfl rfl 64 zeroCells64 (heap_alloc_new _ _) HSZ.out HO.out H1.out ?_))
  rw [World.setRow_alloc_new]
  go_wp2
  go_ret
  exact ⟨rfl, ⟨cs, heap_alloc_new _ _, HX.out.1, HX.out.2.1, HX.out.2.2.1, HX.out.2.2.2⟩, (Below.refl _ _).alloc (Nat.le_refl _) _⟩
end Go.Proofs.Ytiiemfnaegapmaa.Q
