-- The law on none. Lean checks it.
import Derived.Test.YtiiemfnaegapmaaH14
namespace Go.Proofs.Ytiiemfnaegapmaa.Q
open Go.Proofs.Ytiiemfnaegapmaa.Pure Go.Proofs.Ytiiemfnaegapmaa.Z
open Go.RowKit Go.Proofs.YtiiemfnaegapmaaW.PrintWords Go.Proofs.YtiiemfnaegapmaaW.PrintLast Go.Proofs.YtiiemfnaegapmaaW.PrintMore
set_option linter.unusedVariables false
set_option linter.unusedSimpArgs false
theorem zeroCells_mem {w : World} {g : Nat} (h : w.heap[g]? = some (.cells zeroCells64 64 (0, 0))) : Mem w g false (fun _ => 0) (fun _ => false) := by
  refine ⟨zeroCells64, h, by unfold zeroCells64; rw [List.size_toArray, rng_len], ?_, ?_, ?_⟩
  · unfold zeroCells64
    rw [List.getElem?_toArray, zc_get, if_pos (by omega)]; rfl
  · intro i hi
    unfold zeroCells64
    rw [List.getElem?_toArray, zc_get, if_pos (by omega)]
    unfold zc
    rw [if_neg (by omega), if_pos (by omega)]
  · intro i hi
    unfold zeroCells64
    rw [List.getElem?_toArray, zc_get, if_pos (by omega)]
    unfold zc
    rw [if_neg (by omega), if_neg (by omega)]
theorem run_build64z (w : World) : (Instr.build 64 #[]).run Try.prog w = .ok (.agg zeroCells64) w := by
  have h0 := run_zero64 w
  unfold Instr.build
  rw [Sem.run_bind, h0]
  simp only [Result.andThen_ok, Value.cells]
  rw [Sem.run_bind, run_underlying Try.underlying64]
  simp only [Result.andThen_ok]
  have hp : (Array.mapM (fun (f : Field) => do
      let __do_lift ← sizeOf f.type
      pure (f.offset, __do_lift)) #[{ name := "made", type := 4, offset := 0, embedded := false, tag := "", pkgPath := "bulwark/memory", byteOffset := 0 }, { name := "b", type := 61, offset := 1, embedded := false, tag := "", pkgPath := "bulwark/memory", byteOffset := 1 }, { name := "tag", type := 62, offset := 65537, embedded := false, tag := "", pkgPath := "bulwark/memory", byteOffset := 65537 }] : Sem (Array (Nat × Nat))).run Try.prog w = .ok #[(0, 1), (1, 65536), (65537, 8192)] w := by
    rw [Array.mapM_eq_foldlM]
    simp [Try.sizeOf4, Try.sizeOf61, Try.sizeOf62]
  rw [Sem.run_bind, hp]
  rfl
theorem wpList_build64z {ops : Array Oper} {rest : List Oper} {op : Oper} {a : Act} {w : World} {Q : Exit → Act → World → Prop} (hgd : op.guard = none) (ho : op.op = .build 64 #[])
    (h : wpList Try.prog ops Q rest (a.put op.dst (.agg zeroCells64)) w) : wpList Try.prog ops Q (op :: rest) a w :=
  wpList_plain hgd fun _ hK => by
    have hr := run_build64z w
    unfold Oper.wp execOp
    rw [ho]
    have hp : ((#[] : Array (Nat × Operand)).map fun (x : Nat × Operand) => (x.1, a.eval x.2)) = #[] := by simp
    show Oper.upon Try.prog op a _ Q (Sem.run Try.prog (do let x ← Instr.build 64 ((#[] : Array (Nat × Operand)).map fun (x : Nat × Operand) => (x.1, a.eval x.2)); pure (Next.value x)) w)
    rw [hp, Sem.run_bind, hr]
    exact hK _ _ h
/-- None, what has turned, and the capability that came. -/
structure Su (w0 W : World) (p : Value) (q0 : Bool) (q1 q2 q3 q4 q5 q6 : Int) : Prop where
  u : Un W p
  b : Below w0.heap.size w0 W
  c : W.heap[w0.heap.size]? = some (.cells #[.bool q0, .int .u32 q1, .int .u8 q2, .int .u8 q3, .int .u8 q4, .int .u16 q5, .int .u16 q6] 30 (0, 0))
theorem Su.below {w0 W W2 : World} {p : Value} {q0 : Bool} {q1 q2 q3 q4 q5 q6 : Int} (h : Su w0 W p q0 q1 q2 q3 q4 q5 q6) (k : Below W.heap.size W W2) : Su w0 W2 p q0 q1 q2 q3 q4 q5 q6 := ⟨h.u.below k, below_step h.b k, blk_below h.c k⟩
theorem Su.alloc {w0 W : World} {p : Value} {q0 : Bool} {q1 q2 q3 q4 q5 q6 : Int} (h : Su w0 W p q0 q1 q2 q3 q4 q5 q6) (o : Obj) : Su w0 (W.alloc o) p q0 q1 q2 q3 q4 q5 q6 := h.below ((Below.refl _ _).alloc (Nat.le_refl _) o)
set_option maxRecDepth 100000 in
set_option maxHeartbeats 8000000 in
theorem MemoryNil_calls (a : Int) (q0 : Bool) (q1 q2 q3 q4 q5 q6 : Int) (zero : Bool) (w : World) :
    Calls Try.prog 6 #[.int .u32 a, .agg #[.bool q0, .int .u32 q1, .int .u8 q2, .int .u8 q3, .int .u8 q4, .int .u16 q5, .int .u16 q6], .bool zero] w fun e w' => e = .returned (.bool true) ∧ Below w.heap.size w w' := by
  have hu30 := Try.underlying30
  cases zero with
  | false =>
    have HS : Aside0 (Su w (w.alloc (.cells #[.bool q0, .int .u32 q1, .int .u8 q2, .int .u8 q3, .int .u8 q4, .int .u16 q5, .int .u16 q6] 30)) (.pointer none) q0 q1 q2 q3 q4 q5 q6) := ⟨⟨.inl rfl, (Below.refl _ _).alloc (Nat.le_refl _) _, heap_alloc_new _ _⟩⟩
    go_enter Try.func6, Try.ntmps6
    go_wp2_with fail
    refine (Load_un a 1 _ _ HS.out.u).mono ?_
    rintro e w1 ⟨rfl, rfl⟩
    go_wp2_with fail
    refine (LoadCap_un a _ _ HS.out.u).mono ?_
    rintro e w1 ⟨rfl, hb⟩
    replace HS := Aside0.mk (HS.out.below hb)
    clear hb
    go_wp2_with fail
    replace HS := Aside0.mk (HS.out.alloc (.cells #[.bool false, .int .u32 0, .int .u8 0, .int .u8 0, .int .u8 0, .int .u16 0, .int .u16 0] 30))
    refine (Bytes_un 0 1 _ _ HS.out.u).mono ?_
    rintro e w1 ⟨rfl, rfl⟩
    go_wp2_with fail
    refine (Tags_un 0 1 _ _ HS.out.u).mono ?_
    rintro e w1 ⟨rfl, rfl⟩
    go_wp2_with fail
    refine (Store_un a 1 1 _ _ HS.out.u).mono ?_
    rintro e w1 ⟨rfl, rfl⟩
    have hc0 := (blk_cell HS.out.c 0).trans rfl
    have hc1 := (blk_cell HS.out.c 1).trans rfl
    have hc2 := (blk_cell HS.out.c 2).trans rfl
    have hc3 := (blk_cell HS.out.c 3).trans rfl
    have hc4 := (blk_cell HS.out.c 4).trans rfl
    have hc5 := (blk_cell HS.out.c 5).trans rfl
    have hc6 := (blk_cell HS.out.c 6).trans rfl
    go_wp2_with fail
    clear hc0 hc1 hc2 hc3 hc4 hc5 hc6
    refine (StoreCap_un a q0 q1 q2 q3 q4 q5 q6 _ _ HS.out.u).mono ?_
    rintro e w1 ⟨rfl, hb⟩
    replace HS := Aside0.mk (HS.out.below hb)
    clear hb
    go_wp2_with fail
    refine (Copy_un _ _ HS.out.u).mono ?_
    rintro e w1 ⟨rfl, rfl⟩
    go_wp2_with fail
    refine (lives_calls _).mono ?_
    rintro e w1 ⟨rfl, hb⟩
    have HE := Aside0.mk (below_step HS.out.b hb)
    clear hb
    go_wp2
    go_ret
    exact ⟨rfl, HE.out⟩
  | true =>
    have HS : Aside0 (Su w ((w.alloc (.cells #[.bool q0, .int .u32 q1, .int .u8 q2, .int .u8 q3, .int .u8 q4, .int .u16 q5, .int .u16 q6] 30)).alloc (.cells zeroCells64 64)) (.pointer (some ⟨w.heap.size + 1, 0, none⟩)) q0 q1 q2 q3 q4 q5 q6) := by
      have h := heap_alloc_new (w.alloc (.cells #[.bool q0, .int .u32 q1, .int .u8 q2, .int .u8 q3, .int .u8 q4, .int .u16 q5, .int .u16 q6] 30)) (.cells zeroCells64 64)
      refine ⟨⟨.inr ⟨w.heap.size + 1, _, _, rfl, zeroCells_mem (by simpa using h)⟩, ((Below.refl _ _).alloc (Nat.le_refl _) _).alloc (by simp) _, (heap_alloc_old _ _ (by simp)).trans (heap_alloc_new _ _)⟩⟩
    go_enter Try.func6, Try.ntmps6
    go_wp2_with (with_reducible refine wpList_build64z rfl rfl ?_)
    refine (Load_un a 1 _ _ HS.out.u).mono ?_
    rintro e w1 ⟨rfl, rfl⟩
    go_wp2_with fail
    refine (LoadCap_un a _ _ HS.out.u).mono ?_
    rintro e w1 ⟨rfl, hb⟩
    replace HS := Aside0.mk (HS.out.below hb)
    clear hb
    go_wp2_with fail
    replace HS := Aside0.mk (HS.out.alloc (.cells #[.bool false, .int .u32 0, .int .u8 0, .int .u8 0, .int .u8 0, .int .u16 0, .int .u16 0] 30))
    refine (Bytes_un 0 1 _ _ HS.out.u).mono ?_
    rintro e w1 ⟨rfl, rfl⟩
    go_wp2_with fail
    refine (Tags_un 0 1 _ _ HS.out.u).mono ?_
    rintro e w1 ⟨rfl, rfl⟩
    go_wp2_with fail
    refine (Store_un a 1 1 _ _ HS.out.u).mono ?_
    rintro e w1 ⟨rfl, rfl⟩
    have hc0 := (blk_cell HS.out.c 0).trans rfl
    have hc1 := (blk_cell HS.out.c 1).trans rfl
    have hc2 := (blk_cell HS.out.c 2).trans rfl
    have hc3 := (blk_cell HS.out.c 3).trans rfl
    have hc4 := (blk_cell HS.out.c 4).trans rfl
    have hc5 := (blk_cell HS.out.c 5).trans rfl
    have hc6 := (blk_cell HS.out.c 6).trans rfl
    go_wp2_with fail
    clear hc0 hc1 hc2 hc3 hc4 hc5 hc6
    refine (StoreCap_un a q0 q1 q2 q3 q4 q5 q6 _ _ HS.out.u).mono ?_
    rintro e w1 ⟨rfl, hb⟩
    replace HS := Aside0.mk (HS.out.below hb)
    clear hb
    go_wp2_with fail
    refine (Copy_un _ _ HS.out.u).mono ?_
    rintro e w1 ⟨rfl, rfl⟩
    go_wp2_with fail
    refine (lives_calls _).mono ?_
    rintro e w1 ⟨rfl, hb⟩
    have HE := Aside0.mk (below_step HS.out.b hb)
    clear hb
    go_wp2
    go_ret
    exact ⟨rfl, HE.out⟩
end Go.Proofs.Ytiiemfnaegapmaa.Q
