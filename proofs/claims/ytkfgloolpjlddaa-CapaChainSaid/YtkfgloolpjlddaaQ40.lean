-- A walk, out of the kit's print program run by wip/ownprint.sh and turned by wip/qprune.py. Lean checks it.
import Derived.Test.YtkfgloolpjlddaaQ0
import Derived.Test.YtkfgloolpjlddaaQ3
import Derived.Test.YtkfgloolpjlddaaQ8
import Derived.Test.YtkfgloolpjlddaaQ11
import Derived.Test.YtkfgloolpjlddaaQ25
import Derived.Test.YtkfgloolpjlddaaQ28
import Derived.Test.YtkfgloolpjlddaaQ38
import Derived.Test.YtkfgloolpjlddaaQ39
namespace Go.Proofs.Ytkfgloolpjlddaa.Q
open Go.RowKit Go.Proofs.YtkfgloolpjlddaaW.PrintWords Go.Proofs.YtkfgloolpjlddaaW.PrintLast Go.Proofs.YtkfgloolpjlddaaW.PrintMore
attribute [local go_sem] max2_int min2_int max_two min_two max_three min_three max_four min_four   -- for this text's walks alone
set_option linter.unusedVariables false
set_option linter.unusedSimpArgs false

/-! ### bulwarklaw03_CapaChain: function 6 -/
mutual
def bulwarklaw03_CapaChain.l0 : Nat → List Int → Int → Bool → Int → Int → Int → Int → Int → Int → Bool → Int → Int → Int → Int → Int → Int → Option (Bool)
  | 0, _, _, _, _, _, _, _, _, _, _, _, _, _, _, _, _ => none
  | k + 1, x3, x12, x349000, x349001, x349002, x349003, x349004, x349005, x349006, x350000, x350001, x350002, x350003, x350004, x350005, x350006 => if (wrap64 (x12 + 1)) < (x3.length : Int) then (bulwarklaw03_CapaChain.j1 k x3 x12 (decide (x12 < 30)) x349000 x349001 x349002 x349003 x349004 x349005 x349006 x350000 x350001 x350002 x350003 x350004 x350005 x350006) else (bulwarklaw03_CapaChain.j1 k x3 x12 false x349000 x349001 x349002 x349003 x349004 x349005 x349006 x350000 x350001 x350002 x350003 x350004 x350005 x350006)
def bulwarklaw03_CapaChain.j1 : Nat → List Int → Int → Bool → Bool → Int → Int → Int → Int → Int → Int → Bool → Int → Int → Int → Int → Int → Int → Option (Bool)
  | 0, _, _, _, _, _, _, _, _, _, _, _, _, _, _, _, _, _ => none
  | k + 1, x3, x12, x44, x349000, x349001, x349002, x349003, x349004, x349005, x349006, x350000, x350001, x350002, x350003, x350004, x350005, x350006 => if x44 = true then (if 0 ≤ x12 then (if x12 < (x3.length : Int) then (if (Int.tmod (rd x3 x12) 4) = 0 then ((capa_Base.f x349000 x349001 x349002 x349003 x349004 x349005 x349006).bind fun t352 => (if 0 ≤ (wrap64 (x12 + 1)) then (if (wrap64 (x12 + 1)) < (x3.length : Int) then ((capa_SetAddr.f x350000 x350001 x350002 x350003 x350004 x350005 x350006 ((((t352) % 4294967296) + (Int.tmod (rd x3 (wrap64 (x12 + 1))) 5000)) % 4294967296)).bind fun bt354 => (if bt354.1 = true then ((capa_Subset.f bt354.1 bt354.2.1 bt354.2.2.1 bt354.2.2.2.1 bt354.2.2.2.2.1 bt354.2.2.2.2.2.1 bt354.2.2.2.2.2.2 x349000 x349001 x349002 x349003 x349004 x349005 x349006).bind fun t361 => (if t361 = true then (bulwarklaw03_CapaChain.l0 k x3 (wrap64 (x12 + 2)) x349000 x349001 x349002 x349003 x349004 x349005 x349006 bt354.1 bt354.2.1 bt354.2.2.1 bt354.2.2.2.1 bt354.2.2.2.2.1 bt354.2.2.2.2.2.1 bt354.2.2.2.2.2.2) else (some false))) else (bulwarklaw03_CapaChain.l0 k x3 (wrap64 (x12 + 2)) x349000 x349001 x349002 x349003 x349004 x349005 x349006 bt354.1 bt354.2.1 bt354.2.2.1 bt354.2.2.2.1 bt354.2.2.2.2.1 bt354.2.2.2.2.2.1 bt354.2.2.2.2.2.2))) else (none)) else (none))) else (if (Int.tmod (rd x3 x12) 4) = 1 then (if 0 ≤ (wrap64 (x12 + 1)) then (if (wrap64 (x12 + 1)) < (x3.length : Int) then ((capa_SetBounds.f k x350000 x350001 x350002 x350003 x350004 x350005 x350006 (Int.tmod (rd x3 (wrap64 (x12 + 1))) 600)).bind fun bt363 => (if bt363.1 = true then ((capa_Subset.f bt363.1 bt363.2.1 bt363.2.2.1 bt363.2.2.2.1 bt363.2.2.2.2.1 bt363.2.2.2.2.2.1 bt363.2.2.2.2.2.2 x349000 x349001 x349002 x349003 x349004 x349005 x349006).bind fun t370 => (if t370 = true then (bulwarklaw03_CapaChain.l0 k x3 (wrap64 (x12 + 2)) x349000 x349001 x349002 x349003 x349004 x349005 x349006 bt363.1 bt363.2.1 bt363.2.2.1 bt363.2.2.2.1 bt363.2.2.2.2.1 bt363.2.2.2.2.2.1 bt363.2.2.2.2.2.2) else (some false))) else (bulwarklaw03_CapaChain.l0 k x3 (wrap64 (x12 + 2)) x349000 x349001 x349002 x349003 x349004 x349005 x349006 bt363.1 bt363.2.1 bt363.2.2.1 bt363.2.2.2.1 bt363.2.2.2.2.1 bt363.2.2.2.2.2.1 bt363.2.2.2.2.2.2))) else (none)) else (none)) else (if (Int.tmod (rd x3 x12) 4) = 2 then (if 0 ≤ (wrap64 (x12 + 1)) then (if (wrap64 (x12 + 1)) < (x3.length : Int) then ((capa_AndPerms.f x350000 x350001 x350002 x350003 x350004 x350005 x350006 (rd x3 (wrap64 (x12 + 1)))).bind fun bt372 => (if bt372.1 = true then ((capa_Subset.f bt372.1 bt372.2.1 bt372.2.2.1 bt372.2.2.2.1 bt372.2.2.2.2.1 bt372.2.2.2.2.2.1 bt372.2.2.2.2.2.2 x349000 x349001 x349002 x349003 x349004 x349005 x349006).bind fun t379 => (if t379 = true then (bulwarklaw03_CapaChain.l0 k x3 (wrap64 (x12 + 2)) x349000 x349001 x349002 x349003 x349004 x349005 x349006 bt372.1 bt372.2.1 bt372.2.2.1 bt372.2.2.2.1 bt372.2.2.2.2.1 bt372.2.2.2.2.2.1 bt372.2.2.2.2.2.2) else (some false))) else (bulwarklaw03_CapaChain.l0 k x3 (wrap64 (x12 + 2)) x349000 x349001 x349002 x349003 x349004 x349005 x349006 bt372.1 bt372.2.1 bt372.2.2.1 bt372.2.2.2.1 bt372.2.2.2.2.1 bt372.2.2.2.2.2.1 bt372.2.2.2.2.2.2))) else (none)) else (none)) else (if 0 ≤ (wrap64 (x12 + 1)) then (if (wrap64 (x12 + 1)) < (x3.length : Int) then ((capa_SetAddr.f x350000 x350001 x350002 x350003 x350004 x350005 x350006 (rd x3 (wrap64 (x12 + 1)))).bind fun bt381 => (if bt381.1 = true then ((capa_Subset.f bt381.1 bt381.2.1 bt381.2.2.1 bt381.2.2.2.1 bt381.2.2.2.2.1 bt381.2.2.2.2.2.1 bt381.2.2.2.2.2.2 x349000 x349001 x349002 x349003 x349004 x349005 x349006).bind fun t388 => (if t388 = true then (bulwarklaw03_CapaChain.l0 k x3 (wrap64 (x12 + 2)) x349000 x349001 x349002 x349003 x349004 x349005 x349006 bt381.1 bt381.2.1 bt381.2.2.1 bt381.2.2.2.1 bt381.2.2.2.2.1 bt381.2.2.2.2.2.1 bt381.2.2.2.2.2.2) else (some false))) else (bulwarklaw03_CapaChain.l0 k x3 (wrap64 (x12 + 2)) x349000 x349001 x349002 x349003 x349004 x349005 x349006 bt381.1 bt381.2.1 bt381.2.2.1 bt381.2.2.2.1 bt381.2.2.2.2.1 bt381.2.2.2.2.2.1 bt381.2.2.2.2.2.2))) else (none)) else (none))))) else (none)) else (none)) else ((bulwarklaw03_lives.f k).bind fun t350 => (some t350))
end
def bulwarklaw03_CapaChain.f (k : Nat) (a0 : Int) (a1 : Int) (a2 : Int) (l3 : List Int) : Option (Bool) := (capa_Root.f k (IntKind.u64.wrap ((IntKind.u64.wrap (Int.tdiv (IntKind.u64.wrap (a0)) 8)) * 8)) (mn 65536 (IntKind.u64.wrap ((IntKind.u64.wrap ((IntKind.u64.wrap (Int.tdiv (IntKind.u64.wrap (a0)) 8)) * 8)) + (IntKind.u64.wrap ((Int.tmod (IntKind.u64.wrap (a1)) 512) * 8))))) (Int.tmod a2 128)).bind fun bt340 => (if bt340.2.2.2.2.2.2.2 = 0 then (bulwarklaw03_CapaChain.l0 k l3 0 bt340.1 bt340.2.1 bt340.2.2.1 bt340.2.2.2.1 bt340.2.2.2.2.1 bt340.2.2.2.2.2.1 bt340.2.2.2.2.2.2.1 bt340.1 bt340.2.1 bt340.2.2.1 bt340.2.2.2.1 bt340.2.2.2.2.1 bt340.2.2.2.2.2.1 bt340.2.2.2.2.2.2.1) else (some false))
theorem bulwarklaw03_CapaChain.mono_l : ∀ k, (∀ y0 y1 y2 y3 y4 y5 y6 y7 y8 y9 y10 y11 y12 y13 y14 y15, LeO (bulwarklaw03_CapaChain.l0 k y0 y1 y2 y3 y4 y5 y6 y7 y8 y9 y10 y11 y12 y13 y14 y15) (bulwarklaw03_CapaChain.l0 (k + 1) y0 y1 y2 y3 y4 y5 y6 y7 y8 y9 y10 y11 y12 y13 y14 y15)) ∧ (∀ y0 y1 y2 y3 y4 y5 y6 y7 y8 y9 y10 y11 y12 y13 y14 y15 y16, LeO (bulwarklaw03_CapaChain.j1 k y0 y1 y2 y3 y4 y5 y6 y7 y8 y9 y10 y11 y12 y13 y14 y15 y16) (bulwarklaw03_CapaChain.j1 (k + 1) y0 y1 y2 y3 y4 y5 y6 y7 y8 y9 y10 y11 y12 y13 y14 y15 y16))
  | 0 => ⟨fun _ _ _ _ _ _ _ _ _ _ _ _ _ _ _ _ r h => by simp [bulwarklaw03_CapaChain.l0] at h, fun _ _ _ _ _ _ _ _ _ _ _ _ _ _ _ _ _ r h => by simp [bulwarklaw03_CapaChain.j1] at h⟩
  | k + 1 => by
    obtain ⟨ih0, ih1⟩ := bulwarklaw03_CapaChain.mono_l k
    refine ⟨?_, ?_⟩
    · intro y0 y1 y2 y3 y4 y5 y6 y7 y8 y9 y10 y11 y12 y13 y14 y15
      unfold bulwarklaw03_CapaChain.l0
      repeat' first
      | (with_reducible exact ih0 _ _ _ _ _ _ _ _ _ _ _ _ _ _ _ _)
      | (with_reducible exact ih1 _ _ _ _ _ _ _ _ _ _ _ _ _ _ _ _ _)
      | (with_reducible exact bulwarklaw03_lives.mono _)
      | (with_reducible exact capa_Root.mono _ _ _ _)
      | (with_reducible exact capa_SetBounds.mono _ _ _ _ _ _ _ _ _)
      | (with_reducible exact LeO.refl _)
      | (with_reducible exact LeO.none _)
      | (with_reducible refine LeO.ite ?_ ?_)
      | (with_reducible refine LeO.bind ?_ (fun _ => ?_))
      | exact ih0 _ _ _ _ _ _ _ _ _ _ _ _ _ _ _ _
      | exact ih1 _ _ _ _ _ _ _ _ _ _ _ _ _ _ _ _ _
      | exact bulwarklaw03_lives.mono _
      | exact capa_Root.mono _ _ _ _
      | exact capa_SetBounds.mono _ _ _ _ _ _ _ _ _
      | exact LeO.none _
      | refine LeO.ite ?_ ?_
      | refine LeO.bind ?_ (fun _ => ?_)
    · intro y0 y1 y2 y3 y4 y5 y6 y7 y8 y9 y10 y11 y12 y13 y14 y15 y16
      unfold bulwarklaw03_CapaChain.j1
      repeat' first
      | (with_reducible exact ih0 _ _ _ _ _ _ _ _ _ _ _ _ _ _ _ _)
      | (with_reducible exact ih1 _ _ _ _ _ _ _ _ _ _ _ _ _ _ _ _ _)
      | (with_reducible exact bulwarklaw03_lives.mono _)
      | (with_reducible exact capa_Root.mono _ _ _ _)
      | (with_reducible exact capa_SetBounds.mono _ _ _ _ _ _ _ _ _)
      | (with_reducible exact LeO.refl _)
      | (with_reducible exact LeO.none _)
      | (with_reducible refine LeO.ite ?_ ?_)
      | (with_reducible refine LeO.bind ?_ (fun _ => ?_))
      | exact ih0 _ _ _ _ _ _ _ _ _ _ _ _ _ _ _ _
      | exact ih1 _ _ _ _ _ _ _ _ _ _ _ _ _ _ _ _ _
      | exact bulwarklaw03_lives.mono _
      | exact capa_Root.mono _ _ _ _
      | exact capa_SetBounds.mono _ _ _ _ _ _ _ _ _
      | exact LeO.none _
      | refine LeO.ite ?_ ?_
      | refine LeO.bind ?_ (fun _ => ?_)
theorem bulwarklaw03_CapaChain.mono : ∀ a0 a1 a2 a3 k, LeO (bulwarklaw03_CapaChain.f k a0 a1 a2 a3) (bulwarklaw03_CapaChain.f (k + 1) a0 a1 a2 a3) := by
  intro a0 a1 a2 a3 k
  obtain ⟨ih0, ih1⟩ := bulwarklaw03_CapaChain.mono_l k
  unfold bulwarklaw03_CapaChain.f
  repeat' first
      | (with_reducible exact ih0 _ _ _ _ _ _ _ _ _ _ _ _ _ _ _ _)
      | (with_reducible exact ih1 _ _ _ _ _ _ _ _ _ _ _ _ _ _ _ _ _)
      | (with_reducible exact bulwarklaw03_lives.mono _)
      | (with_reducible exact capa_Root.mono _ _ _ _)
      | (with_reducible exact capa_SetBounds.mono _ _ _ _ _ _ _ _ _)
      | (with_reducible exact LeO.refl _)
      | (with_reducible exact LeO.none _)
      | (with_reducible refine LeO.ite ?_ ?_)
      | (with_reducible refine LeO.bind ?_ (fun _ => ?_))
      | exact ih0 _ _ _ _ _ _ _ _ _ _ _ _ _ _ _ _
      | exact ih1 _ _ _ _ _ _ _ _ _ _ _ _ _ _ _ _ _
      | exact bulwarklaw03_lives.mono _
      | exact capa_Root.mono _ _ _ _
      | exact capa_SetBounds.mono _ _ _ _ _ _ _ _ _
      | exact LeO.none _
      | refine LeO.ite ?_ ?_
      | refine LeO.bind ?_ (fun _ => ?_)
def bulwarklaw03_CapaChain.T9 : Bool × List (List Nat × List Nat) := (true, [([], []), ([], []), ([], []), ([2], [2]), ([1, 3], [1, 3]), ([4], [4]), ([0, 5], [0, 5]), ([6, 6, 0, 1, 2, 3, 4, 5, 6], [6])])
def bulwarklaw03_CapaChain.B9 : List Nat := [0, 0, 0, 4, 14, 30, 63, 127]
theorem bulwarklaw03_CapaChain.tab9 : rtab .any (opsOf Try.f6 9) = bulwarklaw03_CapaChain.T9 := by kernel_rfl
theorem bulwarklaw03_CapaChain.bits9 : waitsOk bulwarklaw03_CapaChain.T9.2 bulwarklaw03_CapaChain.B9 = true := by kernel_rfl
def bulwarklaw03_CapaChain.T11 : Bool × List (List Nat × List Nat) := (true, [([], []), ([], []), ([1], [1]), ([2], [2]), ([], []), ([], []), ([5], [5]), ([4, 6], [4, 6]), ([7], [7]), ([8], [8]), ([3, 9], [3, 9]), ([0, 10, 2], [0, 10]), ([11, 11, 0, 1, 2, 3, 4, 5, 6, 7, 8, 9, 10, 11], [11])])
def bulwarklaw03_CapaChain.B11 : List Nat := [0, 0, 2, 6, 0, 0, 32, 112, 240, 496, 1022, 2047, 4095]
theorem bulwarklaw03_CapaChain.tab11 : rtab .any (opsOf Try.f6 11) = bulwarklaw03_CapaChain.T11 := by kernel_rfl
theorem bulwarklaw03_CapaChain.bits11 : waitsOk bulwarklaw03_CapaChain.T11.2 bulwarklaw03_CapaChain.B11 = true := by kernel_rfl
def bulwarklaw03_CapaChain.T13 : Bool × List (List Nat × List Nat) := (true, [([], []), ([], []), ([], []), ([2], [2]), ([1, 3], [1, 3]), ([4], [4]), ([5], [5]), ([0, 6], [0, 6]), ([7, 7, 0, 1, 2, 3, 4, 5, 6, 7], [7])])
def bulwarklaw03_CapaChain.B13 : List Nat := [0, 0, 0, 4, 14, 30, 62, 127, 255]
theorem bulwarklaw03_CapaChain.tab13 : rtab .any (opsOf Try.f6 13) = bulwarklaw03_CapaChain.T13 := by kernel_rfl
theorem bulwarklaw03_CapaChain.bits13 : waitsOk bulwarklaw03_CapaChain.T13.2 bulwarklaw03_CapaChain.B13 = true := by kernel_rfl
def bulwarklaw03_CapaChain.T15 : Bool × List (List Nat × List Nat) := (true, [([], []), ([], []), ([], []), ([2], [2]), ([1, 3], [1, 3]), ([4], [4]), ([0, 5], [0, 5]), ([6, 6, 0, 1, 2, 3, 4, 5, 6], [6])])
def bulwarklaw03_CapaChain.B15 : List Nat := [0, 0, 0, 4, 14, 30, 63, 127]
theorem bulwarklaw03_CapaChain.tab15 : rtab .any (opsOf Try.f6 15) = bulwarklaw03_CapaChain.T15 := by kernel_rfl
theorem bulwarklaw03_CapaChain.bits15 : waitsOk bulwarklaw03_CapaChain.T15.2 bulwarklaw03_CapaChain.B15 = true := by kernel_rfl
set_option maxHeartbeats 8000000 in
set_option maxRecDepth 100000 in
theorem bulwarklaw03_CapaChain.calls (k : Nat) (a0 : Int) (a1 : Int) (a2 : Int) (A3 : Option Addr) (c3 : Nat) (l3 : List Int) (r : Bool) (w : World) (hr3 : Kd.C (Kd.int .u32) w A3 l3.length l3) (hc3 : l3.length ≤ c3) (h : bulwarklaw03_CapaChain.f k a0 a1 a2 l3 = some r) (hr : r = true) :
    Calls Try.prog 6 #[.int .u16 a0, .int .u16 a1, .int .u8 a2, .slice A3 l3.length c3] w fun e w' => e = .returned (.bool r) ∧ Below w.heap.size w w' := by
  have hr' := Aside0.mk hr
  clear hr
  have hu27 := Try.underlying27
  have HR3 := Aside0.mk hr3
  have HC3 := Aside0.mk hc3
  clear hr3 hc3
  have HB := Aside0.mk (Below.refl w.heap.size w)
  have H : ((capa_Root.f k (IntKind.u64.wrap ((IntKind.u64.wrap (Int.tdiv (IntKind.u64.wrap (a0)) 8)) * 8)) (mn 65536 (IntKind.u64.wrap ((IntKind.u64.wrap ((IntKind.u64.wrap (Int.tdiv (IntKind.u64.wrap (a0)) 8)) * 8)) + (IntKind.u64.wrap ((Int.tmod (IntKind.u64.wrap (a1)) 512) * 8))))) (Int.tmod a2 128)).bind fun bt340 => (if bt340.2.2.2.2.2.2.2 = 0 then (bulwarklaw03_CapaChain.l0 k l3 0 bt340.1 bt340.2.1 bt340.2.2.1 bt340.2.2.2.1 bt340.2.2.2.2.1 bt340.2.2.2.2.2.1 bt340.2.2.2.2.2.2.1 bt340.1 bt340.2.1 bt340.2.2.1 bt340.2.2.2.1 bt340.2.2.2.2.1 bt340.2.2.2.2.2.1 bt340.2.2.2.2.2.2.1) else (some false))) = some r := h
  clear h
  obtain ⟨ji5, hji5⟩ : ∃ j_ : Int, (mn 65536 (IntKind.u64.wrap ((IntKind.u64.wrap ((IntKind.u64.wrap (Int.tdiv (IntKind.u64.wrap (a0)) 8)) * 8)) + (IntKind.u64.wrap ((Int.tmod (IntKind.u64.wrap (a1)) 512) * 8))))) = j_ := ⟨_, rfl⟩
  replace H : ((capa_Root.f k (IntKind.u64.wrap ((IntKind.u64.wrap (Int.tdiv (IntKind.u64.wrap (a0)) 8)) * 8)) (ji5) (Int.tmod a2 128)).bind fun bt340 => (if bt340.2.2.2.2.2.2.2 = 0 then (bulwarklaw03_CapaChain.l0 k l3 0 bt340.1 bt340.2.1 bt340.2.2.1 bt340.2.2.2.1 bt340.2.2.2.2.1 bt340.2.2.2.2.2.1 bt340.2.2.2.2.2.2.1 bt340.1 bt340.2.1 bt340.2.2.1 bt340.2.2.2.1 bt340.2.2.2.2.1 bt340.2.2.2.2.2.1 bt340.2.2.2.2.2.2.1) else (some false))) = some r := by first | (rw [hji5] at H; exact H) | (simp only [hji5] at H ⊢; exact H)
  (try (have hji5h : ji5 ≤ 65536 := by (rw [← hji5]; unfold mn; (repeat' split) <;> omega)))
  (try (have hji5g : ji5 ≤ 64 := by omega))
  have hji5_ : (if (IntKind.u64.wrap ((IntKind.u64.wrap ((IntKind.u64.wrap (Int.tdiv (IntKind.u64.wrap (a0)) 8)) * 8)) + (IntKind.u64.wrap ((Int.tmod (IntKind.u64.wrap (a1)) 512) * 8)))) < 65536 then (IntKind.u64.wrap ((IntKind.u64.wrap ((IntKind.u64.wrap (Int.tdiv (IntKind.u64.wrap (a0)) 8)) * 8)) + (IntKind.u64.wrap ((Int.tmod (IntKind.u64.wrap (a1)) 512) * 8)))) else 65536) = ji5 := hji5
  replace H := Option.bind_eq_some_iff.mp H
  obtain ⟨⟨t340, t341, t342, t343, t344, t345, t346, t347⟩, A60, H⟩ := H
  replace H : (if t347 = 0 then (bulwarklaw03_CapaChain.l0 k l3 0 t340 t341 t342 t343 t344 t345 t346 t340 t341 t342 t343 t344 t345 t346) else (some false)) = some r := H
  have A6 := Aside0.mk A60
  clear A60
  by_cases c7 : t347 = 0
  · rw [if_pos c7] at H
    have c7b0 : (t347 == 0) = true := beq_iff_eq.mpr c7
    have c7b1 : (t347 != 0) = false := bne_eq_false_iff_eq.mpr c7
    clear c7
    have H' := Aside0.mk H
    clear H
    go_enter Try.func6, Try.ntmps6
    go_wp2_with (first | ((with_reducible refine gate_callee (f := 11) rfl ?_); refine goesL_ (some 30) rfl rfl Try.func11 (by kernel_rfl) rfl #[.int .u64 (IntKind.u64.wrap ((IntKind.u64.wrap (Int.tdiv (IntKind.u64.wrap (a0)) 8)) * 8)), .int .u64 ji5, .int .u8 (Int.tmod a2 128)] rfl (by (try simp only [List.map_toArray, List.map_cons, List.map_nil]); first | done | (simp only [hji5]; rfl) | rfl | (simp only [List.length_drop, List.length_take]; rfl)) ?_; (with_reducible refine (capa_Root.calls k (IntKind.u64.wrap ((IntKind.u64.wrap (Int.tdiv (IntKind.u64.wrap (a0)) 8)) * 8)) ji5 (Int.tmod a2 128) t340 t341 t342 t343 t344 t345 t346 t347 _ A6.out).mono ?_); rintro e w8 ⟨rfl, hb⟩; refine ⟨_, rfl, ?_⟩; have n0_ := Aside0.mk (below_step (by repeat (first | (with_reducible first | exact HB.out | apply below_alloc | apply pw_below_drewN | apply below_drew1) | exact HB.out)) hb); clear HB; have HB := n0_; clear n0_; (try clear hb); (try clear hb2); (try clear hk); (try clear hi)) | ((with_reducible refine gate_dst (N := 9) rfl ?_); refine box_event ?hg (N := 9) ?hd (cs := #[.bool false, .int .u32 0, .int .u8 0, .int .u8 0, .int .u8 0, .int .u16 0, .int .u16 0]) (t := 27) ?hr ?_; (case hd => rfl); (case hg => rfl); (case hr => first | (go_simp; done) | (go_simp; rfl)); intro gb348 hg w9 hbox hb; have n0_ := Aside0.mk (below_step (by repeat (first | (with_reducible first | exact HB.out | apply below_alloc | apply pw_below_drewN | apply below_drew1) | exact HB.out)) hb); have n1_ := Aside0.mk (hbox); have n2_ := Aside0.mk ((by rw [hg]; exact (below_size (by repeat (first | (with_reducible first | exact HB.out | apply below_alloc | apply pw_below_drewN | apply below_drew1) | exact HB.out))) : w.heap.size ≤ gb348)); have n3_ := Aside0.mk ((by rw [hg]; exact (below_size (by repeat (first | (with_reducible first | exact HB.out | apply below_alloc | apply pw_below_drewN | apply below_drew1) | exact HB.out))) : w.heap.size ≤ gb348)); clear HB; have HB := n0_; have BK348 := n1_; have GW348 := n2_; have GE348 := n3_; clear n0_ n1_ n2_ n3_; clear hb hbox hg; have hcz10_0 : w9.cell? ⟨gb348, 0, none⟩ = some (.bool false) := (blk_cell BK348.out 0).trans rfl; have hcz10_1 : w9.cell? ⟨gb348, 1, none⟩ = some (.int .u32 0) := (blk_cell BK348.out 1).trans rfl; have hcz10_2 : w9.cell? ⟨gb348, 2, none⟩ = some (.int .u8 0) := (blk_cell BK348.out 2).trans rfl; have hcz10_3 : w9.cell? ⟨gb348, 3, none⟩ = some (.int .u8 0) := (blk_cell BK348.out 3).trans rfl; have hcz10_4 : w9.cell? ⟨gb348, 4, none⟩ = some (.int .u8 0) := (blk_cell BK348.out 4).trans rfl; have hcz10_5 : w9.cell? ⟨gb348, 5, none⟩ = some (.int .u16 0) := (blk_cell BK348.out 5).trans rfl; have hcz10_6 : w9.cell? ⟨gb348, 6, none⟩ = some (.int .u16 0) := (blk_cell BK348.out 6).trans rfl; have hfz10_0 := blk_frozen BK348.out 0; have hfz10_1 := blk_frozen BK348.out 1; have hfz10_2 := blk_frozen BK348.out 2; have hfz10_3 := blk_frozen BK348.out 3; have hfz10_4 := blk_frozen BK348.out 4; have hfz10_5 := blk_frozen BK348.out 5; have hfz10_6 := blk_frozen BK348.out 6) | ((with_reducible refine gate_dst (N := 11) rfl ?_); refine box_event ?hg (N := 11) ?hd (cs := #[.bool false, .int .u32 0, .int .u8 0, .int .u8 0, .int .u8 0, .int .u16 0, .int .u16 0]) (t := 27) ?hr ?_; (case hd => rfl); (case hg => rfl); (case hr => first | (go_simp; done) | (go_simp; rfl)); intro gb349 hg w11 hbox hb; have n0_ := Aside0.mk (blk_below (g := gb348) (o := .cells #[.bool t340, .int .u32 t341, .int .u8 t342, .int .u8 t343, .int .u8 t344, .int .u16 t345, .int .u16 t346] 27 (0, 0)) (by (with_reducible repeat (first | refine blk_drewN ?_ _ | refine blk_drew ?_ | refine blk_alloc ?_ _)); refine blk_put (cs := #[.bool t340, .int .u32 t341, .int .u8 t342, .int .u8 t343, .int .u8 t344, .int .u16 t345, .int .u16 0]) ?_ 6 _ rfl; (with_reducible repeat (first | refine blk_drewN ?_ _ | refine blk_drew ?_ | refine blk_alloc ?_ _)); refine blk_put (cs := #[.bool t340, .int .u32 t341, .int .u8 t342, .int .u8 t343, .int .u8 t344, .int .u16 0, .int .u16 0]) ?_ 5 _ rfl; (with_reducible repeat (first | refine blk_drewN ?_ _ | refine blk_drew ?_ | refine blk_alloc ?_ _)); refine blk_put (cs := #[.bool t340, .int .u32 t341, .int .u8 t342, .int .u8 t343, .int .u8 0, .int .u16 0, .int .u16 0]) ?_ 4 _ rfl; (with_reducible repeat (first | refine blk_drewN ?_ _ | refine blk_drew ?_ | refine blk_alloc ?_ _)); refine blk_put (cs := #[.bool t340, .int .u32 t341, .int .u8 t342, .int .u8 0, .int .u8 0, .int .u16 0, .int .u16 0]) ?_ 3 _ rfl; (with_reducible repeat (first | refine blk_drewN ?_ _ | refine blk_drew ?_ | refine blk_alloc ?_ _)); refine blk_put (cs := #[.bool t340, .int .u32 t341, .int .u8 0, .int .u8 0, .int .u8 0, .int .u16 0, .int .u16 0]) ?_ 2 _ rfl; (with_reducible repeat (first | refine blk_drewN ?_ _ | refine blk_drew ?_ | refine blk_alloc ?_ _)); refine blk_put (cs := #[.bool t340, .int .u32 0, .int .u8 0, .int .u8 0, .int .u8 0, .int .u16 0, .int .u16 0]) ?_ 1 _ rfl; (with_reducible repeat (first | refine blk_drewN ?_ _ | refine blk_drew ?_ | refine blk_alloc ?_ _)); refine blk_put (cs := #[.bool false, .int .u32 0, .int .u8 0, .int .u8 0, .int .u8 0, .int .u16 0, .int .u16 0]) ?_ 0 _ rfl; (with_reducible repeat (first | refine blk_drewN ?_ _ | refine blk_drew ?_ | refine blk_alloc ?_ _)); exact BK348.out) hb); have n1_ := Aside0.mk (below_step (by repeat (first | (with_reducible first | exact HB.out | apply below_alloc | apply pw_below_drewN | apply below_drew1 | refine below_set ?_ GE348.out) | exact HB.out)) hb); have n2_ := Aside0.mk (hbox); have n3_ := Aside0.mk ((by rw [hg]; exact (below_size (by repeat (first | (with_reducible first | exact HB.out | apply below_alloc | apply pw_below_drewN | apply below_drew1 | refine below_set ?_ GE348.out) | exact HB.out))) : w.heap.size ≤ gb349)); have n4_ := Aside0.mk ((by rw [hg]; exact (below_size (by repeat (first | (with_reducible first | exact HB.out | apply below_alloc | apply pw_below_drewN | apply below_drew1 | refine below_set ?_ GE348.out) | exact HB.out))) : w.heap.size ≤ gb349)); have n5_ := Aside0.mk ((by rw [hg]; exact Nat.ne_of_lt (blk_lt (g := gb348) (o := .cells #[.bool t340, .int .u32 t341, .int .u8 t342, .int .u8 t343, .int .u8 t344, .int .u16 t345, .int .u16 t346] 27 (0, 0)) (by (with_reducible repeat (first | refine blk_drewN ?_ _ | refine blk_drew ?_ | refine blk_alloc ?_ _)); refine blk_put (cs := #[.bool t340, .int .u32 t341, .int .u8 t342, .int .u8 t343, .int .u8 t344, .int .u16 t345, .int .u16 0]) ?_ 6 _ rfl; (with_reducible repeat (first | refine blk_drewN ?_ _ | refine blk_drew ?_ | refine blk_alloc ?_ _)); refine blk_put (cs := #[.bool t340, .int .u32 t341, .int .u8 t342, .int .u8 t343, .int .u8 t344, .int .u16 0, .int .u16 0]) ?_ 5 _ rfl; (with_reducible repeat (first | refine blk_drewN ?_ _ | refine blk_drew ?_ | refine blk_alloc ?_ _)); refine blk_put (cs := #[.bool t340, .int .u32 t341, .int .u8 t342, .int .u8 t343, .int .u8 0, .int .u16 0, .int .u16 0]) ?_ 4 _ rfl; (with_reducible repeat (first | refine blk_drewN ?_ _ | refine blk_drew ?_ | refine blk_alloc ?_ _)); refine blk_put (cs := #[.bool t340, .int .u32 t341, .int .u8 t342, .int .u8 0, .int .u8 0, .int .u16 0, .int .u16 0]) ?_ 3 _ rfl; (with_reducible repeat (first | refine blk_drewN ?_ _ | refine blk_drew ?_ | refine blk_alloc ?_ _)); refine blk_put (cs := #[.bool t340, .int .u32 t341, .int .u8 0, .int .u8 0, .int .u8 0, .int .u16 0, .int .u16 0]) ?_ 2 _ rfl; (with_reducible repeat (first | refine blk_drewN ?_ _ | refine blk_drew ?_ | refine blk_alloc ?_ _)); refine blk_put (cs := #[.bool t340, .int .u32 0, .int .u8 0, .int .u8 0, .int .u8 0, .int .u16 0, .int .u16 0]) ?_ 1 _ rfl; (with_reducible repeat (first | refine blk_drewN ?_ _ | refine blk_drew ?_ | refine blk_alloc ?_ _)); refine blk_put (cs := #[.bool false, .int .u32 0, .int .u8 0, .int .u8 0, .int .u8 0, .int .u16 0, .int .u16 0]) ?_ 0 _ rfl; (with_reducible repeat (first | refine blk_drewN ?_ _ | refine blk_drew ?_ | refine blk_alloc ?_ _)); exact BK348.out)) : gb348 ≠ gb349)); have n6_ := Aside0.mk ((by rw [hg]; exact Nat.ne_of_gt (blk_lt (g := gb348) (o := .cells #[.bool t340, .int .u32 t341, .int .u8 t342, .int .u8 t343, .int .u8 t344, .int .u16 t345, .int .u16 t346] 27 (0, 0)) (by (with_reducible repeat (first | refine blk_drewN ?_ _ | refine blk_drew ?_ | refine blk_alloc ?_ _)); refine blk_put (cs := #[.bool t340, .int .u32 t341, .int .u8 t342, .int .u8 t343, .int .u8 t344, .int .u16 t345, .int .u16 0]) ?_ 6 _ rfl; (with_reducible repeat (first | refine blk_drewN ?_ _ | refine blk_drew ?_ | refine blk_alloc ?_ _)); refine blk_put (cs := #[.bool t340, .int .u32 t341, .int .u8 t342, .int .u8 t343, .int .u8 t344, .int .u16 0, .int .u16 0]) ?_ 5 _ rfl; (with_reducible repeat (first | refine blk_drewN ?_ _ | refine blk_drew ?_ | refine blk_alloc ?_ _)); refine blk_put (cs := #[.bool t340, .int .u32 t341, .int .u8 t342, .int .u8 t343, .int .u8 0, .int .u16 0, .int .u16 0]) ?_ 4 _ rfl; (with_reducible repeat (first | refine blk_drewN ?_ _ | refine blk_drew ?_ | refine blk_alloc ?_ _)); refine blk_put (cs := #[.bool t340, .int .u32 t341, .int .u8 t342, .int .u8 0, .int .u8 0, .int .u16 0, .int .u16 0]) ?_ 3 _ rfl; (with_reducible repeat (first | refine blk_drewN ?_ _ | refine blk_drew ?_ | refine blk_alloc ?_ _)); refine blk_put (cs := #[.bool t340, .int .u32 t341, .int .u8 0, .int .u8 0, .int .u8 0, .int .u16 0, .int .u16 0]) ?_ 2 _ rfl; (with_reducible repeat (first | refine blk_drewN ?_ _ | refine blk_drew ?_ | refine blk_alloc ?_ _)); refine blk_put (cs := #[.bool t340, .int .u32 0, .int .u8 0, .int .u8 0, .int .u8 0, .int .u16 0, .int .u16 0]) ?_ 1 _ rfl; (with_reducible repeat (first | refine blk_drewN ?_ _ | refine blk_drew ?_ | refine blk_alloc ?_ _)); refine blk_put (cs := #[.bool false, .int .u32 0, .int .u8 0, .int .u8 0, .int .u8 0, .int .u16 0, .int .u16 0]) ?_ 0 _ rfl; (with_reducible repeat (first | refine blk_drewN ?_ _ | refine blk_drew ?_ | refine blk_alloc ?_ _)); exact BK348.out)) : gb349 ≠ gb348)); clear BK348; clear HB; have BK348 := n0_; have HB := n1_; have BK349 := n2_; have GW349 := n3_; have GE349 := n4_; have NB348_349 := n5_; have NB349_348 := n6_; clear n0_ n1_ n2_ n3_ n4_ n5_ n6_; clear hb hbox hg; have hnb12 := NB349_348.out; have hnc12 := NB348_349.out; have hcz13_0 : w11.cell? ⟨gb349, 0, none⟩ = some (.bool false) := (blk_cell BK349.out 0).trans rfl; have hcz13_1 : w11.cell? ⟨gb349, 1, none⟩ = some (.int .u32 0) := (blk_cell BK349.out 1).trans rfl; have hcz13_2 : w11.cell? ⟨gb349, 2, none⟩ = some (.int .u8 0) := (blk_cell BK349.out 2).trans rfl; have hcz13_3 : w11.cell? ⟨gb349, 3, none⟩ = some (.int .u8 0) := (blk_cell BK349.out 3).trans rfl; have hcz13_4 : w11.cell? ⟨gb349, 4, none⟩ = some (.int .u8 0) := (blk_cell BK349.out 4).trans rfl; have hcz13_5 : w11.cell? ⟨gb349, 5, none⟩ = some (.int .u16 0) := (blk_cell BK349.out 5).trans rfl; have hcz13_6 : w11.cell? ⟨gb349, 6, none⟩ = some (.int .u16 0) := (blk_cell BK349.out 6).trans rfl; have hfz13_0 := blk_frozen BK349.out 0; have hfz13_1 := blk_frozen BK349.out 1; have hfz13_2 := blk_frozen BK349.out 2; have hfz13_3 := blk_frozen BK349.out 3; have hfz13_4 := blk_frozen BK349.out 4; have hfz13_5 := blk_frozen BK349.out 5; have hfz13_6 := blk_frozen BK349.out 6))
    go_loopg [12] k (fun kq v12 w' => ∃ (x12_1 : Int) (x350000_1 : Bool) (x350001_1 : Int) (x350002_1 : Int) (x350003_1 : Int) (x350004_1 : Int) (x350005_1 : Int) (x350006_1 : Int), v12 = .int .i64 x12_1 ∧ Aside0 (bulwarklaw03_CapaChain.l0 kq l3 x12_1 t340 t341 t342 t343 t344 t345 t346 x350000_1 x350001_1 x350002_1 x350003_1 x350004_1 x350005_1 x350006_1 = some r) ∧ Aside0 (kq ≤ k) ∧ Aside0 (w'.heap[gb348]? = some (.cells #[.bool t340, .int .u32 t341, .int .u8 t342, .int .u8 t343, .int .u8 t344, .int .u16 t345, .int .u16 t346] 27 (0, 0))) ∧ Aside0 (w'.heap[gb349]? = some (.cells #[.bool x350000_1, .int .u32 x350001_1, .int .u8 x350002_1, .int .u8 x350003_1, .int .u8 x350004_1, .int .u16 x350005_1, .int .u16 x350006_1] 27 (0, 0))) ∧ Aside0 (Below w.heap.size w w'))
    case atStart => exact ⟨(0), (t340), (t341), (t342), (t343), (t344), (t345), (t346), (by first | rfl | (simp; done) | (simp [*]; done)), H', ⟨Nat.le_refl _⟩, ⟨by (with_reducible repeat (first | refine blk_drewN ?_ _ | refine blk_drew ?_ | refine blk_alloc ?_ _)); refine blk_far ?_ NB348_349.out _; (with_reducible repeat (first | refine blk_drewN ?_ _ | refine blk_drew ?_ | refine blk_alloc ?_ _)); refine blk_far ?_ NB348_349.out _; (with_reducible repeat (first | refine blk_drewN ?_ _ | refine blk_drew ?_ | refine blk_alloc ?_ _)); refine blk_far ?_ NB348_349.out _; (with_reducible repeat (first | refine blk_drewN ?_ _ | refine blk_drew ?_ | refine blk_alloc ?_ _)); refine blk_far ?_ NB348_349.out _; (with_reducible repeat (first | refine blk_drewN ?_ _ | refine blk_drew ?_ | refine blk_alloc ?_ _)); refine blk_far ?_ NB348_349.out _; (with_reducible repeat (first | refine blk_drewN ?_ _ | refine blk_drew ?_ | refine blk_alloc ?_ _)); refine blk_far ?_ NB348_349.out _; (with_reducible repeat (first | refine blk_drewN ?_ _ | refine blk_drew ?_ | refine blk_alloc ?_ _)); refine blk_far ?_ NB348_349.out _; (with_reducible repeat (first | refine blk_drewN ?_ _ | refine blk_drew ?_ | refine blk_alloc ?_ _)); exact BK348.out⟩, ⟨by (with_reducible repeat (first | refine blk_drewN ?_ _ | refine blk_drew ?_ | refine blk_alloc ?_ _)); refine blk_put (cs := #[.bool t340, .int .u32 t341, .int .u8 t342, .int .u8 t343, .int .u8 t344, .int .u16 t345, .int .u16 0]) ?_ 6 _ rfl; (with_reducible repeat (first | refine blk_drewN ?_ _ | refine blk_drew ?_ | refine blk_alloc ?_ _)); refine blk_put (cs := #[.bool t340, .int .u32 t341, .int .u8 t342, .int .u8 t343, .int .u8 t344, .int .u16 0, .int .u16 0]) ?_ 5 _ rfl; (with_reducible repeat (first | refine blk_drewN ?_ _ | refine blk_drew ?_ | refine blk_alloc ?_ _)); refine blk_put (cs := #[.bool t340, .int .u32 t341, .int .u8 t342, .int .u8 t343, .int .u8 0, .int .u16 0, .int .u16 0]) ?_ 4 _ rfl; (with_reducible repeat (first | refine blk_drewN ?_ _ | refine blk_drew ?_ | refine blk_alloc ?_ _)); refine blk_put (cs := #[.bool t340, .int .u32 t341, .int .u8 t342, .int .u8 0, .int .u8 0, .int .u16 0, .int .u16 0]) ?_ 3 _ rfl; (with_reducible repeat (first | refine blk_drewN ?_ _ | refine blk_drew ?_ | refine blk_alloc ?_ _)); refine blk_put (cs := #[.bool t340, .int .u32 t341, .int .u8 0, .int .u8 0, .int .u8 0, .int .u16 0, .int .u16 0]) ?_ 2 _ rfl; (with_reducible repeat (first | refine blk_drewN ?_ _ | refine blk_drew ?_ | refine blk_alloc ?_ _)); refine blk_put (cs := #[.bool t340, .int .u32 0, .int .u8 0, .int .u8 0, .int .u8 0, .int .u16 0, .int .u16 0]) ?_ 1 _ rfl; (with_reducible repeat (first | refine blk_drewN ?_ _ | refine blk_drew ?_ | refine blk_alloc ?_ _)); refine blk_put (cs := #[.bool false, .int .u32 0, .int .u8 0, .int .u8 0, .int .u8 0, .int .u16 0, .int .u16 0]) ?_ 0 _ rfl; (with_reducible repeat (first | refine blk_drewN ?_ _ | refine blk_drew ?_ | refine blk_alloc ?_ _)); exact BK349.out⟩, ⟨by repeat (first | (with_reducible first | exact HB.out | apply below_alloc | apply pw_below_drewN | apply below_drew1 | refine below_set ?_ GE348.out | refine below_set ?_ GE349.out) | exact HB.out)⟩⟩
    case round =>
      clear H'
      try clear c1
      try clear p2
      try clear c3
      try clear c6
      try clear c7
      try clear c7b0
      try clear c7b1
      try clear c11
      try clear c12
      try clear hcz10_0
      try clear hcz10_1
      try clear hcz10_2
      try clear hcz10_3
      try clear hcz10_4
      try clear hcz10_5
      try clear hcz10_6
      try clear hcz13_0
      try clear hcz13_1
      try clear hcz13_2
      try clear hcz13_3
      try clear hcz13_4
      try clear hcz13_5
      try clear hcz13_6
      try clear hfz10_0
      try clear hfz10_1
      try clear hfz10_2
      try clear hfz10_3
      try clear hfz10_4
      try clear hfz10_5
      try clear hfz10_6
      try clear hfz13_0
      try clear hfz13_1
      try clear hfz13_2
      try clear hfz13_3
      try clear hfz13_4
      try clear hfz13_5
      try clear hfz13_6
      obtain ⟨x12_1, x350000_1, x350001_1, x350002_1, x350003_1, x350004_1, x350005_1, x350006_1, rfl, HA, HK1, BK348, BK349, HB⟩ := hrel
      cases gk with
      | zero => exact absurd HA.out (by simp [bulwarklaw03_CapaChain.l0])
      | succ k1 =>
        have H := HA.out
        clear HA
        simp only [bulwarklaw03_CapaChain.l0] at H
        have HC14 := Aside0.mk H
        clear H
        go_upto_region 6 with (fail)
        go_cut [44] (fun v44 wc => ∃ (kq : Nat) (x44_13 : Bool), v44 = .bool x44_13 ∧ Aside0 (bulwarklaw03_CapaChain.j1 kq l3 x12_1 x44_13 t340 t341 t342 t343 t344 t345 t346 x350000_1 x350001_1 x350002_1 x350003_1 x350004_1 x350005_1 x350006_1 = some r) ∧ Aside0 (kq ≤ k1) ∧ Aside0 (wc.heap[gb348]? = some (.cells #[.bool t340, .int .u32 t341, .int .u8 t342, .int .u8 t343, .int .u8 t344, .int .u16 t345, .int .u16 t346] 27 (0, 0))) ∧ Aside0 (wc.heap[gb349]? = some (.cells #[.bool x350000_1, .int .u32 x350001_1, .int .u8 x350002_1, .int .u8 x350003_1, .int .u8 x350004_1, .int .u16 x350005_1, .int .u16 x350006_1] 27 (0, 0))) ∧ Aside0 (Below w.heap.size w wc))
        case first =>
          have H := HC14.out
          clear HC14
          by_cases c15 : (wrap64 (x12_1 + 1)) < (l3.length : Int)
          · rw [if_pos c15] at H
            have c15b0 : decide ((wrap64 (x12_1 + 1)) < (l3.length : Int)) = true := decide_eq_true c15
            clear c15
            (first | rw [c15b0] | (simp only [i64_w, i32_w]; rw [c15b0]) | skip)
            have H' := Aside0.mk H
            clear H
            go_wp2
            go_meet
            case rel => exact ⟨_, (decide (x12_1 < 30)), (by first | rfl | (simp; done) | (simp [*]; done)), H', ⟨by have := HK1.out; first | omega | exact Nat.le_refl _⟩, ⟨by (with_reducible repeat (first | refine blk_drewN ?_ _ | refine blk_drew ?_ | refine blk_alloc ?_ _)); exact BK348.out⟩, ⟨by (with_reducible repeat (first | refine blk_drewN ?_ _ | refine blk_drew ?_ | refine blk_alloc ?_ _)); exact BK349.out⟩, ⟨by repeat (first | (with_reducible first | exact HB.out | apply below_alloc | apply pw_below_drewN | apply below_drew1 | refine below_set ?_ GE348.out | refine below_set ?_ GE349.out) | exact HB.out)⟩⟩
          · rw [if_neg c15] at H
            have c15b0 : decide ((wrap64 (x12_1 + 1)) < (l3.length : Int)) = false := decide_eq_false c15
            clear c15
            (first | rw [c15b0] | (simp only [i64_w, i32_w]; rw [c15b0]) | skip)
            have H' := Aside0.mk H
            clear H
            go_wp2
            go_meet
            case rel => exact ⟨_, (false), (by first | rfl | (simp; done) | (simp [*]; done)), H', ⟨by have := HK1.out; first | omega | exact Nat.le_refl _⟩, ⟨by (with_reducible repeat (first | refine blk_drewN ?_ _ | refine blk_drew ?_ | refine blk_alloc ?_ _)); exact BK348.out⟩, ⟨by (with_reducible repeat (first | refine blk_drewN ?_ _ | refine blk_drew ?_ | refine blk_alloc ?_ _)); exact BK349.out⟩, ⟨by repeat (first | (with_reducible first | exact HB.out | apply below_alloc | apply pw_below_drewN | apply below_drew1 | refine below_set ?_ GE348.out | refine below_set ?_ GE349.out) | exact HB.out)⟩⟩
        case rest =>
          clear HC14
          try clear c1
          try clear p2
          try clear c3
          try clear c6
          try clear p6
          try clear c7
          try clear c7b0
          try clear c7b1
          try clear c11
          try clear c12
          try clear c15
          try clear c15b0
          try clear hcz10_0
          try clear hcz10_1
          try clear hcz10_2
          try clear hcz10_3
          try clear hcz10_4
          try clear hcz10_5
          try clear hcz10_6
          try clear hcz13_0
          try clear hcz13_1
          try clear hcz13_2
          try clear hcz13_3
          try clear hcz13_4
          try clear hcz13_5
          try clear hcz13_6
          try clear hfz10_0
          try clear hfz10_1
          try clear hfz10_2
          try clear hfz10_3
          try clear hfz10_4
          try clear hfz10_5
          try clear hfz10_6
          try clear hfz13_0
          try clear hfz13_1
          try clear hfz13_2
          try clear hfz13_3
          try clear hfz13_4
          try clear hfz13_5
          try clear hfz13_6
          try clear p2
          obtain ⟨kq, x44_13, rfl, HA, HJ13, BK348, BK349, HB⟩ := hcut
          cases kq with
          | zero => exact absurd HA.out (by simp [bulwarklaw03_CapaChain.j1])
          | succ kj13 =>
            have H := HA.out
            clear HA
            simp only [bulwarklaw03_CapaChain.j1] at H
            by_cases c16 : x44_13 = true
            · subst c16
              have H1 : (if 0 ≤ x12_1 then (if x12_1 < (l3.length : Int) then (if (Int.tmod (rd l3 x12_1) 4) = 0 then ((capa_Base.f t340 t341 t342 t343 t344 t345 t346).bind fun t352 => (if 0 ≤ (wrap64 (x12_1 + 1)) then (if (wrap64 (x12_1 + 1)) < (l3.length : Int) then ((capa_SetAddr.f x350000_1 x350001_1 x350002_1 x350003_1 x350004_1 x350005_1 x350006_1 ((((t352) % 4294967296) + (Int.tmod (rd l3 (wrap64 (x12_1 + 1))) 5000)) % 4294967296)).bind fun bt354 => (if bt354.1 = true then ((capa_Subset.f bt354.1 bt354.2.1 bt354.2.2.1 bt354.2.2.2.1 bt354.2.2.2.2.1 bt354.2.2.2.2.2.1 bt354.2.2.2.2.2.2 t340 t341 t342 t343 t344 t345 t346).bind fun t361 => (if t361 = true then (bulwarklaw03_CapaChain.l0 kj13 l3 (wrap64 (x12_1 + 2)) t340 t341 t342 t343 t344 t345 t346 bt354.1 bt354.2.1 bt354.2.2.1 bt354.2.2.2.1 bt354.2.2.2.2.1 bt354.2.2.2.2.2.1 bt354.2.2.2.2.2.2) else (some false))) else (bulwarklaw03_CapaChain.l0 kj13 l3 (wrap64 (x12_1 + 2)) t340 t341 t342 t343 t344 t345 t346 bt354.1 bt354.2.1 bt354.2.2.1 bt354.2.2.2.1 bt354.2.2.2.2.1 bt354.2.2.2.2.2.1 bt354.2.2.2.2.2.2))) else (none)) else (none))) else (if (Int.tmod (rd l3 x12_1) 4) = 1 then (if 0 ≤ (wrap64 (x12_1 + 1)) then (if (wrap64 (x12_1 + 1)) < (l3.length : Int) then ((capa_SetBounds.f kj13 x350000_1 x350001_1 x350002_1 x350003_1 x350004_1 x350005_1 x350006_1 (Int.tmod (rd l3 (wrap64 (x12_1 + 1))) 600)).bind fun bt363 => (if bt363.1 = true then ((capa_Subset.f bt363.1 bt363.2.1 bt363.2.2.1 bt363.2.2.2.1 bt363.2.2.2.2.1 bt363.2.2.2.2.2.1 bt363.2.2.2.2.2.2 t340 t341 t342 t343 t344 t345 t346).bind fun t370 => (if t370 = true then (bulwarklaw03_CapaChain.l0 kj13 l3 (wrap64 (x12_1 + 2)) t340 t341 t342 t343 t344 t345 t346 bt363.1 bt363.2.1 bt363.2.2.1 bt363.2.2.2.1 bt363.2.2.2.2.1 bt363.2.2.2.2.2.1 bt363.2.2.2.2.2.2) else (some false))) else (bulwarklaw03_CapaChain.l0 kj13 l3 (wrap64 (x12_1 + 2)) t340 t341 t342 t343 t344 t345 t346 bt363.1 bt363.2.1 bt363.2.2.1 bt363.2.2.2.1 bt363.2.2.2.2.1 bt363.2.2.2.2.2.1 bt363.2.2.2.2.2.2))) else (none)) else (none)) else (if (Int.tmod (rd l3 x12_1) 4) = 2 then (if 0 ≤ (wrap64 (x12_1 + 1)) then (if (wrap64 (x12_1 + 1)) < (l3.length : Int) then ((capa_AndPerms.f x350000_1 x350001_1 x350002_1 x350003_1 x350004_1 x350005_1 x350006_1 (rd l3 (wrap64 (x12_1 + 1)))).bind fun bt372 => (if bt372.1 = true then ((capa_Subset.f bt372.1 bt372.2.1 bt372.2.2.1 bt372.2.2.2.1 bt372.2.2.2.2.1 bt372.2.2.2.2.2.1 bt372.2.2.2.2.2.2 t340 t341 t342 t343 t344 t345 t346).bind fun t379 => (if t379 = true then (bulwarklaw03_CapaChain.l0 kj13 l3 (wrap64 (x12_1 + 2)) t340 t341 t342 t343 t344 t345 t346 bt372.1 bt372.2.1 bt372.2.2.1 bt372.2.2.2.1 bt372.2.2.2.2.1 bt372.2.2.2.2.2.1 bt372.2.2.2.2.2.2) else (some false))) else (bulwarklaw03_CapaChain.l0 kj13 l3 (wrap64 (x12_1 + 2)) t340 t341 t342 t343 t344 t345 t346 bt372.1 bt372.2.1 bt372.2.2.1 bt372.2.2.2.1 bt372.2.2.2.2.1 bt372.2.2.2.2.2.1 bt372.2.2.2.2.2.2))) else (none)) else (none)) else (if 0 ≤ (wrap64 (x12_1 + 1)) then (if (wrap64 (x12_1 + 1)) < (l3.length : Int) then ((capa_SetAddr.f x350000_1 x350001_1 x350002_1 x350003_1 x350004_1 x350005_1 x350006_1 (rd l3 (wrap64 (x12_1 + 1)))).bind fun bt381 => (if bt381.1 = true then ((capa_Subset.f bt381.1 bt381.2.1 bt381.2.2.1 bt381.2.2.2.1 bt381.2.2.2.2.1 bt381.2.2.2.2.2.1 bt381.2.2.2.2.2.2 t340 t341 t342 t343 t344 t345 t346).bind fun t388 => (if t388 = true then (bulwarklaw03_CapaChain.l0 kj13 l3 (wrap64 (x12_1 + 2)) t340 t341 t342 t343 t344 t345 t346 bt381.1 bt381.2.1 bt381.2.2.1 bt381.2.2.2.1 bt381.2.2.2.2.1 bt381.2.2.2.2.2.1 bt381.2.2.2.2.2.2) else (some false))) else (bulwarklaw03_CapaChain.l0 kj13 l3 (wrap64 (x12_1 + 2)) t340 t341 t342 t343 t344 t345 t346 bt381.1 bt381.2.1 bt381.2.2.1 bt381.2.2.2.1 bt381.2.2.2.2.1 bt381.2.2.2.2.2.1 bt381.2.2.2.2.2.2))) else (none)) else (none))))) else (none)) else (none)) = some r := by rw [if_pos rfl] at H; exact H
              clear H
              have H := H1
              clear H1
              by_cases c17 : 0 ≤ x12_1
              · rw [if_pos c17] at H
                have c17b0 : decide (0 ≤ x12_1) = true := decide_eq_true c17
                clear c17
                by_cases c18 : x12_1 < (l3.length : Int)
                · rw [if_pos c18] at H
                  have c18b0 : decide (x12_1 < (l3.length : Int)) = true := decide_eq_true c18
                  clear c18
                  by_cases c19 : (Int.tmod (rd l3 x12_1) 4) = 0
                  · rw [if_pos c19] at H
                    have c19b0 : ((Int.tmod (rd l3 x12_1) 4) == 0) = true := beq_iff_eq.mpr c19
                    have c19b1 : ((Int.tmod (rd l3 x12_1) 4) != 0) = false := bne_eq_false_iff_eq.mpr c19
                    clear c19
                    replace H := Option.bind_eq_some_iff.mp H
                    obtain ⟨t352, A200, H⟩ := H
                    replace H : (if 0 ≤ (wrap64 (x12_1 + 1)) then (if (wrap64 (x12_1 + 1)) < (l3.length : Int) then ((capa_SetAddr.f x350000_1 x350001_1 x350002_1 x350003_1 x350004_1 x350005_1 x350006_1 ((((t352) % 4294967296) + (Int.tmod (rd l3 (wrap64 (x12_1 + 1))) 5000)) % 4294967296)).bind fun bt354 => (if bt354.1 = true then ((capa_Subset.f bt354.1 bt354.2.1 bt354.2.2.1 bt354.2.2.2.1 bt354.2.2.2.2.1 bt354.2.2.2.2.2.1 bt354.2.2.2.2.2.2 t340 t341 t342 t343 t344 t345 t346).bind fun t361 => (if t361 = true then (bulwarklaw03_CapaChain.l0 kj13 l3 (wrap64 (x12_1 + 2)) t340 t341 t342 t343 t344 t345 t346 bt354.1 bt354.2.1 bt354.2.2.1 bt354.2.2.2.1 bt354.2.2.2.2.1 bt354.2.2.2.2.2.1 bt354.2.2.2.2.2.2) else (some false))) else (bulwarklaw03_CapaChain.l0 kj13 l3 (wrap64 (x12_1 + 2)) t340 t341 t342 t343 t344 t345 t346 bt354.1 bt354.2.1 bt354.2.2.1 bt354.2.2.2.1 bt354.2.2.2.2.1 bt354.2.2.2.2.2.1 bt354.2.2.2.2.2.2))) else (none)) else (none)) = some r := H
                    have A20 := Aside0.mk A200
                    clear A200
                    obtain ⟨ji21, hji21⟩ : ∃ j_ : Int, (wrap64 (x12_1 + 1)) = j_ := ⟨_, rfl⟩
                    replace H : (if 0 ≤ (ji21) then (if (ji21) < (l3.length : Int) then ((capa_SetAddr.f x350000_1 x350001_1 x350002_1 x350003_1 x350004_1 x350005_1 x350006_1 ((((t352) % 4294967296) + (Int.tmod (rd l3 (ji21)) 5000)) % 4294967296)).bind fun bt354 => (if bt354.1 = true then ((capa_Subset.f bt354.1 bt354.2.1 bt354.2.2.1 bt354.2.2.2.1 bt354.2.2.2.2.1 bt354.2.2.2.2.2.1 bt354.2.2.2.2.2.2 t340 t341 t342 t343 t344 t345 t346).bind fun t361 => (if t361 = true then (bulwarklaw03_CapaChain.l0 kj13 l3 (wrap64 (x12_1 + 2)) t340 t341 t342 t343 t344 t345 t346 bt354.1 bt354.2.1 bt354.2.2.1 bt354.2.2.2.1 bt354.2.2.2.2.1 bt354.2.2.2.2.2.1 bt354.2.2.2.2.2.2) else (some false))) else (bulwarklaw03_CapaChain.l0 kj13 l3 (wrap64 (x12_1 + 2)) t340 t341 t342 t343 t344 t345 t346 bt354.1 bt354.2.1 bt354.2.2.1 bt354.2.2.2.1 bt354.2.2.2.2.1 bt354.2.2.2.2.2.1 bt354.2.2.2.2.2.2))) else (none)) else (none)) = some r := by first | (rw [hji21] at H; exact H) | (simp only [hji21] at H ⊢; exact H)
                    (try rw [hji21] at A20)
                    have hji21w : (IntKind.i64.wrap (x12_1 + 1)) = ji21 := (i64_w _).trans hji21
                    by_cases c22 : 0 ≤ (ji21)
                    · rw [if_pos c22] at H
                      have c22b0 : decide (0 ≤ (ji21)) = true := decide_eq_true c22
                      clear c22
                      by_cases c23 : (ji21) < (l3.length : Int)
                      · rw [if_pos c23] at H
                        have c23b0 : decide ((ji21) < (l3.length : Int)) = true := decide_eq_true c23
                        clear c23
                        replace H := Option.bind_eq_some_iff.mp H
                        obtain ⟨⟨t354, t355, t356, t357, t358, t359, t360⟩, A240, H⟩ := H
                        replace H : (if t354 = true then ((capa_Subset.f t354 t355 t356 t357 t358 t359 t360 t340 t341 t342 t343 t344 t345 t346).bind fun t361 => (if t361 = true then (bulwarklaw03_CapaChain.l0 kj13 l3 (wrap64 (x12_1 + 2)) t340 t341 t342 t343 t344 t345 t346 t354 t355 t356 t357 t358 t359 t360) else (some false))) else (bulwarklaw03_CapaChain.l0 kj13 l3 (wrap64 (x12_1 + 2)) t340 t341 t342 t343 t344 t345 t346 t354 t355 t356 t357 t358 t359 t360)) = some r := H
                        have A24 := Aside0.mk A240
                        clear A240
                        by_cases c25 : t354 = true
                        · subst c25
                          have H1 : ((capa_Subset.f true t355 t356 t357 t358 t359 t360 t340 t341 t342 t343 t344 t345 t346).bind fun t361 => (if t361 = true then (bulwarklaw03_CapaChain.l0 kj13 l3 (wrap64 (x12_1 + 2)) t340 t341 t342 t343 t344 t345 t346 true t355 t356 t357 t358 t359 t360) else (some false))) = some r := by rw [if_pos rfl] at H; exact H
                          clear H
                          have H := H1
                          clear H1
                          replace H := Option.bind_eq_some_iff.mp H
                          obtain ⟨t361, A260, H⟩ := H
                          replace H : (if t361 = true then (bulwarklaw03_CapaChain.l0 kj13 l3 (wrap64 (x12_1 + 2)) t340 t341 t342 t343 t344 t345 t346 true t355 t356 t357 t358 t359 t360) else (some false)) = some r := H
                          have A26 := Aside0.mk A260
                          clear A260
                          by_cases c27 : t361 = true
                          · subst c27
                            have H1 : (bulwarklaw03_CapaChain.l0 kj13 l3 (wrap64 (x12_1 + 2)) t340 t341 t342 t343 t344 t345 t346 true t355 t356 t357 t358 t359 t360) = some r := by rw [if_pos rfl] at H; exact H
                            clear H
                            have H := H1
                            clear H1
                            have H' := Aside0.mk H
                            clear H
                            have p351 : 0 ≤ (x12_1 : Int) := of_decide_eq_true (by first | (with_reducible assumption) | assumption)
                            have q351 : x12_1 < (l3.length : Int) := of_decide_eq_true (by first | (with_reducible assumption) | assumption)
                            obtain ⟨ad351, e351, hx351_0⟩ := Kd.at_int HR3.out x12_1 p351 q351
                            cases e351
                            replace hx351_0 := (HB.out.cell (World.block_lt_of_cell? w _ hx351_0)).trans hx351_0
                            replace p351 := eq_true p351
                            replace q351 := eq_true q351
                            try go_wp2
                            have n0_ := Aside0.mk (blk_drew BK348.out)
                            have n1_ := Aside0.mk (blk_drew BK349.out)
                            have n2_ := Aside0.mk (below_drew1 HB.out)
                            clear BK348
                            clear BK349
                            clear HB
                            have BK348 := n0_
                            have BK349 := n1_
                            have HB := n2_
                            clear n0_ n1_ n2_
                            have p353 : 0 ≤ ((ji21) : Int) := of_decide_eq_true (by first | (with_reducible assumption) | assumption)
                            have q353 : (ji21) < (l3.length : Int) := of_decide_eq_true (by first | (with_reducible assumption) | assumption)
                            obtain ⟨ad353, e353, hx353_0⟩ := Kd.at_int HR3.out (ji21) p353 q353
                            have hw353_0 := hx353_0
                            obtain rfl : ad351 = ad353 := (by injection e353)
                            replace hx353_0 := (HB.out.cell (World.block_lt_of_cell? w _ hx353_0)).trans hx353_0
                            replace p353 := eq_true p353
                            replace q353 := eq_true q353
                            refine start_ (n := 13) (S := fun w' => w'.cell? ⟨gb349, 0, none⟩ = some (.bool x350000_1) ∧ w'.cell? ⟨gb349, 1, none⟩ = some (.int .u32 x350001_1) ∧ w'.cell? ⟨gb349, 2, none⟩ = some (.int .u8 x350002_1) ∧ w'.cell? ⟨gb349, 3, none⟩ = some (.int .u8 x350003_1) ∧ w'.cell? ⟨gb349, 4, none⟩ = some (.int .u8 x350004_1) ∧ w'.cell? ⟨gb349, 5, none⟩ = some (.int .u16 x350005_1) ∧ w'.cell? ⟨gb349, 6, none⟩ = some (.int .u16 x350006_1) ∧ w'.cell? ⟨gb348, 0, none⟩ = some (.bool t340) ∧ w'.cell? ⟨gb348, 1, none⟩ = some (.int .u32 t341) ∧ w'.cell? ⟨gb348, 2, none⟩ = some (.int .u8 t342) ∧ w'.cell? ⟨gb348, 3, none⟩ = some (.int .u8 t343) ∧ w'.cell? ⟨gb348, 4, none⟩ = some (.int .u8 t344) ∧ w'.cell? ⟨gb348, 5, none⟩ = some (.int .u16 t345) ∧ w'.cell? ⟨gb348, 6, none⟩ = some (.int .u16 t346) ∧ w'.cell? (ad351.add ((ji21)).toNat) = some (.int .u32 (rd l3 (ji21)))) (ds := [12]) #[false, false, false, false, false, false, false, false, false, false, false, false, false] (by kernel_rfl) rfl rfl ⟨(blk_cell BK349.out 0).trans rfl, (blk_cell BK349.out 1).trans rfl, (blk_cell BK349.out 2).trans rfl, (blk_cell BK349.out 3).trans rfl, (blk_cell BK349.out 4).trans rfl, (blk_cell BK349.out 5).trans rfl, (blk_cell BK349.out 6).trans rfl, (blk_cell BK348.out 0).trans rfl, (blk_cell BK348.out 1).trans rfl, (blk_cell BK348.out 2).trans rfl, (blk_cell BK348.out 3).trans rfl, (blk_cell BK348.out 4).trans rfl, (blk_cell BK348.out 5).trans rfl, (blk_cell BK348.out 6).trans rfl, ((HB.out.cell (World.block_lt_of_cell? w _ hw353_0)).trans hw353_0)⟩ (fun hHeld => ?_); refine with_tabW bulwarklaw03_CapaChain.tab11 bulwarklaw03_CapaChain.bits11 (fun HT_ HW_ => ?_)
                            generalize wc.drew = w28 at BK348 BK349 HB hx353_0 hHeld ⊢
                            refine pure_ (i := 4) (N := some 65) (v := ?_) (a' := ?_) #[false, false, false, false, true, false, false, false, false, false, false, false, false] rfl rfl (any_of HT_.out (by kernel_rfl)) (fun _ _ _ h => h) (Or.inl ⟨by rfl, ?_⟩) ?_ ?_
                            rotate_left
                            · intro w'
                              go_simp
                              with_reducible rfl
                            rotate_left
                            · simp only [Act.put, List.setIfInBounds_toArray, List.set_cons_zero, List.set_cons_succ, i64_w, i32_w]
                              rfl
                            refine pure_ (i := 5) (N := some 66) (v := ?_) (a' := ?_) #[false, false, false, false, true, true, false, false, false, false, false, false, false] rfl rfl (any_of HT_.out (by kernel_rfl)) (fun _ _ _ h => h) (Or.inl ⟨by rfl, ?_⟩) ?_ ?_
                            rotate_left
                            · intro w'
                              go_simp
                              with_reducible rfl
                            rotate_left
                            · simp only [Act.put, List.setIfInBounds_toArray, List.set_cons_zero, List.set_cons_succ, i64_w, i32_w]
                              rfl
                            refine pure_ (i := 6) (N := some 67) (v := ?_) (a' := ?_) #[false, false, false, false, true, true, true, false, false, false, false, false, false] rfl rfl (any_of HT_.out (by kernel_rfl)) (fun _ _ _ h => h) (Or.inl ⟨by rfl, ?_⟩) ?_ ?_
                            rotate_left
                            · intro w'
                              go_simp
                              with_reducible rfl
                            rotate_left
                            · simp only [Act.put, List.setIfInBounds_toArray, List.set_cons_zero, List.set_cons_succ, i64_w, i32_w]
                              rfl
                            refine pure_ (i := 7) (N := some 68) (v := ?_) (a' := ?_) #[false, false, false, false, true, true, true, true, false, false, false, false, false] rfl rfl (any_of HT_.out (by kernel_rfl)) (fun _ _ _ h => h) (Or.inl ⟨by rfl, ?_⟩) ?_ ?_
                            rotate_left
                            · intro w'
                              go_simp
                              with_reducible rfl
                            rotate_left
                            · simp only [Act.put, List.setIfInBounds_toArray, List.set_cons_zero, List.set_cons_succ, i64_w, i32_w]
                              rfl
                            refine take_ (i := 0) (N := some 61) (v := ?_) (a' := ?_) #[true, false, false, false, true, true, true, true, false, false, false, false, false] rfl rfl (take_ofW HT_.out HW_.out (by kernel_rfl)) (fun _ _ _ h => h) (Or.inl ⟨by rfl, ?_⟩) hHeld ?_ ?_
                            rotate_left
                            · rintro w' ⟨s0, s1, s2, s3, s4, s5, s6, s7, s8, s9, s10, s11, s12, s13, s14⟩
                              go_simp
                              with_reducible rfl
                            rotate_left
                            · simp only [Act.put, List.setIfInBounds_toArray, List.set_cons_zero, List.set_cons_succ, i64_w, i32_w]
                              rfl
                            refine take_ (i := 1) (N := some 62) (v := ?_) (a' := ?_) #[true, true, false, false, true, true, true, true, false, false, false, false, false] rfl rfl (take_ofW HT_.out HW_.out (by kernel_rfl)) (fun _ _ _ h => h) (Or.inl ⟨by rfl, ?_⟩) hHeld ?_ ?_
                            rotate_left
                            · rintro w' ⟨s0, s1, s2, s3, s4, s5, s6, s7, s8, s9, s10, s11, s12, s13, s14⟩
                              go_simp
                              with_reducible rfl
                            rotate_left
                            · simp only [Act.put, List.setIfInBounds_toArray, List.set_cons_zero, List.set_cons_succ, i64_w, i32_w]
                              rfl
                            refine take_ (i := 8) (N := some 69) (v := ?_) (a' := ?_) #[true, true, false, false, true, true, true, true, true, false, false, false, false] rfl rfl (take_ofW HT_.out HW_.out (by kernel_rfl)) (fun _ _ _ h => h) (Or.inl ⟨by rfl, ?_⟩) hHeld ?_ ?_
                            rotate_left
                            · rintro w' ⟨s0, s1, s2, s3, s4, s5, s6, s7, s8, s9, s10, s11, s12, s13, s14⟩
                              go_simp
                              with_reducible rfl
                            rotate_left
                            · simp only [Act.put, List.setIfInBounds_toArray, List.set_cons_zero, List.set_cons_succ, i64_w, i32_w]
                              rfl
                            refine pure_ (i := 9) (N := some 70) (v := ?_) (a' := ?_) #[true, true, false, false, true, true, true, true, true, true, false, false, false] rfl rfl (any_of HT_.out (by kernel_rfl)) (fun _ _ _ h => h) (Or.inl ⟨by rfl, ?_⟩) ?_ ?_
                            rotate_left
                            · intro w'
                              go_simp
                              with_reducible rfl
                            rotate_left
                            · simp only [Act.put, List.setIfInBounds_toArray, List.set_cons_zero, List.set_cons_succ, i64_w, i32_w]
                              rfl
                            refine one_ (i := 2) (N := some 63) #[true, true, true, false, true, true, true, true, true, true, false, false, false] rfl rfl (one_of HT_.out (by kernel_rfl)) (by decide) (fun K hK => ?_)
                            refine goes_ Try.func17 (by kernel_rfl) rfl #[.agg #[.bool t340, .int .u32 t341, .int .u8 t342, .int .u8 t343, .int .u8 t344, .int .u16 t345, .int .u16 t346]] (by rfl) rfl rfl (by (try simp only [List.map_toArray, List.map_cons, List.map_nil]); first | done | rfl | (simp only [List.length_drop, List.length_take]; rfl)) ?_
                            with_reducible refine (capa_Base.calls t340 t341 t342 t343 t344 t345 t346 t352 _ A20.out).mono ?_
                            rintro e w29 ⟨rfl, hb⟩
                            refine ⟨_, rfl, ?_⟩
                            have n0_ := Aside0.mk (blk_below (g := gb348) (o := .cells #[.bool t340, .int .u32 t341, .int .u8 t342, .int .u8 t343, .int .u8 t344, .int .u16 t345, .int .u16 t346] 27 (0, 0)) (by (with_reducible repeat (first | refine blk_drewN ?_ _ | refine blk_drew ?_ | refine blk_alloc ?_ _)); exact BK348.out) hb)
                            have n1_ := Aside0.mk (blk_below (g := gb349) (o := .cells #[.bool x350000_1, .int .u32 x350001_1, .int .u8 x350002_1, .int .u8 x350003_1, .int .u8 x350004_1, .int .u16 x350005_1, .int .u16 x350006_1] 27 (0, 0)) (by (with_reducible repeat (first | refine blk_drewN ?_ _ | refine blk_drew ?_ | refine blk_alloc ?_ _)); exact BK349.out) hb)
                            have n2_ := Aside0.mk (below_step (by repeat (first | (with_reducible first | exact HB.out | apply below_alloc | apply pw_below_drewN | apply below_drew1 | refine below_set ?_ GE348.out | refine below_set ?_ GE349.out) | exact HB.out)) hb)
                            clear BK348
                            clear BK349
                            clear HB
                            have BK348 := n0_
                            have BK349 := n1_
                            have HB := n2_
                            clear n0_ n1_ n2_
                            (try clear hb)
                            (try clear hb2)
                            (try clear hk)
                            (try clear hi)
                            refine hK.out _ _ ⟨(blk_cell BK349.out 0).trans rfl, (blk_cell BK349.out 1).trans rfl, (blk_cell BK349.out 2).trans rfl, (blk_cell BK349.out 3).trans rfl, (blk_cell BK349.out 4).trans rfl, (blk_cell BK349.out 5).trans rfl, (blk_cell BK349.out 6).trans rfl, (blk_cell BK348.out 0).trans rfl, (blk_cell BK348.out 1).trans rfl, (blk_cell BK348.out 2).trans rfl, (blk_cell BK348.out 3).trans rfl, (blk_cell BK348.out 4).trans rfl, (blk_cell BK348.out 5).trans rfl, (blk_cell BK348.out 6).trans rfl, ((HB.out.cell (World.block_lt_of_cell? w _ hw353_0)).trans hw353_0)⟩ (fun hHeld => ?_)
                            clear hK K
                            refine norm_ (a' := ?_) ?_ ?_
                            rotate_left
                            · show Act.put _ (some 63) _ = _
                              simp only [Act.put, List.setIfInBounds_toArray, List.set_cons_zero, List.set_cons_succ, i64_w, i32_w]
                              rfl
                            refine pure_ (i := 3) (N := some 64) (v := ?_) (a' := ?_) #[true, true, true, true, true, true, true, true, true, true, false, false, false] rfl rfl (any_of HT_.out (by kernel_rfl)) (fun _ _ _ h => h) (Or.inl ⟨by rfl, ?_⟩) ?_ ?_
                            rotate_left
                            · intro w'
                              go_simp
                              with_reducible rfl
                            rotate_left
                            · simp only [Act.put, List.setIfInBounds_toArray, List.set_cons_zero, List.set_cons_succ, i64_w, i32_w]
                              rfl
                            refine pure_ (i := 10) (N := some 71) (v := ?_) (a' := ?_) #[true, true, true, true, true, true, true, true, true, true, true, false, false] rfl rfl (any_of HT_.out (by kernel_rfl)) (fun _ _ _ h => h) (Or.inl ⟨by rfl, ?_⟩) ?_ ?_
                            rotate_left
                            · intro w'
                              go_simp
                              with_reducible rfl
                            rotate_left
                            · simp only [Act.put, List.setIfInBounds_toArray, List.set_cons_zero, List.set_cons_succ, i64_w, i32_w]
                              rfl
                            refine one_ (i := 11) (N := some 72) #[true, true, true, true, true, true, true, true, true, true, true, true, false] rfl rfl (one_of HT_.out (by kernel_rfl)) (by decide) (fun K hK => ?_)
                            refine goes_ Try.func29 (by kernel_rfl) rfl #[.agg #[.bool x350000_1, .int .u32 x350001_1, .int .u8 x350002_1, .int .u8 x350003_1, .int .u8 x350004_1, .int .u16 x350005_1, .int .u16 x350006_1], .int .u32 ((((t352) % 4294967296) + (Int.tmod (rd l3 (ji21)) 5000)) % 4294967296)] (by rfl) rfl rfl (by (try simp only [List.map_toArray, List.map_cons, List.map_nil]); first | done | (simp only [hji21]; rfl) | rfl | (simp only [List.length_drop, List.length_take]; rfl)) ?_
                            with_reducible refine (capa_SetAddr.calls x350000_1 x350001_1 x350002_1 x350003_1 x350004_1 x350005_1 x350006_1 ((((t352) % 4294967296) + (Int.tmod (rd l3 (ji21)) 5000)) % 4294967296) true t355 t356 t357 t358 t359 t360 _ A24.out).mono ?_
                            rintro e w30 ⟨rfl, hb⟩
                            refine ⟨_, rfl, ?_⟩
                            have n0_ := Aside0.mk (blk_below (g := gb348) (o := .cells #[.bool t340, .int .u32 t341, .int .u8 t342, .int .u8 t343, .int .u8 t344, .int .u16 t345, .int .u16 t346] 27 (0, 0)) (by (with_reducible repeat (first | refine blk_drewN ?_ _ | refine blk_drew ?_ | refine blk_alloc ?_ _)); exact BK348.out) hb)
                            have n1_ := Aside0.mk (blk_below (g := gb349) (o := .cells #[.bool x350000_1, .int .u32 x350001_1, .int .u8 x350002_1, .int .u8 x350003_1, .int .u8 x350004_1, .int .u16 x350005_1, .int .u16 x350006_1] 27 (0, 0)) (by (with_reducible repeat (first | refine blk_drewN ?_ _ | refine blk_drew ?_ | refine blk_alloc ?_ _)); exact BK349.out) hb)
                            have n2_ := Aside0.mk (below_step (by repeat (first | (with_reducible first | exact HB.out | apply below_alloc | apply pw_below_drewN | apply below_drew1 | refine below_set ?_ GE348.out | refine below_set ?_ GE349.out) | exact HB.out)) hb)
                            clear BK348
                            clear BK349
                            clear HB
                            have BK348 := n0_
                            have BK349 := n1_
                            have HB := n2_
                            clear n0_ n1_ n2_
                            (try clear hb)
                            (try clear hb2)
                            (try clear hk)
                            (try clear hi)
                            refine hK.out _ _ ⟨(blk_cell BK349.out 0).trans rfl, (blk_cell BK349.out 1).trans rfl, (blk_cell BK349.out 2).trans rfl, (blk_cell BK349.out 3).trans rfl, (blk_cell BK349.out 4).trans rfl, (blk_cell BK349.out 5).trans rfl, (blk_cell BK349.out 6).trans rfl, (blk_cell BK348.out 0).trans rfl, (blk_cell BK348.out 1).trans rfl, (blk_cell BK348.out 2).trans rfl, (blk_cell BK348.out 3).trans rfl, (blk_cell BK348.out 4).trans rfl, (blk_cell BK348.out 5).trans rfl, (blk_cell BK348.out 6).trans rfl, ((HB.out.cell (World.block_lt_of_cell? w _ hw353_0)).trans hw353_0)⟩ (fun hHeld => ?_)
                            clear hK K
                            refine norm_ (a' := ?_) ?_ ?_
                            rotate_left
                            · show Act.put _ (some 72) _ = _
                              simp only [Act.put, List.setIfInBounds_toArray, List.set_cons_zero, List.set_cons_succ, i64_w, i32_w]
                              rfl
                            refine last_ (i := 12) (N := none) #[true, true, true, true, true, true, true, true, true, true, true, true, true] rfl rfl (one_of HT_.out (by kernel_rfl)) (by decide) (fun K hK => ?_)
                            have hs31 : w30.cell? ⟨gb349, 0, none⟩ = some (.bool x350000_1) := (blk_cell BK349.out 0).trans rfl
                            have hfs31 := blk_frozen BK349.out 0
                            have hns31_0 := NB348_349.out
                            have hms31_0 := NB349_348.out
                            have hs32 : w30.cell? ⟨gb349, 1, none⟩ = some (.int .u32 x350001_1) := (blk_cell BK349.out 1).trans rfl
                            have hfs32 := blk_frozen BK349.out 1
                            have hns32_0 := NB348_349.out
                            have hms32_0 := NB349_348.out
                            have hs33 : w30.cell? ⟨gb349, 2, none⟩ = some (.int .u8 x350002_1) := (blk_cell BK349.out 2).trans rfl
                            have hfs33 := blk_frozen BK349.out 2
                            have hns33_0 := NB348_349.out
                            have hms33_0 := NB349_348.out
                            have hs34 : w30.cell? ⟨gb349, 3, none⟩ = some (.int .u8 x350003_1) := (blk_cell BK349.out 3).trans rfl
                            have hfs34 := blk_frozen BK349.out 3
                            have hns34_0 := NB348_349.out
                            have hms34_0 := NB349_348.out
                            have hs35 : w30.cell? ⟨gb349, 4, none⟩ = some (.int .u8 x350004_1) := (blk_cell BK349.out 4).trans rfl
                            have hfs35 := blk_frozen BK349.out 4
                            have hns35_0 := NB348_349.out
                            have hms35_0 := NB349_348.out
                            have hs36 : w30.cell? ⟨gb349, 5, none⟩ = some (.int .u16 x350005_1) := (blk_cell BK349.out 5).trans rfl
                            have hfs36 := blk_frozen BK349.out 5
                            have hns36_0 := NB348_349.out
                            have hms36_0 := NB349_348.out
                            have hs37 : w30.cell? ⟨gb349, 6, none⟩ = some (.int .u16 x350006_1) := (blk_cell BK349.out 6).trans rfl
                            have hfs37 := blk_frozen BK349.out 6
                            have hns37_0 := NB348_349.out
                            have hms37_0 := NB349_348.out
                            refine skip_ (w1 := ?_) (by rfl) rfl ?_ ?_
                            rotate_left
                            · go_simp
                              rfl
                            refine hK.out _ _ ?_
                            clear hK K
                            refine done_ (done_of HT_.out (by kernel_rfl)) ?_
                            have hnb38 := NB349_348.out
                            have hnc38 := NB348_349.out
                            have hcz39_0 : w30.cell? ⟨gb349, 0, none⟩ = some (.bool x350000_1) := (blk_cell BK349.out 0).trans rfl
                            have hcz39_1 : w30.cell? ⟨gb349, 1, none⟩ = some (.int .u32 x350001_1) := (blk_cell BK349.out 1).trans rfl
                            have hcz39_2 : w30.cell? ⟨gb349, 2, none⟩ = some (.int .u8 x350002_1) := (blk_cell BK349.out 2).trans rfl
                            have hcz39_3 : w30.cell? ⟨gb349, 3, none⟩ = some (.int .u8 x350003_1) := (blk_cell BK349.out 3).trans rfl
                            have hcz39_4 : w30.cell? ⟨gb349, 4, none⟩ = some (.int .u8 x350004_1) := (blk_cell BK349.out 4).trans rfl
                            have hcz39_5 : w30.cell? ⟨gb349, 5, none⟩ = some (.int .u16 x350005_1) := (blk_cell BK349.out 5).trans rfl
                            have hcz39_6 : w30.cell? ⟨gb349, 6, none⟩ = some (.int .u16 x350006_1) := (blk_cell BK349.out 6).trans rfl
                            have hfz39_0 := blk_frozen BK349.out 0
                            have hfz39_1 := blk_frozen BK349.out 1
                            have hfz39_2 := blk_frozen BK349.out 2
                            have hfz39_3 := blk_frozen BK349.out 3
                            have hfz39_4 := blk_frozen BK349.out 4
                            have hfz39_5 := blk_frozen BK349.out 5
                            have hfz39_6 := blk_frozen BK349.out 6
                            have hcz40_0 : w30.cell? ⟨gb348, 0, none⟩ = some (.bool t340) := (blk_cell BK348.out 0).trans rfl
                            have hcz40_1 : w30.cell? ⟨gb348, 1, none⟩ = some (.int .u32 t341) := (blk_cell BK348.out 1).trans rfl
                            have hcz40_2 : w30.cell? ⟨gb348, 2, none⟩ = some (.int .u8 t342) := (blk_cell BK348.out 2).trans rfl
                            have hcz40_3 : w30.cell? ⟨gb348, 3, none⟩ = some (.int .u8 t343) := (blk_cell BK348.out 3).trans rfl
                            have hcz40_4 : w30.cell? ⟨gb348, 4, none⟩ = some (.int .u8 t344) := (blk_cell BK348.out 4).trans rfl
                            have hcz40_5 : w30.cell? ⟨gb348, 5, none⟩ = some (.int .u16 t345) := (blk_cell BK348.out 5).trans rfl
                            have hcz40_6 : w30.cell? ⟨gb348, 6, none⟩ = some (.int .u16 t346) := (blk_cell BK348.out 6).trans rfl
                            have hfz40_0 := blk_frozen BK348.out 0
                            have hfz40_1 := blk_frozen BK348.out 1
                            have hfz40_2 := blk_frozen BK348.out 2
                            have hfz40_3 := blk_frozen BK348.out 3
                            have hfz40_4 := blk_frozen BK348.out 4
                            have hfz40_5 := blk_frozen BK348.out 5
                            have hfz40_6 := blk_frozen BK348.out 6
                            try go_wp2_with (first | (go_at_call 13; (with_reducible refine (capa_Subset.calls true t355 t356 t357 t358 t359 t360 t340 t341 t342 t343 t344 t345 t346 true _ A26.out).mono ?_); rintro e w41 ⟨rfl, hb⟩; have n0_ := Aside0.mk (blk_below (g := gb348) (o := .cells #[.bool t340, .int .u32 t341, .int .u8 t342, .int .u8 t343, .int .u8 t344, .int .u16 t345, .int .u16 t346] 27 (0, 0)) (by (with_reducible repeat (first | refine blk_drewN ?_ _ | refine blk_drew ?_ | refine blk_alloc ?_ _)); refine blk_far ?_ NB348_349.out _; (with_reducible repeat (first | refine blk_drewN ?_ _ | refine blk_drew ?_ | refine blk_alloc ?_ _)); refine blk_far ?_ NB348_349.out _; (with_reducible repeat (first | refine blk_drewN ?_ _ | refine blk_drew ?_ | refine blk_alloc ?_ _)); refine blk_far ?_ NB348_349.out _; (with_reducible repeat (first | refine blk_drewN ?_ _ | refine blk_drew ?_ | refine blk_alloc ?_ _)); refine blk_far ?_ NB348_349.out _; (with_reducible repeat (first | refine blk_drewN ?_ _ | refine blk_drew ?_ | refine blk_alloc ?_ _)); refine blk_far ?_ NB348_349.out _; (with_reducible repeat (first | refine blk_drewN ?_ _ | refine blk_drew ?_ | refine blk_alloc ?_ _)); refine blk_far ?_ NB348_349.out _; (with_reducible repeat (first | refine blk_drewN ?_ _ | refine blk_drew ?_ | refine blk_alloc ?_ _)); refine blk_far ?_ NB348_349.out _; (with_reducible repeat (first | refine blk_drewN ?_ _ | refine blk_drew ?_ | refine blk_alloc ?_ _)); exact BK348.out) hb); have n1_ := Aside0.mk (blk_below (g := gb349) (o := .cells #[.bool true, .int .u32 t355, .int .u8 t356, .int .u8 t357, .int .u8 t358, .int .u16 t359, .int .u16 t360] 27 (0, 0)) (by (with_reducible repeat (first | refine blk_drewN ?_ _ | refine blk_drew ?_ | refine blk_alloc ?_ _)); refine blk_put (cs := #[.bool true, .int .u32 t355, .int .u8 t356, .int .u8 t357, .int .u8 t358, .int .u16 t359, .int .u16 x350006_1]) ?_ 6 _ rfl; (with_reducible repeat (first | refine blk_drewN ?_ _ | refine blk_drew ?_ | refine blk_alloc ?_ _)); refine blk_put (cs := #[.bool true, .int .u32 t355, .int .u8 t356, .int .u8 t357, .int .u8 t358, .int .u16 x350005_1, .int .u16 x350006_1]) ?_ 5 _ rfl; (with_reducible repeat (first | refine blk_drewN ?_ _ | refine blk_drew ?_ | refine blk_alloc ?_ _)); refine blk_put (cs := #[.bool true, .int .u32 t355, .int .u8 t356, .int .u8 t357, .int .u8 x350004_1, .int .u16 x350005_1, .int .u16 x350006_1]) ?_ 4 _ rfl; (with_reducible repeat (first | refine blk_drewN ?_ _ | refine blk_drew ?_ | refine blk_alloc ?_ _)); refine blk_put (cs := #[.bool true, .int .u32 t355, .int .u8 t356, .int .u8 x350003_1, .int .u8 x350004_1, .int .u16 x350005_1, .int .u16 x350006_1]) ?_ 3 _ rfl; (with_reducible repeat (first | refine blk_drewN ?_ _ | refine blk_drew ?_ | refine blk_alloc ?_ _)); refine blk_put (cs := #[.bool true, .int .u32 t355, .int .u8 x350002_1, .int .u8 x350003_1, .int .u8 x350004_1, .int .u16 x350005_1, .int .u16 x350006_1]) ?_ 2 _ rfl; (with_reducible repeat (first | refine blk_drewN ?_ _ | refine blk_drew ?_ | refine blk_alloc ?_ _)); refine blk_put (cs := #[.bool true, .int .u32 x350001_1, .int .u8 x350002_1, .int .u8 x350003_1, .int .u8 x350004_1, .int .u16 x350005_1, .int .u16 x350006_1]) ?_ 1 _ rfl; (with_reducible repeat (first | refine blk_drewN ?_ _ | refine blk_drew ?_ | refine blk_alloc ?_ _)); refine blk_put (cs := #[.bool x350000_1, .int .u32 x350001_1, .int .u8 x350002_1, .int .u8 x350003_1, .int .u8 x350004_1, .int .u16 x350005_1, .int .u16 x350006_1]) ?_ 0 _ rfl; (with_reducible repeat (first | refine blk_drewN ?_ _ | refine blk_drew ?_ | refine blk_alloc ?_ _)); exact BK349.out) hb); have n2_ := Aside0.mk (below_step (by repeat (first | (with_reducible first | exact HB.out | apply below_alloc | apply pw_below_drewN | apply below_drew1 | refine below_set ?_ GE348.out | refine below_set ?_ GE349.out) | exact HB.out)) hb); clear BK348; clear BK349; clear HB; have BK348 := n0_; have BK349 := n1_; have HB := n2_; clear n0_ n1_ n2_; (try clear hb); (try clear hb2); (try clear hk); (try clear hi)))
                            go_roundg kj13
                            case measure => have := HK1.out; have := HJ13.out; omega
                            case rel => exact ⟨(wrap64 (x12_1 + 2)), (true), (t355), (t356), (t357), (t358), (t359), (t360), (by first | rfl | (simp; done) | (simp [*]; done)), H', ⟨by have := HK1.out; have := HJ13.out; omega⟩, ⟨by (with_reducible repeat (first | refine blk_drewN ?_ _ | refine blk_drew ?_ | refine blk_alloc ?_ _)); exact BK348.out⟩, ⟨by (with_reducible repeat (first | refine blk_drewN ?_ _ | refine blk_drew ?_ | refine blk_alloc ?_ _)); exact BK349.out⟩, ⟨by repeat (first | (with_reducible first | exact HB.out | apply below_alloc | apply pw_below_drewN | apply below_drew1 | refine below_set ?_ GE348.out | refine below_set ?_ GE349.out) | exact HB.out)⟩⟩
                          · replace c27 := Bool.eq_false_iff.mpr c27
                            subst c27
                            have H1 : (some false) = some r := by rw [if_neg (show ¬ (false = true) by decide)] at H; exact H
                            exact absurd ((Option.some.inj H1).trans hr'.out) (by decide)
                        · replace c25 := Bool.eq_false_iff.mpr c25
                          subst c25
                          have H1 : (bulwarklaw03_CapaChain.l0 kj13 l3 (wrap64 (x12_1 + 2)) t340 t341 t342 t343 t344 t345 t346 false t355 t356 t357 t358 t359 t360) = some r := by rw [if_neg (show ¬ (false = true) by decide)] at H; exact H
                          clear H
                          have H := H1
                          clear H1
                          have H' := Aside0.mk H
                          clear H
                          have p351 : 0 ≤ (x12_1 : Int) := of_decide_eq_true (by first | (with_reducible assumption) | assumption)
                          have q351 : x12_1 < (l3.length : Int) := of_decide_eq_true (by first | (with_reducible assumption) | assumption)
                          obtain ⟨ad351, e351, hx351_0⟩ := Kd.at_int HR3.out x12_1 p351 q351
                          cases e351
                          replace hx351_0 := (HB.out.cell (World.block_lt_of_cell? w _ hx351_0)).trans hx351_0
                          replace p351 := eq_true p351
                          replace q351 := eq_true q351
                          try go_wp2
                          have n0_ := Aside0.mk (blk_drew BK348.out)
                          have n1_ := Aside0.mk (blk_drew BK349.out)
                          have n2_ := Aside0.mk (below_drew1 HB.out)
                          clear BK348
                          clear BK349
                          clear HB
                          have BK348 := n0_
                          have BK349 := n1_
                          have HB := n2_
                          clear n0_ n1_ n2_
                          have p353 : 0 ≤ ((ji21) : Int) := of_decide_eq_true (by first | (with_reducible assumption) | assumption)
                          have q353 : (ji21) < (l3.length : Int) := of_decide_eq_true (by first | (with_reducible assumption) | assumption)
                          obtain ⟨ad353, e353, hx353_0⟩ := Kd.at_int HR3.out (ji21) p353 q353
                          have hw353_0 := hx353_0
                          obtain rfl : ad351 = ad353 := (by injection e353)
                          replace hx353_0 := (HB.out.cell (World.block_lt_of_cell? w _ hx353_0)).trans hx353_0
                          replace p353 := eq_true p353
                          replace q353 := eq_true q353
                          refine start_ (n := 13) (S := fun w' => w'.cell? ⟨gb349, 0, none⟩ = some (.bool x350000_1) ∧ w'.cell? ⟨gb349, 1, none⟩ = some (.int .u32 x350001_1) ∧ w'.cell? ⟨gb349, 2, none⟩ = some (.int .u8 x350002_1) ∧ w'.cell? ⟨gb349, 3, none⟩ = some (.int .u8 x350003_1) ∧ w'.cell? ⟨gb349, 4, none⟩ = some (.int .u8 x350004_1) ∧ w'.cell? ⟨gb349, 5, none⟩ = some (.int .u16 x350005_1) ∧ w'.cell? ⟨gb349, 6, none⟩ = some (.int .u16 x350006_1) ∧ w'.cell? ⟨gb348, 0, none⟩ = some (.bool t340) ∧ w'.cell? ⟨gb348, 1, none⟩ = some (.int .u32 t341) ∧ w'.cell? ⟨gb348, 2, none⟩ = some (.int .u8 t342) ∧ w'.cell? ⟨gb348, 3, none⟩ = some (.int .u8 t343) ∧ w'.cell? ⟨gb348, 4, none⟩ = some (.int .u8 t344) ∧ w'.cell? ⟨gb348, 5, none⟩ = some (.int .u16 t345) ∧ w'.cell? ⟨gb348, 6, none⟩ = some (.int .u16 t346) ∧ w'.cell? (ad351.add ((ji21)).toNat) = some (.int .u32 (rd l3 (ji21)))) (ds := [12]) #[false, false, false, false, false, false, false, false, false, false, false, false, false] (by kernel_rfl) rfl rfl ⟨(blk_cell BK349.out 0).trans rfl, (blk_cell BK349.out 1).trans rfl, (blk_cell BK349.out 2).trans rfl, (blk_cell BK349.out 3).trans rfl, (blk_cell BK349.out 4).trans rfl, (blk_cell BK349.out 5).trans rfl, (blk_cell BK349.out 6).trans rfl, (blk_cell BK348.out 0).trans rfl, (blk_cell BK348.out 1).trans rfl, (blk_cell BK348.out 2).trans rfl, (blk_cell BK348.out 3).trans rfl, (blk_cell BK348.out 4).trans rfl, (blk_cell BK348.out 5).trans rfl, (blk_cell BK348.out 6).trans rfl, ((HB.out.cell (World.block_lt_of_cell? w _ hw353_0)).trans hw353_0)⟩ (fun hHeld => ?_); refine with_tabW bulwarklaw03_CapaChain.tab11 bulwarklaw03_CapaChain.bits11 (fun HT_ HW_ => ?_)
                          generalize wc.drew = w56 at BK348 BK349 HB hx353_0 hHeld ⊢
                          refine pure_ (i := 4) (N := some 65) (v := ?_) (a' := ?_) #[false, false, false, false, true, false, false, false, false, false, false, false, false] rfl rfl (any_of HT_.out (by kernel_rfl)) (fun _ _ _ h => h) (Or.inl ⟨by rfl, ?_⟩) ?_ ?_
                          rotate_left
                          · intro w'
                            go_simp
                            with_reducible rfl
                          rotate_left
                          · simp only [Act.put, List.setIfInBounds_toArray, List.set_cons_zero, List.set_cons_succ, i64_w, i32_w]
                            rfl
                          refine pure_ (i := 5) (N := some 66) (v := ?_) (a' := ?_) #[false, false, false, false, true, true, false, false, false, false, false, false, false] rfl rfl (any_of HT_.out (by kernel_rfl)) (fun _ _ _ h => h) (Or.inl ⟨by rfl, ?_⟩) ?_ ?_
                          rotate_left
                          · intro w'
                            go_simp
                            with_reducible rfl
                          rotate_left
                          · simp only [Act.put, List.setIfInBounds_toArray, List.set_cons_zero, List.set_cons_succ, i64_w, i32_w]
                            rfl
                          refine pure_ (i := 6) (N := some 67) (v := ?_) (a' := ?_) #[false, false, false, false, true, true, true, false, false, false, false, false, false] rfl rfl (any_of HT_.out (by kernel_rfl)) (fun _ _ _ h => h) (Or.inl ⟨by rfl, ?_⟩) ?_ ?_
                          rotate_left
                          · intro w'
                            go_simp
                            with_reducible rfl
                          rotate_left
                          · simp only [Act.put, List.setIfInBounds_toArray, List.set_cons_zero, List.set_cons_succ, i64_w, i32_w]
                            rfl
                          refine pure_ (i := 7) (N := some 68) (v := ?_) (a' := ?_) #[false, false, false, false, true, true, true, true, false, false, false, false, false] rfl rfl (any_of HT_.out (by kernel_rfl)) (fun _ _ _ h => h) (Or.inl ⟨by rfl, ?_⟩) ?_ ?_
                          rotate_left
                          · intro w'
                            go_simp
                            with_reducible rfl
                          rotate_left
                          · simp only [Act.put, List.setIfInBounds_toArray, List.set_cons_zero, List.set_cons_succ, i64_w, i32_w]
                            rfl
                          refine take_ (i := 0) (N := some 61) (v := ?_) (a' := ?_) #[true, false, false, false, true, true, true, true, false, false, false, false, false] rfl rfl (take_ofW HT_.out HW_.out (by kernel_rfl)) (fun _ _ _ h => h) (Or.inl ⟨by rfl, ?_⟩) hHeld ?_ ?_
                          rotate_left
                          · rintro w' ⟨s0, s1, s2, s3, s4, s5, s6, s7, s8, s9, s10, s11, s12, s13, s14⟩
                            go_simp
                            with_reducible rfl
                          rotate_left
                          · simp only [Act.put, List.setIfInBounds_toArray, List.set_cons_zero, List.set_cons_succ, i64_w, i32_w]
                            rfl
                          refine take_ (i := 1) (N := some 62) (v := ?_) (a' := ?_) #[true, true, false, false, true, true, true, true, false, false, false, false, false] rfl rfl (take_ofW HT_.out HW_.out (by kernel_rfl)) (fun _ _ _ h => h) (Or.inl ⟨by rfl, ?_⟩) hHeld ?_ ?_
                          rotate_left
                          · rintro w' ⟨s0, s1, s2, s3, s4, s5, s6, s7, s8, s9, s10, s11, s12, s13, s14⟩
                            go_simp
                            with_reducible rfl
                          rotate_left
                          · simp only [Act.put, List.setIfInBounds_toArray, List.set_cons_zero, List.set_cons_succ, i64_w, i32_w]
                            rfl
                          refine take_ (i := 8) (N := some 69) (v := ?_) (a' := ?_) #[true, true, false, false, true, true, true, true, true, false, false, false, false] rfl rfl (take_ofW HT_.out HW_.out (by kernel_rfl)) (fun _ _ _ h => h) (Or.inl ⟨by rfl, ?_⟩) hHeld ?_ ?_
                          rotate_left
                          · rintro w' ⟨s0, s1, s2, s3, s4, s5, s6, s7, s8, s9, s10, s11, s12, s13, s14⟩
                            go_simp
                            with_reducible rfl
                          rotate_left
                          · simp only [Act.put, List.setIfInBounds_toArray, List.set_cons_zero, List.set_cons_succ, i64_w, i32_w]
                            rfl
                          refine pure_ (i := 9) (N := some 70) (v := ?_) (a' := ?_) #[true, true, false, false, true, true, true, true, true, true, false, false, false] rfl rfl (any_of HT_.out (by kernel_rfl)) (fun _ _ _ h => h) (Or.inl ⟨by rfl, ?_⟩) ?_ ?_
                          rotate_left
                          · intro w'
                            go_simp
                            with_reducible rfl
                          rotate_left
                          · simp only [Act.put, List.setIfInBounds_toArray, List.set_cons_zero, List.set_cons_succ, i64_w, i32_w]
                            rfl
                          refine one_ (i := 2) (N := some 63) #[true, true, true, false, true, true, true, true, true, true, false, false, false] rfl rfl (one_of HT_.out (by kernel_rfl)) (by decide) (fun K hK => ?_)
                          refine goes_ Try.func17 (by kernel_rfl) rfl #[.agg #[.bool t340, .int .u32 t341, .int .u8 t342, .int .u8 t343, .int .u8 t344, .int .u16 t345, .int .u16 t346]] (by rfl) rfl rfl (by (try simp only [List.map_toArray, List.map_cons, List.map_nil]); first | done | rfl | (simp only [List.length_drop, List.length_take]; rfl)) ?_
                          with_reducible refine (capa_Base.calls t340 t341 t342 t343 t344 t345 t346 t352 _ A20.out).mono ?_
                          rintro e w57 ⟨rfl, hb⟩
                          refine ⟨_, rfl, ?_⟩
                          have n0_ := Aside0.mk (blk_below (g := gb348) (o := .cells #[.bool t340, .int .u32 t341, .int .u8 t342, .int .u8 t343, .int .u8 t344, .int .u16 t345, .int .u16 t346] 27 (0, 0)) (by (with_reducible repeat (first | refine blk_drewN ?_ _ | refine blk_drew ?_ | refine blk_alloc ?_ _)); exact BK348.out) hb)
                          have n1_ := Aside0.mk (blk_below (g := gb349) (o := .cells #[.bool x350000_1, .int .u32 x350001_1, .int .u8 x350002_1, .int .u8 x350003_1, .int .u8 x350004_1, .int .u16 x350005_1, .int .u16 x350006_1] 27 (0, 0)) (by (with_reducible repeat (first | refine blk_drewN ?_ _ | refine blk_drew ?_ | refine blk_alloc ?_ _)); exact BK349.out) hb)
                          have n2_ := Aside0.mk (below_step (by repeat (first | (with_reducible first | exact HB.out | apply below_alloc | apply pw_below_drewN | apply below_drew1 | refine below_set ?_ GE348.out | refine below_set ?_ GE349.out) | exact HB.out)) hb)
                          clear BK348
                          clear BK349
                          clear HB
                          have BK348 := n0_
                          have BK349 := n1_
                          have HB := n2_
                          clear n0_ n1_ n2_
                          (try clear hb)
                          (try clear hb2)
                          (try clear hk)
                          (try clear hi)
                          refine hK.out _ _ ⟨(blk_cell BK349.out 0).trans rfl, (blk_cell BK349.out 1).trans rfl, (blk_cell BK349.out 2).trans rfl, (blk_cell BK349.out 3).trans rfl, (blk_cell BK349.out 4).trans rfl, (blk_cell BK349.out 5).trans rfl, (blk_cell BK349.out 6).trans rfl, (blk_cell BK348.out 0).trans rfl, (blk_cell BK348.out 1).trans rfl, (blk_cell BK348.out 2).trans rfl, (blk_cell BK348.out 3).trans rfl, (blk_cell BK348.out 4).trans rfl, (blk_cell BK348.out 5).trans rfl, (blk_cell BK348.out 6).trans rfl, ((HB.out.cell (World.block_lt_of_cell? w _ hw353_0)).trans hw353_0)⟩ (fun hHeld => ?_)
                          clear hK K
                          refine norm_ (a' := ?_) ?_ ?_
                          rotate_left
                          · show Act.put _ (some 63) _ = _
                            simp only [Act.put, List.setIfInBounds_toArray, List.set_cons_zero, List.set_cons_succ, i64_w, i32_w]
                            rfl
                          refine pure_ (i := 3) (N := some 64) (v := ?_) (a' := ?_) #[true, true, true, true, true, true, true, true, true, true, false, false, false] rfl rfl (any_of HT_.out (by kernel_rfl)) (fun _ _ _ h => h) (Or.inl ⟨by rfl, ?_⟩) ?_ ?_
                          rotate_left
                          · intro w'
                            go_simp
                            with_reducible rfl
                          rotate_left
                          · simp only [Act.put, List.setIfInBounds_toArray, List.set_cons_zero, List.set_cons_succ, i64_w, i32_w]
                            rfl
                          refine pure_ (i := 10) (N := some 71) (v := ?_) (a' := ?_) #[true, true, true, true, true, true, true, true, true, true, true, false, false] rfl rfl (any_of HT_.out (by kernel_rfl)) (fun _ _ _ h => h) (Or.inl ⟨by rfl, ?_⟩) ?_ ?_
                          rotate_left
                          · intro w'
                            go_simp
                            with_reducible rfl
                          rotate_left
                          · simp only [Act.put, List.setIfInBounds_toArray, List.set_cons_zero, List.set_cons_succ, i64_w, i32_w]
                            rfl
                          refine one_ (i := 11) (N := some 72) #[true, true, true, true, true, true, true, true, true, true, true, true, false] rfl rfl (one_of HT_.out (by kernel_rfl)) (by decide) (fun K hK => ?_)
                          refine goes_ Try.func29 (by kernel_rfl) rfl #[.agg #[.bool x350000_1, .int .u32 x350001_1, .int .u8 x350002_1, .int .u8 x350003_1, .int .u8 x350004_1, .int .u16 x350005_1, .int .u16 x350006_1], .int .u32 ((((t352) % 4294967296) + (Int.tmod (rd l3 (ji21)) 5000)) % 4294967296)] (by rfl) rfl rfl (by (try simp only [List.map_toArray, List.map_cons, List.map_nil]); first | done | (simp only [hji21]; rfl) | rfl | (simp only [List.length_drop, List.length_take]; rfl)) ?_
                          with_reducible refine (capa_SetAddr.calls x350000_1 x350001_1 x350002_1 x350003_1 x350004_1 x350005_1 x350006_1 ((((t352) % 4294967296) + (Int.tmod (rd l3 (ji21)) 5000)) % 4294967296) false t355 t356 t357 t358 t359 t360 _ A24.out).mono ?_
                          rintro e w58 ⟨rfl, hb⟩
                          refine ⟨_, rfl, ?_⟩
                          have n0_ := Aside0.mk (blk_below (g := gb348) (o := .cells #[.bool t340, .int .u32 t341, .int .u8 t342, .int .u8 t343, .int .u8 t344, .int .u16 t345, .int .u16 t346] 27 (0, 0)) (by (with_reducible repeat (first | refine blk_drewN ?_ _ | refine blk_drew ?_ | refine blk_alloc ?_ _)); exact BK348.out) hb)
                          have n1_ := Aside0.mk (blk_below (g := gb349) (o := .cells #[.bool x350000_1, .int .u32 x350001_1, .int .u8 x350002_1, .int .u8 x350003_1, .int .u8 x350004_1, .int .u16 x350005_1, .int .u16 x350006_1] 27 (0, 0)) (by (with_reducible repeat (first | refine blk_drewN ?_ _ | refine blk_drew ?_ | refine blk_alloc ?_ _)); exact BK349.out) hb)
                          have n2_ := Aside0.mk (below_step (by repeat (first | (with_reducible first | exact HB.out | apply below_alloc | apply pw_below_drewN | apply below_drew1 | refine below_set ?_ GE348.out | refine below_set ?_ GE349.out) | exact HB.out)) hb)
                          clear BK348
                          clear BK349
                          clear HB
                          have BK348 := n0_
                          have BK349 := n1_
                          have HB := n2_
                          clear n0_ n1_ n2_
                          (try clear hb)
                          (try clear hb2)
                          (try clear hk)
                          (try clear hi)
                          refine hK.out _ _ ⟨(blk_cell BK349.out 0).trans rfl, (blk_cell BK349.out 1).trans rfl, (blk_cell BK349.out 2).trans rfl, (blk_cell BK349.out 3).trans rfl, (blk_cell BK349.out 4).trans rfl, (blk_cell BK349.out 5).trans rfl, (blk_cell BK349.out 6).trans rfl, (blk_cell BK348.out 0).trans rfl, (blk_cell BK348.out 1).trans rfl, (blk_cell BK348.out 2).trans rfl, (blk_cell BK348.out 3).trans rfl, (blk_cell BK348.out 4).trans rfl, (blk_cell BK348.out 5).trans rfl, (blk_cell BK348.out 6).trans rfl, ((HB.out.cell (World.block_lt_of_cell? w _ hw353_0)).trans hw353_0)⟩ (fun hHeld => ?_)
                          clear hK K
                          refine norm_ (a' := ?_) ?_ ?_
                          rotate_left
                          · show Act.put _ (some 72) _ = _
                            simp only [Act.put, List.setIfInBounds_toArray, List.set_cons_zero, List.set_cons_succ, i64_w, i32_w]
                            rfl
                          refine last_ (i := 12) (N := none) #[true, true, true, true, true, true, true, true, true, true, true, true, true] rfl rfl (one_of HT_.out (by kernel_rfl)) (by decide) (fun K hK => ?_)
                          have hs59 : w58.cell? ⟨gb349, 0, none⟩ = some (.bool x350000_1) := (blk_cell BK349.out 0).trans rfl
                          have hfs59 := blk_frozen BK349.out 0
                          have hns59_0 := NB348_349.out
                          have hms59_0 := NB349_348.out
                          have hs60 : w58.cell? ⟨gb349, 1, none⟩ = some (.int .u32 x350001_1) := (blk_cell BK349.out 1).trans rfl
                          have hfs60 := blk_frozen BK349.out 1
                          have hns60_0 := NB348_349.out
                          have hms60_0 := NB349_348.out
                          have hs61 : w58.cell? ⟨gb349, 2, none⟩ = some (.int .u8 x350002_1) := (blk_cell BK349.out 2).trans rfl
                          have hfs61 := blk_frozen BK349.out 2
                          have hns61_0 := NB348_349.out
                          have hms61_0 := NB349_348.out
                          have hs62 : w58.cell? ⟨gb349, 3, none⟩ = some (.int .u8 x350003_1) := (blk_cell BK349.out 3).trans rfl
                          have hfs62 := blk_frozen BK349.out 3
                          have hns62_0 := NB348_349.out
                          have hms62_0 := NB349_348.out
                          have hs63 : w58.cell? ⟨gb349, 4, none⟩ = some (.int .u8 x350004_1) := (blk_cell BK349.out 4).trans rfl
                          have hfs63 := blk_frozen BK349.out 4
                          have hns63_0 := NB348_349.out
                          have hms63_0 := NB349_348.out
                          have hs64 : w58.cell? ⟨gb349, 5, none⟩ = some (.int .u16 x350005_1) := (blk_cell BK349.out 5).trans rfl
                          have hfs64 := blk_frozen BK349.out 5
                          have hns64_0 := NB348_349.out
                          have hms64_0 := NB349_348.out
                          have hs65 : w58.cell? ⟨gb349, 6, none⟩ = some (.int .u16 x350006_1) := (blk_cell BK349.out 6).trans rfl
                          have hfs65 := blk_frozen BK349.out 6
                          have hns65_0 := NB348_349.out
                          have hms65_0 := NB349_348.out
                          refine skip_ (w1 := ?_) (by rfl) rfl ?_ ?_
                          rotate_left
                          · go_simp
                            rfl
                          refine hK.out _ _ ?_
                          clear hK K
                          refine done_ (done_of HT_.out (by kernel_rfl)) ?_
                          have hnb66 := NB349_348.out
                          have hnc66 := NB348_349.out
                          have hcz67_0 : w58.cell? ⟨gb349, 0, none⟩ = some (.bool x350000_1) := (blk_cell BK349.out 0).trans rfl
                          have hcz67_1 : w58.cell? ⟨gb349, 1, none⟩ = some (.int .u32 x350001_1) := (blk_cell BK349.out 1).trans rfl
                          have hcz67_2 : w58.cell? ⟨gb349, 2, none⟩ = some (.int .u8 x350002_1) := (blk_cell BK349.out 2).trans rfl
                          have hcz67_3 : w58.cell? ⟨gb349, 3, none⟩ = some (.int .u8 x350003_1) := (blk_cell BK349.out 3).trans rfl
                          have hcz67_4 : w58.cell? ⟨gb349, 4, none⟩ = some (.int .u8 x350004_1) := (blk_cell BK349.out 4).trans rfl
                          have hcz67_5 : w58.cell? ⟨gb349, 5, none⟩ = some (.int .u16 x350005_1) := (blk_cell BK349.out 5).trans rfl
                          have hcz67_6 : w58.cell? ⟨gb349, 6, none⟩ = some (.int .u16 x350006_1) := (blk_cell BK349.out 6).trans rfl
                          have hfz67_0 := blk_frozen BK349.out 0
                          have hfz67_1 := blk_frozen BK349.out 1
                          have hfz67_2 := blk_frozen BK349.out 2
                          have hfz67_3 := blk_frozen BK349.out 3
                          have hfz67_4 := blk_frozen BK349.out 4
                          have hfz67_5 := blk_frozen BK349.out 5
                          have hfz67_6 := blk_frozen BK349.out 6
                          try go_wp2
                          go_roundg kj13
                          case measure => have := HK1.out; have := HJ13.out; omega
                          case rel => exact ⟨(wrap64 (x12_1 + 2)), (false), (t355), (t356), (t357), (t358), (t359), (t360), (by first | rfl | (simp; done) | (simp [*]; done)), H', ⟨by have := HK1.out; have := HJ13.out; omega⟩, ⟨by (with_reducible repeat (first | refine blk_drewN ?_ _ | refine blk_drew ?_ | refine blk_alloc ?_ _)); refine blk_far ?_ NB348_349.out _; (with_reducible repeat (first | refine blk_drewN ?_ _ | refine blk_drew ?_ | refine blk_alloc ?_ _)); refine blk_far ?_ NB348_349.out _; (with_reducible repeat (first | refine blk_drewN ?_ _ | refine blk_drew ?_ | refine blk_alloc ?_ _)); refine blk_far ?_ NB348_349.out _; (with_reducible repeat (first | refine blk_drewN ?_ _ | refine blk_drew ?_ | refine blk_alloc ?_ _)); refine blk_far ?_ NB348_349.out _; (with_reducible repeat (first | refine blk_drewN ?_ _ | refine blk_drew ?_ | refine blk_alloc ?_ _)); refine blk_far ?_ NB348_349.out _; (with_reducible repeat (first | refine blk_drewN ?_ _ | refine blk_drew ?_ | refine blk_alloc ?_ _)); refine blk_far ?_ NB348_349.out _; (with_reducible repeat (first | refine blk_drewN ?_ _ | refine blk_drew ?_ | refine blk_alloc ?_ _)); refine blk_far ?_ NB348_349.out _; (with_reducible repeat (first | refine blk_drewN ?_ _ | refine blk_drew ?_ | refine blk_alloc ?_ _)); exact BK348.out⟩, ⟨by (with_reducible repeat (first | refine blk_drewN ?_ _ | refine blk_drew ?_ | refine blk_alloc ?_ _)); refine blk_put (cs := #[.bool false, .int .u32 t355, .int .u8 t356, .int .u8 t357, .int .u8 t358, .int .u16 t359, .int .u16 x350006_1]) ?_ 6 _ rfl; (with_reducible repeat (first | refine blk_drewN ?_ _ | refine blk_drew ?_ | refine blk_alloc ?_ _)); refine blk_put (cs := #[.bool false, .int .u32 t355, .int .u8 t356, .int .u8 t357, .int .u8 t358, .int .u16 x350005_1, .int .u16 x350006_1]) ?_ 5 _ rfl; (with_reducible repeat (first | refine blk_drewN ?_ _ | refine blk_drew ?_ | refine blk_alloc ?_ _)); refine blk_put (cs := #[.bool false, .int .u32 t355, .int .u8 t356, .int .u8 t357, .int .u8 x350004_1, .int .u16 x350005_1, .int .u16 x350006_1]) ?_ 4 _ rfl; (with_reducible repeat (first | refine blk_drewN ?_ _ | refine blk_drew ?_ | refine blk_alloc ?_ _)); refine blk_put (cs := #[.bool false, .int .u32 t355, .int .u8 t356, .int .u8 x350003_1, .int .u8 x350004_1, .int .u16 x350005_1, .int .u16 x350006_1]) ?_ 3 _ rfl; (with_reducible repeat (first | refine blk_drewN ?_ _ | refine blk_drew ?_ | refine blk_alloc ?_ _)); refine blk_put (cs := #[.bool false, .int .u32 t355, .int .u8 x350002_1, .int .u8 x350003_1, .int .u8 x350004_1, .int .u16 x350005_1, .int .u16 x350006_1]) ?_ 2 _ rfl; (with_reducible repeat (first | refine blk_drewN ?_ _ | refine blk_drew ?_ | refine blk_alloc ?_ _)); refine blk_put (cs := #[.bool false, .int .u32 x350001_1, .int .u8 x350002_1, .int .u8 x350003_1, .int .u8 x350004_1, .int .u16 x350005_1, .int .u16 x350006_1]) ?_ 1 _ rfl; (with_reducible repeat (first | refine blk_drewN ?_ _ | refine blk_drew ?_ | refine blk_alloc ?_ _)); refine blk_put (cs := #[.bool x350000_1, .int .u32 x350001_1, .int .u8 x350002_1, .int .u8 x350003_1, .int .u8 x350004_1, .int .u16 x350005_1, .int .u16 x350006_1]) ?_ 0 _ rfl; (with_reducible repeat (first | refine blk_drewN ?_ _ | refine blk_drew ?_ | refine blk_alloc ?_ _)); exact BK349.out⟩, ⟨by repeat (first | (with_reducible first | exact HB.out | apply below_alloc | apply pw_below_drewN | apply below_drew1 | refine below_set ?_ GE348.out | refine below_set ?_ GE349.out) | exact HB.out)⟩⟩
                      · rw [if_neg c23] at H
                        exact absurd H (by simp)
                    · rw [if_neg c22] at H
                      exact absurd H (by simp)
                  · rw [if_neg c19] at H
                    have c19b0 : ((Int.tmod (rd l3 x12_1) 4) == 0) = false := beq_eq_false_iff_ne.mpr c19
                    have c19b1 : ((Int.tmod (rd l3 x12_1) 4) != 0) = true := bne_iff_ne.mpr c19
                    by_cases c68 : (Int.tmod (rd l3 x12_1) 4) = 1
                    · rw [if_pos c68] at H
                      have c68b0 : ((Int.tmod (rd l3 x12_1) 4) == 1) = true := beq_iff_eq.mpr c68
                      have c68b1 : ((Int.tmod (rd l3 x12_1) 4) != 1) = false := bne_eq_false_iff_eq.mpr c68
                      clear c68
                      obtain ⟨ji69, hji69⟩ : ∃ j_ : Int, (wrap64 (x12_1 + 1)) = j_ := ⟨_, rfl⟩
                      replace H : (if 0 ≤ (ji69) then (if (ji69) < (l3.length : Int) then ((capa_SetBounds.f kj13 x350000_1 x350001_1 x350002_1 x350003_1 x350004_1 x350005_1 x350006_1 (Int.tmod (rd l3 (ji69)) 600)).bind fun bt363 => (if bt363.1 = true then ((capa_Subset.f bt363.1 bt363.2.1 bt363.2.2.1 bt363.2.2.2.1 bt363.2.2.2.2.1 bt363.2.2.2.2.2.1 bt363.2.2.2.2.2.2 t340 t341 t342 t343 t344 t345 t346).bind fun t370 => (if t370 = true then (bulwarklaw03_CapaChain.l0 kj13 l3 (wrap64 (x12_1 + 2)) t340 t341 t342 t343 t344 t345 t346 bt363.1 bt363.2.1 bt363.2.2.1 bt363.2.2.2.1 bt363.2.2.2.2.1 bt363.2.2.2.2.2.1 bt363.2.2.2.2.2.2) else (some false))) else (bulwarklaw03_CapaChain.l0 kj13 l3 (wrap64 (x12_1 + 2)) t340 t341 t342 t343 t344 t345 t346 bt363.1 bt363.2.1 bt363.2.2.1 bt363.2.2.2.1 bt363.2.2.2.2.1 bt363.2.2.2.2.2.1 bt363.2.2.2.2.2.2))) else (none)) else (none)) = some r := by first | (rw [hji69] at H; exact H) | (simp only [hji69] at H ⊢; exact H)
                      have hji69w : (IntKind.i64.wrap (x12_1 + 1)) = ji69 := (i64_w _).trans hji69
                      by_cases c70 : 0 ≤ (ji69)
                      · rw [if_pos c70] at H
                        have c70b0 : decide (0 ≤ (ji69)) = true := decide_eq_true c70
                        clear c70
                        by_cases c71 : (ji69) < (l3.length : Int)
                        · rw [if_pos c71] at H
                          have c71b0 : decide ((ji69) < (l3.length : Int)) = true := decide_eq_true c71
                          clear c71
                          replace H := Option.bind_eq_some_iff.mp H
                          obtain ⟨⟨t363, t364, t365, t366, t367, t368, t369⟩, A720, H⟩ := H
                          replace H : (if t363 = true then ((capa_Subset.f t363 t364 t365 t366 t367 t368 t369 t340 t341 t342 t343 t344 t345 t346).bind fun t370 => (if t370 = true then (bulwarklaw03_CapaChain.l0 kj13 l3 (wrap64 (x12_1 + 2)) t340 t341 t342 t343 t344 t345 t346 t363 t364 t365 t366 t367 t368 t369) else (some false))) else (bulwarklaw03_CapaChain.l0 kj13 l3 (wrap64 (x12_1 + 2)) t340 t341 t342 t343 t344 t345 t346 t363 t364 t365 t366 t367 t368 t369)) = some r := H
                          have A72 := Aside0.mk A720
                          clear A720
                          by_cases c73 : t363 = true
                          · subst c73
                            have H1 : ((capa_Subset.f true t364 t365 t366 t367 t368 t369 t340 t341 t342 t343 t344 t345 t346).bind fun t370 => (if t370 = true then (bulwarklaw03_CapaChain.l0 kj13 l3 (wrap64 (x12_1 + 2)) t340 t341 t342 t343 t344 t345 t346 true t364 t365 t366 t367 t368 t369) else (some false))) = some r := by rw [if_pos rfl] at H; exact H
                            clear H
                            have H := H1
                            clear H1
                            replace H := Option.bind_eq_some_iff.mp H
                            obtain ⟨t370, A740, H⟩ := H
                            replace H : (if t370 = true then (bulwarklaw03_CapaChain.l0 kj13 l3 (wrap64 (x12_1 + 2)) t340 t341 t342 t343 t344 t345 t346 true t364 t365 t366 t367 t368 t369) else (some false)) = some r := H
                            have A74 := Aside0.mk A740
                            clear A740
                            by_cases c75 : t370 = true
                            · subst c75
                              have H1 : (bulwarklaw03_CapaChain.l0 kj13 l3 (wrap64 (x12_1 + 2)) t340 t341 t342 t343 t344 t345 t346 true t364 t365 t366 t367 t368 t369) = some r := by rw [if_pos rfl] at H; exact H
                              clear H
                              have H := H1
                              clear H1
                              have H' := Aside0.mk H
                              clear H
                              have p351 : 0 ≤ (x12_1 : Int) := of_decide_eq_true (by first | (with_reducible assumption) | assumption)
                              have q351 : x12_1 < (l3.length : Int) := of_decide_eq_true (by first | (with_reducible assumption) | assumption)
                              obtain ⟨ad351, e351, hx351_0⟩ := Kd.at_int HR3.out x12_1 p351 q351
                              cases e351
                              replace hx351_0 := (HB.out.cell (World.block_lt_of_cell? w _ hx351_0)).trans hx351_0
                              replace p351 := eq_true p351
                              replace q351 := eq_true q351
                              try go_wp2
                              have n0_ := Aside0.mk (blk_drew BK348.out)
                              have n1_ := Aside0.mk (blk_drew BK349.out)
                              have n2_ := Aside0.mk (below_drew1 HB.out)
                              clear BK348
                              clear BK349
                              clear HB
                              have BK348 := n0_
                              have BK349 := n1_
                              have HB := n2_
                              clear n0_ n1_ n2_
                              have p362 : 0 ≤ ((ji69) : Int) := of_decide_eq_true (by first | (with_reducible assumption) | assumption)
                              have q362 : (ji69) < (l3.length : Int) := of_decide_eq_true (by first | (with_reducible assumption) | assumption)
                              obtain ⟨ad362, e362, hx362_0⟩ := Kd.at_int HR3.out (ji69) p362 q362
                              have hw362_0 := hx362_0
                              obtain rfl : ad351 = ad362 := (by injection e362)
                              replace hx362_0 := (HB.out.cell (World.block_lt_of_cell? w _ hx362_0)).trans hx362_0
                              replace p362 := eq_true p362
                              replace q362 := eq_true q362
                              refine start_ (n := 9) (S := fun w' => w'.cell? ⟨gb349, 0, none⟩ = some (.bool x350000_1) ∧ w'.cell? ⟨gb349, 1, none⟩ = some (.int .u32 x350001_1) ∧ w'.cell? ⟨gb349, 2, none⟩ = some (.int .u8 x350002_1) ∧ w'.cell? ⟨gb349, 3, none⟩ = some (.int .u8 x350003_1) ∧ w'.cell? ⟨gb349, 4, none⟩ = some (.int .u8 x350004_1) ∧ w'.cell? ⟨gb349, 5, none⟩ = some (.int .u16 x350005_1) ∧ w'.cell? ⟨gb349, 6, none⟩ = some (.int .u16 x350006_1) ∧ w'.cell? (ad351.add ((ji69)).toNat) = some (.int .u32 (rd l3 (ji69)))) (ds := [8]) #[false, false, false, false, false, false, false, false, false] (by kernel_rfl) rfl rfl ⟨(blk_cell BK349.out 0).trans rfl, (blk_cell BK349.out 1).trans rfl, (blk_cell BK349.out 2).trans rfl, (blk_cell BK349.out 3).trans rfl, (blk_cell BK349.out 4).trans rfl, (blk_cell BK349.out 5).trans rfl, (blk_cell BK349.out 6).trans rfl, ((HB.out.cell (World.block_lt_of_cell? w _ hw362_0)).trans hw362_0)⟩ (fun hHeld => ?_); refine with_tabW bulwarklaw03_CapaChain.tab13 bulwarklaw03_CapaChain.bits13 (fun HT_ HW_ => ?_)
                              generalize wc.drew = w76 at BK348 BK349 HB hx362_0 hHeld ⊢
                              refine pure_ (i := 1) (N := some 76) (v := ?_) (a' := ?_) #[false, true, false, false, false, false, false, false, false] rfl rfl (any_of HT_.out (by kernel_rfl)) (fun _ _ _ h => h) (Or.inl ⟨by rfl, ?_⟩) ?_ ?_
                              rotate_left
                              · intro w'
                                go_simp
                                with_reducible rfl
                              rotate_left
                              · simp only [Act.put, List.setIfInBounds_toArray, List.set_cons_zero, List.set_cons_succ, i64_w, i32_w]
                                rfl
                              refine pure_ (i := 2) (N := some 77) (v := ?_) (a' := ?_) #[false, true, true, false, false, false, false, false, false] rfl rfl (any_of HT_.out (by kernel_rfl)) (fun _ _ _ h => h) (Or.inl ⟨by rfl, ?_⟩) ?_ ?_
                              rotate_left
                              · intro w'
                                go_simp
                                with_reducible rfl
                              rotate_left
                              · simp only [Act.put, List.setIfInBounds_toArray, List.set_cons_zero, List.set_cons_succ, i64_w, i32_w]
                                rfl
                              refine pure_ (i := 3) (N := some 78) (v := ?_) (a' := ?_) #[false, true, true, true, false, false, false, false, false] rfl rfl (any_of HT_.out (by kernel_rfl)) (fun _ _ _ h => h) (Or.inl ⟨by rfl, ?_⟩) ?_ ?_
                              rotate_left
                              · intro w'
                                go_simp
                                with_reducible rfl
                              rotate_left
                              · simp only [Act.put, List.setIfInBounds_toArray, List.set_cons_zero, List.set_cons_succ, i64_w, i32_w]
                                rfl
                              refine pure_ (i := 4) (N := some 79) (v := ?_) (a' := ?_) #[false, true, true, true, true, false, false, false, false] rfl rfl (any_of HT_.out (by kernel_rfl)) (fun _ _ _ h => h) (Or.inl ⟨by rfl, ?_⟩) ?_ ?_
                              rotate_left
                              · intro w'
                                go_simp
                                with_reducible rfl
                              rotate_left
                              · simp only [Act.put, List.setIfInBounds_toArray, List.set_cons_zero, List.set_cons_succ, i64_w, i32_w]
                                rfl
                              refine take_ (i := 0) (N := some 75) (v := ?_) (a' := ?_) #[true, true, true, true, true, false, false, false, false] rfl rfl (take_ofW HT_.out HW_.out (by kernel_rfl)) (fun _ _ _ h => h) (Or.inl ⟨by rfl, ?_⟩) hHeld ?_ ?_
                              rotate_left
                              · rintro w' ⟨s0, s1, s2, s3, s4, s5, s6, s7⟩
                                go_simp
                                with_reducible rfl
                              rotate_left
                              · simp only [Act.put, List.setIfInBounds_toArray, List.set_cons_zero, List.set_cons_succ, i64_w, i32_w]
                                rfl
                              refine take_ (i := 5) (N := some 80) (v := ?_) (a' := ?_) #[true, true, true, true, true, true, false, false, false] rfl rfl (take_ofW HT_.out HW_.out (by kernel_rfl)) (fun _ _ _ h => h) (Or.inl ⟨by rfl, ?_⟩) hHeld ?_ ?_
                              rotate_left
                              · rintro w' ⟨s0, s1, s2, s3, s4, s5, s6, s7⟩
                                go_simp
                                with_reducible rfl
                              rotate_left
                              · simp only [Act.put, List.setIfInBounds_toArray, List.set_cons_zero, List.set_cons_succ, i64_w, i32_w]
                                rfl
                              refine pure_ (i := 6) (N := some 81) (v := ?_) (a' := ?_) #[true, true, true, true, true, true, true, false, false] rfl rfl (any_of HT_.out (by kernel_rfl)) (fun _ _ _ h => h) (Or.inl ⟨by rfl, ?_⟩) ?_ ?_
                              rotate_left
                              · intro w'
                                go_simp
                                with_reducible rfl
                              rotate_left
                              · simp only [Act.put, List.setIfInBounds_toArray, List.set_cons_zero, List.set_cons_succ, i64_w, i32_w]
                                rfl
                              refine one_ (i := 7) (N := some 82) #[true, true, true, true, true, true, true, true, false] rfl rfl (one_of HT_.out (by kernel_rfl)) (by decide) (fun K hK => ?_)
                              refine goes_ Try.func30 (by kernel_rfl) rfl #[.agg #[.bool x350000_1, .int .u32 x350001_1, .int .u8 x350002_1, .int .u8 x350003_1, .int .u8 x350004_1, .int .u16 x350005_1, .int .u16 x350006_1], .int .u32 (Int.tmod (rd l3 (ji69)) 600)] (by rfl) rfl rfl (by (try simp only [List.map_toArray, List.map_cons, List.map_nil]); first | done | (simp only [hji69]; rfl) | rfl | (simp only [List.length_drop, List.length_take]; rfl)) ?_
                              with_reducible refine (capa_SetBounds.calls kj13 x350000_1 x350001_1 x350002_1 x350003_1 x350004_1 x350005_1 x350006_1 (Int.tmod (rd l3 (ji69)) 600) true t364 t365 t366 t367 t368 t369 _ A72.out).mono ?_
                              rintro e w77 ⟨rfl, hb⟩
                              refine ⟨_, rfl, ?_⟩
                              have n0_ := Aside0.mk (blk_below (g := gb348) (o := .cells #[.bool t340, .int .u32 t341, .int .u8 t342, .int .u8 t343, .int .u8 t344, .int .u16 t345, .int .u16 t346] 27 (0, 0)) (by (with_reducible repeat (first | refine blk_drewN ?_ _ | refine blk_drew ?_ | refine blk_alloc ?_ _)); exact BK348.out) hb)
                              have n1_ := Aside0.mk (blk_below (g := gb349) (o := .cells #[.bool x350000_1, .int .u32 x350001_1, .int .u8 x350002_1, .int .u8 x350003_1, .int .u8 x350004_1, .int .u16 x350005_1, .int .u16 x350006_1] 27 (0, 0)) (by (with_reducible repeat (first | refine blk_drewN ?_ _ | refine blk_drew ?_ | refine blk_alloc ?_ _)); exact BK349.out) hb)
                              have n2_ := Aside0.mk (below_step (by repeat (first | (with_reducible first | exact HB.out | apply below_alloc | apply pw_below_drewN | apply below_drew1 | refine below_set ?_ GE348.out | refine below_set ?_ GE349.out) | exact HB.out)) hb)
                              clear BK348
                              clear BK349
                              clear HB
                              have BK348 := n0_
                              have BK349 := n1_
                              have HB := n2_
                              clear n0_ n1_ n2_
                              (try clear hb)
                              (try clear hb2)
                              (try clear hk)
                              (try clear hi)
                              refine hK.out _ _ ⟨(blk_cell BK349.out 0).trans rfl, (blk_cell BK349.out 1).trans rfl, (blk_cell BK349.out 2).trans rfl, (blk_cell BK349.out 3).trans rfl, (blk_cell BK349.out 4).trans rfl, (blk_cell BK349.out 5).trans rfl, (blk_cell BK349.out 6).trans rfl, ((HB.out.cell (World.block_lt_of_cell? w _ hw362_0)).trans hw362_0)⟩ (fun hHeld => ?_)
                              clear hK K
                              refine norm_ (a' := ?_) ?_ ?_
                              rotate_left
                              · show Act.put _ (some 82) _ = _
                                simp only [Act.put, List.setIfInBounds_toArray, List.set_cons_zero, List.set_cons_succ, i64_w, i32_w]
                                rfl
                              refine last_ (i := 8) (N := none) #[true, true, true, true, true, true, true, true, true] rfl rfl (one_of HT_.out (by kernel_rfl)) (by decide) (fun K hK => ?_)
                              have hs78 : w77.cell? ⟨gb349, 0, none⟩ = some (.bool x350000_1) := (blk_cell BK349.out 0).trans rfl
                              have hfs78 := blk_frozen BK349.out 0
                              have hns78_0 := NB348_349.out
                              have hms78_0 := NB349_348.out
                              have hs79 : w77.cell? ⟨gb349, 1, none⟩ = some (.int .u32 x350001_1) := (blk_cell BK349.out 1).trans rfl
                              have hfs79 := blk_frozen BK349.out 1
                              have hns79_0 := NB348_349.out
                              have hms79_0 := NB349_348.out
                              have hs80 : w77.cell? ⟨gb349, 2, none⟩ = some (.int .u8 x350002_1) := (blk_cell BK349.out 2).trans rfl
                              have hfs80 := blk_frozen BK349.out 2
                              have hns80_0 := NB348_349.out
                              have hms80_0 := NB349_348.out
                              have hs81 : w77.cell? ⟨gb349, 3, none⟩ = some (.int .u8 x350003_1) := (blk_cell BK349.out 3).trans rfl
                              have hfs81 := blk_frozen BK349.out 3
                              have hns81_0 := NB348_349.out
                              have hms81_0 := NB349_348.out
                              have hs82 : w77.cell? ⟨gb349, 4, none⟩ = some (.int .u8 x350004_1) := (blk_cell BK349.out 4).trans rfl
                              have hfs82 := blk_frozen BK349.out 4
                              have hns82_0 := NB348_349.out
                              have hms82_0 := NB349_348.out
                              have hs83 : w77.cell? ⟨gb349, 5, none⟩ = some (.int .u16 x350005_1) := (blk_cell BK349.out 5).trans rfl
                              have hfs83 := blk_frozen BK349.out 5
                              have hns83_0 := NB348_349.out
                              have hms83_0 := NB349_348.out
                              have hs84 : w77.cell? ⟨gb349, 6, none⟩ = some (.int .u16 x350006_1) := (blk_cell BK349.out 6).trans rfl
                              have hfs84 := blk_frozen BK349.out 6
                              have hns84_0 := NB348_349.out
                              have hms84_0 := NB349_348.out
                              refine skip_ (w1 := ?_) (by rfl) rfl ?_ ?_
                              rotate_left
                              · go_simp
                                rfl
                              refine hK.out _ _ ?_
                              clear hK K
                              refine done_ (done_of HT_.out (by kernel_rfl)) ?_
                              have hnb85 := NB349_348.out
                              have hnc85 := NB348_349.out
                              have hcz86_0 : w77.cell? ⟨gb349, 0, none⟩ = some (.bool x350000_1) := (blk_cell BK349.out 0).trans rfl
                              have hcz86_1 : w77.cell? ⟨gb349, 1, none⟩ = some (.int .u32 x350001_1) := (blk_cell BK349.out 1).trans rfl
                              have hcz86_2 : w77.cell? ⟨gb349, 2, none⟩ = some (.int .u8 x350002_1) := (blk_cell BK349.out 2).trans rfl
                              have hcz86_3 : w77.cell? ⟨gb349, 3, none⟩ = some (.int .u8 x350003_1) := (blk_cell BK349.out 3).trans rfl
                              have hcz86_4 : w77.cell? ⟨gb349, 4, none⟩ = some (.int .u8 x350004_1) := (blk_cell BK349.out 4).trans rfl
                              have hcz86_5 : w77.cell? ⟨gb349, 5, none⟩ = some (.int .u16 x350005_1) := (blk_cell BK349.out 5).trans rfl
                              have hcz86_6 : w77.cell? ⟨gb349, 6, none⟩ = some (.int .u16 x350006_1) := (blk_cell BK349.out 6).trans rfl
                              have hfz86_0 := blk_frozen BK349.out 0
                              have hfz86_1 := blk_frozen BK349.out 1
                              have hfz86_2 := blk_frozen BK349.out 2
                              have hfz86_3 := blk_frozen BK349.out 3
                              have hfz86_4 := blk_frozen BK349.out 4
                              have hfz86_5 := blk_frozen BK349.out 5
                              have hfz86_6 := blk_frozen BK349.out 6
                              have hcz87_0 : w77.cell? ⟨gb348, 0, none⟩ = some (.bool t340) := (blk_cell BK348.out 0).trans rfl
                              have hcz87_1 : w77.cell? ⟨gb348, 1, none⟩ = some (.int .u32 t341) := (blk_cell BK348.out 1).trans rfl
                              have hcz87_2 : w77.cell? ⟨gb348, 2, none⟩ = some (.int .u8 t342) := (blk_cell BK348.out 2).trans rfl
                              have hcz87_3 : w77.cell? ⟨gb348, 3, none⟩ = some (.int .u8 t343) := (blk_cell BK348.out 3).trans rfl
                              have hcz87_4 : w77.cell? ⟨gb348, 4, none⟩ = some (.int .u8 t344) := (blk_cell BK348.out 4).trans rfl
                              have hcz87_5 : w77.cell? ⟨gb348, 5, none⟩ = some (.int .u16 t345) := (blk_cell BK348.out 5).trans rfl
                              have hcz87_6 : w77.cell? ⟨gb348, 6, none⟩ = some (.int .u16 t346) := (blk_cell BK348.out 6).trans rfl
                              have hfz87_0 := blk_frozen BK348.out 0
                              have hfz87_1 := blk_frozen BK348.out 1
                              have hfz87_2 := blk_frozen BK348.out 2
                              have hfz87_3 := blk_frozen BK348.out 3
                              have hfz87_4 := blk_frozen BK348.out 4
                              have hfz87_5 := blk_frozen BK348.out 5
                              have hfz87_6 := blk_frozen BK348.out 6
                              try go_wp2_with (first | (go_at_call 13; (with_reducible refine (capa_Subset.calls true t364 t365 t366 t367 t368 t369 t340 t341 t342 t343 t344 t345 t346 true _ A74.out).mono ?_); rintro e w88 ⟨rfl, hb⟩; have n0_ := Aside0.mk (blk_below (g := gb348) (o := .cells #[.bool t340, .int .u32 t341, .int .u8 t342, .int .u8 t343, .int .u8 t344, .int .u16 t345, .int .u16 t346] 27 (0, 0)) (by (with_reducible repeat (first | refine blk_drewN ?_ _ | refine blk_drew ?_ | refine blk_alloc ?_ _)); refine blk_far ?_ NB348_349.out _; (with_reducible repeat (first | refine blk_drewN ?_ _ | refine blk_drew ?_ | refine blk_alloc ?_ _)); refine blk_far ?_ NB348_349.out _; (with_reducible repeat (first | refine blk_drewN ?_ _ | refine blk_drew ?_ | refine blk_alloc ?_ _)); refine blk_far ?_ NB348_349.out _; (with_reducible repeat (first | refine blk_drewN ?_ _ | refine blk_drew ?_ | refine blk_alloc ?_ _)); refine blk_far ?_ NB348_349.out _; (with_reducible repeat (first | refine blk_drewN ?_ _ | refine blk_drew ?_ | refine blk_alloc ?_ _)); refine blk_far ?_ NB348_349.out _; (with_reducible repeat (first | refine blk_drewN ?_ _ | refine blk_drew ?_ | refine blk_alloc ?_ _)); refine blk_far ?_ NB348_349.out _; (with_reducible repeat (first | refine blk_drewN ?_ _ | refine blk_drew ?_ | refine blk_alloc ?_ _)); refine blk_far ?_ NB348_349.out _; (with_reducible repeat (first | refine blk_drewN ?_ _ | refine blk_drew ?_ | refine blk_alloc ?_ _)); exact BK348.out) hb); have n1_ := Aside0.mk (blk_below (g := gb349) (o := .cells #[.bool true, .int .u32 t364, .int .u8 t365, .int .u8 t366, .int .u8 t367, .int .u16 t368, .int .u16 t369] 27 (0, 0)) (by (with_reducible repeat (first | refine blk_drewN ?_ _ | refine blk_drew ?_ | refine blk_alloc ?_ _)); refine blk_put (cs := #[.bool true, .int .u32 t364, .int .u8 t365, .int .u8 t366, .int .u8 t367, .int .u16 t368, .int .u16 x350006_1]) ?_ 6 _ rfl; (with_reducible repeat (first | refine blk_drewN ?_ _ | refine blk_drew ?_ | refine blk_alloc ?_ _)); refine blk_put (cs := #[.bool true, .int .u32 t364, .int .u8 t365, .int .u8 t366, .int .u8 t367, .int .u16 x350005_1, .int .u16 x350006_1]) ?_ 5 _ rfl; (with_reducible repeat (first | refine blk_drewN ?_ _ | refine blk_drew ?_ | refine blk_alloc ?_ _)); refine blk_put (cs := #[.bool true, .int .u32 t364, .int .u8 t365, .int .u8 t366, .int .u8 x350004_1, .int .u16 x350005_1, .int .u16 x350006_1]) ?_ 4 _ rfl; (with_reducible repeat (first | refine blk_drewN ?_ _ | refine blk_drew ?_ | refine blk_alloc ?_ _)); refine blk_put (cs := #[.bool true, .int .u32 t364, .int .u8 t365, .int .u8 x350003_1, .int .u8 x350004_1, .int .u16 x350005_1, .int .u16 x350006_1]) ?_ 3 _ rfl; (with_reducible repeat (first | refine blk_drewN ?_ _ | refine blk_drew ?_ | refine blk_alloc ?_ _)); refine blk_put (cs := #[.bool true, .int .u32 t364, .int .u8 x350002_1, .int .u8 x350003_1, .int .u8 x350004_1, .int .u16 x350005_1, .int .u16 x350006_1]) ?_ 2 _ rfl; (with_reducible repeat (first | refine blk_drewN ?_ _ | refine blk_drew ?_ | refine blk_alloc ?_ _)); refine blk_put (cs := #[.bool true, .int .u32 x350001_1, .int .u8 x350002_1, .int .u8 x350003_1, .int .u8 x350004_1, .int .u16 x350005_1, .int .u16 x350006_1]) ?_ 1 _ rfl; (with_reducible repeat (first | refine blk_drewN ?_ _ | refine blk_drew ?_ | refine blk_alloc ?_ _)); refine blk_put (cs := #[.bool x350000_1, .int .u32 x350001_1, .int .u8 x350002_1, .int .u8 x350003_1, .int .u8 x350004_1, .int .u16 x350005_1, .int .u16 x350006_1]) ?_ 0 _ rfl; (with_reducible repeat (first | refine blk_drewN ?_ _ | refine blk_drew ?_ | refine blk_alloc ?_ _)); exact BK349.out) hb); have n2_ := Aside0.mk (below_step (by repeat (first | (with_reducible first | exact HB.out | apply below_alloc | apply pw_below_drewN | apply below_drew1 | refine below_set ?_ GE348.out | refine below_set ?_ GE349.out) | exact HB.out)) hb); clear BK348; clear BK349; clear HB; have BK348 := n0_; have BK349 := n1_; have HB := n2_; clear n0_ n1_ n2_; (try clear hb); (try clear hb2); (try clear hk); (try clear hi)))
                              go_roundg kj13
                              case measure => have := HK1.out; have := HJ13.out; omega
                              case rel => exact ⟨(wrap64 (x12_1 + 2)), (true), (t364), (t365), (t366), (t367), (t368), (t369), (by first | rfl | (simp; done) | (simp [*]; done)), H', ⟨by have := HK1.out; have := HJ13.out; omega⟩, ⟨by (with_reducible repeat (first | refine blk_drewN ?_ _ | refine blk_drew ?_ | refine blk_alloc ?_ _)); exact BK348.out⟩, ⟨by (with_reducible repeat (first | refine blk_drewN ?_ _ | refine blk_drew ?_ | refine blk_alloc ?_ _)); exact BK349.out⟩, ⟨by repeat (first | (with_reducible first | exact HB.out | apply below_alloc | apply pw_below_drewN | apply below_drew1 | refine below_set ?_ GE348.out | refine below_set ?_ GE349.out) | exact HB.out)⟩⟩
                            · replace c75 := Bool.eq_false_iff.mpr c75
                              subst c75
                              have H1 : (some false) = some r := by rw [if_neg (show ¬ (false = true) by decide)] at H; exact H
                              exact absurd ((Option.some.inj H1).trans hr'.out) (by decide)
                          · replace c73 := Bool.eq_false_iff.mpr c73
                            subst c73
                            have H1 : (bulwarklaw03_CapaChain.l0 kj13 l3 (wrap64 (x12_1 + 2)) t340 t341 t342 t343 t344 t345 t346 false t364 t365 t366 t367 t368 t369) = some r := by rw [if_neg (show ¬ (false = true) by decide)] at H; exact H
                            clear H
                            have H := H1
                            clear H1
                            have H' := Aside0.mk H
                            clear H
                            have p351 : 0 ≤ (x12_1 : Int) := of_decide_eq_true (by first | (with_reducible assumption) | assumption)
                            have q351 : x12_1 < (l3.length : Int) := of_decide_eq_true (by first | (with_reducible assumption) | assumption)
                            obtain ⟨ad351, e351, hx351_0⟩ := Kd.at_int HR3.out x12_1 p351 q351
                            cases e351
                            replace hx351_0 := (HB.out.cell (World.block_lt_of_cell? w _ hx351_0)).trans hx351_0
                            replace p351 := eq_true p351
                            replace q351 := eq_true q351
                            try go_wp2
                            have n0_ := Aside0.mk (blk_drew BK348.out)
                            have n1_ := Aside0.mk (blk_drew BK349.out)
                            have n2_ := Aside0.mk (below_drew1 HB.out)
                            clear BK348
                            clear BK349
                            clear HB
                            have BK348 := n0_
                            have BK349 := n1_
                            have HB := n2_
                            clear n0_ n1_ n2_
                            have p362 : 0 ≤ ((ji69) : Int) := of_decide_eq_true (by first | (with_reducible assumption) | assumption)
                            have q362 : (ji69) < (l3.length : Int) := of_decide_eq_true (by first | (with_reducible assumption) | assumption)
                            obtain ⟨ad362, e362, hx362_0⟩ := Kd.at_int HR3.out (ji69) p362 q362
                            have hw362_0 := hx362_0
                            obtain rfl : ad351 = ad362 := (by injection e362)
                            replace hx362_0 := (HB.out.cell (World.block_lt_of_cell? w _ hx362_0)).trans hx362_0
                            replace p362 := eq_true p362
                            replace q362 := eq_true q362
                            refine start_ (n := 9) (S := fun w' => w'.cell? ⟨gb349, 0, none⟩ = some (.bool x350000_1) ∧ w'.cell? ⟨gb349, 1, none⟩ = some (.int .u32 x350001_1) ∧ w'.cell? ⟨gb349, 2, none⟩ = some (.int .u8 x350002_1) ∧ w'.cell? ⟨gb349, 3, none⟩ = some (.int .u8 x350003_1) ∧ w'.cell? ⟨gb349, 4, none⟩ = some (.int .u8 x350004_1) ∧ w'.cell? ⟨gb349, 5, none⟩ = some (.int .u16 x350005_1) ∧ w'.cell? ⟨gb349, 6, none⟩ = some (.int .u16 x350006_1) ∧ w'.cell? (ad351.add ((ji69)).toNat) = some (.int .u32 (rd l3 (ji69)))) (ds := [8]) #[false, false, false, false, false, false, false, false, false] (by kernel_rfl) rfl rfl ⟨(blk_cell BK349.out 0).trans rfl, (blk_cell BK349.out 1).trans rfl, (blk_cell BK349.out 2).trans rfl, (blk_cell BK349.out 3).trans rfl, (blk_cell BK349.out 4).trans rfl, (blk_cell BK349.out 5).trans rfl, (blk_cell BK349.out 6).trans rfl, ((HB.out.cell (World.block_lt_of_cell? w _ hw362_0)).trans hw362_0)⟩ (fun hHeld => ?_); refine with_tabW bulwarklaw03_CapaChain.tab13 bulwarklaw03_CapaChain.bits13 (fun HT_ HW_ => ?_)
                            generalize wc.drew = w102 at BK348 BK349 HB hx362_0 hHeld ⊢
                            refine pure_ (i := 1) (N := some 76) (v := ?_) (a' := ?_) #[false, true, false, false, false, false, false, false, false] rfl rfl (any_of HT_.out (by kernel_rfl)) (fun _ _ _ h => h) (Or.inl ⟨by rfl, ?_⟩) ?_ ?_
                            rotate_left
                            · intro w'
                              go_simp
                              with_reducible rfl
                            rotate_left
                            · simp only [Act.put, List.setIfInBounds_toArray, List.set_cons_zero, List.set_cons_succ, i64_w, i32_w]
                              rfl
                            refine pure_ (i := 2) (N := some 77) (v := ?_) (a' := ?_) #[false, true, true, false, false, false, false, false, false] rfl rfl (any_of HT_.out (by kernel_rfl)) (fun _ _ _ h => h) (Or.inl ⟨by rfl, ?_⟩) ?_ ?_
                            rotate_left
                            · intro w'
                              go_simp
                              with_reducible rfl
                            rotate_left
                            · simp only [Act.put, List.setIfInBounds_toArray, List.set_cons_zero, List.set_cons_succ, i64_w, i32_w]
                              rfl
                            refine pure_ (i := 3) (N := some 78) (v := ?_) (a' := ?_) #[false, true, true, true, false, false, false, false, false] rfl rfl (any_of HT_.out (by kernel_rfl)) (fun _ _ _ h => h) (Or.inl ⟨by rfl, ?_⟩) ?_ ?_
                            rotate_left
                            · intro w'
                              go_simp
                              with_reducible rfl
                            rotate_left
                            · simp only [Act.put, List.setIfInBounds_toArray, List.set_cons_zero, List.set_cons_succ, i64_w, i32_w]
                              rfl
                            refine pure_ (i := 4) (N := some 79) (v := ?_) (a' := ?_) #[false, true, true, true, true, false, false, false, false] rfl rfl (any_of HT_.out (by kernel_rfl)) (fun _ _ _ h => h) (Or.inl ⟨by rfl, ?_⟩) ?_ ?_
                            rotate_left
                            · intro w'
                              go_simp
                              with_reducible rfl
                            rotate_left
                            · simp only [Act.put, List.setIfInBounds_toArray, List.set_cons_zero, List.set_cons_succ, i64_w, i32_w]
                              rfl
                            refine take_ (i := 0) (N := some 75) (v := ?_) (a' := ?_) #[true, true, true, true, true, false, false, false, false] rfl rfl (take_ofW HT_.out HW_.out (by kernel_rfl)) (fun _ _ _ h => h) (Or.inl ⟨by rfl, ?_⟩) hHeld ?_ ?_
                            rotate_left
                            · rintro w' ⟨s0, s1, s2, s3, s4, s5, s6, s7⟩
                              go_simp
                              with_reducible rfl
                            rotate_left
                            · simp only [Act.put, List.setIfInBounds_toArray, List.set_cons_zero, List.set_cons_succ, i64_w, i32_w]
                              rfl
                            refine take_ (i := 5) (N := some 80) (v := ?_) (a' := ?_) #[true, true, true, true, true, true, false, false, false] rfl rfl (take_ofW HT_.out HW_.out (by kernel_rfl)) (fun _ _ _ h => h) (Or.inl ⟨by rfl, ?_⟩) hHeld ?_ ?_
                            rotate_left
                            · rintro w' ⟨s0, s1, s2, s3, s4, s5, s6, s7⟩
                              go_simp
                              with_reducible rfl
                            rotate_left
                            · simp only [Act.put, List.setIfInBounds_toArray, List.set_cons_zero, List.set_cons_succ, i64_w, i32_w]
                              rfl
                            refine pure_ (i := 6) (N := some 81) (v := ?_) (a' := ?_) #[true, true, true, true, true, true, true, false, false] rfl rfl (any_of HT_.out (by kernel_rfl)) (fun _ _ _ h => h) (Or.inl ⟨by rfl, ?_⟩) ?_ ?_
                            rotate_left
                            · intro w'
                              go_simp
                              with_reducible rfl
                            rotate_left
                            · simp only [Act.put, List.setIfInBounds_toArray, List.set_cons_zero, List.set_cons_succ, i64_w, i32_w]
                              rfl
                            refine one_ (i := 7) (N := some 82) #[true, true, true, true, true, true, true, true, false] rfl rfl (one_of HT_.out (by kernel_rfl)) (by decide) (fun K hK => ?_)
                            refine goes_ Try.func30 (by kernel_rfl) rfl #[.agg #[.bool x350000_1, .int .u32 x350001_1, .int .u8 x350002_1, .int .u8 x350003_1, .int .u8 x350004_1, .int .u16 x350005_1, .int .u16 x350006_1], .int .u32 (Int.tmod (rd l3 (ji69)) 600)] (by rfl) rfl rfl (by (try simp only [List.map_toArray, List.map_cons, List.map_nil]); first | done | (simp only [hji69]; rfl) | rfl | (simp only [List.length_drop, List.length_take]; rfl)) ?_
                            with_reducible refine (capa_SetBounds.calls kj13 x350000_1 x350001_1 x350002_1 x350003_1 x350004_1 x350005_1 x350006_1 (Int.tmod (rd l3 (ji69)) 600) false t364 t365 t366 t367 t368 t369 _ A72.out).mono ?_
                            rintro e w103 ⟨rfl, hb⟩
                            refine ⟨_, rfl, ?_⟩
                            have n0_ := Aside0.mk (blk_below (g := gb348) (o := .cells #[.bool t340, .int .u32 t341, .int .u8 t342, .int .u8 t343, .int .u8 t344, .int .u16 t345, .int .u16 t346] 27 (0, 0)) (by (with_reducible repeat (first | refine blk_drewN ?_ _ | refine blk_drew ?_ | refine blk_alloc ?_ _)); exact BK348.out) hb)
                            have n1_ := Aside0.mk (blk_below (g := gb349) (o := .cells #[.bool x350000_1, .int .u32 x350001_1, .int .u8 x350002_1, .int .u8 x350003_1, .int .u8 x350004_1, .int .u16 x350005_1, .int .u16 x350006_1] 27 (0, 0)) (by (with_reducible repeat (first | refine blk_drewN ?_ _ | refine blk_drew ?_ | refine blk_alloc ?_ _)); exact BK349.out) hb)
                            have n2_ := Aside0.mk (below_step (by repeat (first | (with_reducible first | exact HB.out | apply below_alloc | apply pw_below_drewN | apply below_drew1 | refine below_set ?_ GE348.out | refine below_set ?_ GE349.out) | exact HB.out)) hb)
                            clear BK348
                            clear BK349
                            clear HB
                            have BK348 := n0_
                            have BK349 := n1_
                            have HB := n2_
                            clear n0_ n1_ n2_
                            (try clear hb)
                            (try clear hb2)
                            (try clear hk)
                            (try clear hi)
                            refine hK.out _ _ ⟨(blk_cell BK349.out 0).trans rfl, (blk_cell BK349.out 1).trans rfl, (blk_cell BK349.out 2).trans rfl, (blk_cell BK349.out 3).trans rfl, (blk_cell BK349.out 4).trans rfl, (blk_cell BK349.out 5).trans rfl, (blk_cell BK349.out 6).trans rfl, ((HB.out.cell (World.block_lt_of_cell? w _ hw362_0)).trans hw362_0)⟩ (fun hHeld => ?_)
                            clear hK K
                            refine norm_ (a' := ?_) ?_ ?_
                            rotate_left
                            · show Act.put _ (some 82) _ = _
                              simp only [Act.put, List.setIfInBounds_toArray, List.set_cons_zero, List.set_cons_succ, i64_w, i32_w]
                              rfl
                            refine last_ (i := 8) (N := none) #[true, true, true, true, true, true, true, true, true] rfl rfl (one_of HT_.out (by kernel_rfl)) (by decide) (fun K hK => ?_)
                            have hs104 : w103.cell? ⟨gb349, 0, none⟩ = some (.bool x350000_1) := (blk_cell BK349.out 0).trans rfl
                            have hfs104 := blk_frozen BK349.out 0
                            have hns104_0 := NB348_349.out
                            have hms104_0 := NB349_348.out
                            have hs105 : w103.cell? ⟨gb349, 1, none⟩ = some (.int .u32 x350001_1) := (blk_cell BK349.out 1).trans rfl
                            have hfs105 := blk_frozen BK349.out 1
                            have hns105_0 := NB348_349.out
                            have hms105_0 := NB349_348.out
                            have hs106 : w103.cell? ⟨gb349, 2, none⟩ = some (.int .u8 x350002_1) := (blk_cell BK349.out 2).trans rfl
                            have hfs106 := blk_frozen BK349.out 2
                            have hns106_0 := NB348_349.out
                            have hms106_0 := NB349_348.out
                            have hs107 : w103.cell? ⟨gb349, 3, none⟩ = some (.int .u8 x350003_1) := (blk_cell BK349.out 3).trans rfl
                            have hfs107 := blk_frozen BK349.out 3
                            have hns107_0 := NB348_349.out
                            have hms107_0 := NB349_348.out
                            have hs108 : w103.cell? ⟨gb349, 4, none⟩ = some (.int .u8 x350004_1) := (blk_cell BK349.out 4).trans rfl
                            have hfs108 := blk_frozen BK349.out 4
                            have hns108_0 := NB348_349.out
                            have hms108_0 := NB349_348.out
                            have hs109 : w103.cell? ⟨gb349, 5, none⟩ = some (.int .u16 x350005_1) := (blk_cell BK349.out 5).trans rfl
                            have hfs109 := blk_frozen BK349.out 5
                            have hns109_0 := NB348_349.out
                            have hms109_0 := NB349_348.out
                            have hs110 : w103.cell? ⟨gb349, 6, none⟩ = some (.int .u16 x350006_1) := (blk_cell BK349.out 6).trans rfl
                            have hfs110 := blk_frozen BK349.out 6
                            have hns110_0 := NB348_349.out
                            have hms110_0 := NB349_348.out
                            refine skip_ (w1 := ?_) (by rfl) rfl ?_ ?_
                            rotate_left
                            · go_simp
                              rfl
                            refine hK.out _ _ ?_
                            clear hK K
                            refine done_ (done_of HT_.out (by kernel_rfl)) ?_
                            have hnb111 := NB349_348.out
                            have hnc111 := NB348_349.out
                            have hcz112_0 : w103.cell? ⟨gb349, 0, none⟩ = some (.bool x350000_1) := (blk_cell BK349.out 0).trans rfl
                            have hcz112_1 : w103.cell? ⟨gb349, 1, none⟩ = some (.int .u32 x350001_1) := (blk_cell BK349.out 1).trans rfl
                            have hcz112_2 : w103.cell? ⟨gb349, 2, none⟩ = some (.int .u8 x350002_1) := (blk_cell BK349.out 2).trans rfl
                            have hcz112_3 : w103.cell? ⟨gb349, 3, none⟩ = some (.int .u8 x350003_1) := (blk_cell BK349.out 3).trans rfl
                            have hcz112_4 : w103.cell? ⟨gb349, 4, none⟩ = some (.int .u8 x350004_1) := (blk_cell BK349.out 4).trans rfl
                            have hcz112_5 : w103.cell? ⟨gb349, 5, none⟩ = some (.int .u16 x350005_1) := (blk_cell BK349.out 5).trans rfl
                            have hcz112_6 : w103.cell? ⟨gb349, 6, none⟩ = some (.int .u16 x350006_1) := (blk_cell BK349.out 6).trans rfl
                            have hfz112_0 := blk_frozen BK349.out 0
                            have hfz112_1 := blk_frozen BK349.out 1
                            have hfz112_2 := blk_frozen BK349.out 2
                            have hfz112_3 := blk_frozen BK349.out 3
                            have hfz112_4 := blk_frozen BK349.out 4
                            have hfz112_5 := blk_frozen BK349.out 5
                            have hfz112_6 := blk_frozen BK349.out 6
                            try go_wp2
                            go_roundg kj13
                            case measure => have := HK1.out; have := HJ13.out; omega
                            case rel => exact ⟨(wrap64 (x12_1 + 2)), (false), (t364), (t365), (t366), (t367), (t368), (t369), (by first | rfl | (simp; done) | (simp [*]; done)), H', ⟨by have := HK1.out; have := HJ13.out; omega⟩, ⟨by (with_reducible repeat (first | refine blk_drewN ?_ _ | refine blk_drew ?_ | refine blk_alloc ?_ _)); refine blk_far ?_ NB348_349.out _; (with_reducible repeat (first | refine blk_drewN ?_ _ | refine blk_drew ?_ | refine blk_alloc ?_ _)); refine blk_far ?_ NB348_349.out _; (with_reducible repeat (first | refine blk_drewN ?_ _ | refine blk_drew ?_ | refine blk_alloc ?_ _)); refine blk_far ?_ NB348_349.out _; (with_reducible repeat (first | refine blk_drewN ?_ _ | refine blk_drew ?_ | refine blk_alloc ?_ _)); refine blk_far ?_ NB348_349.out _; (with_reducible repeat (first | refine blk_drewN ?_ _ | refine blk_drew ?_ | refine blk_alloc ?_ _)); refine blk_far ?_ NB348_349.out _; (with_reducible repeat (first | refine blk_drewN ?_ _ | refine blk_drew ?_ | refine blk_alloc ?_ _)); refine blk_far ?_ NB348_349.out _; (with_reducible repeat (first | refine blk_drewN ?_ _ | refine blk_drew ?_ | refine blk_alloc ?_ _)); refine blk_far ?_ NB348_349.out _; (with_reducible repeat (first | refine blk_drewN ?_ _ | refine blk_drew ?_ | refine blk_alloc ?_ _)); exact BK348.out⟩, ⟨by (with_reducible repeat (first | refine blk_drewN ?_ _ | refine blk_drew ?_ | refine blk_alloc ?_ _)); refine blk_put (cs := #[.bool false, .int .u32 t364, .int .u8 t365, .int .u8 t366, .int .u8 t367, .int .u16 t368, .int .u16 x350006_1]) ?_ 6 _ rfl; (with_reducible repeat (first | refine blk_drewN ?_ _ | refine blk_drew ?_ | refine blk_alloc ?_ _)); refine blk_put (cs := #[.bool false, .int .u32 t364, .int .u8 t365, .int .u8 t366, .int .u8 t367, .int .u16 x350005_1, .int .u16 x350006_1]) ?_ 5 _ rfl; (with_reducible repeat (first | refine blk_drewN ?_ _ | refine blk_drew ?_ | refine blk_alloc ?_ _)); refine blk_put (cs := #[.bool false, .int .u32 t364, .int .u8 t365, .int .u8 t366, .int .u8 x350004_1, .int .u16 x350005_1, .int .u16 x350006_1]) ?_ 4 _ rfl; (with_reducible repeat (first | refine blk_drewN ?_ _ | refine blk_drew ?_ | refine blk_alloc ?_ _)); refine blk_put (cs := #[.bool false, .int .u32 t364, .int .u8 t365, .int .u8 x350003_1, .int .u8 x350004_1, .int .u16 x350005_1, .int .u16 x350006_1]) ?_ 3 _ rfl; (with_reducible repeat (first | refine blk_drewN ?_ _ | refine blk_drew ?_ | refine blk_alloc ?_ _)); refine blk_put (cs := #[.bool false, .int .u32 t364, .int .u8 x350002_1, .int .u8 x350003_1, .int .u8 x350004_1, .int .u16 x350005_1, .int .u16 x350006_1]) ?_ 2 _ rfl; (with_reducible repeat (first | refine blk_drewN ?_ _ | refine blk_drew ?_ | refine blk_alloc ?_ _)); refine blk_put (cs := #[.bool false, .int .u32 x350001_1, .int .u8 x350002_1, .int .u8 x350003_1, .int .u8 x350004_1, .int .u16 x350005_1, .int .u16 x350006_1]) ?_ 1 _ rfl; (with_reducible repeat (first | refine blk_drewN ?_ _ | refine blk_drew ?_ | refine blk_alloc ?_ _)); refine blk_put (cs := #[.bool x350000_1, .int .u32 x350001_1, .int .u8 x350002_1, .int .u8 x350003_1, .int .u8 x350004_1, .int .u16 x350005_1, .int .u16 x350006_1]) ?_ 0 _ rfl; (with_reducible repeat (first | refine blk_drewN ?_ _ | refine blk_drew ?_ | refine blk_alloc ?_ _)); exact BK349.out⟩, ⟨by repeat (first | (with_reducible first | exact HB.out | apply below_alloc | apply pw_below_drewN | apply below_drew1 | refine below_set ?_ GE348.out | refine below_set ?_ GE349.out) | exact HB.out)⟩⟩
                        · rw [if_neg c71] at H
                          exact absurd H (by simp)
                      · rw [if_neg c70] at H
                        exact absurd H (by simp)
                    · rw [if_neg c68] at H
                      have c68b0 : ((Int.tmod (rd l3 x12_1) 4) == 1) = false := beq_eq_false_iff_ne.mpr c68
                      have c68b1 : ((Int.tmod (rd l3 x12_1) 4) != 1) = true := bne_iff_ne.mpr c68
                      by_cases c113 : (Int.tmod (rd l3 x12_1) 4) = 2
                      · rw [if_pos c113] at H
                        have c113b0 : ((Int.tmod (rd l3 x12_1) 4) == 2) = true := beq_iff_eq.mpr c113
                        have c113b1 : ((Int.tmod (rd l3 x12_1) 4) != 2) = false := bne_eq_false_iff_eq.mpr c113
                        clear c113
                        obtain ⟨ji114, hji114⟩ : ∃ j_ : Int, (wrap64 (x12_1 + 1)) = j_ := ⟨_, rfl⟩
                        replace H : (if 0 ≤ (ji114) then (if (ji114) < (l3.length : Int) then ((capa_AndPerms.f x350000_1 x350001_1 x350002_1 x350003_1 x350004_1 x350005_1 x350006_1 (rd l3 (ji114))).bind fun bt372 => (if bt372.1 = true then ((capa_Subset.f bt372.1 bt372.2.1 bt372.2.2.1 bt372.2.2.2.1 bt372.2.2.2.2.1 bt372.2.2.2.2.2.1 bt372.2.2.2.2.2.2 t340 t341 t342 t343 t344 t345 t346).bind fun t379 => (if t379 = true then (bulwarklaw03_CapaChain.l0 kj13 l3 (wrap64 (x12_1 + 2)) t340 t341 t342 t343 t344 t345 t346 bt372.1 bt372.2.1 bt372.2.2.1 bt372.2.2.2.1 bt372.2.2.2.2.1 bt372.2.2.2.2.2.1 bt372.2.2.2.2.2.2) else (some false))) else (bulwarklaw03_CapaChain.l0 kj13 l3 (wrap64 (x12_1 + 2)) t340 t341 t342 t343 t344 t345 t346 bt372.1 bt372.2.1 bt372.2.2.1 bt372.2.2.2.1 bt372.2.2.2.2.1 bt372.2.2.2.2.2.1 bt372.2.2.2.2.2.2))) else (none)) else (none)) = some r := by first | (rw [hji114] at H; exact H) | (simp only [hji114] at H ⊢; exact H)
                        have hji114w : (IntKind.i64.wrap (x12_1 + 1)) = ji114 := (i64_w _).trans hji114
                        by_cases c115 : 0 ≤ (ji114)
                        · rw [if_pos c115] at H
                          have c115b0 : decide (0 ≤ (ji114)) = true := decide_eq_true c115
                          clear c115
                          by_cases c116 : (ji114) < (l3.length : Int)
                          · rw [if_pos c116] at H
                            have c116b0 : decide ((ji114) < (l3.length : Int)) = true := decide_eq_true c116
                            clear c116
                            replace H := Option.bind_eq_some_iff.mp H
                            obtain ⟨⟨t372, t373, t374, t375, t376, t377, t378⟩, A1170, H⟩ := H
                            replace H : (if t372 = true then ((capa_Subset.f t372 t373 t374 t375 t376 t377 t378 t340 t341 t342 t343 t344 t345 t346).bind fun t379 => (if t379 = true then (bulwarklaw03_CapaChain.l0 kj13 l3 (wrap64 (x12_1 + 2)) t340 t341 t342 t343 t344 t345 t346 t372 t373 t374 t375 t376 t377 t378) else (some false))) else (bulwarklaw03_CapaChain.l0 kj13 l3 (wrap64 (x12_1 + 2)) t340 t341 t342 t343 t344 t345 t346 t372 t373 t374 t375 t376 t377 t378)) = some r := H
                            have A117 := Aside0.mk A1170
                            clear A1170
                            by_cases c118 : t372 = true
                            · subst c118
                              have H1 : ((capa_Subset.f true t373 t374 t375 t376 t377 t378 t340 t341 t342 t343 t344 t345 t346).bind fun t379 => (if t379 = true then (bulwarklaw03_CapaChain.l0 kj13 l3 (wrap64 (x12_1 + 2)) t340 t341 t342 t343 t344 t345 t346 true t373 t374 t375 t376 t377 t378) else (some false))) = some r := by rw [if_pos rfl] at H; exact H
                              clear H
                              have H := H1
                              clear H1
                              replace H := Option.bind_eq_some_iff.mp H
                              obtain ⟨t379, A1190, H⟩ := H
                              replace H : (if t379 = true then (bulwarklaw03_CapaChain.l0 kj13 l3 (wrap64 (x12_1 + 2)) t340 t341 t342 t343 t344 t345 t346 true t373 t374 t375 t376 t377 t378) else (some false)) = some r := H
                              have A119 := Aside0.mk A1190
                              clear A1190
                              by_cases c120 : t379 = true
                              · subst c120
                                have H1 : (bulwarklaw03_CapaChain.l0 kj13 l3 (wrap64 (x12_1 + 2)) t340 t341 t342 t343 t344 t345 t346 true t373 t374 t375 t376 t377 t378) = some r := by rw [if_pos rfl] at H; exact H
                                clear H
                                have H := H1
                                clear H1
                                have H' := Aside0.mk H
                                clear H
                                have p351 : 0 ≤ (x12_1 : Int) := of_decide_eq_true (by first | (with_reducible assumption) | assumption)
                                have q351 : x12_1 < (l3.length : Int) := of_decide_eq_true (by first | (with_reducible assumption) | assumption)
                                obtain ⟨ad351, e351, hx351_0⟩ := Kd.at_int HR3.out x12_1 p351 q351
                                cases e351
                                replace hx351_0 := (HB.out.cell (World.block_lt_of_cell? w _ hx351_0)).trans hx351_0
                                replace p351 := eq_true p351
                                replace q351 := eq_true q351
                                try go_wp2
                                have n0_ := Aside0.mk (blk_drew BK348.out)
                                have n1_ := Aside0.mk (blk_drew BK349.out)
                                have n2_ := Aside0.mk (below_drew1 HB.out)
                                clear BK348
                                clear BK349
                                clear HB
                                have BK348 := n0_
                                have BK349 := n1_
                                have HB := n2_
                                clear n0_ n1_ n2_
                                have p371 : 0 ≤ ((ji114) : Int) := of_decide_eq_true (by first | (with_reducible assumption) | assumption)
                                have q371 : (ji114) < (l3.length : Int) := of_decide_eq_true (by first | (with_reducible assumption) | assumption)
                                obtain ⟨ad371, e371, hx371_0⟩ := Kd.at_int HR3.out (ji114) p371 q371
                                have hw371_0 := hx371_0
                                obtain rfl : ad351 = ad371 := (by injection e371)
                                replace hx371_0 := (HB.out.cell (World.block_lt_of_cell? w _ hx371_0)).trans hx371_0
                                replace p371 := eq_true p371
                                replace q371 := eq_true q371
                                refine start_ (n := 8) (S := fun w' => w'.cell? ⟨gb349, 0, none⟩ = some (.bool x350000_1) ∧ w'.cell? ⟨gb349, 1, none⟩ = some (.int .u32 x350001_1) ∧ w'.cell? ⟨gb349, 2, none⟩ = some (.int .u8 x350002_1) ∧ w'.cell? ⟨gb349, 3, none⟩ = some (.int .u8 x350003_1) ∧ w'.cell? ⟨gb349, 4, none⟩ = some (.int .u8 x350004_1) ∧ w'.cell? ⟨gb349, 5, none⟩ = some (.int .u16 x350005_1) ∧ w'.cell? ⟨gb349, 6, none⟩ = some (.int .u16 x350006_1) ∧ w'.cell? (ad351.add ((ji114)).toNat) = some (.int .u32 (rd l3 (ji114)))) (ds := [7]) #[false, false, false, false, false, false, false, false] (by kernel_rfl) rfl rfl ⟨(blk_cell BK349.out 0).trans rfl, (blk_cell BK349.out 1).trans rfl, (blk_cell BK349.out 2).trans rfl, (blk_cell BK349.out 3).trans rfl, (blk_cell BK349.out 4).trans rfl, (blk_cell BK349.out 5).trans rfl, (blk_cell BK349.out 6).trans rfl, ((HB.out.cell (World.block_lt_of_cell? w _ hw371_0)).trans hw371_0)⟩ (fun hHeld => ?_); refine with_tabW bulwarklaw03_CapaChain.tab15 bulwarklaw03_CapaChain.bits15 (fun HT_ HW_ => ?_)
                                generalize wc.drew = w121 at BK348 BK349 HB hx371_0 hHeld ⊢
                                refine pure_ (i := 1) (N := some 86) (v := ?_) (a' := ?_) #[false, true, false, false, false, false, false, false] rfl rfl (any_of HT_.out (by kernel_rfl)) (fun _ _ _ h => h) (Or.inl ⟨by rfl, ?_⟩) ?_ ?_
                                rotate_left
                                · intro w'
                                  go_simp
                                  with_reducible rfl
                                rotate_left
                                · simp only [Act.put, List.setIfInBounds_toArray, List.set_cons_zero, List.set_cons_succ, i64_w, i32_w]
                                  rfl
                                refine pure_ (i := 2) (N := some 87) (v := ?_) (a' := ?_) #[false, true, true, false, false, false, false, false] rfl rfl (any_of HT_.out (by kernel_rfl)) (fun _ _ _ h => h) (Or.inl ⟨by rfl, ?_⟩) ?_ ?_
                                rotate_left
                                · intro w'
                                  go_simp
                                  with_reducible rfl
                                rotate_left
                                · simp only [Act.put, List.setIfInBounds_toArray, List.set_cons_zero, List.set_cons_succ, i64_w, i32_w]
                                  rfl
                                refine pure_ (i := 3) (N := some 88) (v := ?_) (a' := ?_) #[false, true, true, true, false, false, false, false] rfl rfl (any_of HT_.out (by kernel_rfl)) (fun _ _ _ h => h) (Or.inl ⟨by rfl, ?_⟩) ?_ ?_
                                rotate_left
                                · intro w'
                                  go_simp
                                  with_reducible rfl
                                rotate_left
                                · simp only [Act.put, List.setIfInBounds_toArray, List.set_cons_zero, List.set_cons_succ, i64_w, i32_w]
                                  rfl
                                refine pure_ (i := 4) (N := some 89) (v := ?_) (a' := ?_) #[false, true, true, true, true, false, false, false] rfl rfl (any_of HT_.out (by kernel_rfl)) (fun _ _ _ h => h) (Or.inl ⟨by rfl, ?_⟩) ?_ ?_
                                rotate_left
                                · intro w'
                                  go_simp
                                  with_reducible rfl
                                rotate_left
                                · simp only [Act.put, List.setIfInBounds_toArray, List.set_cons_zero, List.set_cons_succ, i64_w, i32_w]
                                  rfl
                                refine take_ (i := 0) (N := some 85) (v := ?_) (a' := ?_) #[true, true, true, true, true, false, false, false] rfl rfl (take_ofW HT_.out HW_.out (by kernel_rfl)) (fun _ _ _ h => h) (Or.inl ⟨by rfl, ?_⟩) hHeld ?_ ?_
                                rotate_left
                                · rintro w' ⟨s0, s1, s2, s3, s4, s5, s6, s7⟩
                                  go_simp
                                  with_reducible rfl
                                rotate_left
                                · simp only [Act.put, List.setIfInBounds_toArray, List.set_cons_zero, List.set_cons_succ, i64_w, i32_w]
                                  rfl
                                refine take_ (i := 5) (N := some 90) (v := ?_) (a' := ?_) #[true, true, true, true, true, true, false, false] rfl rfl (take_ofW HT_.out HW_.out (by kernel_rfl)) (fun _ _ _ h => h) (Or.inl ⟨by rfl, ?_⟩) hHeld ?_ ?_
                                rotate_left
                                · rintro w' ⟨s0, s1, s2, s3, s4, s5, s6, s7⟩
                                  go_simp
                                  with_reducible rfl
                                rotate_left
                                · simp only [Act.put, List.setIfInBounds_toArray, List.set_cons_zero, List.set_cons_succ, i64_w, i32_w]
                                  rfl
                                refine one_ (i := 6) (N := some 91) #[true, true, true, true, true, true, true, false] rfl rfl (one_of HT_.out (by kernel_rfl)) (by decide) (fun K hK => ?_)
                                refine goes_ Try.func31 (by kernel_rfl) rfl #[.agg #[.bool x350000_1, .int .u32 x350001_1, .int .u8 x350002_1, .int .u8 x350003_1, .int .u8 x350004_1, .int .u16 x350005_1, .int .u16 x350006_1], .int .u32 (rd l3 (ji114))] (by rfl) rfl rfl (by (try simp only [List.map_toArray, List.map_cons, List.map_nil]); first | done | (simp only [hji114]; rfl) | rfl | (simp only [List.length_drop, List.length_take]; rfl)) ?_
                                with_reducible refine (capa_AndPerms.calls x350000_1 x350001_1 x350002_1 x350003_1 x350004_1 x350005_1 x350006_1 (rd l3 (ji114)) true t373 t374 t375 t376 t377 t378 _ A117.out).mono ?_
                                rintro e w122 ⟨rfl, hb⟩
                                refine ⟨_, rfl, ?_⟩
                                have n0_ := Aside0.mk (blk_below (g := gb348) (o := .cells #[.bool t340, .int .u32 t341, .int .u8 t342, .int .u8 t343, .int .u8 t344, .int .u16 t345, .int .u16 t346] 27 (0, 0)) (by (with_reducible repeat (first | refine blk_drewN ?_ _ | refine blk_drew ?_ | refine blk_alloc ?_ _)); exact BK348.out) hb)
                                have n1_ := Aside0.mk (blk_below (g := gb349) (o := .cells #[.bool x350000_1, .int .u32 x350001_1, .int .u8 x350002_1, .int .u8 x350003_1, .int .u8 x350004_1, .int .u16 x350005_1, .int .u16 x350006_1] 27 (0, 0)) (by (with_reducible repeat (first | refine blk_drewN ?_ _ | refine blk_drew ?_ | refine blk_alloc ?_ _)); exact BK349.out) hb)
                                have n2_ := Aside0.mk (below_step (by repeat (first | (with_reducible first | exact HB.out | apply below_alloc | apply pw_below_drewN | apply below_drew1 | refine below_set ?_ GE348.out | refine below_set ?_ GE349.out) | exact HB.out)) hb)
                                clear BK348
                                clear BK349
                                clear HB
                                have BK348 := n0_
                                have BK349 := n1_
                                have HB := n2_
                                clear n0_ n1_ n2_
                                (try clear hb)
                                (try clear hb2)
                                (try clear hk)
                                (try clear hi)
                                refine hK.out _ _ ⟨(blk_cell BK349.out 0).trans rfl, (blk_cell BK349.out 1).trans rfl, (blk_cell BK349.out 2).trans rfl, (blk_cell BK349.out 3).trans rfl, (blk_cell BK349.out 4).trans rfl, (blk_cell BK349.out 5).trans rfl, (blk_cell BK349.out 6).trans rfl, ((HB.out.cell (World.block_lt_of_cell? w _ hw371_0)).trans hw371_0)⟩ (fun hHeld => ?_)
                                clear hK K
                                refine norm_ (a' := ?_) ?_ ?_
                                rotate_left
                                · show Act.put _ (some 91) _ = _
                                  simp only [Act.put, List.setIfInBounds_toArray, List.set_cons_zero, List.set_cons_succ, i64_w, i32_w]
                                  rfl
                                refine last_ (i := 7) (N := none) #[true, true, true, true, true, true, true, true] rfl rfl (one_of HT_.out (by kernel_rfl)) (by decide) (fun K hK => ?_)
                                have hs123 : w122.cell? ⟨gb349, 0, none⟩ = some (.bool x350000_1) := (blk_cell BK349.out 0).trans rfl
                                have hfs123 := blk_frozen BK349.out 0
                                have hns123_0 := NB348_349.out
                                have hms123_0 := NB349_348.out
                                have hs124 : w122.cell? ⟨gb349, 1, none⟩ = some (.int .u32 x350001_1) := (blk_cell BK349.out 1).trans rfl
                                have hfs124 := blk_frozen BK349.out 1
                                have hns124_0 := NB348_349.out
                                have hms124_0 := NB349_348.out
                                have hs125 : w122.cell? ⟨gb349, 2, none⟩ = some (.int .u8 x350002_1) := (blk_cell BK349.out 2).trans rfl
                                have hfs125 := blk_frozen BK349.out 2
                                have hns125_0 := NB348_349.out
                                have hms125_0 := NB349_348.out
                                have hs126 : w122.cell? ⟨gb349, 3, none⟩ = some (.int .u8 x350003_1) := (blk_cell BK349.out 3).trans rfl
                                have hfs126 := blk_frozen BK349.out 3
                                have hns126_0 := NB348_349.out
                                have hms126_0 := NB349_348.out
                                have hs127 : w122.cell? ⟨gb349, 4, none⟩ = some (.int .u8 x350004_1) := (blk_cell BK349.out 4).trans rfl
                                have hfs127 := blk_frozen BK349.out 4
                                have hns127_0 := NB348_349.out
                                have hms127_0 := NB349_348.out
                                have hs128 : w122.cell? ⟨gb349, 5, none⟩ = some (.int .u16 x350005_1) := (blk_cell BK349.out 5).trans rfl
                                have hfs128 := blk_frozen BK349.out 5
                                have hns128_0 := NB348_349.out
                                have hms128_0 := NB349_348.out
                                have hs129 : w122.cell? ⟨gb349, 6, none⟩ = some (.int .u16 x350006_1) := (blk_cell BK349.out 6).trans rfl
                                have hfs129 := blk_frozen BK349.out 6
                                have hns129_0 := NB348_349.out
                                have hms129_0 := NB349_348.out
                                refine skip_ (w1 := ?_) (by rfl) rfl ?_ ?_
                                rotate_left
                                · go_simp
                                  rfl
                                refine hK.out _ _ ?_
                                clear hK K
                                refine done_ (done_of HT_.out (by kernel_rfl)) ?_
                                have hnb130 := NB349_348.out
                                have hnc130 := NB348_349.out
                                have hcz131_0 : w122.cell? ⟨gb349, 0, none⟩ = some (.bool x350000_1) := (blk_cell BK349.out 0).trans rfl
                                have hcz131_1 : w122.cell? ⟨gb349, 1, none⟩ = some (.int .u32 x350001_1) := (blk_cell BK349.out 1).trans rfl
                                have hcz131_2 : w122.cell? ⟨gb349, 2, none⟩ = some (.int .u8 x350002_1) := (blk_cell BK349.out 2).trans rfl
                                have hcz131_3 : w122.cell? ⟨gb349, 3, none⟩ = some (.int .u8 x350003_1) := (blk_cell BK349.out 3).trans rfl
                                have hcz131_4 : w122.cell? ⟨gb349, 4, none⟩ = some (.int .u8 x350004_1) := (blk_cell BK349.out 4).trans rfl
                                have hcz131_5 : w122.cell? ⟨gb349, 5, none⟩ = some (.int .u16 x350005_1) := (blk_cell BK349.out 5).trans rfl
                                have hcz131_6 : w122.cell? ⟨gb349, 6, none⟩ = some (.int .u16 x350006_1) := (blk_cell BK349.out 6).trans rfl
                                have hfz131_0 := blk_frozen BK349.out 0
                                have hfz131_1 := blk_frozen BK349.out 1
                                have hfz131_2 := blk_frozen BK349.out 2
                                have hfz131_3 := blk_frozen BK349.out 3
                                have hfz131_4 := blk_frozen BK349.out 4
                                have hfz131_5 := blk_frozen BK349.out 5
                                have hfz131_6 := blk_frozen BK349.out 6
                                have hcz132_0 : w122.cell? ⟨gb348, 0, none⟩ = some (.bool t340) := (blk_cell BK348.out 0).trans rfl
                                have hcz132_1 : w122.cell? ⟨gb348, 1, none⟩ = some (.int .u32 t341) := (blk_cell BK348.out 1).trans rfl
                                have hcz132_2 : w122.cell? ⟨gb348, 2, none⟩ = some (.int .u8 t342) := (blk_cell BK348.out 2).trans rfl
                                have hcz132_3 : w122.cell? ⟨gb348, 3, none⟩ = some (.int .u8 t343) := (blk_cell BK348.out 3).trans rfl
                                have hcz132_4 : w122.cell? ⟨gb348, 4, none⟩ = some (.int .u8 t344) := (blk_cell BK348.out 4).trans rfl
                                have hcz132_5 : w122.cell? ⟨gb348, 5, none⟩ = some (.int .u16 t345) := (blk_cell BK348.out 5).trans rfl
                                have hcz132_6 : w122.cell? ⟨gb348, 6, none⟩ = some (.int .u16 t346) := (blk_cell BK348.out 6).trans rfl
                                have hfz132_0 := blk_frozen BK348.out 0
                                have hfz132_1 := blk_frozen BK348.out 1
                                have hfz132_2 := blk_frozen BK348.out 2
                                have hfz132_3 := blk_frozen BK348.out 3
                                have hfz132_4 := blk_frozen BK348.out 4
                                have hfz132_5 := blk_frozen BK348.out 5
                                have hfz132_6 := blk_frozen BK348.out 6
                                try go_wp2_with (first | (go_at_call 13; (with_reducible refine (capa_Subset.calls true t373 t374 t375 t376 t377 t378 t340 t341 t342 t343 t344 t345 t346 true _ A119.out).mono ?_); rintro e w133 ⟨rfl, hb⟩; have n0_ := Aside0.mk (blk_below (g := gb348) (o := .cells #[.bool t340, .int .u32 t341, .int .u8 t342, .int .u8 t343, .int .u8 t344, .int .u16 t345, .int .u16 t346] 27 (0, 0)) (by (with_reducible repeat (first | refine blk_drewN ?_ _ | refine blk_drew ?_ | refine blk_alloc ?_ _)); refine blk_far ?_ NB348_349.out _; (with_reducible repeat (first | refine blk_drewN ?_ _ | refine blk_drew ?_ | refine blk_alloc ?_ _)); refine blk_far ?_ NB348_349.out _; (with_reducible repeat (first | refine blk_drewN ?_ _ | refine blk_drew ?_ | refine blk_alloc ?_ _)); refine blk_far ?_ NB348_349.out _; (with_reducible repeat (first | refine blk_drewN ?_ _ | refine blk_drew ?_ | refine blk_alloc ?_ _)); refine blk_far ?_ NB348_349.out _; (with_reducible repeat (first | refine blk_drewN ?_ _ | refine blk_drew ?_ | refine blk_alloc ?_ _)); refine blk_far ?_ NB348_349.out _; (with_reducible repeat (first | refine blk_drewN ?_ _ | refine blk_drew ?_ | refine blk_alloc ?_ _)); refine blk_far ?_ NB348_349.out _; (with_reducible repeat (first | refine blk_drewN ?_ _ | refine blk_drew ?_ | refine blk_alloc ?_ _)); refine blk_far ?_ NB348_349.out _; (with_reducible repeat (first | refine blk_drewN ?_ _ | refine blk_drew ?_ | refine blk_alloc ?_ _)); exact BK348.out) hb); have n1_ := Aside0.mk (blk_below (g := gb349) (o := .cells #[.bool true, .int .u32 t373, .int .u8 t374, .int .u8 t375, .int .u8 t376, .int .u16 t377, .int .u16 t378] 27 (0, 0)) (by (with_reducible repeat (first | refine blk_drewN ?_ _ | refine blk_drew ?_ | refine blk_alloc ?_ _)); refine blk_put (cs := #[.bool true, .int .u32 t373, .int .u8 t374, .int .u8 t375, .int .u8 t376, .int .u16 t377, .int .u16 x350006_1]) ?_ 6 _ rfl; (with_reducible repeat (first | refine blk_drewN ?_ _ | refine blk_drew ?_ | refine blk_alloc ?_ _)); refine blk_put (cs := #[.bool true, .int .u32 t373, .int .u8 t374, .int .u8 t375, .int .u8 t376, .int .u16 x350005_1, .int .u16 x350006_1]) ?_ 5 _ rfl; (with_reducible repeat (first | refine blk_drewN ?_ _ | refine blk_drew ?_ | refine blk_alloc ?_ _)); refine blk_put (cs := #[.bool true, .int .u32 t373, .int .u8 t374, .int .u8 t375, .int .u8 x350004_1, .int .u16 x350005_1, .int .u16 x350006_1]) ?_ 4 _ rfl; (with_reducible repeat (first | refine blk_drewN ?_ _ | refine blk_drew ?_ | refine blk_alloc ?_ _)); refine blk_put (cs := #[.bool true, .int .u32 t373, .int .u8 t374, .int .u8 x350003_1, .int .u8 x350004_1, .int .u16 x350005_1, .int .u16 x350006_1]) ?_ 3 _ rfl; (with_reducible repeat (first | refine blk_drewN ?_ _ | refine blk_drew ?_ | refine blk_alloc ?_ _)); refine blk_put (cs := #[.bool true, .int .u32 t373, .int .u8 x350002_1, .int .u8 x350003_1, .int .u8 x350004_1, .int .u16 x350005_1, .int .u16 x350006_1]) ?_ 2 _ rfl; (with_reducible repeat (first | refine blk_drewN ?_ _ | refine blk_drew ?_ | refine blk_alloc ?_ _)); refine blk_put (cs := #[.bool true, .int .u32 x350001_1, .int .u8 x350002_1, .int .u8 x350003_1, .int .u8 x350004_1, .int .u16 x350005_1, .int .u16 x350006_1]) ?_ 1 _ rfl; (with_reducible repeat (first | refine blk_drewN ?_ _ | refine blk_drew ?_ | refine blk_alloc ?_ _)); refine blk_put (cs := #[.bool x350000_1, .int .u32 x350001_1, .int .u8 x350002_1, .int .u8 x350003_1, .int .u8 x350004_1, .int .u16 x350005_1, .int .u16 x350006_1]) ?_ 0 _ rfl; (with_reducible repeat (first | refine blk_drewN ?_ _ | refine blk_drew ?_ | refine blk_alloc ?_ _)); exact BK349.out) hb); have n2_ := Aside0.mk (below_step (by repeat (first | (with_reducible first | exact HB.out | apply below_alloc | apply pw_below_drewN | apply below_drew1 | refine below_set ?_ GE348.out | refine below_set ?_ GE349.out) | exact HB.out)) hb); clear BK348; clear BK349; clear HB; have BK348 := n0_; have BK349 := n1_; have HB := n2_; clear n0_ n1_ n2_; (try clear hb); (try clear hb2); (try clear hk); (try clear hi)))
                                go_roundg kj13
                                case measure => have := HK1.out; have := HJ13.out; omega
                                case rel => exact ⟨(wrap64 (x12_1 + 2)), (true), (t373), (t374), (t375), (t376), (t377), (t378), (by first | rfl | (simp; done) | (simp [*]; done)), H', ⟨by have := HK1.out; have := HJ13.out; omega⟩, ⟨by (with_reducible repeat (first | refine blk_drewN ?_ _ | refine blk_drew ?_ | refine blk_alloc ?_ _)); exact BK348.out⟩, ⟨by (with_reducible repeat (first | refine blk_drewN ?_ _ | refine blk_drew ?_ | refine blk_alloc ?_ _)); exact BK349.out⟩, ⟨by repeat (first | (with_reducible first | exact HB.out | apply below_alloc | apply pw_below_drewN | apply below_drew1 | refine below_set ?_ GE348.out | refine below_set ?_ GE349.out) | exact HB.out)⟩⟩
                              · replace c120 := Bool.eq_false_iff.mpr c120
                                subst c120
                                have H1 : (some false) = some r := by rw [if_neg (show ¬ (false = true) by decide)] at H; exact H
                                exact absurd ((Option.some.inj H1).trans hr'.out) (by decide)
                            · replace c118 := Bool.eq_false_iff.mpr c118
                              subst c118
                              have H1 : (bulwarklaw03_CapaChain.l0 kj13 l3 (wrap64 (x12_1 + 2)) t340 t341 t342 t343 t344 t345 t346 false t373 t374 t375 t376 t377 t378) = some r := by rw [if_neg (show ¬ (false = true) by decide)] at H; exact H
                              clear H
                              have H := H1
                              clear H1
                              have H' := Aside0.mk H
                              clear H
                              have p351 : 0 ≤ (x12_1 : Int) := of_decide_eq_true (by first | (with_reducible assumption) | assumption)
                              have q351 : x12_1 < (l3.length : Int) := of_decide_eq_true (by first | (with_reducible assumption) | assumption)
                              obtain ⟨ad351, e351, hx351_0⟩ := Kd.at_int HR3.out x12_1 p351 q351
                              cases e351
                              replace hx351_0 := (HB.out.cell (World.block_lt_of_cell? w _ hx351_0)).trans hx351_0
                              replace p351 := eq_true p351
                              replace q351 := eq_true q351
                              try go_wp2
                              have n0_ := Aside0.mk (blk_drew BK348.out)
                              have n1_ := Aside0.mk (blk_drew BK349.out)
                              have n2_ := Aside0.mk (below_drew1 HB.out)
                              clear BK348
                              clear BK349
                              clear HB
                              have BK348 := n0_
                              have BK349 := n1_
                              have HB := n2_
                              clear n0_ n1_ n2_
                              have p371 : 0 ≤ ((ji114) : Int) := of_decide_eq_true (by first | (with_reducible assumption) | assumption)
                              have q371 : (ji114) < (l3.length : Int) := of_decide_eq_true (by first | (with_reducible assumption) | assumption)
                              obtain ⟨ad371, e371, hx371_0⟩ := Kd.at_int HR3.out (ji114) p371 q371
                              have hw371_0 := hx371_0
                              obtain rfl : ad351 = ad371 := (by injection e371)
                              replace hx371_0 := (HB.out.cell (World.block_lt_of_cell? w _ hx371_0)).trans hx371_0
                              replace p371 := eq_true p371
                              replace q371 := eq_true q371
                              refine start_ (n := 8) (S := fun w' => w'.cell? ⟨gb349, 0, none⟩ = some (.bool x350000_1) ∧ w'.cell? ⟨gb349, 1, none⟩ = some (.int .u32 x350001_1) ∧ w'.cell? ⟨gb349, 2, none⟩ = some (.int .u8 x350002_1) ∧ w'.cell? ⟨gb349, 3, none⟩ = some (.int .u8 x350003_1) ∧ w'.cell? ⟨gb349, 4, none⟩ = some (.int .u8 x350004_1) ∧ w'.cell? ⟨gb349, 5, none⟩ = some (.int .u16 x350005_1) ∧ w'.cell? ⟨gb349, 6, none⟩ = some (.int .u16 x350006_1) ∧ w'.cell? (ad351.add ((ji114)).toNat) = some (.int .u32 (rd l3 (ji114)))) (ds := [7]) #[false, false, false, false, false, false, false, false] (by kernel_rfl) rfl rfl ⟨(blk_cell BK349.out 0).trans rfl, (blk_cell BK349.out 1).trans rfl, (blk_cell BK349.out 2).trans rfl, (blk_cell BK349.out 3).trans rfl, (blk_cell BK349.out 4).trans rfl, (blk_cell BK349.out 5).trans rfl, (blk_cell BK349.out 6).trans rfl, ((HB.out.cell (World.block_lt_of_cell? w _ hw371_0)).trans hw371_0)⟩ (fun hHeld => ?_); refine with_tabW bulwarklaw03_CapaChain.tab15 bulwarklaw03_CapaChain.bits15 (fun HT_ HW_ => ?_)
                              generalize wc.drew = w147 at BK348 BK349 HB hx371_0 hHeld ⊢
                              refine pure_ (i := 1) (N := some 86) (v := ?_) (a' := ?_) #[false, true, false, false, false, false, false, false] rfl rfl (any_of HT_.out (by kernel_rfl)) (fun _ _ _ h => h) (Or.inl ⟨by rfl, ?_⟩) ?_ ?_
                              rotate_left
                              · intro w'
                                go_simp
                                with_reducible rfl
                              rotate_left
                              · simp only [Act.put, List.setIfInBounds_toArray, List.set_cons_zero, List.set_cons_succ, i64_w, i32_w]
                                rfl
                              refine pure_ (i := 2) (N := some 87) (v := ?_) (a' := ?_) #[false, true, true, false, false, false, false, false] rfl rfl (any_of HT_.out (by kernel_rfl)) (fun _ _ _ h => h) (Or.inl ⟨by rfl, ?_⟩) ?_ ?_
                              rotate_left
                              · intro w'
                                go_simp
                                with_reducible rfl
                              rotate_left
                              · simp only [Act.put, List.setIfInBounds_toArray, List.set_cons_zero, List.set_cons_succ, i64_w, i32_w]
                                rfl
                              refine pure_ (i := 3) (N := some 88) (v := ?_) (a' := ?_) #[false, true, true, true, false, false, false, false] rfl rfl (any_of HT_.out (by kernel_rfl)) (fun _ _ _ h => h) (Or.inl ⟨by rfl, ?_⟩) ?_ ?_
                              rotate_left
                              · intro w'
                                go_simp
                                with_reducible rfl
                              rotate_left
                              · simp only [Act.put, List.setIfInBounds_toArray, List.set_cons_zero, List.set_cons_succ, i64_w, i32_w]
                                rfl
                              refine pure_ (i := 4) (N := some 89) (v := ?_) (a' := ?_) #[false, true, true, true, true, false, false, false] rfl rfl (any_of HT_.out (by kernel_rfl)) (fun _ _ _ h => h) (Or.inl ⟨by rfl, ?_⟩) ?_ ?_
                              rotate_left
                              · intro w'
                                go_simp
                                with_reducible rfl
                              rotate_left
                              · simp only [Act.put, List.setIfInBounds_toArray, List.set_cons_zero, List.set_cons_succ, i64_w, i32_w]
                                rfl
                              refine take_ (i := 0) (N := some 85) (v := ?_) (a' := ?_) #[true, true, true, true, true, false, false, false] rfl rfl (take_ofW HT_.out HW_.out (by kernel_rfl)) (fun _ _ _ h => h) (Or.inl ⟨by rfl, ?_⟩) hHeld ?_ ?_
                              rotate_left
                              · rintro w' ⟨s0, s1, s2, s3, s4, s5, s6, s7⟩
                                go_simp
                                with_reducible rfl
                              rotate_left
                              · simp only [Act.put, List.setIfInBounds_toArray, List.set_cons_zero, List.set_cons_succ, i64_w, i32_w]
                                rfl
                              refine take_ (i := 5) (N := some 90) (v := ?_) (a' := ?_) #[true, true, true, true, true, true, false, false] rfl rfl (take_ofW HT_.out HW_.out (by kernel_rfl)) (fun _ _ _ h => h) (Or.inl ⟨by rfl, ?_⟩) hHeld ?_ ?_
                              rotate_left
                              · rintro w' ⟨s0, s1, s2, s3, s4, s5, s6, s7⟩
                                go_simp
                                with_reducible rfl
                              rotate_left
                              · simp only [Act.put, List.setIfInBounds_toArray, List.set_cons_zero, List.set_cons_succ, i64_w, i32_w]
                                rfl
                              refine one_ (i := 6) (N := some 91) #[true, true, true, true, true, true, true, false] rfl rfl (one_of HT_.out (by kernel_rfl)) (by decide) (fun K hK => ?_)
                              refine goes_ Try.func31 (by kernel_rfl) rfl #[.agg #[.bool x350000_1, .int .u32 x350001_1, .int .u8 x350002_1, .int .u8 x350003_1, .int .u8 x350004_1, .int .u16 x350005_1, .int .u16 x350006_1], .int .u32 (rd l3 (ji114))] (by rfl) rfl rfl (by (try simp only [List.map_toArray, List.map_cons, List.map_nil]); first | done | (simp only [hji114]; rfl) | rfl | (simp only [List.length_drop, List.length_take]; rfl)) ?_
                              with_reducible refine (capa_AndPerms.calls x350000_1 x350001_1 x350002_1 x350003_1 x350004_1 x350005_1 x350006_1 (rd l3 (ji114)) false t373 t374 t375 t376 t377 t378 _ A117.out).mono ?_
                              rintro e w148 ⟨rfl, hb⟩
                              refine ⟨_, rfl, ?_⟩
                              have n0_ := Aside0.mk (blk_below (g := gb348) (o := .cells #[.bool t340, .int .u32 t341, .int .u8 t342, .int .u8 t343, .int .u8 t344, .int .u16 t345, .int .u16 t346] 27 (0, 0)) (by (with_reducible repeat (first | refine blk_drewN ?_ _ | refine blk_drew ?_ | refine blk_alloc ?_ _)); exact BK348.out) hb)
                              have n1_ := Aside0.mk (blk_below (g := gb349) (o := .cells #[.bool x350000_1, .int .u32 x350001_1, .int .u8 x350002_1, .int .u8 x350003_1, .int .u8 x350004_1, .int .u16 x350005_1, .int .u16 x350006_1] 27 (0, 0)) (by (with_reducible repeat (first | refine blk_drewN ?_ _ | refine blk_drew ?_ | refine blk_alloc ?_ _)); exact BK349.out) hb)
                              have n2_ := Aside0.mk (below_step (by repeat (first | (with_reducible first | exact HB.out | apply below_alloc | apply pw_below_drewN | apply below_drew1 | refine below_set ?_ GE348.out | refine below_set ?_ GE349.out) | exact HB.out)) hb)
                              clear BK348
                              clear BK349
                              clear HB
                              have BK348 := n0_
                              have BK349 := n1_
                              have HB := n2_
                              clear n0_ n1_ n2_
                              (try clear hb)
                              (try clear hb2)
                              (try clear hk)
                              (try clear hi)
                              refine hK.out _ _ ⟨(blk_cell BK349.out 0).trans rfl, (blk_cell BK349.out 1).trans rfl, (blk_cell BK349.out 2).trans rfl, (blk_cell BK349.out 3).trans rfl, (blk_cell BK349.out 4).trans rfl, (blk_cell BK349.out 5).trans rfl, (blk_cell BK349.out 6).trans rfl, ((HB.out.cell (World.block_lt_of_cell? w _ hw371_0)).trans hw371_0)⟩ (fun hHeld => ?_)
                              clear hK K
                              refine norm_ (a' := ?_) ?_ ?_
                              rotate_left
                              · show Act.put _ (some 91) _ = _
                                simp only [Act.put, List.setIfInBounds_toArray, List.set_cons_zero, List.set_cons_succ, i64_w, i32_w]
                                rfl
                              refine last_ (i := 7) (N := none) #[true, true, true, true, true, true, true, true] rfl rfl (one_of HT_.out (by kernel_rfl)) (by decide) (fun K hK => ?_)
                              have hs149 : w148.cell? ⟨gb349, 0, none⟩ = some (.bool x350000_1) := (blk_cell BK349.out 0).trans rfl
                              have hfs149 := blk_frozen BK349.out 0
                              have hns149_0 := NB348_349.out
                              have hms149_0 := NB349_348.out
                              have hs150 : w148.cell? ⟨gb349, 1, none⟩ = some (.int .u32 x350001_1) := (blk_cell BK349.out 1).trans rfl
                              have hfs150 := blk_frozen BK349.out 1
                              have hns150_0 := NB348_349.out
                              have hms150_0 := NB349_348.out
                              have hs151 : w148.cell? ⟨gb349, 2, none⟩ = some (.int .u8 x350002_1) := (blk_cell BK349.out 2).trans rfl
                              have hfs151 := blk_frozen BK349.out 2
                              have hns151_0 := NB348_349.out
                              have hms151_0 := NB349_348.out
                              have hs152 : w148.cell? ⟨gb349, 3, none⟩ = some (.int .u8 x350003_1) := (blk_cell BK349.out 3).trans rfl
                              have hfs152 := blk_frozen BK349.out 3
                              have hns152_0 := NB348_349.out
                              have hms152_0 := NB349_348.out
                              have hs153 : w148.cell? ⟨gb349, 4, none⟩ = some (.int .u8 x350004_1) := (blk_cell BK349.out 4).trans rfl
                              have hfs153 := blk_frozen BK349.out 4
                              have hns153_0 := NB348_349.out
                              have hms153_0 := NB349_348.out
                              have hs154 : w148.cell? ⟨gb349, 5, none⟩ = some (.int .u16 x350005_1) := (blk_cell BK349.out 5).trans rfl
                              have hfs154 := blk_frozen BK349.out 5
                              have hns154_0 := NB348_349.out
                              have hms154_0 := NB349_348.out
                              have hs155 : w148.cell? ⟨gb349, 6, none⟩ = some (.int .u16 x350006_1) := (blk_cell BK349.out 6).trans rfl
                              have hfs155 := blk_frozen BK349.out 6
                              have hns155_0 := NB348_349.out
                              have hms155_0 := NB349_348.out
                              refine skip_ (w1 := ?_) (by rfl) rfl ?_ ?_
                              rotate_left
                              · go_simp
                                rfl
                              refine hK.out _ _ ?_
                              clear hK K
                              refine done_ (done_of HT_.out (by kernel_rfl)) ?_
                              have hnb156 := NB349_348.out
                              have hnc156 := NB348_349.out
                              have hcz157_0 : w148.cell? ⟨gb349, 0, none⟩ = some (.bool x350000_1) := (blk_cell BK349.out 0).trans rfl
                              have hcz157_1 : w148.cell? ⟨gb349, 1, none⟩ = some (.int .u32 x350001_1) := (blk_cell BK349.out 1).trans rfl
                              have hcz157_2 : w148.cell? ⟨gb349, 2, none⟩ = some (.int .u8 x350002_1) := (blk_cell BK349.out 2).trans rfl
                              have hcz157_3 : w148.cell? ⟨gb349, 3, none⟩ = some (.int .u8 x350003_1) := (blk_cell BK349.out 3).trans rfl
                              have hcz157_4 : w148.cell? ⟨gb349, 4, none⟩ = some (.int .u8 x350004_1) := (blk_cell BK349.out 4).trans rfl
                              have hcz157_5 : w148.cell? ⟨gb349, 5, none⟩ = some (.int .u16 x350005_1) := (blk_cell BK349.out 5).trans rfl
                              have hcz157_6 : w148.cell? ⟨gb349, 6, none⟩ = some (.int .u16 x350006_1) := (blk_cell BK349.out 6).trans rfl
                              have hfz157_0 := blk_frozen BK349.out 0
                              have hfz157_1 := blk_frozen BK349.out 1
                              have hfz157_2 := blk_frozen BK349.out 2
                              have hfz157_3 := blk_frozen BK349.out 3
                              have hfz157_4 := blk_frozen BK349.out 4
                              have hfz157_5 := blk_frozen BK349.out 5
                              have hfz157_6 := blk_frozen BK349.out 6
                              try go_wp2
                              go_roundg kj13
                              case measure => have := HK1.out; have := HJ13.out; omega
                              case rel => exact ⟨(wrap64 (x12_1 + 2)), (false), (t373), (t374), (t375), (t376), (t377), (t378), (by first | rfl | (simp; done) | (simp [*]; done)), H', ⟨by have := HK1.out; have := HJ13.out; omega⟩, ⟨by (with_reducible repeat (first | refine blk_drewN ?_ _ | refine blk_drew ?_ | refine blk_alloc ?_ _)); refine blk_far ?_ NB348_349.out _; (with_reducible repeat (first | refine blk_drewN ?_ _ | refine blk_drew ?_ | refine blk_alloc ?_ _)); refine blk_far ?_ NB348_349.out _; (with_reducible repeat (first | refine blk_drewN ?_ _ | refine blk_drew ?_ | refine blk_alloc ?_ _)); refine blk_far ?_ NB348_349.out _; (with_reducible repeat (first | refine blk_drewN ?_ _ | refine blk_drew ?_ | refine blk_alloc ?_ _)); refine blk_far ?_ NB348_349.out _; (with_reducible repeat (first | refine blk_drewN ?_ _ | refine blk_drew ?_ | refine blk_alloc ?_ _)); refine blk_far ?_ NB348_349.out _; (with_reducible repeat (first | refine blk_drewN ?_ _ | refine blk_drew ?_ | refine blk_alloc ?_ _)); refine blk_far ?_ NB348_349.out _; (with_reducible repeat (first | refine blk_drewN ?_ _ | refine blk_drew ?_ | refine blk_alloc ?_ _)); refine blk_far ?_ NB348_349.out _; (with_reducible repeat (first | refine blk_drewN ?_ _ | refine blk_drew ?_ | refine blk_alloc ?_ _)); exact BK348.out⟩, ⟨by (with_reducible repeat (first | refine blk_drewN ?_ _ | refine blk_drew ?_ | refine blk_alloc ?_ _)); refine blk_put (cs := #[.bool false, .int .u32 t373, .int .u8 t374, .int .u8 t375, .int .u8 t376, .int .u16 t377, .int .u16 x350006_1]) ?_ 6 _ rfl; (with_reducible repeat (first | refine blk_drewN ?_ _ | refine blk_drew ?_ | refine blk_alloc ?_ _)); refine blk_put (cs := #[.bool false, .int .u32 t373, .int .u8 t374, .int .u8 t375, .int .u8 t376, .int .u16 x350005_1, .int .u16 x350006_1]) ?_ 5 _ rfl; (with_reducible repeat (first | refine blk_drewN ?_ _ | refine blk_drew ?_ | refine blk_alloc ?_ _)); refine blk_put (cs := #[.bool false, .int .u32 t373, .int .u8 t374, .int .u8 t375, .int .u8 x350004_1, .int .u16 x350005_1, .int .u16 x350006_1]) ?_ 4 _ rfl; (with_reducible repeat (first | refine blk_drewN ?_ _ | refine blk_drew ?_ | refine blk_alloc ?_ _)); refine blk_put (cs := #[.bool false, .int .u32 t373, .int .u8 t374, .int .u8 x350003_1, .int .u8 x350004_1, .int .u16 x350005_1, .int .u16 x350006_1]) ?_ 3 _ rfl; (with_reducible repeat (first | refine blk_drewN ?_ _ | refine blk_drew ?_ | refine blk_alloc ?_ _)); refine blk_put (cs := #[.bool false, .int .u32 t373, .int .u8 x350002_1, .int .u8 x350003_1, .int .u8 x350004_1, .int .u16 x350005_1, .int .u16 x350006_1]) ?_ 2 _ rfl; (with_reducible repeat (first | refine blk_drewN ?_ _ | refine blk_drew ?_ | refine blk_alloc ?_ _)); refine blk_put (cs := #[.bool false, .int .u32 x350001_1, .int .u8 x350002_1, .int .u8 x350003_1, .int .u8 x350004_1, .int .u16 x350005_1, .int .u16 x350006_1]) ?_ 1 _ rfl; (with_reducible repeat (first | refine blk_drewN ?_ _ | refine blk_drew ?_ | refine blk_alloc ?_ _)); refine blk_put (cs := #[.bool x350000_1, .int .u32 x350001_1, .int .u8 x350002_1, .int .u8 x350003_1, .int .u8 x350004_1, .int .u16 x350005_1, .int .u16 x350006_1]) ?_ 0 _ rfl; (with_reducible repeat (first | refine blk_drewN ?_ _ | refine blk_drew ?_ | refine blk_alloc ?_ _)); exact BK349.out⟩, ⟨by repeat (first | (with_reducible first | exact HB.out | apply below_alloc | apply pw_below_drewN | apply below_drew1 | refine below_set ?_ GE348.out | refine below_set ?_ GE349.out) | exact HB.out)⟩⟩
                          · rw [if_neg c116] at H
                            exact absurd H (by simp)
                        · rw [if_neg c115] at H
                          exact absurd H (by simp)
                      · rw [if_neg c113] at H
                        have c113b0 : ((Int.tmod (rd l3 x12_1) 4) == 2) = false := beq_eq_false_iff_ne.mpr c113
                        have c113b1 : ((Int.tmod (rd l3 x12_1) 4) != 2) = true := bne_iff_ne.mpr c113
                        obtain ⟨ji158, hji158⟩ : ∃ j_ : Int, (wrap64 (x12_1 + 1)) = j_ := ⟨_, rfl⟩
                        replace H : (if 0 ≤ (ji158) then (if (ji158) < (l3.length : Int) then ((capa_SetAddr.f x350000_1 x350001_1 x350002_1 x350003_1 x350004_1 x350005_1 x350006_1 (rd l3 (ji158))).bind fun bt381 => (if bt381.1 = true then ((capa_Subset.f bt381.1 bt381.2.1 bt381.2.2.1 bt381.2.2.2.1 bt381.2.2.2.2.1 bt381.2.2.2.2.2.1 bt381.2.2.2.2.2.2 t340 t341 t342 t343 t344 t345 t346).bind fun t388 => (if t388 = true then (bulwarklaw03_CapaChain.l0 kj13 l3 (wrap64 (x12_1 + 2)) t340 t341 t342 t343 t344 t345 t346 bt381.1 bt381.2.1 bt381.2.2.1 bt381.2.2.2.1 bt381.2.2.2.2.1 bt381.2.2.2.2.2.1 bt381.2.2.2.2.2.2) else (some false))) else (bulwarklaw03_CapaChain.l0 kj13 l3 (wrap64 (x12_1 + 2)) t340 t341 t342 t343 t344 t345 t346 bt381.1 bt381.2.1 bt381.2.2.1 bt381.2.2.2.1 bt381.2.2.2.2.1 bt381.2.2.2.2.2.1 bt381.2.2.2.2.2.2))) else (none)) else (none)) = some r := by first | (rw [hji158] at H; exact H) | (simp only [hji158] at H ⊢; exact H)
                        have hji158w : (IntKind.i64.wrap (x12_1 + 1)) = ji158 := (i64_w _).trans hji158
                        by_cases c159 : 0 ≤ (ji158)
                        · rw [if_pos c159] at H
                          have c159b0 : decide (0 ≤ (ji158)) = true := decide_eq_true c159
                          clear c159
                          by_cases c160 : (ji158) < (l3.length : Int)
                          · rw [if_pos c160] at H
                            have c160b0 : decide ((ji158) < (l3.length : Int)) = true := decide_eq_true c160
                            clear c160
                            replace H := Option.bind_eq_some_iff.mp H
                            obtain ⟨⟨t381, t382, t383, t384, t385, t386, t387⟩, A1610, H⟩ := H
                            replace H : (if t381 = true then ((capa_Subset.f t381 t382 t383 t384 t385 t386 t387 t340 t341 t342 t343 t344 t345 t346).bind fun t388 => (if t388 = true then (bulwarklaw03_CapaChain.l0 kj13 l3 (wrap64 (x12_1 + 2)) t340 t341 t342 t343 t344 t345 t346 t381 t382 t383 t384 t385 t386 t387) else (some false))) else (bulwarklaw03_CapaChain.l0 kj13 l3 (wrap64 (x12_1 + 2)) t340 t341 t342 t343 t344 t345 t346 t381 t382 t383 t384 t385 t386 t387)) = some r := H
                            have A161 := Aside0.mk A1610
                            clear A1610
                            by_cases c162 : t381 = true
                            · subst c162
                              have H1 : ((capa_Subset.f true t382 t383 t384 t385 t386 t387 t340 t341 t342 t343 t344 t345 t346).bind fun t388 => (if t388 = true then (bulwarklaw03_CapaChain.l0 kj13 l3 (wrap64 (x12_1 + 2)) t340 t341 t342 t343 t344 t345 t346 true t382 t383 t384 t385 t386 t387) else (some false))) = some r := by rw [if_pos rfl] at H; exact H
                              clear H
                              have H := H1
                              clear H1
                              replace H := Option.bind_eq_some_iff.mp H
                              obtain ⟨t388, A1630, H⟩ := H
                              replace H : (if t388 = true then (bulwarklaw03_CapaChain.l0 kj13 l3 (wrap64 (x12_1 + 2)) t340 t341 t342 t343 t344 t345 t346 true t382 t383 t384 t385 t386 t387) else (some false)) = some r := H
                              have A163 := Aside0.mk A1630
                              clear A1630
                              by_cases c164 : t388 = true
                              · subst c164
                                have H1 : (bulwarklaw03_CapaChain.l0 kj13 l3 (wrap64 (x12_1 + 2)) t340 t341 t342 t343 t344 t345 t346 true t382 t383 t384 t385 t386 t387) = some r := by rw [if_pos rfl] at H; exact H
                                clear H
                                have H := H1
                                clear H1
                                have H' := Aside0.mk H
                                clear H
                                have p351 : 0 ≤ (x12_1 : Int) := of_decide_eq_true (by first | (with_reducible assumption) | assumption)
                                have q351 : x12_1 < (l3.length : Int) := of_decide_eq_true (by first | (with_reducible assumption) | assumption)
                                obtain ⟨ad351, e351, hx351_0⟩ := Kd.at_int HR3.out x12_1 p351 q351
                                cases e351
                                replace hx351_0 := (HB.out.cell (World.block_lt_of_cell? w _ hx351_0)).trans hx351_0
                                replace p351 := eq_true p351
                                replace q351 := eq_true q351
                                try go_wp2
                                have n0_ := Aside0.mk (blk_drew BK348.out)
                                have n1_ := Aside0.mk (blk_drew BK349.out)
                                have n2_ := Aside0.mk (below_drew1 HB.out)
                                clear BK348
                                clear BK349
                                clear HB
                                have BK348 := n0_
                                have BK349 := n1_
                                have HB := n2_
                                clear n0_ n1_ n2_
                                have p380 : 0 ≤ ((ji158) : Int) := of_decide_eq_true (by first | (with_reducible assumption) | assumption)
                                have q380 : (ji158) < (l3.length : Int) := of_decide_eq_true (by first | (with_reducible assumption) | assumption)
                                obtain ⟨ad380, e380, hx380_0⟩ := Kd.at_int HR3.out (ji158) p380 q380
                                have hw380_0 := hx380_0
                                obtain rfl : ad351 = ad380 := (by injection e380)
                                replace hx380_0 := (HB.out.cell (World.block_lt_of_cell? w _ hx380_0)).trans hx380_0
                                replace p380 := eq_true p380
                                replace q380 := eq_true q380
                                refine start_ (n := 8) (S := fun w' => w'.cell? ⟨gb349, 0, none⟩ = some (.bool x350000_1) ∧ w'.cell? ⟨gb349, 1, none⟩ = some (.int .u32 x350001_1) ∧ w'.cell? ⟨gb349, 2, none⟩ = some (.int .u8 x350002_1) ∧ w'.cell? ⟨gb349, 3, none⟩ = some (.int .u8 x350003_1) ∧ w'.cell? ⟨gb349, 4, none⟩ = some (.int .u8 x350004_1) ∧ w'.cell? ⟨gb349, 5, none⟩ = some (.int .u16 x350005_1) ∧ w'.cell? ⟨gb349, 6, none⟩ = some (.int .u16 x350006_1) ∧ w'.cell? (ad351.add ((ji158)).toNat) = some (.int .u32 (rd l3 (ji158)))) (ds := [7]) #[false, false, false, false, false, false, false, false] (by kernel_rfl) rfl rfl ⟨(blk_cell BK349.out 0).trans rfl, (blk_cell BK349.out 1).trans rfl, (blk_cell BK349.out 2).trans rfl, (blk_cell BK349.out 3).trans rfl, (blk_cell BK349.out 4).trans rfl, (blk_cell BK349.out 5).trans rfl, (blk_cell BK349.out 6).trans rfl, ((HB.out.cell (World.block_lt_of_cell? w _ hw380_0)).trans hw380_0)⟩ (fun hHeld => ?_); refine with_tabW bulwarklaw03_CapaChain.tab9 bulwarklaw03_CapaChain.bits9 (fun HT_ HW_ => ?_)
                                generalize wc.drew = w165 at BK348 BK349 HB hx380_0 hHeld ⊢
                                refine pure_ (i := 1) (N := some 53) (v := ?_) (a' := ?_) #[false, true, false, false, false, false, false, false] rfl rfl (any_of HT_.out (by kernel_rfl)) (fun _ _ _ h => h) (Or.inl ⟨by rfl, ?_⟩) ?_ ?_
                                rotate_left
                                · intro w'
                                  go_simp
                                  with_reducible rfl
                                rotate_left
                                · simp only [Act.put, List.setIfInBounds_toArray, List.set_cons_zero, List.set_cons_succ, i64_w, i32_w]
                                  rfl
                                refine pure_ (i := 2) (N := some 54) (v := ?_) (a' := ?_) #[false, true, true, false, false, false, false, false] rfl rfl (any_of HT_.out (by kernel_rfl)) (fun _ _ _ h => h) (Or.inl ⟨by rfl, ?_⟩) ?_ ?_
                                rotate_left
                                · intro w'
                                  go_simp
                                  with_reducible rfl
                                rotate_left
                                · simp only [Act.put, List.setIfInBounds_toArray, List.set_cons_zero, List.set_cons_succ, i64_w, i32_w]
                                  rfl
                                refine pure_ (i := 3) (N := some 55) (v := ?_) (a' := ?_) #[false, true, true, true, false, false, false, false] rfl rfl (any_of HT_.out (by kernel_rfl)) (fun _ _ _ h => h) (Or.inl ⟨by rfl, ?_⟩) ?_ ?_
                                rotate_left
                                · intro w'
                                  go_simp
                                  with_reducible rfl
                                rotate_left
                                · simp only [Act.put, List.setIfInBounds_toArray, List.set_cons_zero, List.set_cons_succ, i64_w, i32_w]
                                  rfl
                                refine pure_ (i := 4) (N := some 56) (v := ?_) (a' := ?_) #[false, true, true, true, true, false, false, false] rfl rfl (any_of HT_.out (by kernel_rfl)) (fun _ _ _ h => h) (Or.inl ⟨by rfl, ?_⟩) ?_ ?_
                                rotate_left
                                · intro w'
                                  go_simp
                                  with_reducible rfl
                                rotate_left
                                · simp only [Act.put, List.setIfInBounds_toArray, List.set_cons_zero, List.set_cons_succ, i64_w, i32_w]
                                  rfl
                                refine take_ (i := 0) (N := some 52) (v := ?_) (a' := ?_) #[true, true, true, true, true, false, false, false] rfl rfl (take_ofW HT_.out HW_.out (by kernel_rfl)) (fun _ _ _ h => h) (Or.inl ⟨by rfl, ?_⟩) hHeld ?_ ?_
                                rotate_left
                                · rintro w' ⟨s0, s1, s2, s3, s4, s5, s6, s7⟩
                                  go_simp
                                  with_reducible rfl
                                rotate_left
                                · simp only [Act.put, List.setIfInBounds_toArray, List.set_cons_zero, List.set_cons_succ, i64_w, i32_w]
                                  rfl
                                refine take_ (i := 5) (N := some 57) (v := ?_) (a' := ?_) #[true, true, true, true, true, true, false, false] rfl rfl (take_ofW HT_.out HW_.out (by kernel_rfl)) (fun _ _ _ h => h) (Or.inl ⟨by rfl, ?_⟩) hHeld ?_ ?_
                                rotate_left
                                · rintro w' ⟨s0, s1, s2, s3, s4, s5, s6, s7⟩
                                  go_simp
                                  with_reducible rfl
                                rotate_left
                                · simp only [Act.put, List.setIfInBounds_toArray, List.set_cons_zero, List.set_cons_succ, i64_w, i32_w]
                                  rfl
                                refine one_ (i := 6) (N := some 58) #[true, true, true, true, true, true, true, false] rfl rfl (one_of HT_.out (by kernel_rfl)) (by decide) (fun K hK => ?_)
                                refine goes_ Try.func29 (by kernel_rfl) rfl #[.agg #[.bool x350000_1, .int .u32 x350001_1, .int .u8 x350002_1, .int .u8 x350003_1, .int .u8 x350004_1, .int .u16 x350005_1, .int .u16 x350006_1], .int .u32 (rd l3 (ji158))] (by rfl) rfl rfl (by (try simp only [List.map_toArray, List.map_cons, List.map_nil]); first | done | (simp only [hji158]; rfl) | rfl | (simp only [List.length_drop, List.length_take]; rfl)) ?_
                                with_reducible refine (capa_SetAddr.calls x350000_1 x350001_1 x350002_1 x350003_1 x350004_1 x350005_1 x350006_1 (rd l3 (ji158)) true t382 t383 t384 t385 t386 t387 _ A161.out).mono ?_
                                rintro e w166 ⟨rfl, hb⟩
                                refine ⟨_, rfl, ?_⟩
                                have n0_ := Aside0.mk (blk_below (g := gb348) (o := .cells #[.bool t340, .int .u32 t341, .int .u8 t342, .int .u8 t343, .int .u8 t344, .int .u16 t345, .int .u16 t346] 27 (0, 0)) (by (with_reducible repeat (first | refine blk_drewN ?_ _ | refine blk_drew ?_ | refine blk_alloc ?_ _)); exact BK348.out) hb)
                                have n1_ := Aside0.mk (blk_below (g := gb349) (o := .cells #[.bool x350000_1, .int .u32 x350001_1, .int .u8 x350002_1, .int .u8 x350003_1, .int .u8 x350004_1, .int .u16 x350005_1, .int .u16 x350006_1] 27 (0, 0)) (by (with_reducible repeat (first | refine blk_drewN ?_ _ | refine blk_drew ?_ | refine blk_alloc ?_ _)); exact BK349.out) hb)
                                have n2_ := Aside0.mk (below_step (by repeat (first | (with_reducible first | exact HB.out | apply below_alloc | apply pw_below_drewN | apply below_drew1 | refine below_set ?_ GE348.out | refine below_set ?_ GE349.out) | exact HB.out)) hb)
                                clear BK348
                                clear BK349
                                clear HB
                                have BK348 := n0_
                                have BK349 := n1_
                                have HB := n2_
                                clear n0_ n1_ n2_
                                (try clear hb)
                                (try clear hb2)
                                (try clear hk)
                                (try clear hi)
                                refine hK.out _ _ ⟨(blk_cell BK349.out 0).trans rfl, (blk_cell BK349.out 1).trans rfl, (blk_cell BK349.out 2).trans rfl, (blk_cell BK349.out 3).trans rfl, (blk_cell BK349.out 4).trans rfl, (blk_cell BK349.out 5).trans rfl, (blk_cell BK349.out 6).trans rfl, ((HB.out.cell (World.block_lt_of_cell? w _ hw380_0)).trans hw380_0)⟩ (fun hHeld => ?_)
                                clear hK K
                                refine norm_ (a' := ?_) ?_ ?_
                                rotate_left
                                · show Act.put _ (some 58) _ = _
                                  simp only [Act.put, List.setIfInBounds_toArray, List.set_cons_zero, List.set_cons_succ, i64_w, i32_w]
                                  rfl
                                refine last_ (i := 7) (N := none) #[true, true, true, true, true, true, true, true] rfl rfl (one_of HT_.out (by kernel_rfl)) (by decide) (fun K hK => ?_)
                                have hs167 : w166.cell? ⟨gb349, 0, none⟩ = some (.bool x350000_1) := (blk_cell BK349.out 0).trans rfl
                                have hfs167 := blk_frozen BK349.out 0
                                have hns167_0 := NB348_349.out
                                have hms167_0 := NB349_348.out
                                have hs168 : w166.cell? ⟨gb349, 1, none⟩ = some (.int .u32 x350001_1) := (blk_cell BK349.out 1).trans rfl
                                have hfs168 := blk_frozen BK349.out 1
                                have hns168_0 := NB348_349.out
                                have hms168_0 := NB349_348.out
                                have hs169 : w166.cell? ⟨gb349, 2, none⟩ = some (.int .u8 x350002_1) := (blk_cell BK349.out 2).trans rfl
                                have hfs169 := blk_frozen BK349.out 2
                                have hns169_0 := NB348_349.out
                                have hms169_0 := NB349_348.out
                                have hs170 : w166.cell? ⟨gb349, 3, none⟩ = some (.int .u8 x350003_1) := (blk_cell BK349.out 3).trans rfl
                                have hfs170 := blk_frozen BK349.out 3
                                have hns170_0 := NB348_349.out
                                have hms170_0 := NB349_348.out
                                have hs171 : w166.cell? ⟨gb349, 4, none⟩ = some (.int .u8 x350004_1) := (blk_cell BK349.out 4).trans rfl
                                have hfs171 := blk_frozen BK349.out 4
                                have hns171_0 := NB348_349.out
                                have hms171_0 := NB349_348.out
                                have hs172 : w166.cell? ⟨gb349, 5, none⟩ = some (.int .u16 x350005_1) := (blk_cell BK349.out 5).trans rfl
                                have hfs172 := blk_frozen BK349.out 5
                                have hns172_0 := NB348_349.out
                                have hms172_0 := NB349_348.out
                                have hs173 : w166.cell? ⟨gb349, 6, none⟩ = some (.int .u16 x350006_1) := (blk_cell BK349.out 6).trans rfl
                                have hfs173 := blk_frozen BK349.out 6
                                have hns173_0 := NB348_349.out
                                have hms173_0 := NB349_348.out
                                refine skip_ (w1 := ?_) (by rfl) rfl ?_ ?_
                                rotate_left
                                · go_simp
                                  rfl
                                refine hK.out _ _ ?_
                                clear hK K
                                refine done_ (done_of HT_.out (by kernel_rfl)) ?_
                                have hnb174 := NB349_348.out
                                have hnc174 := NB348_349.out
                                have hcz175_0 : w166.cell? ⟨gb349, 0, none⟩ = some (.bool x350000_1) := (blk_cell BK349.out 0).trans rfl
                                have hcz175_1 : w166.cell? ⟨gb349, 1, none⟩ = some (.int .u32 x350001_1) := (blk_cell BK349.out 1).trans rfl
                                have hcz175_2 : w166.cell? ⟨gb349, 2, none⟩ = some (.int .u8 x350002_1) := (blk_cell BK349.out 2).trans rfl
                                have hcz175_3 : w166.cell? ⟨gb349, 3, none⟩ = some (.int .u8 x350003_1) := (blk_cell BK349.out 3).trans rfl
                                have hcz175_4 : w166.cell? ⟨gb349, 4, none⟩ = some (.int .u8 x350004_1) := (blk_cell BK349.out 4).trans rfl
                                have hcz175_5 : w166.cell? ⟨gb349, 5, none⟩ = some (.int .u16 x350005_1) := (blk_cell BK349.out 5).trans rfl
                                have hcz175_6 : w166.cell? ⟨gb349, 6, none⟩ = some (.int .u16 x350006_1) := (blk_cell BK349.out 6).trans rfl
                                have hfz175_0 := blk_frozen BK349.out 0
                                have hfz175_1 := blk_frozen BK349.out 1
                                have hfz175_2 := blk_frozen BK349.out 2
                                have hfz175_3 := blk_frozen BK349.out 3
                                have hfz175_4 := blk_frozen BK349.out 4
                                have hfz175_5 := blk_frozen BK349.out 5
                                have hfz175_6 := blk_frozen BK349.out 6
                                have hcz176_0 : w166.cell? ⟨gb348, 0, none⟩ = some (.bool t340) := (blk_cell BK348.out 0).trans rfl
                                have hcz176_1 : w166.cell? ⟨gb348, 1, none⟩ = some (.int .u32 t341) := (blk_cell BK348.out 1).trans rfl
                                have hcz176_2 : w166.cell? ⟨gb348, 2, none⟩ = some (.int .u8 t342) := (blk_cell BK348.out 2).trans rfl
                                have hcz176_3 : w166.cell? ⟨gb348, 3, none⟩ = some (.int .u8 t343) := (blk_cell BK348.out 3).trans rfl
                                have hcz176_4 : w166.cell? ⟨gb348, 4, none⟩ = some (.int .u8 t344) := (blk_cell BK348.out 4).trans rfl
                                have hcz176_5 : w166.cell? ⟨gb348, 5, none⟩ = some (.int .u16 t345) := (blk_cell BK348.out 5).trans rfl
                                have hcz176_6 : w166.cell? ⟨gb348, 6, none⟩ = some (.int .u16 t346) := (blk_cell BK348.out 6).trans rfl
                                have hfz176_0 := blk_frozen BK348.out 0
                                have hfz176_1 := blk_frozen BK348.out 1
                                have hfz176_2 := blk_frozen BK348.out 2
                                have hfz176_3 := blk_frozen BK348.out 3
                                have hfz176_4 := blk_frozen BK348.out 4
                                have hfz176_5 := blk_frozen BK348.out 5
                                have hfz176_6 := blk_frozen BK348.out 6
                                try go_wp2_with (first | (go_at_call 13; (with_reducible refine (capa_Subset.calls true t382 t383 t384 t385 t386 t387 t340 t341 t342 t343 t344 t345 t346 true _ A163.out).mono ?_); rintro e w177 ⟨rfl, hb⟩; have n0_ := Aside0.mk (blk_below (g := gb348) (o := .cells #[.bool t340, .int .u32 t341, .int .u8 t342, .int .u8 t343, .int .u8 t344, .int .u16 t345, .int .u16 t346] 27 (0, 0)) (by (with_reducible repeat (first | refine blk_drewN ?_ _ | refine blk_drew ?_ | refine blk_alloc ?_ _)); refine blk_far ?_ NB348_349.out _; (with_reducible repeat (first | refine blk_drewN ?_ _ | refine blk_drew ?_ | refine blk_alloc ?_ _)); refine blk_far ?_ NB348_349.out _; (with_reducible repeat (first | refine blk_drewN ?_ _ | refine blk_drew ?_ | refine blk_alloc ?_ _)); refine blk_far ?_ NB348_349.out _; (with_reducible repeat (first | refine blk_drewN ?_ _ | refine blk_drew ?_ | refine blk_alloc ?_ _)); refine blk_far ?_ NB348_349.out _; (with_reducible repeat (first | refine blk_drewN ?_ _ | refine blk_drew ?_ | refine blk_alloc ?_ _)); refine blk_far ?_ NB348_349.out _; (with_reducible repeat (first | refine blk_drewN ?_ _ | refine blk_drew ?_ | refine blk_alloc ?_ _)); refine blk_far ?_ NB348_349.out _; (with_reducible repeat (first | refine blk_drewN ?_ _ | refine blk_drew ?_ | refine blk_alloc ?_ _)); refine blk_far ?_ NB348_349.out _; (with_reducible repeat (first | refine blk_drewN ?_ _ | refine blk_drew ?_ | refine blk_alloc ?_ _)); exact BK348.out) hb); have n1_ := Aside0.mk (blk_below (g := gb349) (o := .cells #[.bool true, .int .u32 t382, .int .u8 t383, .int .u8 t384, .int .u8 t385, .int .u16 t386, .int .u16 t387] 27 (0, 0)) (by (with_reducible repeat (first | refine blk_drewN ?_ _ | refine blk_drew ?_ | refine blk_alloc ?_ _)); refine blk_put (cs := #[.bool true, .int .u32 t382, .int .u8 t383, .int .u8 t384, .int .u8 t385, .int .u16 t386, .int .u16 x350006_1]) ?_ 6 _ rfl; (with_reducible repeat (first | refine blk_drewN ?_ _ | refine blk_drew ?_ | refine blk_alloc ?_ _)); refine blk_put (cs := #[.bool true, .int .u32 t382, .int .u8 t383, .int .u8 t384, .int .u8 t385, .int .u16 x350005_1, .int .u16 x350006_1]) ?_ 5 _ rfl; (with_reducible repeat (first | refine blk_drewN ?_ _ | refine blk_drew ?_ | refine blk_alloc ?_ _)); refine blk_put (cs := #[.bool true, .int .u32 t382, .int .u8 t383, .int .u8 t384, .int .u8 x350004_1, .int .u16 x350005_1, .int .u16 x350006_1]) ?_ 4 _ rfl; (with_reducible repeat (first | refine blk_drewN ?_ _ | refine blk_drew ?_ | refine blk_alloc ?_ _)); refine blk_put (cs := #[.bool true, .int .u32 t382, .int .u8 t383, .int .u8 x350003_1, .int .u8 x350004_1, .int .u16 x350005_1, .int .u16 x350006_1]) ?_ 3 _ rfl; (with_reducible repeat (first | refine blk_drewN ?_ _ | refine blk_drew ?_ | refine blk_alloc ?_ _)); refine blk_put (cs := #[.bool true, .int .u32 t382, .int .u8 x350002_1, .int .u8 x350003_1, .int .u8 x350004_1, .int .u16 x350005_1, .int .u16 x350006_1]) ?_ 2 _ rfl; (with_reducible repeat (first | refine blk_drewN ?_ _ | refine blk_drew ?_ | refine blk_alloc ?_ _)); refine blk_put (cs := #[.bool true, .int .u32 x350001_1, .int .u8 x350002_1, .int .u8 x350003_1, .int .u8 x350004_1, .int .u16 x350005_1, .int .u16 x350006_1]) ?_ 1 _ rfl; (with_reducible repeat (first | refine blk_drewN ?_ _ | refine blk_drew ?_ | refine blk_alloc ?_ _)); refine blk_put (cs := #[.bool x350000_1, .int .u32 x350001_1, .int .u8 x350002_1, .int .u8 x350003_1, .int .u8 x350004_1, .int .u16 x350005_1, .int .u16 x350006_1]) ?_ 0 _ rfl; (with_reducible repeat (first | refine blk_drewN ?_ _ | refine blk_drew ?_ | refine blk_alloc ?_ _)); exact BK349.out) hb); have n2_ := Aside0.mk (below_step (by repeat (first | (with_reducible first | exact HB.out | apply below_alloc | apply pw_below_drewN | apply below_drew1 | refine below_set ?_ GE348.out | refine below_set ?_ GE349.out) | exact HB.out)) hb); clear BK348; clear BK349; clear HB; have BK348 := n0_; have BK349 := n1_; have HB := n2_; clear n0_ n1_ n2_; (try clear hb); (try clear hb2); (try clear hk); (try clear hi)))
                                go_roundg kj13
                                case measure => have := HK1.out; have := HJ13.out; omega
                                case rel => exact ⟨(wrap64 (x12_1 + 2)), (true), (t382), (t383), (t384), (t385), (t386), (t387), (by first | rfl | (simp; done) | (simp [*]; done)), H', ⟨by have := HK1.out; have := HJ13.out; omega⟩, ⟨by (with_reducible repeat (first | refine blk_drewN ?_ _ | refine blk_drew ?_ | refine blk_alloc ?_ _)); exact BK348.out⟩, ⟨by (with_reducible repeat (first | refine blk_drewN ?_ _ | refine blk_drew ?_ | refine blk_alloc ?_ _)); exact BK349.out⟩, ⟨by repeat (first | (with_reducible first | exact HB.out | apply below_alloc | apply pw_below_drewN | apply below_drew1 | refine below_set ?_ GE348.out | refine below_set ?_ GE349.out) | exact HB.out)⟩⟩
                              · replace c164 := Bool.eq_false_iff.mpr c164
                                subst c164
                                have H1 : (some false) = some r := by rw [if_neg (show ¬ (false = true) by decide)] at H; exact H
                                exact absurd ((Option.some.inj H1).trans hr'.out) (by decide)
                            · replace c162 := Bool.eq_false_iff.mpr c162
                              subst c162
                              have H1 : (bulwarklaw03_CapaChain.l0 kj13 l3 (wrap64 (x12_1 + 2)) t340 t341 t342 t343 t344 t345 t346 false t382 t383 t384 t385 t386 t387) = some r := by rw [if_neg (show ¬ (false = true) by decide)] at H; exact H
                              clear H
                              have H := H1
                              clear H1
                              have H' := Aside0.mk H
                              clear H
                              have p351 : 0 ≤ (x12_1 : Int) := of_decide_eq_true (by first | (with_reducible assumption) | assumption)
                              have q351 : x12_1 < (l3.length : Int) := of_decide_eq_true (by first | (with_reducible assumption) | assumption)
                              obtain ⟨ad351, e351, hx351_0⟩ := Kd.at_int HR3.out x12_1 p351 q351
                              cases e351
                              replace hx351_0 := (HB.out.cell (World.block_lt_of_cell? w _ hx351_0)).trans hx351_0
                              replace p351 := eq_true p351
                              replace q351 := eq_true q351
                              try go_wp2
                              have n0_ := Aside0.mk (blk_drew BK348.out)
                              have n1_ := Aside0.mk (blk_drew BK349.out)
                              have n2_ := Aside0.mk (below_drew1 HB.out)
                              clear BK348
                              clear BK349
                              clear HB
                              have BK348 := n0_
                              have BK349 := n1_
                              have HB := n2_
                              clear n0_ n1_ n2_
                              have p380 : 0 ≤ ((ji158) : Int) := of_decide_eq_true (by first | (with_reducible assumption) | assumption)
                              have q380 : (ji158) < (l3.length : Int) := of_decide_eq_true (by first | (with_reducible assumption) | assumption)
                              obtain ⟨ad380, e380, hx380_0⟩ := Kd.at_int HR3.out (ji158) p380 q380
                              have hw380_0 := hx380_0
                              obtain rfl : ad351 = ad380 := (by injection e380)
                              replace hx380_0 := (HB.out.cell (World.block_lt_of_cell? w _ hx380_0)).trans hx380_0
                              replace p380 := eq_true p380
                              replace q380 := eq_true q380
                              refine start_ (n := 8) (S := fun w' => w'.cell? ⟨gb349, 0, none⟩ = some (.bool x350000_1) ∧ w'.cell? ⟨gb349, 1, none⟩ = some (.int .u32 x350001_1) ∧ w'.cell? ⟨gb349, 2, none⟩ = some (.int .u8 x350002_1) ∧ w'.cell? ⟨gb349, 3, none⟩ = some (.int .u8 x350003_1) ∧ w'.cell? ⟨gb349, 4, none⟩ = some (.int .u8 x350004_1) ∧ w'.cell? ⟨gb349, 5, none⟩ = some (.int .u16 x350005_1) ∧ w'.cell? ⟨gb349, 6, none⟩ = some (.int .u16 x350006_1) ∧ w'.cell? (ad351.add ((ji158)).toNat) = some (.int .u32 (rd l3 (ji158)))) (ds := [7]) #[false, false, false, false, false, false, false, false] (by kernel_rfl) rfl rfl ⟨(blk_cell BK349.out 0).trans rfl, (blk_cell BK349.out 1).trans rfl, (blk_cell BK349.out 2).trans rfl, (blk_cell BK349.out 3).trans rfl, (blk_cell BK349.out 4).trans rfl, (blk_cell BK349.out 5).trans rfl, (blk_cell BK349.out 6).trans rfl, ((HB.out.cell (World.block_lt_of_cell? w _ hw380_0)).trans hw380_0)⟩ (fun hHeld => ?_); refine with_tabW bulwarklaw03_CapaChain.tab9 bulwarklaw03_CapaChain.bits9 (fun HT_ HW_ => ?_)
                              generalize wc.drew = w191 at BK348 BK349 HB hx380_0 hHeld ⊢
                              refine pure_ (i := 1) (N := some 53) (v := ?_) (a' := ?_) #[false, true, false, false, false, false, false, false] rfl rfl (any_of HT_.out (by kernel_rfl)) (fun _ _ _ h => h) (Or.inl ⟨by rfl, ?_⟩) ?_ ?_
                              rotate_left
                              · intro w'
                                go_simp
                                with_reducible rfl
                              rotate_left
                              · simp only [Act.put, List.setIfInBounds_toArray, List.set_cons_zero, List.set_cons_succ, i64_w, i32_w]
                                rfl
                              refine pure_ (i := 2) (N := some 54) (v := ?_) (a' := ?_) #[false, true, true, false, false, false, false, false] rfl rfl (any_of HT_.out (by kernel_rfl)) (fun _ _ _ h => h) (Or.inl ⟨by rfl, ?_⟩) ?_ ?_
                              rotate_left
                              · intro w'
                                go_simp
                                with_reducible rfl
                              rotate_left
                              · simp only [Act.put, List.setIfInBounds_toArray, List.set_cons_zero, List.set_cons_succ, i64_w, i32_w]
                                rfl
                              refine pure_ (i := 3) (N := some 55) (v := ?_) (a' := ?_) #[false, true, true, true, false, false, false, false] rfl rfl (any_of HT_.out (by kernel_rfl)) (fun _ _ _ h => h) (Or.inl ⟨by rfl, ?_⟩) ?_ ?_
                              rotate_left
                              · intro w'
                                go_simp
                                with_reducible rfl
                              rotate_left
                              · simp only [Act.put, List.setIfInBounds_toArray, List.set_cons_zero, List.set_cons_succ, i64_w, i32_w]
                                rfl
                              refine pure_ (i := 4) (N := some 56) (v := ?_) (a' := ?_) #[false, true, true, true, true, false, false, false] rfl rfl (any_of HT_.out (by kernel_rfl)) (fun _ _ _ h => h) (Or.inl ⟨by rfl, ?_⟩) ?_ ?_
                              rotate_left
                              · intro w'
                                go_simp
                                with_reducible rfl
                              rotate_left
                              · simp only [Act.put, List.setIfInBounds_toArray, List.set_cons_zero, List.set_cons_succ, i64_w, i32_w]
                                rfl
                              refine take_ (i := 0) (N := some 52) (v := ?_) (a' := ?_) #[true, true, true, true, true, false, false, false] rfl rfl (take_ofW HT_.out HW_.out (by kernel_rfl)) (fun _ _ _ h => h) (Or.inl ⟨by rfl, ?_⟩) hHeld ?_ ?_
                              rotate_left
                              · rintro w' ⟨s0, s1, s2, s3, s4, s5, s6, s7⟩
                                go_simp
                                with_reducible rfl
                              rotate_left
                              · simp only [Act.put, List.setIfInBounds_toArray, List.set_cons_zero, List.set_cons_succ, i64_w, i32_w]
                                rfl
                              refine take_ (i := 5) (N := some 57) (v := ?_) (a' := ?_) #[true, true, true, true, true, true, false, false] rfl rfl (take_ofW HT_.out HW_.out (by kernel_rfl)) (fun _ _ _ h => h) (Or.inl ⟨by rfl, ?_⟩) hHeld ?_ ?_
                              rotate_left
                              · rintro w' ⟨s0, s1, s2, s3, s4, s5, s6, s7⟩
                                go_simp
                                with_reducible rfl
                              rotate_left
                              · simp only [Act.put, List.setIfInBounds_toArray, List.set_cons_zero, List.set_cons_succ, i64_w, i32_w]
                                rfl
                              refine one_ (i := 6) (N := some 58) #[true, true, true, true, true, true, true, false] rfl rfl (one_of HT_.out (by kernel_rfl)) (by decide) (fun K hK => ?_)
                              refine goes_ Try.func29 (by kernel_rfl) rfl #[.agg #[.bool x350000_1, .int .u32 x350001_1, .int .u8 x350002_1, .int .u8 x350003_1, .int .u8 x350004_1, .int .u16 x350005_1, .int .u16 x350006_1], .int .u32 (rd l3 (ji158))] (by rfl) rfl rfl (by (try simp only [List.map_toArray, List.map_cons, List.map_nil]); first | done | (simp only [hji158]; rfl) | rfl | (simp only [List.length_drop, List.length_take]; rfl)) ?_
                              with_reducible refine (capa_SetAddr.calls x350000_1 x350001_1 x350002_1 x350003_1 x350004_1 x350005_1 x350006_1 (rd l3 (ji158)) false t382 t383 t384 t385 t386 t387 _ A161.out).mono ?_
                              rintro e w192 ⟨rfl, hb⟩
                              refine ⟨_, rfl, ?_⟩
                              have n0_ := Aside0.mk (blk_below (g := gb348) (o := .cells #[.bool t340, .int .u32 t341, .int .u8 t342, .int .u8 t343, .int .u8 t344, .int .u16 t345, .int .u16 t346] 27 (0, 0)) (by (with_reducible repeat (first | refine blk_drewN ?_ _ | refine blk_drew ?_ | refine blk_alloc ?_ _)); exact BK348.out) hb)
                              have n1_ := Aside0.mk (blk_below (g := gb349) (o := .cells #[.bool x350000_1, .int .u32 x350001_1, .int .u8 x350002_1, .int .u8 x350003_1, .int .u8 x350004_1, .int .u16 x350005_1, .int .u16 x350006_1] 27 (0, 0)) (by (with_reducible repeat (first | refine blk_drewN ?_ _ | refine blk_drew ?_ | refine blk_alloc ?_ _)); exact BK349.out) hb)
                              have n2_ := Aside0.mk (below_step (by repeat (first | (with_reducible first | exact HB.out | apply below_alloc | apply pw_below_drewN | apply below_drew1 | refine below_set ?_ GE348.out | refine below_set ?_ GE349.out) | exact HB.out)) hb)
                              clear BK348
                              clear BK349
                              clear HB
                              have BK348 := n0_
                              have BK349 := n1_
                              have HB := n2_
                              clear n0_ n1_ n2_
                              (try clear hb)
                              (try clear hb2)
                              (try clear hk)
                              (try clear hi)
                              refine hK.out _ _ ⟨(blk_cell BK349.out 0).trans rfl, (blk_cell BK349.out 1).trans rfl, (blk_cell BK349.out 2).trans rfl, (blk_cell BK349.out 3).trans rfl, (blk_cell BK349.out 4).trans rfl, (blk_cell BK349.out 5).trans rfl, (blk_cell BK349.out 6).trans rfl, ((HB.out.cell (World.block_lt_of_cell? w _ hw380_0)).trans hw380_0)⟩ (fun hHeld => ?_)
                              clear hK K
                              refine norm_ (a' := ?_) ?_ ?_
                              rotate_left
                              · show Act.put _ (some 58) _ = _
                                simp only [Act.put, List.setIfInBounds_toArray, List.set_cons_zero, List.set_cons_succ, i64_w, i32_w]
                                rfl
                              refine last_ (i := 7) (N := none) #[true, true, true, true, true, true, true, true] rfl rfl (one_of HT_.out (by kernel_rfl)) (by decide) (fun K hK => ?_)
                              have hs193 : w192.cell? ⟨gb349, 0, none⟩ = some (.bool x350000_1) := (blk_cell BK349.out 0).trans rfl
                              have hfs193 := blk_frozen BK349.out 0
                              have hns193_0 := NB348_349.out
                              have hms193_0 := NB349_348.out
                              have hs194 : w192.cell? ⟨gb349, 1, none⟩ = some (.int .u32 x350001_1) := (blk_cell BK349.out 1).trans rfl
                              have hfs194 := blk_frozen BK349.out 1
                              have hns194_0 := NB348_349.out
                              have hms194_0 := NB349_348.out
                              have hs195 : w192.cell? ⟨gb349, 2, none⟩ = some (.int .u8 x350002_1) := (blk_cell BK349.out 2).trans rfl
                              have hfs195 := blk_frozen BK349.out 2
                              have hns195_0 := NB348_349.out
                              have hms195_0 := NB349_348.out
                              have hs196 : w192.cell? ⟨gb349, 3, none⟩ = some (.int .u8 x350003_1) := (blk_cell BK349.out 3).trans rfl
                              have hfs196 := blk_frozen BK349.out 3
                              have hns196_0 := NB348_349.out
                              have hms196_0 := NB349_348.out
                              have hs197 : w192.cell? ⟨gb349, 4, none⟩ = some (.int .u8 x350004_1) := (blk_cell BK349.out 4).trans rfl
                              have hfs197 := blk_frozen BK349.out 4
                              have hns197_0 := NB348_349.out
                              have hms197_0 := NB349_348.out
                              have hs198 : w192.cell? ⟨gb349, 5, none⟩ = some (.int .u16 x350005_1) := (blk_cell BK349.out 5).trans rfl
                              have hfs198 := blk_frozen BK349.out 5
                              have hns198_0 := NB348_349.out
                              have hms198_0 := NB349_348.out
                              have hs199 : w192.cell? ⟨gb349, 6, none⟩ = some (.int .u16 x350006_1) := (blk_cell BK349.out 6).trans rfl
                              have hfs199 := blk_frozen BK349.out 6
                              have hns199_0 := NB348_349.out
                              have hms199_0 := NB349_348.out
                              refine skip_ (w1 := ?_) (by rfl) rfl ?_ ?_
                              rotate_left
                              · go_simp
                                rfl
                              refine hK.out _ _ ?_
                              clear hK K
                              refine done_ (done_of HT_.out (by kernel_rfl)) ?_
                              have hnb200 := NB349_348.out
                              have hnc200 := NB348_349.out
                              have hcz201_0 : w192.cell? ⟨gb349, 0, none⟩ = some (.bool x350000_1) := (blk_cell BK349.out 0).trans rfl
                              have hcz201_1 : w192.cell? ⟨gb349, 1, none⟩ = some (.int .u32 x350001_1) := (blk_cell BK349.out 1).trans rfl
                              have hcz201_2 : w192.cell? ⟨gb349, 2, none⟩ = some (.int .u8 x350002_1) := (blk_cell BK349.out 2).trans rfl
                              have hcz201_3 : w192.cell? ⟨gb349, 3, none⟩ = some (.int .u8 x350003_1) := (blk_cell BK349.out 3).trans rfl
                              have hcz201_4 : w192.cell? ⟨gb349, 4, none⟩ = some (.int .u8 x350004_1) := (blk_cell BK349.out 4).trans rfl
                              have hcz201_5 : w192.cell? ⟨gb349, 5, none⟩ = some (.int .u16 x350005_1) := (blk_cell BK349.out 5).trans rfl
                              have hcz201_6 : w192.cell? ⟨gb349, 6, none⟩ = some (.int .u16 x350006_1) := (blk_cell BK349.out 6).trans rfl
                              have hfz201_0 := blk_frozen BK349.out 0
                              have hfz201_1 := blk_frozen BK349.out 1
                              have hfz201_2 := blk_frozen BK349.out 2
                              have hfz201_3 := blk_frozen BK349.out 3
                              have hfz201_4 := blk_frozen BK349.out 4
                              have hfz201_5 := blk_frozen BK349.out 5
                              have hfz201_6 := blk_frozen BK349.out 6
                              try go_wp2
                              go_roundg kj13
                              case measure => have := HK1.out; have := HJ13.out; omega
                              case rel => exact ⟨(wrap64 (x12_1 + 2)), (false), (t382), (t383), (t384), (t385), (t386), (t387), (by first | rfl | (simp; done) | (simp [*]; done)), H', ⟨by have := HK1.out; have := HJ13.out; omega⟩, ⟨by (with_reducible repeat (first | refine blk_drewN ?_ _ | refine blk_drew ?_ | refine blk_alloc ?_ _)); refine blk_far ?_ NB348_349.out _; (with_reducible repeat (first | refine blk_drewN ?_ _ | refine blk_drew ?_ | refine blk_alloc ?_ _)); refine blk_far ?_ NB348_349.out _; (with_reducible repeat (first | refine blk_drewN ?_ _ | refine blk_drew ?_ | refine blk_alloc ?_ _)); refine blk_far ?_ NB348_349.out _; (with_reducible repeat (first | refine blk_drewN ?_ _ | refine blk_drew ?_ | refine blk_alloc ?_ _)); refine blk_far ?_ NB348_349.out _; (with_reducible repeat (first | refine blk_drewN ?_ _ | refine blk_drew ?_ | refine blk_alloc ?_ _)); refine blk_far ?_ NB348_349.out _; (with_reducible repeat (first | refine blk_drewN ?_ _ | refine blk_drew ?_ | refine blk_alloc ?_ _)); refine blk_far ?_ NB348_349.out _; (with_reducible repeat (first | refine blk_drewN ?_ _ | refine blk_drew ?_ | refine blk_alloc ?_ _)); refine blk_far ?_ NB348_349.out _; (with_reducible repeat (first | refine blk_drewN ?_ _ | refine blk_drew ?_ | refine blk_alloc ?_ _)); exact BK348.out⟩, ⟨by (with_reducible repeat (first | refine blk_drewN ?_ _ | refine blk_drew ?_ | refine blk_alloc ?_ _)); refine blk_put (cs := #[.bool false, .int .u32 t382, .int .u8 t383, .int .u8 t384, .int .u8 t385, .int .u16 t386, .int .u16 x350006_1]) ?_ 6 _ rfl; (with_reducible repeat (first | refine blk_drewN ?_ _ | refine blk_drew ?_ | refine blk_alloc ?_ _)); refine blk_put (cs := #[.bool false, .int .u32 t382, .int .u8 t383, .int .u8 t384, .int .u8 t385, .int .u16 x350005_1, .int .u16 x350006_1]) ?_ 5 _ rfl; (with_reducible repeat (first | refine blk_drewN ?_ _ | refine blk_drew ?_ | refine blk_alloc ?_ _)); refine blk_put (cs := #[.bool false, .int .u32 t382, .int .u8 t383, .int .u8 t384, .int .u8 x350004_1, .int .u16 x350005_1, .int .u16 x350006_1]) ?_ 4 _ rfl; (with_reducible repeat (first | refine blk_drewN ?_ _ | refine blk_drew ?_ | refine blk_alloc ?_ _)); refine blk_put (cs := #[.bool false, .int .u32 t382, .int .u8 t383, .int .u8 x350003_1, .int .u8 x350004_1, .int .u16 x350005_1, .int .u16 x350006_1]) ?_ 3 _ rfl; (with_reducible repeat (first | refine blk_drewN ?_ _ | refine blk_drew ?_ | refine blk_alloc ?_ _)); refine blk_put (cs := #[.bool false, .int .u32 t382, .int .u8 x350002_1, .int .u8 x350003_1, .int .u8 x350004_1, .int .u16 x350005_1, .int .u16 x350006_1]) ?_ 2 _ rfl; (with_reducible repeat (first | refine blk_drewN ?_ _ | refine blk_drew ?_ | refine blk_alloc ?_ _)); refine blk_put (cs := #[.bool false, .int .u32 x350001_1, .int .u8 x350002_1, .int .u8 x350003_1, .int .u8 x350004_1, .int .u16 x350005_1, .int .u16 x350006_1]) ?_ 1 _ rfl; (with_reducible repeat (first | refine blk_drewN ?_ _ | refine blk_drew ?_ | refine blk_alloc ?_ _)); refine blk_put (cs := #[.bool x350000_1, .int .u32 x350001_1, .int .u8 x350002_1, .int .u8 x350003_1, .int .u8 x350004_1, .int .u16 x350005_1, .int .u16 x350006_1]) ?_ 0 _ rfl; (with_reducible repeat (first | refine blk_drewN ?_ _ | refine blk_drew ?_ | refine blk_alloc ?_ _)); exact BK349.out⟩, ⟨by repeat (first | (with_reducible first | exact HB.out | apply below_alloc | apply pw_below_drewN | apply below_drew1 | refine below_set ?_ GE348.out | refine below_set ?_ GE349.out) | exact HB.out)⟩⟩
                          · rw [if_neg c160] at H
                            exact absurd H (by simp)
                        · rw [if_neg c159] at H
                          exact absurd H (by simp)
                · rw [if_neg c18] at H
                  exact absurd H (by simp)
              · rw [if_neg c17] at H
                exact absurd H (by simp)
            · replace c16 := Bool.eq_false_iff.mpr c16
              subst c16
              have H1 : ((bulwarklaw03_lives.f kj13).bind fun t350 => (some t350)) = some r := by rw [if_neg (show ¬ (false = true) by decide)] at H; exact H
              clear H
              have H := H1
              clear H1
              replace H := Option.bind_eq_some_iff.mp H
              obtain ⟨t350, A2020, H⟩ := H
              replace H : (some t350) = some r := H
              have A202 := Aside0.mk A2020
              clear A2020
              obtain rfl := Option.some.inj H
              go_wp2_with (first | ((with_reducible refine gate_callee (f := 21) rfl ?_); refine goesL_ (some 100) rfl rfl Try.func21 (by kernel_rfl) rfl #[] rfl (by (try simp only [List.map_toArray, List.map_cons, List.map_nil]); first | done | rfl | (simp only [List.length_drop, List.length_take]; rfl)) ?_; (with_reducible refine (bulwarklaw03_lives.calls kj13  t350 _ A202.out).mono ?_); rintro e w203 ⟨rfl, hb⟩; refine ⟨_, rfl, ?_⟩; have n0_ := Aside0.mk (blk_below (g := gb348) (o := .cells #[.bool t340, .int .u32 t341, .int .u8 t342, .int .u8 t343, .int .u8 t344, .int .u16 t345, .int .u16 t346] 27 (0, 0)) (by (with_reducible repeat (first | refine blk_drewN ?_ _ | refine blk_drew ?_ | refine blk_alloc ?_ _)); exact BK348.out) hb); have n1_ := Aside0.mk (blk_below (g := gb349) (o := .cells #[.bool x350000_1, .int .u32 x350001_1, .int .u8 x350002_1, .int .u8 x350003_1, .int .u8 x350004_1, .int .u16 x350005_1, .int .u16 x350006_1] 27 (0, 0)) (by (with_reducible repeat (first | refine blk_drewN ?_ _ | refine blk_drew ?_ | refine blk_alloc ?_ _)); exact BK349.out) hb); have n2_ := Aside0.mk (below_step (by repeat (first | (with_reducible first | exact HB.out | apply below_alloc | apply pw_below_drewN | apply below_drew1 | refine below_set ?_ GE348.out | refine below_set ?_ GE349.out) | exact HB.out)) hb); clear BK348; clear BK349; clear HB; have BK348 := n0_; have BK349 := n1_; have HB := n2_; clear n0_ n1_ n2_; (try clear hb); (try clear hb2); (try clear hk); (try clear hi)))
              go_ret
              exact ⟨by first | rfl | (simp [errW_none, errW_some] <;> rfl) | (simp only [← hji5]; first | rfl | (simp [errW_none, errW_some] <;> rfl)) | (simp [*, errW_none, errW_some] <;> rfl), by repeat (first | (with_reducible first | exact HB.out | apply below_alloc | apply pw_below_drewN | apply below_drew1 | refine below_set ?_ GE348.out | refine below_set ?_ GE349.out) | exact HB.out)⟩
  · rw [if_neg c7] at H
    exact absurd ((Option.some.inj H).trans hr'.out) (by decide)
/-- THE ONE PURE STATEMENT of bulwarklaw03_CapaChain: yours. -/
def bulwarklaw03_CapaChain.Pure : Prop := ∀ (a0 : Int) (a1 : Int) (a2 : Int) (l3 : List Int), (Lit.int .u16 a0).wf = true → (Lit.int .u16 a1).wf = true → (Lit.int .u8 a2).wf = true → l3.length ≤ maxLen → l3.length * 4 ≤ 140737488351232 → (∀ x ∈ l3, (Lit.int .u32 x).wf = true) → ∃ k, bulwarklaw03_CapaChain.f k a0 a1 a2 l3 = some true
theorem bulwarklaw03_CapaChain.walk (P : bulwarklaw03_CapaChain.Pure) (a0 : Int) (a1 : Int) (a2 : Int) (a3 : Option Addr) (len3 cap3 : Nat) (z3 : List Int) (w : World) (w0 : (Lit.int .u16 a0).wf = true) (w1 : (Lit.int .u16 a1).wf = true) (w2 : (Lit.int .u8 a2).wf = true) (w3 : (a3 = none ∧ len3 = 0 ∧ cap3 = 0 ∧ z3 = []) ∨ ∃ x, a3 = some x ∧ len3 ≤ cap3 ∧ cap3 ≤ maxLen ∧ z3.length = cap3 ∧ (∀ i, i < z3.length → w.cell? (x.add i) = some (.int .u32 (z3.getD i 0))) ∧ ∀ n ∈ z3, (Lit.int .u32 n).wf = true) (y3 : len3 * 4 ≤ 140737488351232) :
    Calls Try.prog 6 #[.int .u16 a0, .int .u16 a1, .int .u8 a2, .slice a3 len3 cap3] w fun e w' => e = .returned (.bool true) ∧ Below w.heap.size w w' := by
  obtain ⟨l3, rfl, hr3, hm3, hw3, hc3⟩ := ReadsInt.ofRowC w3
  obtain ⟨k, h⟩ := P a0 a1 a2 l3 w0 w1 w2 hm3 y3 hw3
  refine (bulwarklaw03_CapaChain.calls k a0 a1 a2 _ _ l3 true w (Kd.C_of_reads (d := (0 : Int)) (h1 := fun _ => rfl) hr3) hc3 h rfl).mono ?_
  rintro e w' ⟨rfl, hd⟩
  exact ⟨rfl, hd⟩

end Go.Proofs.Ytkfgloolpjlddaa.Q
